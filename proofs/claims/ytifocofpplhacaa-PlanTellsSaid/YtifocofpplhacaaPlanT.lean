/-
  PlanTells. No condition beyond what each theorem names.
-/
import Derived.Test.YtifocofpplhacaaPlanF
import Derived.Test.YtifocofpplhacaaRegionB
namespace Go.Proofs.Ytifocofpplhacaa.P
open Go Go.RowKit K

theorem bool_ne (w : World) (x x' : Operand) (a b r : Bool) (h : (a != b) = r) : ((do eqGuard .neq 4 x x' (.bool a) (.bool b); binOp .neq 4 (.bool a) (.bool b)) : Sem Value).run Try.prog w = .ok (.bool r) w := by
  have u4 := Try.underlying4
  subst h
  cases a <;> cases b <;> go_simp
theorem bool_eq (w : World) (x x' : Operand) (a b r : Bool) (h : (a == b) = r) : ((do eqGuard .eql 4 x x' (.bool a) (.bool b); binOp .eql 4 (.bool a) (.bool b)) : Sem Value).run Try.prog w = .ok (.bool r) w := by
  have u4 := Try.underlying4
  subst h
  cases a <;> cases b <;> go_simp
theorem rslot_at {n k f c : Int} (h1 : slotA n k = (f, c)) (h2 : slotB n k = true) (w : World) : Calls Try.prog 28 #[.int .i64 n, .int .i64 k] w fun e w' => e = .returned (.agg #[.int .i64 f, .int .i64 c]) ∧ Below w.heap.size w w' := by
  have h := rslot_ok n k h2 w
  rw [h1] at h
  exact h
theorem rwhole_at {n f c : Int} (h1 : wholeA n = (f, c)) (h2 : mayB n = true) (w : World) : Calls Try.prog 29 #[.int .i64 n] w fun e w' => e = .returned (.agg #[.int .i64 f, .int .i64 c]) ∧ Below w.heap.size w w' := by
  have h := rwhole_ok n h2 w
  rw [h1] at h
  exact h
theorem rmay_at {n : Int} {b : Bool} (h : mayB n = b) (w : World) : Calls Try.prog 26 #[.int .i64 n] w fun e w' => e = .returned (.bool b) ∧ w = w' := h ▸ rmay_ok n w
theorem rsplit_at {x y : Int} {b : Bool} (h : splitB (x, y) = b) (w : World) : Calls Try.prog 31 #[.agg #[.int .i64 x, .int .i64 y]] w fun e w' => e = .returned (.bool b) ∧ Below w.heap.size w w' := h ▸ rsplit_ok (x, y) w
theorem rdata_at {x y g d : Int} (h1 : dataA (x, y) = (g, d)) (h2 : splitB (x, y) = true) (w : World) : Calls Try.prog 32 #[.agg #[.int .i64 x, .int .i64 y]] w fun e w' => e = .returned (.agg #[.int .i64 g, .int .i64 d]) ∧ Below w.heap.size w w' := by
  have h := rdata_ok (x, y) h2 w
  rw [h1] at h
  exact h
theorem rinside_at {x y p q f c : Int} {b : Bool} (h1 : insideA (x, y) p q = (f, c)) (h2 : insideB (x, y) p q = b) (w : World) : Calls Try.prog 34 #[.agg #[.int .i64 x, .int .i64 y], .int .i64 p, .int .i64 q] w fun e w' => e = .returned (.tuple #[.agg #[.int .i64 f, .int .i64 c], .bool b]) ∧ Below w.heap.size w w' := by
  have h := rinside_ok (x, y) p q w
  rw [h1, h2] at h
  exact h

set_option maxRecDepth 100000 in
set_option maxHeartbeats 8000000 in
theorem planTells_a1 (n k x y f c : Int) (hm : mayB n = true) (hs : slotB n k = true) (hsp : splitB (x, y) = true) (hk : 0 ≤ k) (hk2 : k < 4) (w : World) : Calls Try.prog 6 #[.int .i64 n, .int .i64 k, .agg #[.int .i64 x, .int .i64 y], .int .i64 f, .int .i64 c] w fun e w' => e = .returned (.bool true) ∧ Below w.heap.size w w' := by
  obtain ⟨sf, sc, hs1⟩ : ∃ sf sc, slotA n k = (sf, sc) := ⟨_, _, rfl⟩
  obtain ⟨wf, wc, hw1⟩ : ∃ wf wc, wholeA n = (wf, wc) := ⟨_, _, rfl⟩
  have hsb : 0 ≤ x ∧ x ≤ 65536 ∧ 48 ≤ y ∧ y ≤ 65536 := by simpa [splitB] using hsp
  obtain ⟨e2, he2⟩ : ∃ e2, e2 = y / 2 := ⟨_, rfl⟩
  have he3 : 0 ≤ e2 ∧ e2 ≤ y := by omega
  have hme : metaA (x, y) = (x, y - e2) := by simp only [metaA, hsp, if_true]; rw [he2]
  obtain ⟨dx, hdx⟩ : ∃ dx, dx = x + (y - e2) := ⟨_, rfl⟩
  have hda : dataA (x, y) = (dx, e2) := by simp only [dataA, hsp, if_true]; rw [hdx, he2]
  clear he2 hdx
  obtain ⟨if1, ic1, hi1⟩ : ∃ p q, insideA (x, y) f c = (p, q) := ⟨_, _, rfl⟩
  obtain ⟨ib, hi2⟩ : ∃ b, insideB (x, y) f c = b := ⟨_, rfl⟩
  have HM := Lib.hid hm
  have HS := Lib.hid hs
  have HS1 := Lib.hid hs1
  have HW1 := Lib.hid hw1
  have HSP := Lib.hid hsp
  have HME := Lib.hid hme
  have HDA := Lib.hid hda
  have HI1 := Lib.hid hi1
  have HI2 := Lib.hid hi2
  clear hm hs hs1 hw1 hsp hme hda hi1 hi2
  have hag := area_guard
  have hae := area_eql
  have B := Lib.hid ((Below.refl _ w).alloc (Nat.le_refl _) (.cells #[.int .i64 x, .int .i64 y] 46))
  have Xp0 := Lib.hid (box_new w x y)
  go_enter Try.func6, Try.ntmps6
  go_wp2_with fail
  obtain ⟨p0, hp0⟩ : ∃ p0, p0 = w.heap.size := ⟨_, rfl⟩
  rw [← hp0] at Xp0 ⊢
  obtain ⟨W0, hW0⟩ : ∃ W0, W0 = w.alloc (.cells #[.int .i64 x, .int .i64 y] 46) := ⟨_, rfl⟩
  rw [← hW0] at B Xp0 ⊢
  clear hp0 hW0
  refine (slot_at HS1.out HS.out _).mono ?_
  rintro e w1 ⟨rfl, hb⟩
  replace B := Lib.hid (B.out.trans (hb.mono B.out.size))
  replace Xp0 := Lib.hid (Xp0.out.keep hb)
  clear hb
  replace B := Lib.hid (B.out.alloc B.out.size (.cells #[.int .i64 (sf), .int .i64 (sc)] 46))
  replace Xp0 := Lib.hid (Xp0.out.alloc (.cells #[.int .i64 (sf), .int .i64 (sc)] 46))
  have xp1 := box_new (w1) (sf) (sc)
  have Xp1 := Lib.hid xp1
  clear xp1
  go_wp2_with fail
  obtain ⟨p1, hp1⟩ : ∃ p1, p1 = w1.heap.size := ⟨_, rfl⟩
  rw [← hp1] at Xp1 ⊢
  clear hp1
  generalize (w1).alloc (.cells #[.int .i64 (sf), .int .i64 (sc)] 46) = W2 at *
  refine (whole_at HW1.out HM.out _).mono ?_
  rintro e w3 ⟨rfl, hb⟩
  replace B := Lib.hid (B.out.trans (hb.mono B.out.size))
  replace Xp0 := Lib.hid (Xp0.out.keep hb)
  replace Xp1 := Lib.hid (Xp1.out.keep hb)
  clear hb
  replace B := Lib.hid (B.out.alloc B.out.size (.cells #[.int .i64 (wf), .int .i64 (wc)] 46))
  replace Xp0 := Lib.hid (Xp0.out.alloc (.cells #[.int .i64 (wf), .int .i64 (wc)] 46))
  replace Xp1 := Lib.hid (Xp1.out.alloc (.cells #[.int .i64 (wf), .int .i64 (wc)] 46))
  have xp2 := box_new (w3) (wf) (wc)
  have Xp2 := Lib.hid xp2
  clear xp2
  go_wp2_with fail
  obtain ⟨p2, hp2⟩ : ∃ p2, p2 = w3.heap.size := ⟨_, rfl⟩
  rw [← hp2] at Xp2 ⊢
  clear hp2
  generalize (w3).alloc (.cells #[.int .i64 (wf), .int .i64 (wc)] 46) = W4 at *
  refine (rmay_at HM.out _).mono ?_
  rintro e w1 ⟨rfl, rfl⟩
  go_wp2_with fail
  have hdr : ∀ w3, Chg No W4.drew w3 → Chg No W4 w3 := fun w3 h => ⟨h.os, h.tape, h.output, h.size, h.block⟩
  refine RA.region (fun a b => Chg No a b) (· = ·) [1, 4, 1, 1, 1, 1, 1, 1, 1, 1, 1, 1, 1, 1, 1, 1, 1, 1, 1, 1, 1, 1, 1, 1, 1, 1, 1, 1, 4, 1, 1, 1, 1, 1, 1, 1, 0, 0, 0, 1, 1, 1, 1, 1, 1, 1, 4, 1, 1, 1, 1, 1, 1, 1, 0, 0, 0, 1, 1] (fun _ _ _ => True) (fun _ => True) (by kernel_rfl) (Chg.refl _ _) (fun _ _ h => h ▸ Chg.refl _ _) (fun _ _ _ h k => h.trans k) (fun _ _ h k => h ▸ k) trivial (by kernel_rfl) ?_
  intro cx
  repeat (first | refine RA.mv (by rfl) (by rfl) (by rfl) ?_ | refine RA.as (by rfl) (by rfl) (by rfl) ?_ | refine RA.pt (by rfl) (by rfl) (by rfl) (by rfl) ?_ | refine RA.pf (by rfl) (by rfl) (by rfl) (by rfl) ?_)
  refine RA.kc (P := Try.prog) [_] (.bool true) (fun _ => True) (fun _ _ => by go_simp) (by rfl) (by rfl) (by rfl) (by kernel_rfl) (fun _ _ _ h => h) rfl (fun w3 hp hH => (may_at HM.out _).mono (by rintro e w4 ⟨rfl, rfl⟩; exact ⟨rfl, Chg.refl _ _, trivial⟩)) ?_
  repeat (first | refine RA.mv (by rfl) (by rfl) (by rfl) ?_ | refine RA.as (by rfl) (by rfl) (by rfl) ?_ | refine RA.pt (by rfl) (by rfl) (by rfl) (by rfl) ?_ | refine RA.pf (by rfl) (by rfl) (by rfl) (by rfl) ?_)
  refine RA.bo (by rfl) (by rfl) (by rfl) (by rfl) (y' := .bool false) (fun w3 hp => bool_ne w3 _ _ _ _ _ rfl) ?_
  repeat (first | refine RA.mv (by rfl) (by rfl) (by rfl) ?_ | refine RA.as (by rfl) (by rfl) (by rfl) ?_ | refine RA.pt (by rfl) (by rfl) (by rfl) (by rfl) ?_ | refine RA.pf (by rfl) (by rfl) (by rfl) (by rfl) ?_)
  refine RA.bo (by rfl) (by rfl) (by rfl) (by rfl) (y' := .bool false) (fun w3 hp => bool_ne w3 _ _ _ _ _ rfl) ?_
  repeat (first | refine RA.mv (by rfl) (by rfl) (by rfl) ?_ | refine RA.as (by rfl) (by rfl) (by rfl) ?_ | refine RA.pt (by rfl) (by rfl) (by rfl) (by rfl) ?_ | refine RA.pf (by rfl) (by rfl) (by rfl) (by rfl) ?_)
  refine RA.ge true (by rfl) (by rfl) (by rfl) (by rfl) (by first | rfl | (simp; done) | (simp; omega)) ?_
  repeat (first | refine RA.mv (by rfl) (by rfl) (by rfl) ?_ | refine RA.as (by rfl) (by rfl) (by rfl) ?_ | refine RA.pt (by rfl) (by rfl) (by rfl) (by rfl) ?_ | refine RA.pf (by rfl) (by rfl) (by rfl) (by rfl) ?_)
  refine RA.lt true (by rfl) (by rfl) (by rfl) (by rfl) (by first | rfl | (simp; done) | (simp; omega)) ?_
  repeat (first | refine RA.mv (by rfl) (by rfl) (by rfl) ?_ | refine RA.as (by rfl) (by rfl) (by rfl) ?_ | refine RA.pt (by rfl) (by rfl) (by rfl) (by rfl) ?_ | refine RA.pf (by rfl) (by rfl) (by rfl) (by rfl) ?_)
  refine RA.bo (by rfl) (by rfl) (by rfl) (by rfl) (y' := .bool false) (fun w3 hp => bool_ne w3 _ _ _ _ _ rfl) ?_
  repeat (first | refine RA.mv (by rfl) (by rfl) (by rfl) ?_ | refine RA.as (by rfl) (by rfl) (by rfl) ?_ | refine RA.pt (by rfl) (by rfl) (by rfl) (by rfl) ?_ | refine RA.pf (by rfl) (by rfl) (by rfl) (by rfl) ?_)
  refine RA.ld (by rfl) (by rfl) (by rfl) (y' := .agg #[.int .i64 (sf), .int .i64 (sc)]) (fun w3 hp => (Xp1.out.chg (hdr _ hp.1)).ld) ?_
  repeat (first | refine RA.mv (by rfl) (by rfl) (by rfl) ?_ | refine RA.as (by rfl) (by rfl) (by rfl) ?_ | refine RA.pt (by rfl) (by rfl) (by rfl) (by rfl) ?_ | refine RA.pf (by rfl) (by rfl) (by rfl) (by rfl) ?_)
  refine RA.kc (P := Try.prog) [_, _] (.agg #[.int .i64 (sf), .int .i64 (sc)]) (fun _ => True) (fun _ _ => by go_simp) (by rfl) (by rfl) (by rfl) (by kernel_rfl) (fun _ _ _ h => h) rfl (fun w3 hp hH => (rslot_at HS1.out HS.out _).mono (by rintro e w4 ⟨rfl, h2⟩; exact ⟨rfl, Chg.of_below h2 _, trivial⟩)) ?_
  refine RA.bo (by rfl) (by rfl) (by rfl) (by rfl) (y' := .bool false) (fun w3 hp => area_ne w3 _ _ _ _ _ _ _ (by first | decide | (simp; done) | (simp; omega))) ?_
  repeat (first | refine RA.mv (by rfl) (by rfl) (by rfl) ?_ | refine RA.as (by rfl) (by rfl) (by rfl) ?_ | refine RA.pt (by rfl) (by rfl) (by rfl) (by rfl) ?_ | refine RA.pf (by rfl) (by rfl) (by rfl) (by rfl) ?_)
  refine RA.nt (by rfl) (by rfl) (by rfl) ?_
  repeat (first | refine RA.mv (by rfl) (by rfl) (by rfl) ?_ | refine RA.as (by rfl) (by rfl) (by rfl) ?_ | refine RA.pt (by rfl) (by rfl) (by rfl) (by rfl) ?_ | refine RA.pf (by rfl) (by rfl) (by rfl) (by rfl) ?_)
  refine RA.n (by rfl) (by rfl) ?_
  simp only [RA.add]
  refine RA.n (by rfl) (by rfl) ?_
  simp only [RA.add]
  refine RA.n (by rfl) (by rfl) ?_
  simp only [RA.add]
  repeat (first | refine RA.mv (by rfl) (by rfl) (by rfl) ?_ | refine RA.as (by rfl) (by rfl) (by rfl) ?_ | refine RA.pt (by rfl) (by rfl) (by rfl) (by rfl) ?_ | refine RA.pf (by rfl) (by rfl) (by rfl) (by rfl) ?_)
  refine RA.ld (by rfl) (by rfl) (by rfl) (y' := .agg #[.int .i64 (wf), .int .i64 (wc)]) (fun w3 hp => (Xp2.out.chg (hdr _ hp.1)).ld) ?_
  repeat (first | refine RA.mv (by rfl) (by rfl) (by rfl) ?_ | refine RA.as (by rfl) (by rfl) (by rfl) ?_ | refine RA.pt (by rfl) (by rfl) (by rfl) (by rfl) ?_ | refine RA.pf (by rfl) (by rfl) (by rfl) (by rfl) ?_)
  refine RA.kc (P := Try.prog) [_] (.agg #[.int .i64 (wf), .int .i64 (wc)]) (fun _ => True) (fun _ _ => by go_simp) (by rfl) (by rfl) (by rfl) (by kernel_rfl) (fun _ _ _ h => h) rfl (fun w3 hp hH => (rwhole_at HW1.out HM.out _).mono (by rintro e w4 ⟨rfl, h2⟩; exact ⟨rfl, Chg.of_below h2 _, trivial⟩)) ?_
  refine RA.bo (by rfl) (by rfl) (by rfl) (by rfl) (y' := .bool false) (fun w3 hp => area_ne w3 _ _ _ _ _ _ _ (by first | decide | (simp; done) | (simp; omega))) ?_
  repeat (first | refine RA.mv (by rfl) (by rfl) (by rfl) ?_ | refine RA.as (by rfl) (by rfl) (by rfl) ?_ | refine RA.pt (by rfl) (by rfl) (by rfl) (by rfl) ?_ | refine RA.pf (by rfl) (by rfl) (by rfl) (by rfl) ?_)
  refine RA.nt (by rfl) (by rfl) (by rfl) ?_
  repeat (first | refine RA.mv (by rfl) (by rfl) (by rfl) ?_ | refine RA.as (by rfl) (by rfl) (by rfl) ?_ | refine RA.pt (by rfl) (by rfl) (by rfl) (by rfl) ?_ | refine RA.pf (by rfl) (by rfl) (by rfl) (by rfl) ?_)
  refine RA.n (by rfl) (by rfl) ?_
  simp only [RA.add]
  refine RA.n (by rfl) (by rfl) ?_
  simp only [RA.add]
  refine RA.n (by rfl) (by rfl) ?_
  simp only [RA.add]
  repeat (first | refine RA.mv (by rfl) (by rfl) (by rfl) ?_ | refine RA.as (by rfl) (by rfl) (by rfl) ?_ | refine RA.pt (by rfl) (by rfl) (by rfl) (by rfl) ?_ | refine RA.pf (by rfl) (by rfl) (by rfl) (by rfl) ?_)
  refine RA.RA.done rfl (fun w9 hR hF hH => ?_)
  clear hF hH
  simp only [RA.put, List.foldr_cons, List.foldr_nil, cx, Act.put, List.setIfInBounds_toArray, List.set_cons_succ, List.set_cons_zero]
  try simp only [Bool.not_true]
  try simp only [Bool.not_false]
  have hb := (hdr _ hR).no
  replace B := Lib.hid (B.out.trans (hb.mono B.out.size))
  replace Xp0 := Lib.hid (Xp0.out.keep hb)
  replace Xp1 := Lib.hid (Xp1.out.keep hb)
  replace Xp2 := Lib.hid (Xp2.out.keep hb)
  clear hb hR hdr
  have ap0 := Xp0.out.c0
  have bp0 := Xp0.out.c1
  have lp0 := Xp0.out.lt
  have fp0 := fun j => frozen_of Xp0.out j
  clear fp0
  go_wp2_with fail
  clear ap0 bp0 lp0
  refine (split_at HME.out HDA.out HSP.out _).mono ?_
  rintro e w5 ⟨rfl, hb⟩
  replace B := Lib.hid (B.out.trans (hb.mono B.out.size))
  replace Xp0 := Lib.hid (Xp0.out.keep hb)
  replace Xp1 := Lib.hid (Xp1.out.keep hb)
  replace Xp2 := Lib.hid (Xp2.out.keep hb)
  clear hb
  have ap0 := Xp0.out.c0
  have bp0 := Xp0.out.c1
  have lp0 := Xp0.out.lt
  have fp0 := fun j => frozen_of Xp0.out j
  clear fp0
  replace B := Lib.hid (B.out.alloc B.out.size (.cells #[.int .i64 (x), .int .i64 (y - e2)] 46))
  replace Xp0 := Lib.hid (Xp0.out.alloc (.cells #[.int .i64 (x), .int .i64 (y - e2)] 46))
  replace Xp1 := Lib.hid (Xp1.out.alloc (.cells #[.int .i64 (x), .int .i64 (y - e2)] 46))
  replace Xp2 := Lib.hid (Xp2.out.alloc (.cells #[.int .i64 (x), .int .i64 (y - e2)] 46))
  have xp3 := box_new (w5) (x) (y - e2)
  have Xp3 := Lib.hid xp3
  clear xp3
  replace B := Lib.hid (B.out.alloc B.out.size (.cells #[.int .i64 (dx), .int .i64 (e2)] 46))
  replace Xp0 := Lib.hid (Xp0.out.alloc (.cells #[.int .i64 (dx), .int .i64 (e2)] 46))
  replace Xp1 := Lib.hid (Xp1.out.alloc (.cells #[.int .i64 (dx), .int .i64 (e2)] 46))
  replace Xp2 := Lib.hid (Xp2.out.alloc (.cells #[.int .i64 (dx), .int .i64 (e2)] 46))
  replace Xp3 := Lib.hid (Xp3.out.alloc (.cells #[.int .i64 (dx), .int .i64 (e2)] 46))
  have xp4 := box_new ((w5).alloc (.cells #[.int .i64 (x), .int .i64 (y - e2)] 46)) (dx) (e2)
  simp only [World.size_alloc] at xp4
  have Xp4 := Lib.hid xp4
  clear xp4
  go_wp2_with fail
  obtain ⟨p4, hp4⟩ : ∃ p4, p4 = w5.heap.size + 1 := ⟨_, rfl⟩
  rw [← hp4] at Xp4 ⊢
  clear hp4
  obtain ⟨p3, hp3⟩ : ∃ p3, p3 = w5.heap.size := ⟨_, rfl⟩
  rw [← hp3] at Xp3 ⊢
  clear hp3
  generalize ((w5).alloc (.cells #[.int .i64 (x), .int .i64 (y - e2)] 46)).alloc (.cells #[.int .i64 (dx), .int .i64 (e2)] 46) = W6 at *
  clear ap0 bp0 lp0
  refine (rsplit_at HSP.out _).mono ?_
  rintro e w7 ⟨rfl, hb⟩
  replace B := Lib.hid (B.out.trans (hb.mono B.out.size))
  replace Xp0 := Lib.hid (Xp0.out.keep hb)
  replace Xp1 := Lib.hid (Xp1.out.keep hb)
  replace Xp2 := Lib.hid (Xp2.out.keep hb)
  replace Xp3 := Lib.hid (Xp3.out.keep hb)
  replace Xp4 := Lib.hid (Xp4.out.keep hb)
  clear hb
  go_wp2_with fail
  have hdr : ∀ w3, Chg No w7.drew w3 → Chg No w7 w3 := fun w3 h => ⟨h.os, h.tape, h.output, h.size, h.block⟩
  refine RA.region (fun a b => Chg No a b) (· = ·) [1, 1, 1, 1, 1, 1, 1, 0, 0, 0, 0, 0, 0, 0, 0, 1, 1, 1, 1, 1, 1, 1, 4, 1, 1, 1, 1, 1, 1, 1, 1, 1, 1, 1, 1, 1, 1, 1, 1, 1, 1, 1, 1] (fun _ _ _ => True) (fun _ => True) (by kernel_rfl) (Chg.refl _ _) (fun _ _ h => h ▸ Chg.refl _ _) (fun _ _ _ h k => h.trans k) (fun _ _ h k => h ▸ k) trivial (by kernel_rfl) ?_
  intro cx
  repeat (first | refine RA.mv (by rfl) (by rfl) (by rfl) ?_ | refine RA.as (by rfl) (by rfl) (by rfl) ?_ | refine RA.pt (by rfl) (by rfl) (by rfl) (by rfl) ?_ | refine RA.pf (by rfl) (by rfl) (by rfl) (by rfl) ?_)
  refine RA.bo (by rfl) (by rfl) (by rfl) (by rfl) (y' := .bool false) (fun w3 hp => bool_ne w3 _ _ _ _ _ rfl) ?_
  repeat (first | refine RA.mv (by rfl) (by rfl) (by rfl) ?_ | refine RA.as (by rfl) (by rfl) (by rfl) ?_ | refine RA.pt (by rfl) (by rfl) (by rfl) (by rfl) ?_ | refine RA.pf (by rfl) (by rfl) (by rfl) (by rfl) ?_)
  refine RA.nt (by rfl) (by rfl) (by rfl) ?_
  repeat (first | refine RA.mv (by rfl) (by rfl) (by rfl) ?_ | refine RA.as (by rfl) (by rfl) (by rfl) ?_ | refine RA.pt (by rfl) (by rfl) (by rfl) (by rfl) ?_ | refine RA.pf (by rfl) (by rfl) (by rfl) (by rfl) ?_)
  refine RA.n (by rfl) (by rfl) ?_
  simp only [RA.add]
  refine RA.n (by rfl) (by rfl) ?_
  simp only [RA.add]
  refine RA.n (by rfl) (by rfl) ?_
  simp only [RA.add]
  refine RA.n (by rfl) (by rfl) ?_
  simp only [RA.add]
  refine RA.n (by rfl) (by rfl) ?_
  simp only [RA.add]
  refine RA.n (by rfl) (by rfl) ?_
  simp only [RA.add]
  refine RA.n (by rfl) (by rfl) ?_
  simp only [RA.add]
  refine RA.n (by rfl) (by rfl) ?_
  simp only [RA.add]
  repeat (first | refine RA.mv (by rfl) (by rfl) (by rfl) ?_ | refine RA.as (by rfl) (by rfl) (by rfl) ?_ | refine RA.pt (by rfl) (by rfl) (by rfl) (by rfl) ?_ | refine RA.pf (by rfl) (by rfl) (by rfl) (by rfl) ?_)
  refine RA.ld (by rfl) (by rfl) (by rfl) (y' := .agg #[.int .i64 (dx), .int .i64 (e2)]) (fun w3 hp => (Xp4.out.chg (hdr _ hp.1)).ld) ?_
  refine RA.ld (by rfl) (by rfl) (by rfl) (y' := .agg #[.int .i64 (x), .int .i64 (y)]) (fun w3 hp => (Xp0.out.chg (hdr _ hp.1)).ld) ?_
  refine RA.kc (P := Try.prog) [_] (.agg #[.int .i64 (dx), .int .i64 (e2)]) (fun _ => True) (fun _ _ => by go_simp) (by rfl) (by rfl) (by rfl) (by kernel_rfl) (fun _ _ _ h => h) rfl (fun w3 hp hH => (rdata_at HDA.out HSP.out _).mono (by rintro e w4 ⟨rfl, h2⟩; exact ⟨rfl, Chg.of_below h2 _, trivial⟩)) ?_
  refine RA.bo (by rfl) (by rfl) (by rfl) (by rfl) (y' := .bool false) (fun w3 hp => area_ne w3 _ _ _ _ _ _ _ (by first | decide | (simp; done) | (simp; omega))) ?_
  repeat (first | refine RA.mv (by rfl) (by rfl) (by rfl) ?_ | refine RA.as (by rfl) (by rfl) (by rfl) ?_ | refine RA.pt (by rfl) (by rfl) (by rfl) (by rfl) ?_ | refine RA.pf (by rfl) (by rfl) (by rfl) (by rfl) ?_)
  refine RA.fa (by rfl) (by rfl) (by rfl) (y' := .pointer (some ⟨p3, 0, none⟩)) (fun w3 hp => by show (Instr.fieldAt _ _ _).run Try.prog w3 = _; go_simp) ?_
  refine RA.ld (by rfl) (by rfl) (by rfl) (y' := .int .i64 (x)) (fun w3 hp => by
    have h1 := (Xp3.out.chg (hdr _ hp.1)).c0
    show (Instr.loadAt _ _).run Try.prog w3 = _
    go_simp) ?_
  refine RA.fa (by rfl) (by rfl) (by rfl) (y' := .pointer (some ⟨p0, 0, none⟩)) (fun w3 hp => by show (Instr.fieldAt _ _ _).run Try.prog w3 = _; go_simp) ?_
  refine RA.ld (by rfl) (by rfl) (by rfl) (y' := .int .i64 (x)) (fun w3 hp => by
    have h1 := (Xp0.out.chg (hdr _ hp.1)).c0
    show (Instr.loadAt _ _).run Try.prog w3 = _
    go_simp) ?_
  refine RA.ne false (by rfl) (by rfl) (by rfl) (by rfl) (by first | rfl | (simp; done) | (simp; omega)) ?_
  repeat (first | refine RA.mv (by rfl) (by rfl) (by rfl) ?_ | refine RA.as (by rfl) (by rfl) (by rfl) ?_ | refine RA.pt (by rfl) (by rfl) (by rfl) (by rfl) ?_ | refine RA.pf (by rfl) (by rfl) (by rfl) (by rfl) ?_)
  refine RA.fa (by rfl) (by rfl) (by rfl) (y' := .pointer (some ⟨p3, 1, none⟩)) (fun w3 hp => by show (Instr.fieldAt _ _ _).run Try.prog w3 = _; go_simp) ?_
  refine RA.ld (by rfl) (by rfl) (by rfl) (y' := .int .i64 (y - e2)) (fun w3 hp => by
    have h1 := (Xp3.out.chg (hdr _ hp.1)).c1
    show (Instr.loadAt _ _).run Try.prog w3 = _
    go_simp) ?_
  refine RA.fa (by rfl) (by rfl) (by rfl) (y' := .pointer (some ⟨p0, 1, none⟩)) (fun w3 hp => by show (Instr.fieldAt _ _ _).run Try.prog w3 = _; go_simp) ?_
  refine RA.ld (by rfl) (by rfl) (by rfl) (y' := .int .i64 (y)) (fun w3 hp => by
    have h1 := (Xp0.out.chg (hdr _ hp.1)).c1
    show (Instr.loadAt _ _).run Try.prog w3 = _
    go_simp) ?_
  refine RA.fa (by rfl) (by rfl) (by rfl) (y' := .pointer (some ⟨p4, 1, none⟩)) (fun w3 hp => by show (Instr.fieldAt _ _ _).run Try.prog w3 = _; go_simp) ?_
  refine RA.ld (by rfl) (by rfl) (by rfl) (y' := .int .i64 (e2)) (fun w3 hp => by
    have h1 := (Xp4.out.chg (hdr _ hp.1)).c1
    show (Instr.loadAt _ _).run Try.prog w3 = _
    go_simp) ?_
  refine RA.si (by rfl) (by rfl) (by rfl) (by rfl) (y - e2) (by omega) (by omega) ?_
  refine RA.ne false (by rfl) (by rfl) (by rfl) (by rfl) (by first | rfl | (simp; done) | (simp; omega)) ?_
  repeat (first | refine RA.mv (by rfl) (by rfl) (by rfl) ?_ | refine RA.as (by rfl) (by rfl) (by rfl) ?_ | refine RA.pt (by rfl) (by rfl) (by rfl) (by rfl) ?_ | refine RA.pf (by rfl) (by rfl) (by rfl) (by rfl) ?_)
  refine RA.RA.done rfl (fun w9 hR hF hH => ?_)
  clear hF hH
  simp only [RA.put, List.foldr_cons, List.foldr_nil, cx, Act.put, List.setIfInBounds_toArray, List.set_cons_succ, List.set_cons_zero]
  try simp only [Bool.not_true]
  try simp only [Bool.not_false]
  have hb := (hdr _ hR).no
  replace B := Lib.hid (B.out.trans (hb.mono B.out.size))
  replace Xp0 := Lib.hid (Xp0.out.keep hb)
  replace Xp1 := Lib.hid (Xp1.out.keep hb)
  replace Xp2 := Lib.hid (Xp2.out.keep hb)
  replace Xp3 := Lib.hid (Xp3.out.keep hb)
  replace Xp4 := Lib.hid (Xp4.out.keep hb)
  clear hb hR hdr
  have ap0 := Xp0.out.c0
  have bp0 := Xp0.out.c1
  have lp0 := Xp0.out.lt
  have fp0 := fun j => frozen_of Xp0.out j
  clear fp0
  go_wp2_with fail
  clear ap0 bp0 lp0
  refine (inside_at HI1.out HI2.out _).mono ?_
  rintro e w8 ⟨rfl, hb⟩
  replace B := Lib.hid (B.out.trans (hb.mono B.out.size))
  replace Xp0 := Lib.hid (Xp0.out.keep hb)
  replace Xp1 := Lib.hid (Xp1.out.keep hb)
  replace Xp2 := Lib.hid (Xp2.out.keep hb)
  replace Xp3 := Lib.hid (Xp3.out.keep hb)
  replace Xp4 := Lib.hid (Xp4.out.keep hb)
  clear hb
  have ap0 := Xp0.out.c0
  have bp0 := Xp0.out.c1
  have lp0 := Xp0.out.lt
  have fp0 := fun j => frozen_of Xp0.out j
  clear fp0
  replace B := Lib.hid (B.out.alloc B.out.size (.cells #[.int .i64 (if1), .int .i64 (ic1)] 46))
  replace Xp0 := Lib.hid (Xp0.out.alloc (.cells #[.int .i64 (if1), .int .i64 (ic1)] 46))
  replace Xp1 := Lib.hid (Xp1.out.alloc (.cells #[.int .i64 (if1), .int .i64 (ic1)] 46))
  replace Xp2 := Lib.hid (Xp2.out.alloc (.cells #[.int .i64 (if1), .int .i64 (ic1)] 46))
  replace Xp3 := Lib.hid (Xp3.out.alloc (.cells #[.int .i64 (if1), .int .i64 (ic1)] 46))
  replace Xp4 := Lib.hid (Xp4.out.alloc (.cells #[.int .i64 (if1), .int .i64 (ic1)] 46))
  have xp5 := box_new (w8) (if1) (ic1)
  have Xp5 := Lib.hid xp5
  clear xp5
  go_wp2_with fail
  obtain ⟨p5, hp5⟩ : ∃ p5, p5 = w8.heap.size := ⟨_, rfl⟩
  rw [← hp5] at Xp5 ⊢
  clear hp5
  generalize (w8).alloc (.cells #[.int .i64 (if1), .int .i64 (ic1)] 46) = W9 at *
  clear ap0 bp0 lp0
  refine (rinside_at HI1.out HI2.out _).mono ?_
  rintro e w10 ⟨rfl, hb⟩
  replace B := Lib.hid (B.out.trans (hb.mono B.out.size))
  replace Xp0 := Lib.hid (Xp0.out.keep hb)
  replace Xp1 := Lib.hid (Xp1.out.keep hb)
  replace Xp2 := Lib.hid (Xp2.out.keep hb)
  replace Xp3 := Lib.hid (Xp3.out.keep hb)
  replace Xp4 := Lib.hid (Xp4.out.keep hb)
  replace Xp5 := Lib.hid (Xp5.out.keep hb)
  clear hb
  have ap5 := Xp5.out.c0
  have bp5 := Xp5.out.c1
  have lp5 := Xp5.out.lt
  have fp5 := fun j => frozen_of Xp5.out j
  clear fp5
  replace B := Lib.hid (B.out.alloc B.out.size (.cells #[.int .i64 (if1), .int .i64 (ic1)] 46))
  replace Xp0 := Lib.hid (Xp0.out.alloc (.cells #[.int .i64 (if1), .int .i64 (ic1)] 46))
  replace Xp1 := Lib.hid (Xp1.out.alloc (.cells #[.int .i64 (if1), .int .i64 (ic1)] 46))
  replace Xp2 := Lib.hid (Xp2.out.alloc (.cells #[.int .i64 (if1), .int .i64 (ic1)] 46))
  replace Xp3 := Lib.hid (Xp3.out.alloc (.cells #[.int .i64 (if1), .int .i64 (ic1)] 46))
  replace Xp4 := Lib.hid (Xp4.out.alloc (.cells #[.int .i64 (if1), .int .i64 (ic1)] 46))
  replace Xp5 := Lib.hid (Xp5.out.alloc (.cells #[.int .i64 (if1), .int .i64 (ic1)] 46))
  have xp6 := box_new (w10) (if1) (ic1)
  have Xp6 := Lib.hid xp6
  clear xp6
  go_wp2_with fail
  obtain ⟨p6, hp6⟩ : ∃ p6, p6 = w10.heap.size := ⟨_, rfl⟩
  rw [← hp6] at Xp6 ⊢
  clear hp6
  generalize (w10).alloc (.cells #[.int .i64 (if1), .int .i64 (ic1)] 46) = W11 at *
  clear ap5 bp5 lp5
  refine (awake14_ok _).mono ?_
  rintro e w12 ⟨rfl, hb⟩
  replace B := Lib.hid (B.out.trans (hb.mono B.out.size))
  replace Xp0 := Lib.hid (Xp0.out.keep hb)
  replace Xp1 := Lib.hid (Xp1.out.keep hb)
  replace Xp2 := Lib.hid (Xp2.out.keep hb)
  replace Xp3 := Lib.hid (Xp3.out.keep hb)
  replace Xp4 := Lib.hid (Xp4.out.keep hb)
  replace Xp5 := Lib.hid (Xp5.out.keep hb)
  replace Xp6 := Lib.hid (Xp6.out.keep hb)
  clear hb
  have hfin := B.out
  go_wp2_with fail
  go_ret
  exact ⟨rfl, hfin⟩

set_option maxRecDepth 100000 in
set_option maxHeartbeats 8000000 in
theorem planTells_a2 (n k x y f c : Int) (hm : mayB n = true) (hs : slotB n k = true) (hsp : splitB (x, y) = false) (hk : 0 ≤ k) (hk2 : k < 4) (w : World) : Calls Try.prog 6 #[.int .i64 n, .int .i64 k, .agg #[.int .i64 x, .int .i64 y], .int .i64 f, .int .i64 c] w fun e w' => e = .returned (.bool true) ∧ Below w.heap.size w w' := by
  obtain ⟨sf, sc, hs1⟩ : ∃ sf sc, slotA n k = (sf, sc) := ⟨_, _, rfl⟩
  obtain ⟨wf, wc, hw1⟩ : ∃ wf wc, wholeA n = (wf, wc) := ⟨_, _, rfl⟩
  have hme : metaA (x, y) = (0, 0) := by simp [metaA, hsp]
  have hda : dataA (x, y) = (0, 0) := by simp [dataA, hsp]
  obtain ⟨if1, ic1, hi1⟩ : ∃ p q, insideA (x, y) f c = (p, q) := ⟨_, _, rfl⟩
  obtain ⟨ib, hi2⟩ : ∃ b, insideB (x, y) f c = b := ⟨_, rfl⟩
  have HM := Lib.hid hm
  have HS := Lib.hid hs
  have HS1 := Lib.hid hs1
  have HW1 := Lib.hid hw1
  have HSP := Lib.hid hsp
  have HME := Lib.hid hme
  have HDA := Lib.hid hda
  have HI1 := Lib.hid hi1
  have HI2 := Lib.hid hi2
  clear hm hs hs1 hw1 hsp hme hda hi1 hi2
  have hag := area_guard
  have hae := area_eql
  have B := Lib.hid ((Below.refl _ w).alloc (Nat.le_refl _) (.cells #[.int .i64 x, .int .i64 y] 46))
  have Xp0 := Lib.hid (box_new w x y)
  go_enter Try.func6, Try.ntmps6
  go_wp2_with fail
  obtain ⟨p0, hp0⟩ : ∃ p0, p0 = w.heap.size := ⟨_, rfl⟩
  rw [← hp0] at Xp0 ⊢
  obtain ⟨W0, hW0⟩ : ∃ W0, W0 = w.alloc (.cells #[.int .i64 x, .int .i64 y] 46) := ⟨_, rfl⟩
  rw [← hW0] at B Xp0 ⊢
  clear hp0 hW0
  refine (slot_at HS1.out HS.out _).mono ?_
  rintro e w1 ⟨rfl, hb⟩
  replace B := Lib.hid (B.out.trans (hb.mono B.out.size))
  replace Xp0 := Lib.hid (Xp0.out.keep hb)
  clear hb
  replace B := Lib.hid (B.out.alloc B.out.size (.cells #[.int .i64 (sf), .int .i64 (sc)] 46))
  replace Xp0 := Lib.hid (Xp0.out.alloc (.cells #[.int .i64 (sf), .int .i64 (sc)] 46))
  have xp1 := box_new (w1) (sf) (sc)
  have Xp1 := Lib.hid xp1
  clear xp1
  go_wp2_with fail
  obtain ⟨p1, hp1⟩ : ∃ p1, p1 = w1.heap.size := ⟨_, rfl⟩
  rw [← hp1] at Xp1 ⊢
  clear hp1
  generalize (w1).alloc (.cells #[.int .i64 (sf), .int .i64 (sc)] 46) = W2 at *
  refine (whole_at HW1.out HM.out _).mono ?_
  rintro e w3 ⟨rfl, hb⟩
  replace B := Lib.hid (B.out.trans (hb.mono B.out.size))
  replace Xp0 := Lib.hid (Xp0.out.keep hb)
  replace Xp1 := Lib.hid (Xp1.out.keep hb)
  clear hb
  replace B := Lib.hid (B.out.alloc B.out.size (.cells #[.int .i64 (wf), .int .i64 (wc)] 46))
  replace Xp0 := Lib.hid (Xp0.out.alloc (.cells #[.int .i64 (wf), .int .i64 (wc)] 46))
  replace Xp1 := Lib.hid (Xp1.out.alloc (.cells #[.int .i64 (wf), .int .i64 (wc)] 46))
  have xp2 := box_new (w3) (wf) (wc)
  have Xp2 := Lib.hid xp2
  clear xp2
  go_wp2_with fail
  obtain ⟨p2, hp2⟩ : ∃ p2, p2 = w3.heap.size := ⟨_, rfl⟩
  rw [← hp2] at Xp2 ⊢
  clear hp2
  generalize (w3).alloc (.cells #[.int .i64 (wf), .int .i64 (wc)] 46) = W4 at *
  refine (rmay_at HM.out _).mono ?_
  rintro e w1 ⟨rfl, rfl⟩
  go_wp2_with fail
  have hdr : ∀ w3, Chg No W4.drew w3 → Chg No W4 w3 := fun w3 h => ⟨h.os, h.tape, h.output, h.size, h.block⟩
  refine RA.region (fun a b => Chg No a b) (· = ·) [1, 4, 1, 1, 1, 1, 1, 1, 1, 1, 1, 1, 1, 1, 1, 1, 1, 1, 1, 1, 1, 1, 1, 1, 1, 1, 1, 1, 4, 1, 1, 1, 1, 1, 1, 1, 0, 0, 0, 1, 1, 1, 1, 1, 1, 1, 4, 1, 1, 1, 1, 1, 1, 1, 0, 0, 0, 1, 1] (fun _ _ _ => True) (fun _ => True) (by kernel_rfl) (Chg.refl _ _) (fun _ _ h => h ▸ Chg.refl _ _) (fun _ _ _ h k => h.trans k) (fun _ _ h k => h ▸ k) trivial (by kernel_rfl) ?_
  intro cx
  repeat (first | refine RA.mv (by rfl) (by rfl) (by rfl) ?_ | refine RA.as (by rfl) (by rfl) (by rfl) ?_ | refine RA.pt (by rfl) (by rfl) (by rfl) (by rfl) ?_ | refine RA.pf (by rfl) (by rfl) (by rfl) (by rfl) ?_)
  refine RA.kc (P := Try.prog) [_] (.bool true) (fun _ => True) (fun _ _ => by go_simp) (by rfl) (by rfl) (by rfl) (by kernel_rfl) (fun _ _ _ h => h) rfl (fun w3 hp hH => (may_at HM.out _).mono (by rintro e w4 ⟨rfl, rfl⟩; exact ⟨rfl, Chg.refl _ _, trivial⟩)) ?_
  repeat (first | refine RA.mv (by rfl) (by rfl) (by rfl) ?_ | refine RA.as (by rfl) (by rfl) (by rfl) ?_ | refine RA.pt (by rfl) (by rfl) (by rfl) (by rfl) ?_ | refine RA.pf (by rfl) (by rfl) (by rfl) (by rfl) ?_)
  refine RA.bo (by rfl) (by rfl) (by rfl) (by rfl) (y' := .bool false) (fun w3 hp => bool_ne w3 _ _ _ _ _ rfl) ?_
  repeat (first | refine RA.mv (by rfl) (by rfl) (by rfl) ?_ | refine RA.as (by rfl) (by rfl) (by rfl) ?_ | refine RA.pt (by rfl) (by rfl) (by rfl) (by rfl) ?_ | refine RA.pf (by rfl) (by rfl) (by rfl) (by rfl) ?_)
  refine RA.bo (by rfl) (by rfl) (by rfl) (by rfl) (y' := .bool false) (fun w3 hp => bool_ne w3 _ _ _ _ _ rfl) ?_
  repeat (first | refine RA.mv (by rfl) (by rfl) (by rfl) ?_ | refine RA.as (by rfl) (by rfl) (by rfl) ?_ | refine RA.pt (by rfl) (by rfl) (by rfl) (by rfl) ?_ | refine RA.pf (by rfl) (by rfl) (by rfl) (by rfl) ?_)
  refine RA.ge true (by rfl) (by rfl) (by rfl) (by rfl) (by first | rfl | (simp; done) | (simp; omega)) ?_
  repeat (first | refine RA.mv (by rfl) (by rfl) (by rfl) ?_ | refine RA.as (by rfl) (by rfl) (by rfl) ?_ | refine RA.pt (by rfl) (by rfl) (by rfl) (by rfl) ?_ | refine RA.pf (by rfl) (by rfl) (by rfl) (by rfl) ?_)
  refine RA.lt true (by rfl) (by rfl) (by rfl) (by rfl) (by first | rfl | (simp; done) | (simp; omega)) ?_
  repeat (first | refine RA.mv (by rfl) (by rfl) (by rfl) ?_ | refine RA.as (by rfl) (by rfl) (by rfl) ?_ | refine RA.pt (by rfl) (by rfl) (by rfl) (by rfl) ?_ | refine RA.pf (by rfl) (by rfl) (by rfl) (by rfl) ?_)
  refine RA.bo (by rfl) (by rfl) (by rfl) (by rfl) (y' := .bool false) (fun w3 hp => bool_ne w3 _ _ _ _ _ rfl) ?_
  repeat (first | refine RA.mv (by rfl) (by rfl) (by rfl) ?_ | refine RA.as (by rfl) (by rfl) (by rfl) ?_ | refine RA.pt (by rfl) (by rfl) (by rfl) (by rfl) ?_ | refine RA.pf (by rfl) (by rfl) (by rfl) (by rfl) ?_)
  refine RA.ld (by rfl) (by rfl) (by rfl) (y' := .agg #[.int .i64 (sf), .int .i64 (sc)]) (fun w3 hp => (Xp1.out.chg (hdr _ hp.1)).ld) ?_
  repeat (first | refine RA.mv (by rfl) (by rfl) (by rfl) ?_ | refine RA.as (by rfl) (by rfl) (by rfl) ?_ | refine RA.pt (by rfl) (by rfl) (by rfl) (by rfl) ?_ | refine RA.pf (by rfl) (by rfl) (by rfl) (by rfl) ?_)
  refine RA.kc (P := Try.prog) [_, _] (.agg #[.int .i64 (sf), .int .i64 (sc)]) (fun _ => True) (fun _ _ => by go_simp) (by rfl) (by rfl) (by rfl) (by kernel_rfl) (fun _ _ _ h => h) rfl (fun w3 hp hH => (rslot_at HS1.out HS.out _).mono (by rintro e w4 ⟨rfl, h2⟩; exact ⟨rfl, Chg.of_below h2 _, trivial⟩)) ?_
  refine RA.bo (by rfl) (by rfl) (by rfl) (by rfl) (y' := .bool false) (fun w3 hp => area_ne w3 _ _ _ _ _ _ _ (by first | decide | (simp; done) | (simp; omega))) ?_
  repeat (first | refine RA.mv (by rfl) (by rfl) (by rfl) ?_ | refine RA.as (by rfl) (by rfl) (by rfl) ?_ | refine RA.pt (by rfl) (by rfl) (by rfl) (by rfl) ?_ | refine RA.pf (by rfl) (by rfl) (by rfl) (by rfl) ?_)
  refine RA.nt (by rfl) (by rfl) (by rfl) ?_
  repeat (first | refine RA.mv (by rfl) (by rfl) (by rfl) ?_ | refine RA.as (by rfl) (by rfl) (by rfl) ?_ | refine RA.pt (by rfl) (by rfl) (by rfl) (by rfl) ?_ | refine RA.pf (by rfl) (by rfl) (by rfl) (by rfl) ?_)
  refine RA.n (by rfl) (by rfl) ?_
  simp only [RA.add]
  refine RA.n (by rfl) (by rfl) ?_
  simp only [RA.add]
  refine RA.n (by rfl) (by rfl) ?_
  simp only [RA.add]
  repeat (first | refine RA.mv (by rfl) (by rfl) (by rfl) ?_ | refine RA.as (by rfl) (by rfl) (by rfl) ?_ | refine RA.pt (by rfl) (by rfl) (by rfl) (by rfl) ?_ | refine RA.pf (by rfl) (by rfl) (by rfl) (by rfl) ?_)
  refine RA.ld (by rfl) (by rfl) (by rfl) (y' := .agg #[.int .i64 (wf), .int .i64 (wc)]) (fun w3 hp => (Xp2.out.chg (hdr _ hp.1)).ld) ?_
  repeat (first | refine RA.mv (by rfl) (by rfl) (by rfl) ?_ | refine RA.as (by rfl) (by rfl) (by rfl) ?_ | refine RA.pt (by rfl) (by rfl) (by rfl) (by rfl) ?_ | refine RA.pf (by rfl) (by rfl) (by rfl) (by rfl) ?_)
  refine RA.kc (P := Try.prog) [_] (.agg #[.int .i64 (wf), .int .i64 (wc)]) (fun _ => True) (fun _ _ => by go_simp) (by rfl) (by rfl) (by rfl) (by kernel_rfl) (fun _ _ _ h => h) rfl (fun w3 hp hH => (rwhole_at HW1.out HM.out _).mono (by rintro e w4 ⟨rfl, h2⟩; exact ⟨rfl, Chg.of_below h2 _, trivial⟩)) ?_
  refine RA.bo (by rfl) (by rfl) (by rfl) (by rfl) (y' := .bool false) (fun w3 hp => area_ne w3 _ _ _ _ _ _ _ (by first | decide | (simp; done) | (simp; omega))) ?_
  repeat (first | refine RA.mv (by rfl) (by rfl) (by rfl) ?_ | refine RA.as (by rfl) (by rfl) (by rfl) ?_ | refine RA.pt (by rfl) (by rfl) (by rfl) (by rfl) ?_ | refine RA.pf (by rfl) (by rfl) (by rfl) (by rfl) ?_)
  refine RA.nt (by rfl) (by rfl) (by rfl) ?_
  repeat (first | refine RA.mv (by rfl) (by rfl) (by rfl) ?_ | refine RA.as (by rfl) (by rfl) (by rfl) ?_ | refine RA.pt (by rfl) (by rfl) (by rfl) (by rfl) ?_ | refine RA.pf (by rfl) (by rfl) (by rfl) (by rfl) ?_)
  refine RA.n (by rfl) (by rfl) ?_
  simp only [RA.add]
  refine RA.n (by rfl) (by rfl) ?_
  simp only [RA.add]
  refine RA.n (by rfl) (by rfl) ?_
  simp only [RA.add]
  repeat (first | refine RA.mv (by rfl) (by rfl) (by rfl) ?_ | refine RA.as (by rfl) (by rfl) (by rfl) ?_ | refine RA.pt (by rfl) (by rfl) (by rfl) (by rfl) ?_ | refine RA.pf (by rfl) (by rfl) (by rfl) (by rfl) ?_)
  refine RA.RA.done rfl (fun w9 hR hF hH => ?_)
  clear hF hH
  simp only [RA.put, List.foldr_cons, List.foldr_nil, cx, Act.put, List.setIfInBounds_toArray, List.set_cons_succ, List.set_cons_zero]
  try simp only [Bool.not_true]
  try simp only [Bool.not_false]
  have hb := (hdr _ hR).no
  replace B := Lib.hid (B.out.trans (hb.mono B.out.size))
  replace Xp0 := Lib.hid (Xp0.out.keep hb)
  replace Xp1 := Lib.hid (Xp1.out.keep hb)
  replace Xp2 := Lib.hid (Xp2.out.keep hb)
  clear hb hR hdr
  have ap0 := Xp0.out.c0
  have bp0 := Xp0.out.c1
  have lp0 := Xp0.out.lt
  have fp0 := fun j => frozen_of Xp0.out j
  clear fp0
  go_wp2_with fail
  clear ap0 bp0 lp0
  refine (split_at HME.out HDA.out HSP.out _).mono ?_
  rintro e w5 ⟨rfl, hb⟩
  replace B := Lib.hid (B.out.trans (hb.mono B.out.size))
  replace Xp0 := Lib.hid (Xp0.out.keep hb)
  replace Xp1 := Lib.hid (Xp1.out.keep hb)
  replace Xp2 := Lib.hid (Xp2.out.keep hb)
  clear hb
  have ap0 := Xp0.out.c0
  have bp0 := Xp0.out.c1
  have lp0 := Xp0.out.lt
  have fp0 := fun j => frozen_of Xp0.out j
  clear fp0
  replace B := Lib.hid (B.out.alloc B.out.size (.cells #[.int .i64 (0), .int .i64 (0)] 46))
  replace Xp0 := Lib.hid (Xp0.out.alloc (.cells #[.int .i64 (0), .int .i64 (0)] 46))
  replace Xp1 := Lib.hid (Xp1.out.alloc (.cells #[.int .i64 (0), .int .i64 (0)] 46))
  replace Xp2 := Lib.hid (Xp2.out.alloc (.cells #[.int .i64 (0), .int .i64 (0)] 46))
  have xp3 := box_new (w5) (0) (0)
  have Xp3 := Lib.hid xp3
  clear xp3
  replace B := Lib.hid (B.out.alloc B.out.size (.cells #[.int .i64 (0), .int .i64 (0)] 46))
  replace Xp0 := Lib.hid (Xp0.out.alloc (.cells #[.int .i64 (0), .int .i64 (0)] 46))
  replace Xp1 := Lib.hid (Xp1.out.alloc (.cells #[.int .i64 (0), .int .i64 (0)] 46))
  replace Xp2 := Lib.hid (Xp2.out.alloc (.cells #[.int .i64 (0), .int .i64 (0)] 46))
  replace Xp3 := Lib.hid (Xp3.out.alloc (.cells #[.int .i64 (0), .int .i64 (0)] 46))
  have xp4 := box_new ((w5).alloc (.cells #[.int .i64 (0), .int .i64 (0)] 46)) (0) (0)
  simp only [World.size_alloc] at xp4
  have Xp4 := Lib.hid xp4
  clear xp4
  go_wp2_with fail
  obtain ⟨p4, hp4⟩ : ∃ p4, p4 = w5.heap.size + 1 := ⟨_, rfl⟩
  rw [← hp4] at Xp4 ⊢
  clear hp4
  obtain ⟨p3, hp3⟩ : ∃ p3, p3 = w5.heap.size := ⟨_, rfl⟩
  rw [← hp3] at Xp3 ⊢
  clear hp3
  generalize ((w5).alloc (.cells #[.int .i64 (0), .int .i64 (0)] 46)).alloc (.cells #[.int .i64 (0), .int .i64 (0)] 46) = W6 at *
  clear ap0 bp0 lp0
  refine (rsplit_at HSP.out _).mono ?_
  rintro e w7 ⟨rfl, hb⟩
  replace B := Lib.hid (B.out.trans (hb.mono B.out.size))
  replace Xp0 := Lib.hid (Xp0.out.keep hb)
  replace Xp1 := Lib.hid (Xp1.out.keep hb)
  replace Xp2 := Lib.hid (Xp2.out.keep hb)
  replace Xp3 := Lib.hid (Xp3.out.keep hb)
  replace Xp4 := Lib.hid (Xp4.out.keep hb)
  clear hb
  go_wp2_with fail
  have hdr : ∀ w3, Chg No w7.drew w3 → Chg No w7 w3 := fun w3 h => ⟨h.os, h.tape, h.output, h.size, h.block⟩
  refine RA.region (fun a b => Chg No a b) (· = ·) [1, 1, 1, 1, 1, 1, 1, 1, 1, 1, 1, 1, 1, 1, 1, 1, 1, 1, 1, 1, 0, 0, 0, 0, 0, 0, 0, 0, 0, 0, 0, 0, 0, 0, 0, 0, 0, 0, 0, 0, 0, 1, 1] (fun _ _ _ => True) (fun _ => True) (by kernel_rfl) (Chg.refl _ _) (fun _ _ h => h ▸ Chg.refl _ _) (fun _ _ _ h k => h.trans k) (fun _ _ h k => h ▸ k) trivial (by kernel_rfl) ?_
  intro cx
  repeat (first | refine RA.mv (by rfl) (by rfl) (by rfl) ?_ | refine RA.as (by rfl) (by rfl) (by rfl) ?_ | refine RA.pt (by rfl) (by rfl) (by rfl) (by rfl) ?_ | refine RA.pf (by rfl) (by rfl) (by rfl) (by rfl) ?_)
  refine RA.bo (by rfl) (by rfl) (by rfl) (by rfl) (y' := .bool false) (fun w3 hp => bool_ne w3 _ _ _ _ _ rfl) ?_
  repeat (first | refine RA.mv (by rfl) (by rfl) (by rfl) ?_ | refine RA.as (by rfl) (by rfl) (by rfl) ?_ | refine RA.pt (by rfl) (by rfl) (by rfl) (by rfl) ?_ | refine RA.pf (by rfl) (by rfl) (by rfl) (by rfl) ?_)
  refine RA.nt (by rfl) (by rfl) (by rfl) ?_
  repeat (first | refine RA.mv (by rfl) (by rfl) (by rfl) ?_ | refine RA.as (by rfl) (by rfl) (by rfl) ?_ | refine RA.pt (by rfl) (by rfl) (by rfl) (by rfl) ?_ | refine RA.pf (by rfl) (by rfl) (by rfl) (by rfl) ?_)
  refine RA.ld (by rfl) (by rfl) (by rfl) (y' := .agg #[.int .i64 (0), .int .i64 (0)]) (fun w3 hp => (Xp3.out.chg (hdr _ hp.1)).ld) ?_
  refine RA.v Try.prog (x := .agg #[.int .i64 (0), .int .i64 (0)]) (by rfl) (by rfl) (by rfl) (fun w hp => by go_simp) ?_
  simp only [RA.add]
  refine RA.bo (by rfl) (by rfl) (by rfl) (by rfl) (y' := .bool false) (fun w3 hp => area_ne w3 _ _ _ _ _ _ _ (by first | decide | (simp; done) | (simp; omega))) ?_
  repeat (first | refine RA.mv (by rfl) (by rfl) (by rfl) ?_ | refine RA.as (by rfl) (by rfl) (by rfl) ?_ | refine RA.pt (by rfl) (by rfl) (by rfl) (by rfl) ?_ | refine RA.pf (by rfl) (by rfl) (by rfl) (by rfl) ?_)
  refine RA.ld (by rfl) (by rfl) (by rfl) (y' := .agg #[.int .i64 (0), .int .i64 (0)]) (fun w3 hp => (Xp4.out.chg (hdr _ hp.1)).ld) ?_
  refine RA.v Try.prog (x := .agg #[.int .i64 (0), .int .i64 (0)]) (by rfl) (by rfl) (by rfl) (fun w hp => by go_simp) ?_
  simp only [RA.add]
  refine RA.bo (by rfl) (by rfl) (by rfl) (by rfl) (y' := .bool false) (fun w3 hp => area_ne w3 _ _ _ _ _ _ _ (by first | decide | (simp; done) | (simp; omega))) ?_
  repeat (first | refine RA.mv (by rfl) (by rfl) (by rfl) ?_ | refine RA.as (by rfl) (by rfl) (by rfl) ?_ | refine RA.pt (by rfl) (by rfl) (by rfl) (by rfl) ?_ | refine RA.pf (by rfl) (by rfl) (by rfl) (by rfl) ?_)
  refine RA.n (by rfl) (by rfl) ?_
  simp only [RA.add]
  refine RA.n (by rfl) (by rfl) ?_
  simp only [RA.add]
  refine RA.n (by rfl) (by rfl) ?_
  simp only [RA.add]
  refine RA.n (by rfl) (by rfl) ?_
  simp only [RA.add]
  refine RA.n (by rfl) (by rfl) ?_
  simp only [RA.add]
  refine RA.n (by rfl) (by rfl) ?_
  simp only [RA.add]
  refine RA.n (by rfl) (by rfl) ?_
  simp only [RA.add]
  refine RA.n (by rfl) (by rfl) ?_
  simp only [RA.add]
  refine RA.n (by rfl) (by rfl) ?_
  simp only [RA.add]
  refine RA.n (by rfl) (by rfl) ?_
  simp only [RA.add]
  refine RA.n (by rfl) (by rfl) ?_
  simp only [RA.add]
  refine RA.n (by rfl) (by rfl) ?_
  simp only [RA.add]
  refine RA.n (by rfl) (by rfl) ?_
  simp only [RA.add]
  refine RA.n (by rfl) (by rfl) ?_
  simp only [RA.add]
  refine RA.n (by rfl) (by rfl) ?_
  simp only [RA.add]
  refine RA.n (by rfl) (by rfl) ?_
  simp only [RA.add]
  refine RA.n (by rfl) (by rfl) ?_
  simp only [RA.add]
  refine RA.n (by rfl) (by rfl) ?_
  simp only [RA.add]
  refine RA.n (by rfl) (by rfl) ?_
  simp only [RA.add]
  refine RA.n (by rfl) (by rfl) ?_
  simp only [RA.add]
  refine RA.n (by rfl) (by rfl) ?_
  simp only [RA.add]
  repeat (first | refine RA.mv (by rfl) (by rfl) (by rfl) ?_ | refine RA.as (by rfl) (by rfl) (by rfl) ?_ | refine RA.pt (by rfl) (by rfl) (by rfl) (by rfl) ?_ | refine RA.pf (by rfl) (by rfl) (by rfl) (by rfl) ?_)
  refine RA.RA.done rfl (fun w9 hR hF hH => ?_)
  clear hF hH
  simp only [RA.put, List.foldr_cons, List.foldr_nil, cx, Act.put, List.setIfInBounds_toArray, List.set_cons_succ, List.set_cons_zero]
  try simp only [Bool.not_true]
  try simp only [Bool.not_false]
  have hb := (hdr _ hR).no
  replace B := Lib.hid (B.out.trans (hb.mono B.out.size))
  replace Xp0 := Lib.hid (Xp0.out.keep hb)
  replace Xp1 := Lib.hid (Xp1.out.keep hb)
  replace Xp2 := Lib.hid (Xp2.out.keep hb)
  replace Xp3 := Lib.hid (Xp3.out.keep hb)
  replace Xp4 := Lib.hid (Xp4.out.keep hb)
  clear hb hR hdr
  have ap0 := Xp0.out.c0
  have bp0 := Xp0.out.c1
  have lp0 := Xp0.out.lt
  have fp0 := fun j => frozen_of Xp0.out j
  clear fp0
  go_wp2_with fail
  clear ap0 bp0 lp0
  refine (inside_at HI1.out HI2.out _).mono ?_
  rintro e w8 ⟨rfl, hb⟩
  replace B := Lib.hid (B.out.trans (hb.mono B.out.size))
  replace Xp0 := Lib.hid (Xp0.out.keep hb)
  replace Xp1 := Lib.hid (Xp1.out.keep hb)
  replace Xp2 := Lib.hid (Xp2.out.keep hb)
  replace Xp3 := Lib.hid (Xp3.out.keep hb)
  replace Xp4 := Lib.hid (Xp4.out.keep hb)
  clear hb
  have ap0 := Xp0.out.c0
  have bp0 := Xp0.out.c1
  have lp0 := Xp0.out.lt
  have fp0 := fun j => frozen_of Xp0.out j
  clear fp0
  replace B := Lib.hid (B.out.alloc B.out.size (.cells #[.int .i64 (if1), .int .i64 (ic1)] 46))
  replace Xp0 := Lib.hid (Xp0.out.alloc (.cells #[.int .i64 (if1), .int .i64 (ic1)] 46))
  replace Xp1 := Lib.hid (Xp1.out.alloc (.cells #[.int .i64 (if1), .int .i64 (ic1)] 46))
  replace Xp2 := Lib.hid (Xp2.out.alloc (.cells #[.int .i64 (if1), .int .i64 (ic1)] 46))
  replace Xp3 := Lib.hid (Xp3.out.alloc (.cells #[.int .i64 (if1), .int .i64 (ic1)] 46))
  replace Xp4 := Lib.hid (Xp4.out.alloc (.cells #[.int .i64 (if1), .int .i64 (ic1)] 46))
  have xp5 := box_new (w8) (if1) (ic1)
  have Xp5 := Lib.hid xp5
  clear xp5
  go_wp2_with fail
  obtain ⟨p5, hp5⟩ : ∃ p5, p5 = w8.heap.size := ⟨_, rfl⟩
  rw [← hp5] at Xp5 ⊢
  clear hp5
  generalize (w8).alloc (.cells #[.int .i64 (if1), .int .i64 (ic1)] 46) = W9 at *
  clear ap0 bp0 lp0
  refine (rinside_at HI1.out HI2.out _).mono ?_
  rintro e w10 ⟨rfl, hb⟩
  replace B := Lib.hid (B.out.trans (hb.mono B.out.size))
  replace Xp0 := Lib.hid (Xp0.out.keep hb)
  replace Xp1 := Lib.hid (Xp1.out.keep hb)
  replace Xp2 := Lib.hid (Xp2.out.keep hb)
  replace Xp3 := Lib.hid (Xp3.out.keep hb)
  replace Xp4 := Lib.hid (Xp4.out.keep hb)
  replace Xp5 := Lib.hid (Xp5.out.keep hb)
  clear hb
  have ap5 := Xp5.out.c0
  have bp5 := Xp5.out.c1
  have lp5 := Xp5.out.lt
  have fp5 := fun j => frozen_of Xp5.out j
  clear fp5
  replace B := Lib.hid (B.out.alloc B.out.size (.cells #[.int .i64 (if1), .int .i64 (ic1)] 46))
  replace Xp0 := Lib.hid (Xp0.out.alloc (.cells #[.int .i64 (if1), .int .i64 (ic1)] 46))
  replace Xp1 := Lib.hid (Xp1.out.alloc (.cells #[.int .i64 (if1), .int .i64 (ic1)] 46))
  replace Xp2 := Lib.hid (Xp2.out.alloc (.cells #[.int .i64 (if1), .int .i64 (ic1)] 46))
  replace Xp3 := Lib.hid (Xp3.out.alloc (.cells #[.int .i64 (if1), .int .i64 (ic1)] 46))
  replace Xp4 := Lib.hid (Xp4.out.alloc (.cells #[.int .i64 (if1), .int .i64 (ic1)] 46))
  replace Xp5 := Lib.hid (Xp5.out.alloc (.cells #[.int .i64 (if1), .int .i64 (ic1)] 46))
  have xp6 := box_new (w10) (if1) (ic1)
  have Xp6 := Lib.hid xp6
  clear xp6
  go_wp2_with fail
  obtain ⟨p6, hp6⟩ : ∃ p6, p6 = w10.heap.size := ⟨_, rfl⟩
  rw [← hp6] at Xp6 ⊢
  clear hp6
  generalize (w10).alloc (.cells #[.int .i64 (if1), .int .i64 (ic1)] 46) = W11 at *
  clear ap5 bp5 lp5
  refine (awake14_ok _).mono ?_
  rintro e w12 ⟨rfl, hb⟩
  replace B := Lib.hid (B.out.trans (hb.mono B.out.size))
  replace Xp0 := Lib.hid (Xp0.out.keep hb)
  replace Xp1 := Lib.hid (Xp1.out.keep hb)
  replace Xp2 := Lib.hid (Xp2.out.keep hb)
  replace Xp3 := Lib.hid (Xp3.out.keep hb)
  replace Xp4 := Lib.hid (Xp4.out.keep hb)
  replace Xp5 := Lib.hid (Xp5.out.keep hb)
  replace Xp6 := Lib.hid (Xp6.out.keep hb)
  clear hb
  have hfin := B.out
  go_wp2_with fail
  go_ret
  exact ⟨rfl, hfin⟩

set_option maxRecDepth 100000 in
set_option maxHeartbeats 8000000 in
theorem planTells_b1 (n k x y f c : Int) (hm : mayB n = true) (hs : slotB n k = false) (hsp : splitB (x, y) = true) (hk : k < 0) (w : World) : Calls Try.prog 6 #[.int .i64 n, .int .i64 k, .agg #[.int .i64 x, .int .i64 y], .int .i64 f, .int .i64 c] w fun e w' => e = .returned (.bool true) ∧ Below w.heap.size w w' := by
  have hs1 : slotA n k = (0, 0) := by simp [slotA, hs]
  obtain ⟨wf, wc, hw1⟩ : ∃ wf wc, wholeA n = (wf, wc) := ⟨_, _, rfl⟩
  have hsb : 0 ≤ x ∧ x ≤ 65536 ∧ 48 ≤ y ∧ y ≤ 65536 := by simpa [splitB] using hsp
  obtain ⟨e2, he2⟩ : ∃ e2, e2 = y / 2 := ⟨_, rfl⟩
  have he3 : 0 ≤ e2 ∧ e2 ≤ y := by omega
  have hme : metaA (x, y) = (x, y - e2) := by simp only [metaA, hsp, if_true]; rw [he2]
  obtain ⟨dx, hdx⟩ : ∃ dx, dx = x + (y - e2) := ⟨_, rfl⟩
  have hda : dataA (x, y) = (dx, e2) := by simp only [dataA, hsp, if_true]; rw [hdx, he2]
  clear he2 hdx
  obtain ⟨if1, ic1, hi1⟩ : ∃ p q, insideA (x, y) f c = (p, q) := ⟨_, _, rfl⟩
  obtain ⟨ib, hi2⟩ : ∃ b, insideB (x, y) f c = b := ⟨_, rfl⟩
  have HM := Lib.hid hm
  have HS := Lib.hid hs
  have HS1 := Lib.hid hs1
  have HW1 := Lib.hid hw1
  have HSP := Lib.hid hsp
  have HME := Lib.hid hme
  have HDA := Lib.hid hda
  have HI1 := Lib.hid hi1
  have HI2 := Lib.hid hi2
  clear hm hs hs1 hw1 hsp hme hda hi1 hi2
  have hag := area_guard
  have hae := area_eql
  have B := Lib.hid ((Below.refl _ w).alloc (Nat.le_refl _) (.cells #[.int .i64 x, .int .i64 y] 46))
  have Xp0 := Lib.hid (box_new w x y)
  go_enter Try.func6, Try.ntmps6
  go_wp2_with fail
  obtain ⟨p0, hp0⟩ : ∃ p0, p0 = w.heap.size := ⟨_, rfl⟩
  rw [← hp0] at Xp0 ⊢
  obtain ⟨W0, hW0⟩ : ∃ W0, W0 = w.alloc (.cells #[.int .i64 x, .int .i64 y] 46) := ⟨_, rfl⟩
  rw [← hW0] at B Xp0 ⊢
  clear hp0 hW0
  refine (slot_at HS1.out HS.out _).mono ?_
  rintro e w1 ⟨rfl, hb⟩
  replace B := Lib.hid (B.out.trans (hb.mono B.out.size))
  replace Xp0 := Lib.hid (Xp0.out.keep hb)
  clear hb
  replace B := Lib.hid (B.out.alloc B.out.size (.cells #[.int .i64 (0), .int .i64 (0)] 46))
  replace Xp0 := Lib.hid (Xp0.out.alloc (.cells #[.int .i64 (0), .int .i64 (0)] 46))
  have xp1 := box_new (w1) (0) (0)
  have Xp1 := Lib.hid xp1
  clear xp1
  go_wp2_with fail
  obtain ⟨p1, hp1⟩ : ∃ p1, p1 = w1.heap.size := ⟨_, rfl⟩
  rw [← hp1] at Xp1 ⊢
  clear hp1
  generalize (w1).alloc (.cells #[.int .i64 (0), .int .i64 (0)] 46) = W2 at *
  refine (whole_at HW1.out HM.out _).mono ?_
  rintro e w3 ⟨rfl, hb⟩
  replace B := Lib.hid (B.out.trans (hb.mono B.out.size))
  replace Xp0 := Lib.hid (Xp0.out.keep hb)
  replace Xp1 := Lib.hid (Xp1.out.keep hb)
  clear hb
  replace B := Lib.hid (B.out.alloc B.out.size (.cells #[.int .i64 (wf), .int .i64 (wc)] 46))
  replace Xp0 := Lib.hid (Xp0.out.alloc (.cells #[.int .i64 (wf), .int .i64 (wc)] 46))
  replace Xp1 := Lib.hid (Xp1.out.alloc (.cells #[.int .i64 (wf), .int .i64 (wc)] 46))
  have xp2 := box_new (w3) (wf) (wc)
  have Xp2 := Lib.hid xp2
  clear xp2
  go_wp2_with fail
  obtain ⟨p2, hp2⟩ : ∃ p2, p2 = w3.heap.size := ⟨_, rfl⟩
  rw [← hp2] at Xp2 ⊢
  clear hp2
  generalize (w3).alloc (.cells #[.int .i64 (wf), .int .i64 (wc)] 46) = W4 at *
  refine (rmay_at HM.out _).mono ?_
  rintro e w1 ⟨rfl, rfl⟩
  go_wp2_with fail
  have hdr : ∀ w3, Chg No W4.drew w3 → Chg No W4 w3 := fun w3 h => ⟨h.os, h.tape, h.output, h.size, h.block⟩
  refine RA.region (fun a b => Chg No a b) (· = ·) [1, 4, 1, 1, 1, 1, 1, 1, 1, 1, 1, 1, 1, 1, 1, 1, 1, 0, 0, 1, 1, 1, 1, 1, 1, 0, 0, 0, 0, 0, 1, 1, 1, 1, 1, 1, 1, 1, 1, 1, 1, 1, 1, 1, 1, 1, 4, 1, 1, 1, 1, 1, 1, 1, 0, 0, 0, 1, 1] (fun _ _ _ => True) (fun _ => True) (by kernel_rfl) (Chg.refl _ _) (fun _ _ h => h ▸ Chg.refl _ _) (fun _ _ _ h k => h.trans k) (fun _ _ h k => h ▸ k) trivial (by kernel_rfl) ?_
  intro cx
  repeat (first | refine RA.mv (by rfl) (by rfl) (by rfl) ?_ | refine RA.as (by rfl) (by rfl) (by rfl) ?_ | refine RA.pt (by rfl) (by rfl) (by rfl) (by rfl) ?_ | refine RA.pf (by rfl) (by rfl) (by rfl) (by rfl) ?_)
  refine RA.kc (P := Try.prog) [_] (.bool true) (fun _ => True) (fun _ _ => by go_simp) (by rfl) (by rfl) (by rfl) (by kernel_rfl) (fun _ _ _ h => h) rfl (fun w3 hp hH => (may_at HM.out _).mono (by rintro e w4 ⟨rfl, rfl⟩; exact ⟨rfl, Chg.refl _ _, trivial⟩)) ?_
  repeat (first | refine RA.mv (by rfl) (by rfl) (by rfl) ?_ | refine RA.as (by rfl) (by rfl) (by rfl) ?_ | refine RA.pt (by rfl) (by rfl) (by rfl) (by rfl) ?_ | refine RA.pf (by rfl) (by rfl) (by rfl) (by rfl) ?_)
  refine RA.bo (by rfl) (by rfl) (by rfl) (by rfl) (y' := .bool false) (fun w3 hp => bool_ne w3 _ _ _ _ _ rfl) ?_
  repeat (first | refine RA.mv (by rfl) (by rfl) (by rfl) ?_ | refine RA.as (by rfl) (by rfl) (by rfl) ?_ | refine RA.pt (by rfl) (by rfl) (by rfl) (by rfl) ?_ | refine RA.pf (by rfl) (by rfl) (by rfl) (by rfl) ?_)
  refine RA.bo (by rfl) (by rfl) (by rfl) (by rfl) (y' := .bool false) (fun w3 hp => bool_ne w3 _ _ _ _ _ rfl) ?_
  repeat (first | refine RA.mv (by rfl) (by rfl) (by rfl) ?_ | refine RA.as (by rfl) (by rfl) (by rfl) ?_ | refine RA.pt (by rfl) (by rfl) (by rfl) (by rfl) ?_ | refine RA.pf (by rfl) (by rfl) (by rfl) (by rfl) ?_)
  refine RA.ge false (by rfl) (by rfl) (by rfl) (by rfl) (by first | rfl | (simp; done) | (simp; omega)) ?_
  repeat (first | refine RA.mv (by rfl) (by rfl) (by rfl) ?_ | refine RA.as (by rfl) (by rfl) (by rfl) ?_ | refine RA.pt (by rfl) (by rfl) (by rfl) (by rfl) ?_ | refine RA.pf (by rfl) (by rfl) (by rfl) (by rfl) ?_)
  refine RA.n (by rfl) (by rfl) ?_
  simp only [RA.add]
  refine RA.n (by rfl) (by rfl) ?_
  simp only [RA.add]
  repeat (first | refine RA.mv (by rfl) (by rfl) (by rfl) ?_ | refine RA.as (by rfl) (by rfl) (by rfl) ?_ | refine RA.pt (by rfl) (by rfl) (by rfl) (by rfl) ?_ | refine RA.pf (by rfl) (by rfl) (by rfl) (by rfl) ?_)
  refine RA.bo (by rfl) (by rfl) (by rfl) (by rfl) (y' := .bool false) (fun w3 hp => bool_ne w3 _ _ _ _ _ rfl) ?_
  repeat (first | refine RA.mv (by rfl) (by rfl) (by rfl) ?_ | refine RA.as (by rfl) (by rfl) (by rfl) ?_ | refine RA.pt (by rfl) (by rfl) (by rfl) (by rfl) ?_ | refine RA.pf (by rfl) (by rfl) (by rfl) (by rfl) ?_)
  refine RA.n (by rfl) (by rfl) ?_
  simp only [RA.add]
  refine RA.n (by rfl) (by rfl) ?_
  simp only [RA.add]
  refine RA.n (by rfl) (by rfl) ?_
  simp only [RA.add]
  refine RA.n (by rfl) (by rfl) ?_
  simp only [RA.add]
  refine RA.n (by rfl) (by rfl) ?_
  simp only [RA.add]
  repeat (first | refine RA.mv (by rfl) (by rfl) (by rfl) ?_ | refine RA.as (by rfl) (by rfl) (by rfl) ?_ | refine RA.pt (by rfl) (by rfl) (by rfl) (by rfl) ?_ | refine RA.pf (by rfl) (by rfl) (by rfl) (by rfl) ?_)
  refine RA.nt (by rfl) (by rfl) (by rfl) ?_
  repeat (first | refine RA.mv (by rfl) (by rfl) (by rfl) ?_ | refine RA.as (by rfl) (by rfl) (by rfl) ?_ | refine RA.pt (by rfl) (by rfl) (by rfl) (by rfl) ?_ | refine RA.pf (by rfl) (by rfl) (by rfl) (by rfl) ?_)
  refine RA.ld (by rfl) (by rfl) (by rfl) (y' := .agg #[.int .i64 (0), .int .i64 (0)]) (fun w3 hp => (Xp1.out.chg (hdr _ hp.1)).ld) ?_
  refine RA.v Try.prog (x := .agg #[.int .i64 (0), .int .i64 (0)]) (by rfl) (by rfl) (by rfl) (fun w hp => by go_simp) ?_
  simp only [RA.add]
  refine RA.bo (by rfl) (by rfl) (by rfl) (by rfl) (y' := .bool false) (fun w3 hp => area_ne w3 _ _ _ _ _ _ _ (by first | decide | (simp; done) | (simp; omega))) ?_
  repeat (first | refine RA.mv (by rfl) (by rfl) (by rfl) ?_ | refine RA.as (by rfl) (by rfl) (by rfl) ?_ | refine RA.pt (by rfl) (by rfl) (by rfl) (by rfl) ?_ | refine RA.pf (by rfl) (by rfl) (by rfl) (by rfl) ?_)
  refine RA.ld (by rfl) (by rfl) (by rfl) (y' := .agg #[.int .i64 (wf), .int .i64 (wc)]) (fun w3 hp => (Xp2.out.chg (hdr _ hp.1)).ld) ?_
  repeat (first | refine RA.mv (by rfl) (by rfl) (by rfl) ?_ | refine RA.as (by rfl) (by rfl) (by rfl) ?_ | refine RA.pt (by rfl) (by rfl) (by rfl) (by rfl) ?_ | refine RA.pf (by rfl) (by rfl) (by rfl) (by rfl) ?_)
  refine RA.kc (P := Try.prog) [_] (.agg #[.int .i64 (wf), .int .i64 (wc)]) (fun _ => True) (fun _ _ => by go_simp) (by rfl) (by rfl) (by rfl) (by kernel_rfl) (fun _ _ _ h => h) rfl (fun w3 hp hH => (rwhole_at HW1.out HM.out _).mono (by rintro e w4 ⟨rfl, h2⟩; exact ⟨rfl, Chg.of_below h2 _, trivial⟩)) ?_
  refine RA.bo (by rfl) (by rfl) (by rfl) (by rfl) (y' := .bool false) (fun w3 hp => area_ne w3 _ _ _ _ _ _ _ (by first | decide | (simp; done) | (simp; omega))) ?_
  repeat (first | refine RA.mv (by rfl) (by rfl) (by rfl) ?_ | refine RA.as (by rfl) (by rfl) (by rfl) ?_ | refine RA.pt (by rfl) (by rfl) (by rfl) (by rfl) ?_ | refine RA.pf (by rfl) (by rfl) (by rfl) (by rfl) ?_)
  refine RA.nt (by rfl) (by rfl) (by rfl) ?_
  repeat (first | refine RA.mv (by rfl) (by rfl) (by rfl) ?_ | refine RA.as (by rfl) (by rfl) (by rfl) ?_ | refine RA.pt (by rfl) (by rfl) (by rfl) (by rfl) ?_ | refine RA.pf (by rfl) (by rfl) (by rfl) (by rfl) ?_)
  refine RA.n (by rfl) (by rfl) ?_
  simp only [RA.add]
  refine RA.n (by rfl) (by rfl) ?_
  simp only [RA.add]
  refine RA.n (by rfl) (by rfl) ?_
  simp only [RA.add]
  repeat (first | refine RA.mv (by rfl) (by rfl) (by rfl) ?_ | refine RA.as (by rfl) (by rfl) (by rfl) ?_ | refine RA.pt (by rfl) (by rfl) (by rfl) (by rfl) ?_ | refine RA.pf (by rfl) (by rfl) (by rfl) (by rfl) ?_)
  refine RA.RA.done rfl (fun w9 hR hF hH => ?_)
  clear hF hH
  simp only [RA.put, List.foldr_cons, List.foldr_nil, cx, Act.put, List.setIfInBounds_toArray, List.set_cons_succ, List.set_cons_zero]
  try simp only [Bool.not_true]
  try simp only [Bool.not_false]
  have hb := (hdr _ hR).no
  replace B := Lib.hid (B.out.trans (hb.mono B.out.size))
  replace Xp0 := Lib.hid (Xp0.out.keep hb)
  replace Xp1 := Lib.hid (Xp1.out.keep hb)
  replace Xp2 := Lib.hid (Xp2.out.keep hb)
  clear hb hR hdr
  have ap0 := Xp0.out.c0
  have bp0 := Xp0.out.c1
  have lp0 := Xp0.out.lt
  have fp0 := fun j => frozen_of Xp0.out j
  clear fp0
  go_wp2_with fail
  clear ap0 bp0 lp0
  refine (split_at HME.out HDA.out HSP.out _).mono ?_
  rintro e w5 ⟨rfl, hb⟩
  replace B := Lib.hid (B.out.trans (hb.mono B.out.size))
  replace Xp0 := Lib.hid (Xp0.out.keep hb)
  replace Xp1 := Lib.hid (Xp1.out.keep hb)
  replace Xp2 := Lib.hid (Xp2.out.keep hb)
  clear hb
  have ap0 := Xp0.out.c0
  have bp0 := Xp0.out.c1
  have lp0 := Xp0.out.lt
  have fp0 := fun j => frozen_of Xp0.out j
  clear fp0
  replace B := Lib.hid (B.out.alloc B.out.size (.cells #[.int .i64 (x), .int .i64 (y - e2)] 46))
  replace Xp0 := Lib.hid (Xp0.out.alloc (.cells #[.int .i64 (x), .int .i64 (y - e2)] 46))
  replace Xp1 := Lib.hid (Xp1.out.alloc (.cells #[.int .i64 (x), .int .i64 (y - e2)] 46))
  replace Xp2 := Lib.hid (Xp2.out.alloc (.cells #[.int .i64 (x), .int .i64 (y - e2)] 46))
  have xp3 := box_new (w5) (x) (y - e2)
  have Xp3 := Lib.hid xp3
  clear xp3
  replace B := Lib.hid (B.out.alloc B.out.size (.cells #[.int .i64 (dx), .int .i64 (e2)] 46))
  replace Xp0 := Lib.hid (Xp0.out.alloc (.cells #[.int .i64 (dx), .int .i64 (e2)] 46))
  replace Xp1 := Lib.hid (Xp1.out.alloc (.cells #[.int .i64 (dx), .int .i64 (e2)] 46))
  replace Xp2 := Lib.hid (Xp2.out.alloc (.cells #[.int .i64 (dx), .int .i64 (e2)] 46))
  replace Xp3 := Lib.hid (Xp3.out.alloc (.cells #[.int .i64 (dx), .int .i64 (e2)] 46))
  have xp4 := box_new ((w5).alloc (.cells #[.int .i64 (x), .int .i64 (y - e2)] 46)) (dx) (e2)
  simp only [World.size_alloc] at xp4
  have Xp4 := Lib.hid xp4
  clear xp4
  go_wp2_with fail
  obtain ⟨p4, hp4⟩ : ∃ p4, p4 = w5.heap.size + 1 := ⟨_, rfl⟩
  rw [← hp4] at Xp4 ⊢
  clear hp4
  obtain ⟨p3, hp3⟩ : ∃ p3, p3 = w5.heap.size := ⟨_, rfl⟩
  rw [← hp3] at Xp3 ⊢
  clear hp3
  generalize ((w5).alloc (.cells #[.int .i64 (x), .int .i64 (y - e2)] 46)).alloc (.cells #[.int .i64 (dx), .int .i64 (e2)] 46) = W6 at *
  clear ap0 bp0 lp0
  refine (rsplit_at HSP.out _).mono ?_
  rintro e w7 ⟨rfl, hb⟩
  replace B := Lib.hid (B.out.trans (hb.mono B.out.size))
  replace Xp0 := Lib.hid (Xp0.out.keep hb)
  replace Xp1 := Lib.hid (Xp1.out.keep hb)
  replace Xp2 := Lib.hid (Xp2.out.keep hb)
  replace Xp3 := Lib.hid (Xp3.out.keep hb)
  replace Xp4 := Lib.hid (Xp4.out.keep hb)
  clear hb
  go_wp2_with fail
  have hdr : ∀ w3, Chg No w7.drew w3 → Chg No w7 w3 := fun w3 h => ⟨h.os, h.tape, h.output, h.size, h.block⟩
  refine RA.region (fun a b => Chg No a b) (· = ·) [1, 1, 1, 1, 1, 1, 1, 0, 0, 0, 0, 0, 0, 0, 0, 1, 1, 1, 1, 1, 1, 1, 4, 1, 1, 1, 1, 1, 1, 1, 1, 1, 1, 1, 1, 1, 1, 1, 1, 1, 1, 1, 1] (fun _ _ _ => True) (fun _ => True) (by kernel_rfl) (Chg.refl _ _) (fun _ _ h => h ▸ Chg.refl _ _) (fun _ _ _ h k => h.trans k) (fun _ _ h k => h ▸ k) trivial (by kernel_rfl) ?_
  intro cx
  repeat (first | refine RA.mv (by rfl) (by rfl) (by rfl) ?_ | refine RA.as (by rfl) (by rfl) (by rfl) ?_ | refine RA.pt (by rfl) (by rfl) (by rfl) (by rfl) ?_ | refine RA.pf (by rfl) (by rfl) (by rfl) (by rfl) ?_)
  refine RA.bo (by rfl) (by rfl) (by rfl) (by rfl) (y' := .bool false) (fun w3 hp => bool_ne w3 _ _ _ _ _ rfl) ?_
  repeat (first | refine RA.mv (by rfl) (by rfl) (by rfl) ?_ | refine RA.as (by rfl) (by rfl) (by rfl) ?_ | refine RA.pt (by rfl) (by rfl) (by rfl) (by rfl) ?_ | refine RA.pf (by rfl) (by rfl) (by rfl) (by rfl) ?_)
  refine RA.nt (by rfl) (by rfl) (by rfl) ?_
  repeat (first | refine RA.mv (by rfl) (by rfl) (by rfl) ?_ | refine RA.as (by rfl) (by rfl) (by rfl) ?_ | refine RA.pt (by rfl) (by rfl) (by rfl) (by rfl) ?_ | refine RA.pf (by rfl) (by rfl) (by rfl) (by rfl) ?_)
  refine RA.n (by rfl) (by rfl) ?_
  simp only [RA.add]
  refine RA.n (by rfl) (by rfl) ?_
  simp only [RA.add]
  refine RA.n (by rfl) (by rfl) ?_
  simp only [RA.add]
  refine RA.n (by rfl) (by rfl) ?_
  simp only [RA.add]
  refine RA.n (by rfl) (by rfl) ?_
  simp only [RA.add]
  refine RA.n (by rfl) (by rfl) ?_
  simp only [RA.add]
  refine RA.n (by rfl) (by rfl) ?_
  simp only [RA.add]
  refine RA.n (by rfl) (by rfl) ?_
  simp only [RA.add]
  repeat (first | refine RA.mv (by rfl) (by rfl) (by rfl) ?_ | refine RA.as (by rfl) (by rfl) (by rfl) ?_ | refine RA.pt (by rfl) (by rfl) (by rfl) (by rfl) ?_ | refine RA.pf (by rfl) (by rfl) (by rfl) (by rfl) ?_)
  refine RA.ld (by rfl) (by rfl) (by rfl) (y' := .agg #[.int .i64 (dx), .int .i64 (e2)]) (fun w3 hp => (Xp4.out.chg (hdr _ hp.1)).ld) ?_
  refine RA.ld (by rfl) (by rfl) (by rfl) (y' := .agg #[.int .i64 (x), .int .i64 (y)]) (fun w3 hp => (Xp0.out.chg (hdr _ hp.1)).ld) ?_
  refine RA.kc (P := Try.prog) [_] (.agg #[.int .i64 (dx), .int .i64 (e2)]) (fun _ => True) (fun _ _ => by go_simp) (by rfl) (by rfl) (by rfl) (by kernel_rfl) (fun _ _ _ h => h) rfl (fun w3 hp hH => (rdata_at HDA.out HSP.out _).mono (by rintro e w4 ⟨rfl, h2⟩; exact ⟨rfl, Chg.of_below h2 _, trivial⟩)) ?_
  refine RA.bo (by rfl) (by rfl) (by rfl) (by rfl) (y' := .bool false) (fun w3 hp => area_ne w3 _ _ _ _ _ _ _ (by first | decide | (simp; done) | (simp; omega))) ?_
  repeat (first | refine RA.mv (by rfl) (by rfl) (by rfl) ?_ | refine RA.as (by rfl) (by rfl) (by rfl) ?_ | refine RA.pt (by rfl) (by rfl) (by rfl) (by rfl) ?_ | refine RA.pf (by rfl) (by rfl) (by rfl) (by rfl) ?_)
  refine RA.fa (by rfl) (by rfl) (by rfl) (y' := .pointer (some ⟨p3, 0, none⟩)) (fun w3 hp => by show (Instr.fieldAt _ _ _).run Try.prog w3 = _; go_simp) ?_
  refine RA.ld (by rfl) (by rfl) (by rfl) (y' := .int .i64 (x)) (fun w3 hp => by
    have h1 := (Xp3.out.chg (hdr _ hp.1)).c0
    show (Instr.loadAt _ _).run Try.prog w3 = _
    go_simp) ?_
  refine RA.fa (by rfl) (by rfl) (by rfl) (y' := .pointer (some ⟨p0, 0, none⟩)) (fun w3 hp => by show (Instr.fieldAt _ _ _).run Try.prog w3 = _; go_simp) ?_
  refine RA.ld (by rfl) (by rfl) (by rfl) (y' := .int .i64 (x)) (fun w3 hp => by
    have h1 := (Xp0.out.chg (hdr _ hp.1)).c0
    show (Instr.loadAt _ _).run Try.prog w3 = _
    go_simp) ?_
  refine RA.ne false (by rfl) (by rfl) (by rfl) (by rfl) (by first | rfl | (simp; done) | (simp; omega)) ?_
  repeat (first | refine RA.mv (by rfl) (by rfl) (by rfl) ?_ | refine RA.as (by rfl) (by rfl) (by rfl) ?_ | refine RA.pt (by rfl) (by rfl) (by rfl) (by rfl) ?_ | refine RA.pf (by rfl) (by rfl) (by rfl) (by rfl) ?_)
  refine RA.fa (by rfl) (by rfl) (by rfl) (y' := .pointer (some ⟨p3, 1, none⟩)) (fun w3 hp => by show (Instr.fieldAt _ _ _).run Try.prog w3 = _; go_simp) ?_
  refine RA.ld (by rfl) (by rfl) (by rfl) (y' := .int .i64 (y - e2)) (fun w3 hp => by
    have h1 := (Xp3.out.chg (hdr _ hp.1)).c1
    show (Instr.loadAt _ _).run Try.prog w3 = _
    go_simp) ?_
  refine RA.fa (by rfl) (by rfl) (by rfl) (y' := .pointer (some ⟨p0, 1, none⟩)) (fun w3 hp => by show (Instr.fieldAt _ _ _).run Try.prog w3 = _; go_simp) ?_
  refine RA.ld (by rfl) (by rfl) (by rfl) (y' := .int .i64 (y)) (fun w3 hp => by
    have h1 := (Xp0.out.chg (hdr _ hp.1)).c1
    show (Instr.loadAt _ _).run Try.prog w3 = _
    go_simp) ?_
  refine RA.fa (by rfl) (by rfl) (by rfl) (y' := .pointer (some ⟨p4, 1, none⟩)) (fun w3 hp => by show (Instr.fieldAt _ _ _).run Try.prog w3 = _; go_simp) ?_
  refine RA.ld (by rfl) (by rfl) (by rfl) (y' := .int .i64 (e2)) (fun w3 hp => by
    have h1 := (Xp4.out.chg (hdr _ hp.1)).c1
    show (Instr.loadAt _ _).run Try.prog w3 = _
    go_simp) ?_
  refine RA.si (by rfl) (by rfl) (by rfl) (by rfl) (y - e2) (by omega) (by omega) ?_
  refine RA.ne false (by rfl) (by rfl) (by rfl) (by rfl) (by first | rfl | (simp; done) | (simp; omega)) ?_
  repeat (first | refine RA.mv (by rfl) (by rfl) (by rfl) ?_ | refine RA.as (by rfl) (by rfl) (by rfl) ?_ | refine RA.pt (by rfl) (by rfl) (by rfl) (by rfl) ?_ | refine RA.pf (by rfl) (by rfl) (by rfl) (by rfl) ?_)
  refine RA.RA.done rfl (fun w9 hR hF hH => ?_)
  clear hF hH
  simp only [RA.put, List.foldr_cons, List.foldr_nil, cx, Act.put, List.setIfInBounds_toArray, List.set_cons_succ, List.set_cons_zero]
  try simp only [Bool.not_true]
  try simp only [Bool.not_false]
  have hb := (hdr _ hR).no
  replace B := Lib.hid (B.out.trans (hb.mono B.out.size))
  replace Xp0 := Lib.hid (Xp0.out.keep hb)
  replace Xp1 := Lib.hid (Xp1.out.keep hb)
  replace Xp2 := Lib.hid (Xp2.out.keep hb)
  replace Xp3 := Lib.hid (Xp3.out.keep hb)
  replace Xp4 := Lib.hid (Xp4.out.keep hb)
  clear hb hR hdr
  have ap0 := Xp0.out.c0
  have bp0 := Xp0.out.c1
  have lp0 := Xp0.out.lt
  have fp0 := fun j => frozen_of Xp0.out j
  clear fp0
  go_wp2_with fail
  clear ap0 bp0 lp0
  refine (inside_at HI1.out HI2.out _).mono ?_
  rintro e w8 ⟨rfl, hb⟩
  replace B := Lib.hid (B.out.trans (hb.mono B.out.size))
  replace Xp0 := Lib.hid (Xp0.out.keep hb)
  replace Xp1 := Lib.hid (Xp1.out.keep hb)
  replace Xp2 := Lib.hid (Xp2.out.keep hb)
  replace Xp3 := Lib.hid (Xp3.out.keep hb)
  replace Xp4 := Lib.hid (Xp4.out.keep hb)
  clear hb
  have ap0 := Xp0.out.c0
  have bp0 := Xp0.out.c1
  have lp0 := Xp0.out.lt
  have fp0 := fun j => frozen_of Xp0.out j
  clear fp0
  replace B := Lib.hid (B.out.alloc B.out.size (.cells #[.int .i64 (if1), .int .i64 (ic1)] 46))
  replace Xp0 := Lib.hid (Xp0.out.alloc (.cells #[.int .i64 (if1), .int .i64 (ic1)] 46))
  replace Xp1 := Lib.hid (Xp1.out.alloc (.cells #[.int .i64 (if1), .int .i64 (ic1)] 46))
  replace Xp2 := Lib.hid (Xp2.out.alloc (.cells #[.int .i64 (if1), .int .i64 (ic1)] 46))
  replace Xp3 := Lib.hid (Xp3.out.alloc (.cells #[.int .i64 (if1), .int .i64 (ic1)] 46))
  replace Xp4 := Lib.hid (Xp4.out.alloc (.cells #[.int .i64 (if1), .int .i64 (ic1)] 46))
  have xp5 := box_new (w8) (if1) (ic1)
  have Xp5 := Lib.hid xp5
  clear xp5
  go_wp2_with fail
  obtain ⟨p5, hp5⟩ : ∃ p5, p5 = w8.heap.size := ⟨_, rfl⟩
  rw [← hp5] at Xp5 ⊢
  clear hp5
  generalize (w8).alloc (.cells #[.int .i64 (if1), .int .i64 (ic1)] 46) = W9 at *
  clear ap0 bp0 lp0
  refine (rinside_at HI1.out HI2.out _).mono ?_
  rintro e w10 ⟨rfl, hb⟩
  replace B := Lib.hid (B.out.trans (hb.mono B.out.size))
  replace Xp0 := Lib.hid (Xp0.out.keep hb)
  replace Xp1 := Lib.hid (Xp1.out.keep hb)
  replace Xp2 := Lib.hid (Xp2.out.keep hb)
  replace Xp3 := Lib.hid (Xp3.out.keep hb)
  replace Xp4 := Lib.hid (Xp4.out.keep hb)
  replace Xp5 := Lib.hid (Xp5.out.keep hb)
  clear hb
  have ap5 := Xp5.out.c0
  have bp5 := Xp5.out.c1
  have lp5 := Xp5.out.lt
  have fp5 := fun j => frozen_of Xp5.out j
  clear fp5
  replace B := Lib.hid (B.out.alloc B.out.size (.cells #[.int .i64 (if1), .int .i64 (ic1)] 46))
  replace Xp0 := Lib.hid (Xp0.out.alloc (.cells #[.int .i64 (if1), .int .i64 (ic1)] 46))
  replace Xp1 := Lib.hid (Xp1.out.alloc (.cells #[.int .i64 (if1), .int .i64 (ic1)] 46))
  replace Xp2 := Lib.hid (Xp2.out.alloc (.cells #[.int .i64 (if1), .int .i64 (ic1)] 46))
  replace Xp3 := Lib.hid (Xp3.out.alloc (.cells #[.int .i64 (if1), .int .i64 (ic1)] 46))
  replace Xp4 := Lib.hid (Xp4.out.alloc (.cells #[.int .i64 (if1), .int .i64 (ic1)] 46))
  replace Xp5 := Lib.hid (Xp5.out.alloc (.cells #[.int .i64 (if1), .int .i64 (ic1)] 46))
  have xp6 := box_new (w10) (if1) (ic1)
  have Xp6 := Lib.hid xp6
  clear xp6
  go_wp2_with fail
  obtain ⟨p6, hp6⟩ : ∃ p6, p6 = w10.heap.size := ⟨_, rfl⟩
  rw [← hp6] at Xp6 ⊢
  clear hp6
  generalize (w10).alloc (.cells #[.int .i64 (if1), .int .i64 (ic1)] 46) = W11 at *
  clear ap5 bp5 lp5
  refine (awake14_ok _).mono ?_
  rintro e w12 ⟨rfl, hb⟩
  replace B := Lib.hid (B.out.trans (hb.mono B.out.size))
  replace Xp0 := Lib.hid (Xp0.out.keep hb)
  replace Xp1 := Lib.hid (Xp1.out.keep hb)
  replace Xp2 := Lib.hid (Xp2.out.keep hb)
  replace Xp3 := Lib.hid (Xp3.out.keep hb)
  replace Xp4 := Lib.hid (Xp4.out.keep hb)
  replace Xp5 := Lib.hid (Xp5.out.keep hb)
  replace Xp6 := Lib.hid (Xp6.out.keep hb)
  clear hb
  have hfin := B.out
  go_wp2_with fail
  go_ret
  exact ⟨rfl, hfin⟩

set_option maxRecDepth 100000 in
set_option maxHeartbeats 8000000 in
theorem planTells_b2 (n k x y f c : Int) (hm : mayB n = true) (hs : slotB n k = false) (hsp : splitB (x, y) = false) (hk : k < 0) (w : World) : Calls Try.prog 6 #[.int .i64 n, .int .i64 k, .agg #[.int .i64 x, .int .i64 y], .int .i64 f, .int .i64 c] w fun e w' => e = .returned (.bool true) ∧ Below w.heap.size w w' := by
  have hs1 : slotA n k = (0, 0) := by simp [slotA, hs]
  obtain ⟨wf, wc, hw1⟩ : ∃ wf wc, wholeA n = (wf, wc) := ⟨_, _, rfl⟩
  have hme : metaA (x, y) = (0, 0) := by simp [metaA, hsp]
  have hda : dataA (x, y) = (0, 0) := by simp [dataA, hsp]
  obtain ⟨if1, ic1, hi1⟩ : ∃ p q, insideA (x, y) f c = (p, q) := ⟨_, _, rfl⟩
  obtain ⟨ib, hi2⟩ : ∃ b, insideB (x, y) f c = b := ⟨_, rfl⟩
  have HM := Lib.hid hm
  have HS := Lib.hid hs
  have HS1 := Lib.hid hs1
  have HW1 := Lib.hid hw1
  have HSP := Lib.hid hsp
  have HME := Lib.hid hme
  have HDA := Lib.hid hda
  have HI1 := Lib.hid hi1
  have HI2 := Lib.hid hi2
  clear hm hs hs1 hw1 hsp hme hda hi1 hi2
  have hag := area_guard
  have hae := area_eql
  have B := Lib.hid ((Below.refl _ w).alloc (Nat.le_refl _) (.cells #[.int .i64 x, .int .i64 y] 46))
  have Xp0 := Lib.hid (box_new w x y)
  go_enter Try.func6, Try.ntmps6
  go_wp2_with fail
  obtain ⟨p0, hp0⟩ : ∃ p0, p0 = w.heap.size := ⟨_, rfl⟩
  rw [← hp0] at Xp0 ⊢
  obtain ⟨W0, hW0⟩ : ∃ W0, W0 = w.alloc (.cells #[.int .i64 x, .int .i64 y] 46) := ⟨_, rfl⟩
  rw [← hW0] at B Xp0 ⊢
  clear hp0 hW0
  refine (slot_at HS1.out HS.out _).mono ?_
  rintro e w1 ⟨rfl, hb⟩
  replace B := Lib.hid (B.out.trans (hb.mono B.out.size))
  replace Xp0 := Lib.hid (Xp0.out.keep hb)
  clear hb
  replace B := Lib.hid (B.out.alloc B.out.size (.cells #[.int .i64 (0), .int .i64 (0)] 46))
  replace Xp0 := Lib.hid (Xp0.out.alloc (.cells #[.int .i64 (0), .int .i64 (0)] 46))
  have xp1 := box_new (w1) (0) (0)
  have Xp1 := Lib.hid xp1
  clear xp1
  go_wp2_with fail
  obtain ⟨p1, hp1⟩ : ∃ p1, p1 = w1.heap.size := ⟨_, rfl⟩
  rw [← hp1] at Xp1 ⊢
  clear hp1
  generalize (w1).alloc (.cells #[.int .i64 (0), .int .i64 (0)] 46) = W2 at *
  refine (whole_at HW1.out HM.out _).mono ?_
  rintro e w3 ⟨rfl, hb⟩
  replace B := Lib.hid (B.out.trans (hb.mono B.out.size))
  replace Xp0 := Lib.hid (Xp0.out.keep hb)
  replace Xp1 := Lib.hid (Xp1.out.keep hb)
  clear hb
  replace B := Lib.hid (B.out.alloc B.out.size (.cells #[.int .i64 (wf), .int .i64 (wc)] 46))
  replace Xp0 := Lib.hid (Xp0.out.alloc (.cells #[.int .i64 (wf), .int .i64 (wc)] 46))
  replace Xp1 := Lib.hid (Xp1.out.alloc (.cells #[.int .i64 (wf), .int .i64 (wc)] 46))
  have xp2 := box_new (w3) (wf) (wc)
  have Xp2 := Lib.hid xp2
  clear xp2
  go_wp2_with fail
  obtain ⟨p2, hp2⟩ : ∃ p2, p2 = w3.heap.size := ⟨_, rfl⟩
  rw [← hp2] at Xp2 ⊢
  clear hp2
  generalize (w3).alloc (.cells #[.int .i64 (wf), .int .i64 (wc)] 46) = W4 at *
  refine (rmay_at HM.out _).mono ?_
  rintro e w1 ⟨rfl, rfl⟩
  go_wp2_with fail
  have hdr : ∀ w3, Chg No W4.drew w3 → Chg No W4 w3 := fun w3 h => ⟨h.os, h.tape, h.output, h.size, h.block⟩
  refine RA.region (fun a b => Chg No a b) (· = ·) [1, 4, 1, 1, 1, 1, 1, 1, 1, 1, 1, 1, 1, 1, 1, 1, 1, 0, 0, 1, 1, 1, 1, 1, 1, 0, 0, 0, 0, 0, 1, 1, 1, 1, 1, 1, 1, 1, 1, 1, 1, 1, 1, 1, 1, 1, 4, 1, 1, 1, 1, 1, 1, 1, 0, 0, 0, 1, 1] (fun _ _ _ => True) (fun _ => True) (by kernel_rfl) (Chg.refl _ _) (fun _ _ h => h ▸ Chg.refl _ _) (fun _ _ _ h k => h.trans k) (fun _ _ h k => h ▸ k) trivial (by kernel_rfl) ?_
  intro cx
  repeat (first | refine RA.mv (by rfl) (by rfl) (by rfl) ?_ | refine RA.as (by rfl) (by rfl) (by rfl) ?_ | refine RA.pt (by rfl) (by rfl) (by rfl) (by rfl) ?_ | refine RA.pf (by rfl) (by rfl) (by rfl) (by rfl) ?_)
  refine RA.kc (P := Try.prog) [_] (.bool true) (fun _ => True) (fun _ _ => by go_simp) (by rfl) (by rfl) (by rfl) (by kernel_rfl) (fun _ _ _ h => h) rfl (fun w3 hp hH => (may_at HM.out _).mono (by rintro e w4 ⟨rfl, rfl⟩; exact ⟨rfl, Chg.refl _ _, trivial⟩)) ?_
  repeat (first | refine RA.mv (by rfl) (by rfl) (by rfl) ?_ | refine RA.as (by rfl) (by rfl) (by rfl) ?_ | refine RA.pt (by rfl) (by rfl) (by rfl) (by rfl) ?_ | refine RA.pf (by rfl) (by rfl) (by rfl) (by rfl) ?_)
  refine RA.bo (by rfl) (by rfl) (by rfl) (by rfl) (y' := .bool false) (fun w3 hp => bool_ne w3 _ _ _ _ _ rfl) ?_
  repeat (first | refine RA.mv (by rfl) (by rfl) (by rfl) ?_ | refine RA.as (by rfl) (by rfl) (by rfl) ?_ | refine RA.pt (by rfl) (by rfl) (by rfl) (by rfl) ?_ | refine RA.pf (by rfl) (by rfl) (by rfl) (by rfl) ?_)
  refine RA.bo (by rfl) (by rfl) (by rfl) (by rfl) (y' := .bool false) (fun w3 hp => bool_ne w3 _ _ _ _ _ rfl) ?_
  repeat (first | refine RA.mv (by rfl) (by rfl) (by rfl) ?_ | refine RA.as (by rfl) (by rfl) (by rfl) ?_ | refine RA.pt (by rfl) (by rfl) (by rfl) (by rfl) ?_ | refine RA.pf (by rfl) (by rfl) (by rfl) (by rfl) ?_)
  refine RA.ge false (by rfl) (by rfl) (by rfl) (by rfl) (by first | rfl | (simp; done) | (simp; omega)) ?_
  repeat (first | refine RA.mv (by rfl) (by rfl) (by rfl) ?_ | refine RA.as (by rfl) (by rfl) (by rfl) ?_ | refine RA.pt (by rfl) (by rfl) (by rfl) (by rfl) ?_ | refine RA.pf (by rfl) (by rfl) (by rfl) (by rfl) ?_)
  refine RA.n (by rfl) (by rfl) ?_
  simp only [RA.add]
  refine RA.n (by rfl) (by rfl) ?_
  simp only [RA.add]
  repeat (first | refine RA.mv (by rfl) (by rfl) (by rfl) ?_ | refine RA.as (by rfl) (by rfl) (by rfl) ?_ | refine RA.pt (by rfl) (by rfl) (by rfl) (by rfl) ?_ | refine RA.pf (by rfl) (by rfl) (by rfl) (by rfl) ?_)
  refine RA.bo (by rfl) (by rfl) (by rfl) (by rfl) (y' := .bool false) (fun w3 hp => bool_ne w3 _ _ _ _ _ rfl) ?_
  repeat (first | refine RA.mv (by rfl) (by rfl) (by rfl) ?_ | refine RA.as (by rfl) (by rfl) (by rfl) ?_ | refine RA.pt (by rfl) (by rfl) (by rfl) (by rfl) ?_ | refine RA.pf (by rfl) (by rfl) (by rfl) (by rfl) ?_)
  refine RA.n (by rfl) (by rfl) ?_
  simp only [RA.add]
  refine RA.n (by rfl) (by rfl) ?_
  simp only [RA.add]
  refine RA.n (by rfl) (by rfl) ?_
  simp only [RA.add]
  refine RA.n (by rfl) (by rfl) ?_
  simp only [RA.add]
  refine RA.n (by rfl) (by rfl) ?_
  simp only [RA.add]
  repeat (first | refine RA.mv (by rfl) (by rfl) (by rfl) ?_ | refine RA.as (by rfl) (by rfl) (by rfl) ?_ | refine RA.pt (by rfl) (by rfl) (by rfl) (by rfl) ?_ | refine RA.pf (by rfl) (by rfl) (by rfl) (by rfl) ?_)
  refine RA.nt (by rfl) (by rfl) (by rfl) ?_
  repeat (first | refine RA.mv (by rfl) (by rfl) (by rfl) ?_ | refine RA.as (by rfl) (by rfl) (by rfl) ?_ | refine RA.pt (by rfl) (by rfl) (by rfl) (by rfl) ?_ | refine RA.pf (by rfl) (by rfl) (by rfl) (by rfl) ?_)
  refine RA.ld (by rfl) (by rfl) (by rfl) (y' := .agg #[.int .i64 (0), .int .i64 (0)]) (fun w3 hp => (Xp1.out.chg (hdr _ hp.1)).ld) ?_
  refine RA.v Try.prog (x := .agg #[.int .i64 (0), .int .i64 (0)]) (by rfl) (by rfl) (by rfl) (fun w hp => by go_simp) ?_
  simp only [RA.add]
  refine RA.bo (by rfl) (by rfl) (by rfl) (by rfl) (y' := .bool false) (fun w3 hp => area_ne w3 _ _ _ _ _ _ _ (by first | decide | (simp; done) | (simp; omega))) ?_
  repeat (first | refine RA.mv (by rfl) (by rfl) (by rfl) ?_ | refine RA.as (by rfl) (by rfl) (by rfl) ?_ | refine RA.pt (by rfl) (by rfl) (by rfl) (by rfl) ?_ | refine RA.pf (by rfl) (by rfl) (by rfl) (by rfl) ?_)
  refine RA.ld (by rfl) (by rfl) (by rfl) (y' := .agg #[.int .i64 (wf), .int .i64 (wc)]) (fun w3 hp => (Xp2.out.chg (hdr _ hp.1)).ld) ?_
  repeat (first | refine RA.mv (by rfl) (by rfl) (by rfl) ?_ | refine RA.as (by rfl) (by rfl) (by rfl) ?_ | refine RA.pt (by rfl) (by rfl) (by rfl) (by rfl) ?_ | refine RA.pf (by rfl) (by rfl) (by rfl) (by rfl) ?_)
  refine RA.kc (P := Try.prog) [_] (.agg #[.int .i64 (wf), .int .i64 (wc)]) (fun _ => True) (fun _ _ => by go_simp) (by rfl) (by rfl) (by rfl) (by kernel_rfl) (fun _ _ _ h => h) rfl (fun w3 hp hH => (rwhole_at HW1.out HM.out _).mono (by rintro e w4 ⟨rfl, h2⟩; exact ⟨rfl, Chg.of_below h2 _, trivial⟩)) ?_
  refine RA.bo (by rfl) (by rfl) (by rfl) (by rfl) (y' := .bool false) (fun w3 hp => area_ne w3 _ _ _ _ _ _ _ (by first | decide | (simp; done) | (simp; omega))) ?_
  repeat (first | refine RA.mv (by rfl) (by rfl) (by rfl) ?_ | refine RA.as (by rfl) (by rfl) (by rfl) ?_ | refine RA.pt (by rfl) (by rfl) (by rfl) (by rfl) ?_ | refine RA.pf (by rfl) (by rfl) (by rfl) (by rfl) ?_)
  refine RA.nt (by rfl) (by rfl) (by rfl) ?_
  repeat (first | refine RA.mv (by rfl) (by rfl) (by rfl) ?_ | refine RA.as (by rfl) (by rfl) (by rfl) ?_ | refine RA.pt (by rfl) (by rfl) (by rfl) (by rfl) ?_ | refine RA.pf (by rfl) (by rfl) (by rfl) (by rfl) ?_)
  refine RA.n (by rfl) (by rfl) ?_
  simp only [RA.add]
  refine RA.n (by rfl) (by rfl) ?_
  simp only [RA.add]
  refine RA.n (by rfl) (by rfl) ?_
  simp only [RA.add]
  repeat (first | refine RA.mv (by rfl) (by rfl) (by rfl) ?_ | refine RA.as (by rfl) (by rfl) (by rfl) ?_ | refine RA.pt (by rfl) (by rfl) (by rfl) (by rfl) ?_ | refine RA.pf (by rfl) (by rfl) (by rfl) (by rfl) ?_)
  refine RA.RA.done rfl (fun w9 hR hF hH => ?_)
  clear hF hH
  simp only [RA.put, List.foldr_cons, List.foldr_nil, cx, Act.put, List.setIfInBounds_toArray, List.set_cons_succ, List.set_cons_zero]
  try simp only [Bool.not_true]
  try simp only [Bool.not_false]
  have hb := (hdr _ hR).no
  replace B := Lib.hid (B.out.trans (hb.mono B.out.size))
  replace Xp0 := Lib.hid (Xp0.out.keep hb)
  replace Xp1 := Lib.hid (Xp1.out.keep hb)
  replace Xp2 := Lib.hid (Xp2.out.keep hb)
  clear hb hR hdr
  have ap0 := Xp0.out.c0
  have bp0 := Xp0.out.c1
  have lp0 := Xp0.out.lt
  have fp0 := fun j => frozen_of Xp0.out j
  clear fp0
  go_wp2_with fail
  clear ap0 bp0 lp0
  refine (split_at HME.out HDA.out HSP.out _).mono ?_
  rintro e w5 ⟨rfl, hb⟩
  replace B := Lib.hid (B.out.trans (hb.mono B.out.size))
  replace Xp0 := Lib.hid (Xp0.out.keep hb)
  replace Xp1 := Lib.hid (Xp1.out.keep hb)
  replace Xp2 := Lib.hid (Xp2.out.keep hb)
  clear hb
  have ap0 := Xp0.out.c0
  have bp0 := Xp0.out.c1
  have lp0 := Xp0.out.lt
  have fp0 := fun j => frozen_of Xp0.out j
  clear fp0
  replace B := Lib.hid (B.out.alloc B.out.size (.cells #[.int .i64 (0), .int .i64 (0)] 46))
  replace Xp0 := Lib.hid (Xp0.out.alloc (.cells #[.int .i64 (0), .int .i64 (0)] 46))
  replace Xp1 := Lib.hid (Xp1.out.alloc (.cells #[.int .i64 (0), .int .i64 (0)] 46))
  replace Xp2 := Lib.hid (Xp2.out.alloc (.cells #[.int .i64 (0), .int .i64 (0)] 46))
  have xp3 := box_new (w5) (0) (0)
  have Xp3 := Lib.hid xp3
  clear xp3
  replace B := Lib.hid (B.out.alloc B.out.size (.cells #[.int .i64 (0), .int .i64 (0)] 46))
  replace Xp0 := Lib.hid (Xp0.out.alloc (.cells #[.int .i64 (0), .int .i64 (0)] 46))
  replace Xp1 := Lib.hid (Xp1.out.alloc (.cells #[.int .i64 (0), .int .i64 (0)] 46))
  replace Xp2 := Lib.hid (Xp2.out.alloc (.cells #[.int .i64 (0), .int .i64 (0)] 46))
  replace Xp3 := Lib.hid (Xp3.out.alloc (.cells #[.int .i64 (0), .int .i64 (0)] 46))
  have xp4 := box_new ((w5).alloc (.cells #[.int .i64 (0), .int .i64 (0)] 46)) (0) (0)
  simp only [World.size_alloc] at xp4
  have Xp4 := Lib.hid xp4
  clear xp4
  go_wp2_with fail
  obtain ⟨p4, hp4⟩ : ∃ p4, p4 = w5.heap.size + 1 := ⟨_, rfl⟩
  rw [← hp4] at Xp4 ⊢
  clear hp4
  obtain ⟨p3, hp3⟩ : ∃ p3, p3 = w5.heap.size := ⟨_, rfl⟩
  rw [← hp3] at Xp3 ⊢
  clear hp3
  generalize ((w5).alloc (.cells #[.int .i64 (0), .int .i64 (0)] 46)).alloc (.cells #[.int .i64 (0), .int .i64 (0)] 46) = W6 at *
  clear ap0 bp0 lp0
  refine (rsplit_at HSP.out _).mono ?_
  rintro e w7 ⟨rfl, hb⟩
  replace B := Lib.hid (B.out.trans (hb.mono B.out.size))
  replace Xp0 := Lib.hid (Xp0.out.keep hb)
  replace Xp1 := Lib.hid (Xp1.out.keep hb)
  replace Xp2 := Lib.hid (Xp2.out.keep hb)
  replace Xp3 := Lib.hid (Xp3.out.keep hb)
  replace Xp4 := Lib.hid (Xp4.out.keep hb)
  clear hb
  go_wp2_with fail
  have hdr : ∀ w3, Chg No w7.drew w3 → Chg No w7 w3 := fun w3 h => ⟨h.os, h.tape, h.output, h.size, h.block⟩
  refine RA.region (fun a b => Chg No a b) (· = ·) [1, 1, 1, 1, 1, 1, 1, 1, 1, 1, 1, 1, 1, 1, 1, 1, 1, 1, 1, 1, 0, 0, 0, 0, 0, 0, 0, 0, 0, 0, 0, 0, 0, 0, 0, 0, 0, 0, 0, 0, 0, 1, 1] (fun _ _ _ => True) (fun _ => True) (by kernel_rfl) (Chg.refl _ _) (fun _ _ h => h ▸ Chg.refl _ _) (fun _ _ _ h k => h.trans k) (fun _ _ h k => h ▸ k) trivial (by kernel_rfl) ?_
  intro cx
  repeat (first | refine RA.mv (by rfl) (by rfl) (by rfl) ?_ | refine RA.as (by rfl) (by rfl) (by rfl) ?_ | refine RA.pt (by rfl) (by rfl) (by rfl) (by rfl) ?_ | refine RA.pf (by rfl) (by rfl) (by rfl) (by rfl) ?_)
  refine RA.bo (by rfl) (by rfl) (by rfl) (by rfl) (y' := .bool false) (fun w3 hp => bool_ne w3 _ _ _ _ _ rfl) ?_
  repeat (first | refine RA.mv (by rfl) (by rfl) (by rfl) ?_ | refine RA.as (by rfl) (by rfl) (by rfl) ?_ | refine RA.pt (by rfl) (by rfl) (by rfl) (by rfl) ?_ | refine RA.pf (by rfl) (by rfl) (by rfl) (by rfl) ?_)
  refine RA.nt (by rfl) (by rfl) (by rfl) ?_
  repeat (first | refine RA.mv (by rfl) (by rfl) (by rfl) ?_ | refine RA.as (by rfl) (by rfl) (by rfl) ?_ | refine RA.pt (by rfl) (by rfl) (by rfl) (by rfl) ?_ | refine RA.pf (by rfl) (by rfl) (by rfl) (by rfl) ?_)
  refine RA.ld (by rfl) (by rfl) (by rfl) (y' := .agg #[.int .i64 (0), .int .i64 (0)]) (fun w3 hp => (Xp3.out.chg (hdr _ hp.1)).ld) ?_
  refine RA.v Try.prog (x := .agg #[.int .i64 (0), .int .i64 (0)]) (by rfl) (by rfl) (by rfl) (fun w hp => by go_simp) ?_
  simp only [RA.add]
  refine RA.bo (by rfl) (by rfl) (by rfl) (by rfl) (y' := .bool false) (fun w3 hp => area_ne w3 _ _ _ _ _ _ _ (by first | decide | (simp; done) | (simp; omega))) ?_
  repeat (first | refine RA.mv (by rfl) (by rfl) (by rfl) ?_ | refine RA.as (by rfl) (by rfl) (by rfl) ?_ | refine RA.pt (by rfl) (by rfl) (by rfl) (by rfl) ?_ | refine RA.pf (by rfl) (by rfl) (by rfl) (by rfl) ?_)
  refine RA.ld (by rfl) (by rfl) (by rfl) (y' := .agg #[.int .i64 (0), .int .i64 (0)]) (fun w3 hp => (Xp4.out.chg (hdr _ hp.1)).ld) ?_
  refine RA.v Try.prog (x := .agg #[.int .i64 (0), .int .i64 (0)]) (by rfl) (by rfl) (by rfl) (fun w hp => by go_simp) ?_
  simp only [RA.add]
  refine RA.bo (by rfl) (by rfl) (by rfl) (by rfl) (y' := .bool false) (fun w3 hp => area_ne w3 _ _ _ _ _ _ _ (by first | decide | (simp; done) | (simp; omega))) ?_
  repeat (first | refine RA.mv (by rfl) (by rfl) (by rfl) ?_ | refine RA.as (by rfl) (by rfl) (by rfl) ?_ | refine RA.pt (by rfl) (by rfl) (by rfl) (by rfl) ?_ | refine RA.pf (by rfl) (by rfl) (by rfl) (by rfl) ?_)
  refine RA.n (by rfl) (by rfl) ?_
  simp only [RA.add]
  refine RA.n (by rfl) (by rfl) ?_
  simp only [RA.add]
  refine RA.n (by rfl) (by rfl) ?_
  simp only [RA.add]
  refine RA.n (by rfl) (by rfl) ?_
  simp only [RA.add]
  refine RA.n (by rfl) (by rfl) ?_
  simp only [RA.add]
  refine RA.n (by rfl) (by rfl) ?_
  simp only [RA.add]
  refine RA.n (by rfl) (by rfl) ?_
  simp only [RA.add]
  refine RA.n (by rfl) (by rfl) ?_
  simp only [RA.add]
  refine RA.n (by rfl) (by rfl) ?_
  simp only [RA.add]
  refine RA.n (by rfl) (by rfl) ?_
  simp only [RA.add]
  refine RA.n (by rfl) (by rfl) ?_
  simp only [RA.add]
  refine RA.n (by rfl) (by rfl) ?_
  simp only [RA.add]
  refine RA.n (by rfl) (by rfl) ?_
  simp only [RA.add]
  refine RA.n (by rfl) (by rfl) ?_
  simp only [RA.add]
  refine RA.n (by rfl) (by rfl) ?_
  simp only [RA.add]
  refine RA.n (by rfl) (by rfl) ?_
  simp only [RA.add]
  refine RA.n (by rfl) (by rfl) ?_
  simp only [RA.add]
  refine RA.n (by rfl) (by rfl) ?_
  simp only [RA.add]
  refine RA.n (by rfl) (by rfl) ?_
  simp only [RA.add]
  refine RA.n (by rfl) (by rfl) ?_
  simp only [RA.add]
  refine RA.n (by rfl) (by rfl) ?_
  simp only [RA.add]
  repeat (first | refine RA.mv (by rfl) (by rfl) (by rfl) ?_ | refine RA.as (by rfl) (by rfl) (by rfl) ?_ | refine RA.pt (by rfl) (by rfl) (by rfl) (by rfl) ?_ | refine RA.pf (by rfl) (by rfl) (by rfl) (by rfl) ?_)
  refine RA.RA.done rfl (fun w9 hR hF hH => ?_)
  clear hF hH
  simp only [RA.put, List.foldr_cons, List.foldr_nil, cx, Act.put, List.setIfInBounds_toArray, List.set_cons_succ, List.set_cons_zero]
  try simp only [Bool.not_true]
  try simp only [Bool.not_false]
  have hb := (hdr _ hR).no
  replace B := Lib.hid (B.out.trans (hb.mono B.out.size))
  replace Xp0 := Lib.hid (Xp0.out.keep hb)
  replace Xp1 := Lib.hid (Xp1.out.keep hb)
  replace Xp2 := Lib.hid (Xp2.out.keep hb)
  replace Xp3 := Lib.hid (Xp3.out.keep hb)
  replace Xp4 := Lib.hid (Xp4.out.keep hb)
  clear hb hR hdr
  have ap0 := Xp0.out.c0
  have bp0 := Xp0.out.c1
  have lp0 := Xp0.out.lt
  have fp0 := fun j => frozen_of Xp0.out j
  clear fp0
  go_wp2_with fail
  clear ap0 bp0 lp0
  refine (inside_at HI1.out HI2.out _).mono ?_
  rintro e w8 ⟨rfl, hb⟩
  replace B := Lib.hid (B.out.trans (hb.mono B.out.size))
  replace Xp0 := Lib.hid (Xp0.out.keep hb)
  replace Xp1 := Lib.hid (Xp1.out.keep hb)
  replace Xp2 := Lib.hid (Xp2.out.keep hb)
  replace Xp3 := Lib.hid (Xp3.out.keep hb)
  replace Xp4 := Lib.hid (Xp4.out.keep hb)
  clear hb
  have ap0 := Xp0.out.c0
  have bp0 := Xp0.out.c1
  have lp0 := Xp0.out.lt
  have fp0 := fun j => frozen_of Xp0.out j
  clear fp0
  replace B := Lib.hid (B.out.alloc B.out.size (.cells #[.int .i64 (if1), .int .i64 (ic1)] 46))
  replace Xp0 := Lib.hid (Xp0.out.alloc (.cells #[.int .i64 (if1), .int .i64 (ic1)] 46))
  replace Xp1 := Lib.hid (Xp1.out.alloc (.cells #[.int .i64 (if1), .int .i64 (ic1)] 46))
  replace Xp2 := Lib.hid (Xp2.out.alloc (.cells #[.int .i64 (if1), .int .i64 (ic1)] 46))
  replace Xp3 := Lib.hid (Xp3.out.alloc (.cells #[.int .i64 (if1), .int .i64 (ic1)] 46))
  replace Xp4 := Lib.hid (Xp4.out.alloc (.cells #[.int .i64 (if1), .int .i64 (ic1)] 46))
  have xp5 := box_new (w8) (if1) (ic1)
  have Xp5 := Lib.hid xp5
  clear xp5
  go_wp2_with fail
  obtain ⟨p5, hp5⟩ : ∃ p5, p5 = w8.heap.size := ⟨_, rfl⟩
  rw [← hp5] at Xp5 ⊢
  clear hp5
  generalize (w8).alloc (.cells #[.int .i64 (if1), .int .i64 (ic1)] 46) = W9 at *
  clear ap0 bp0 lp0
  refine (rinside_at HI1.out HI2.out _).mono ?_
  rintro e w10 ⟨rfl, hb⟩
  replace B := Lib.hid (B.out.trans (hb.mono B.out.size))
  replace Xp0 := Lib.hid (Xp0.out.keep hb)
  replace Xp1 := Lib.hid (Xp1.out.keep hb)
  replace Xp2 := Lib.hid (Xp2.out.keep hb)
  replace Xp3 := Lib.hid (Xp3.out.keep hb)
  replace Xp4 := Lib.hid (Xp4.out.keep hb)
  replace Xp5 := Lib.hid (Xp5.out.keep hb)
  clear hb
  have ap5 := Xp5.out.c0
  have bp5 := Xp5.out.c1
  have lp5 := Xp5.out.lt
  have fp5 := fun j => frozen_of Xp5.out j
  clear fp5
  replace B := Lib.hid (B.out.alloc B.out.size (.cells #[.int .i64 (if1), .int .i64 (ic1)] 46))
  replace Xp0 := Lib.hid (Xp0.out.alloc (.cells #[.int .i64 (if1), .int .i64 (ic1)] 46))
  replace Xp1 := Lib.hid (Xp1.out.alloc (.cells #[.int .i64 (if1), .int .i64 (ic1)] 46))
  replace Xp2 := Lib.hid (Xp2.out.alloc (.cells #[.int .i64 (if1), .int .i64 (ic1)] 46))
  replace Xp3 := Lib.hid (Xp3.out.alloc (.cells #[.int .i64 (if1), .int .i64 (ic1)] 46))
  replace Xp4 := Lib.hid (Xp4.out.alloc (.cells #[.int .i64 (if1), .int .i64 (ic1)] 46))
  replace Xp5 := Lib.hid (Xp5.out.alloc (.cells #[.int .i64 (if1), .int .i64 (ic1)] 46))
  have xp6 := box_new (w10) (if1) (ic1)
  have Xp6 := Lib.hid xp6
  clear xp6
  go_wp2_with fail
  obtain ⟨p6, hp6⟩ : ∃ p6, p6 = w10.heap.size := ⟨_, rfl⟩
  rw [← hp6] at Xp6 ⊢
  clear hp6
  generalize (w10).alloc (.cells #[.int .i64 (if1), .int .i64 (ic1)] 46) = W11 at *
  clear ap5 bp5 lp5
  refine (awake14_ok _).mono ?_
  rintro e w12 ⟨rfl, hb⟩
  replace B := Lib.hid (B.out.trans (hb.mono B.out.size))
  replace Xp0 := Lib.hid (Xp0.out.keep hb)
  replace Xp1 := Lib.hid (Xp1.out.keep hb)
  replace Xp2 := Lib.hid (Xp2.out.keep hb)
  replace Xp3 := Lib.hid (Xp3.out.keep hb)
  replace Xp4 := Lib.hid (Xp4.out.keep hb)
  replace Xp5 := Lib.hid (Xp5.out.keep hb)
  replace Xp6 := Lib.hid (Xp6.out.keep hb)
  clear hb
  have hfin := B.out
  go_wp2_with fail
  go_ret
  exact ⟨rfl, hfin⟩

set_option maxRecDepth 100000 in
set_option maxHeartbeats 8000000 in
theorem planTells_c1 (n k x y f c : Int) (hm : mayB n = true) (hs : slotB n k = false) (hsp : splitB (x, y) = true) (hk : 4 ≤ k) (w : World) : Calls Try.prog 6 #[.int .i64 n, .int .i64 k, .agg #[.int .i64 x, .int .i64 y], .int .i64 f, .int .i64 c] w fun e w' => e = .returned (.bool true) ∧ Below w.heap.size w w' := by
  have hs1 : slotA n k = (0, 0) := by simp [slotA, hs]
  obtain ⟨wf, wc, hw1⟩ : ∃ wf wc, wholeA n = (wf, wc) := ⟨_, _, rfl⟩
  have hsb : 0 ≤ x ∧ x ≤ 65536 ∧ 48 ≤ y ∧ y ≤ 65536 := by simpa [splitB] using hsp
  obtain ⟨e2, he2⟩ : ∃ e2, e2 = y / 2 := ⟨_, rfl⟩
  have he3 : 0 ≤ e2 ∧ e2 ≤ y := by omega
  have hme : metaA (x, y) = (x, y - e2) := by simp only [metaA, hsp, if_true]; rw [he2]
  obtain ⟨dx, hdx⟩ : ∃ dx, dx = x + (y - e2) := ⟨_, rfl⟩
  have hda : dataA (x, y) = (dx, e2) := by simp only [dataA, hsp, if_true]; rw [hdx, he2]
  clear he2 hdx
  obtain ⟨if1, ic1, hi1⟩ : ∃ p q, insideA (x, y) f c = (p, q) := ⟨_, _, rfl⟩
  obtain ⟨ib, hi2⟩ : ∃ b, insideB (x, y) f c = b := ⟨_, rfl⟩
  have HM := Lib.hid hm
  have HS := Lib.hid hs
  have HS1 := Lib.hid hs1
  have HW1 := Lib.hid hw1
  have HSP := Lib.hid hsp
  have HME := Lib.hid hme
  have HDA := Lib.hid hda
  have HI1 := Lib.hid hi1
  have HI2 := Lib.hid hi2
  clear hm hs hs1 hw1 hsp hme hda hi1 hi2
  have hag := area_guard
  have hae := area_eql
  have B := Lib.hid ((Below.refl _ w).alloc (Nat.le_refl _) (.cells #[.int .i64 x, .int .i64 y] 46))
  have Xp0 := Lib.hid (box_new w x y)
  go_enter Try.func6, Try.ntmps6
  go_wp2_with fail
  obtain ⟨p0, hp0⟩ : ∃ p0, p0 = w.heap.size := ⟨_, rfl⟩
  rw [← hp0] at Xp0 ⊢
  obtain ⟨W0, hW0⟩ : ∃ W0, W0 = w.alloc (.cells #[.int .i64 x, .int .i64 y] 46) := ⟨_, rfl⟩
  rw [← hW0] at B Xp0 ⊢
  clear hp0 hW0
  refine (slot_at HS1.out HS.out _).mono ?_
  rintro e w1 ⟨rfl, hb⟩
  replace B := Lib.hid (B.out.trans (hb.mono B.out.size))
  replace Xp0 := Lib.hid (Xp0.out.keep hb)
  clear hb
  replace B := Lib.hid (B.out.alloc B.out.size (.cells #[.int .i64 (0), .int .i64 (0)] 46))
  replace Xp0 := Lib.hid (Xp0.out.alloc (.cells #[.int .i64 (0), .int .i64 (0)] 46))
  have xp1 := box_new (w1) (0) (0)
  have Xp1 := Lib.hid xp1
  clear xp1
  go_wp2_with fail
  obtain ⟨p1, hp1⟩ : ∃ p1, p1 = w1.heap.size := ⟨_, rfl⟩
  rw [← hp1] at Xp1 ⊢
  clear hp1
  generalize (w1).alloc (.cells #[.int .i64 (0), .int .i64 (0)] 46) = W2 at *
  refine (whole_at HW1.out HM.out _).mono ?_
  rintro e w3 ⟨rfl, hb⟩
  replace B := Lib.hid (B.out.trans (hb.mono B.out.size))
  replace Xp0 := Lib.hid (Xp0.out.keep hb)
  replace Xp1 := Lib.hid (Xp1.out.keep hb)
  clear hb
  replace B := Lib.hid (B.out.alloc B.out.size (.cells #[.int .i64 (wf), .int .i64 (wc)] 46))
  replace Xp0 := Lib.hid (Xp0.out.alloc (.cells #[.int .i64 (wf), .int .i64 (wc)] 46))
  replace Xp1 := Lib.hid (Xp1.out.alloc (.cells #[.int .i64 (wf), .int .i64 (wc)] 46))
  have xp2 := box_new (w3) (wf) (wc)
  have Xp2 := Lib.hid xp2
  clear xp2
  go_wp2_with fail
  obtain ⟨p2, hp2⟩ : ∃ p2, p2 = w3.heap.size := ⟨_, rfl⟩
  rw [← hp2] at Xp2 ⊢
  clear hp2
  generalize (w3).alloc (.cells #[.int .i64 (wf), .int .i64 (wc)] 46) = W4 at *
  refine (rmay_at HM.out _).mono ?_
  rintro e w1 ⟨rfl, rfl⟩
  go_wp2_with fail
  have hdr : ∀ w3, Chg No W4.drew w3 → Chg No W4 w3 := fun w3 h => ⟨h.os, h.tape, h.output, h.size, h.block⟩
  refine RA.region (fun a b => Chg No a b) (· = ·) [1, 4, 1, 1, 1, 1, 1, 1, 1, 1, 1, 1, 1, 1, 1, 1, 1, 1, 1, 1, 1, 1, 1, 1, 1, 0, 0, 0, 0, 0, 1, 1, 1, 1, 1, 1, 1, 1, 1, 1, 1, 1, 1, 1, 1, 1, 4, 1, 1, 1, 1, 1, 1, 1, 0, 0, 0, 1, 1] (fun _ _ _ => True) (fun _ => True) (by kernel_rfl) (Chg.refl _ _) (fun _ _ h => h ▸ Chg.refl _ _) (fun _ _ _ h k => h.trans k) (fun _ _ h k => h ▸ k) trivial (by kernel_rfl) ?_
  intro cx
  repeat (first | refine RA.mv (by rfl) (by rfl) (by rfl) ?_ | refine RA.as (by rfl) (by rfl) (by rfl) ?_ | refine RA.pt (by rfl) (by rfl) (by rfl) (by rfl) ?_ | refine RA.pf (by rfl) (by rfl) (by rfl) (by rfl) ?_)
  refine RA.kc (P := Try.prog) [_] (.bool true) (fun _ => True) (fun _ _ => by go_simp) (by rfl) (by rfl) (by rfl) (by kernel_rfl) (fun _ _ _ h => h) rfl (fun w3 hp hH => (may_at HM.out _).mono (by rintro e w4 ⟨rfl, rfl⟩; exact ⟨rfl, Chg.refl _ _, trivial⟩)) ?_
  repeat (first | refine RA.mv (by rfl) (by rfl) (by rfl) ?_ | refine RA.as (by rfl) (by rfl) (by rfl) ?_ | refine RA.pt (by rfl) (by rfl) (by rfl) (by rfl) ?_ | refine RA.pf (by rfl) (by rfl) (by rfl) (by rfl) ?_)
  refine RA.bo (by rfl) (by rfl) (by rfl) (by rfl) (y' := .bool false) (fun w3 hp => bool_ne w3 _ _ _ _ _ rfl) ?_
  repeat (first | refine RA.mv (by rfl) (by rfl) (by rfl) ?_ | refine RA.as (by rfl) (by rfl) (by rfl) ?_ | refine RA.pt (by rfl) (by rfl) (by rfl) (by rfl) ?_ | refine RA.pf (by rfl) (by rfl) (by rfl) (by rfl) ?_)
  refine RA.bo (by rfl) (by rfl) (by rfl) (by rfl) (y' := .bool false) (fun w3 hp => bool_ne w3 _ _ _ _ _ rfl) ?_
  repeat (first | refine RA.mv (by rfl) (by rfl) (by rfl) ?_ | refine RA.as (by rfl) (by rfl) (by rfl) ?_ | refine RA.pt (by rfl) (by rfl) (by rfl) (by rfl) ?_ | refine RA.pf (by rfl) (by rfl) (by rfl) (by rfl) ?_)
  refine RA.ge true (by rfl) (by rfl) (by rfl) (by rfl) (by first | rfl | (simp; done) | (simp; omega)) ?_
  repeat (first | refine RA.mv (by rfl) (by rfl) (by rfl) ?_ | refine RA.as (by rfl) (by rfl) (by rfl) ?_ | refine RA.pt (by rfl) (by rfl) (by rfl) (by rfl) ?_ | refine RA.pf (by rfl) (by rfl) (by rfl) (by rfl) ?_)
  refine RA.lt false (by rfl) (by rfl) (by rfl) (by rfl) (by first | rfl | (simp; done) | (simp; omega)) ?_
  repeat (first | refine RA.mv (by rfl) (by rfl) (by rfl) ?_ | refine RA.as (by rfl) (by rfl) (by rfl) ?_ | refine RA.pt (by rfl) (by rfl) (by rfl) (by rfl) ?_ | refine RA.pf (by rfl) (by rfl) (by rfl) (by rfl) ?_)
  refine RA.bo (by rfl) (by rfl) (by rfl) (by rfl) (y' := .bool false) (fun w3 hp => bool_ne w3 _ _ _ _ _ rfl) ?_
  repeat (first | refine RA.mv (by rfl) (by rfl) (by rfl) ?_ | refine RA.as (by rfl) (by rfl) (by rfl) ?_ | refine RA.pt (by rfl) (by rfl) (by rfl) (by rfl) ?_ | refine RA.pf (by rfl) (by rfl) (by rfl) (by rfl) ?_)
  refine RA.n (by rfl) (by rfl) ?_
  simp only [RA.add]
  refine RA.n (by rfl) (by rfl) ?_
  simp only [RA.add]
  refine RA.n (by rfl) (by rfl) ?_
  simp only [RA.add]
  refine RA.n (by rfl) (by rfl) ?_
  simp only [RA.add]
  refine RA.n (by rfl) (by rfl) ?_
  simp only [RA.add]
  repeat (first | refine RA.mv (by rfl) (by rfl) (by rfl) ?_ | refine RA.as (by rfl) (by rfl) (by rfl) ?_ | refine RA.pt (by rfl) (by rfl) (by rfl) (by rfl) ?_ | refine RA.pf (by rfl) (by rfl) (by rfl) (by rfl) ?_)
  refine RA.nt (by rfl) (by rfl) (by rfl) ?_
  repeat (first | refine RA.mv (by rfl) (by rfl) (by rfl) ?_ | refine RA.as (by rfl) (by rfl) (by rfl) ?_ | refine RA.pt (by rfl) (by rfl) (by rfl) (by rfl) ?_ | refine RA.pf (by rfl) (by rfl) (by rfl) (by rfl) ?_)
  refine RA.ld (by rfl) (by rfl) (by rfl) (y' := .agg #[.int .i64 (0), .int .i64 (0)]) (fun w3 hp => (Xp1.out.chg (hdr _ hp.1)).ld) ?_
  refine RA.v Try.prog (x := .agg #[.int .i64 (0), .int .i64 (0)]) (by rfl) (by rfl) (by rfl) (fun w hp => by go_simp) ?_
  simp only [RA.add]
  refine RA.bo (by rfl) (by rfl) (by rfl) (by rfl) (y' := .bool false) (fun w3 hp => area_ne w3 _ _ _ _ _ _ _ (by first | decide | (simp; done) | (simp; omega))) ?_
  repeat (first | refine RA.mv (by rfl) (by rfl) (by rfl) ?_ | refine RA.as (by rfl) (by rfl) (by rfl) ?_ | refine RA.pt (by rfl) (by rfl) (by rfl) (by rfl) ?_ | refine RA.pf (by rfl) (by rfl) (by rfl) (by rfl) ?_)
  refine RA.ld (by rfl) (by rfl) (by rfl) (y' := .agg #[.int .i64 (wf), .int .i64 (wc)]) (fun w3 hp => (Xp2.out.chg (hdr _ hp.1)).ld) ?_
  repeat (first | refine RA.mv (by rfl) (by rfl) (by rfl) ?_ | refine RA.as (by rfl) (by rfl) (by rfl) ?_ | refine RA.pt (by rfl) (by rfl) (by rfl) (by rfl) ?_ | refine RA.pf (by rfl) (by rfl) (by rfl) (by rfl) ?_)
  refine RA.kc (P := Try.prog) [_] (.agg #[.int .i64 (wf), .int .i64 (wc)]) (fun _ => True) (fun _ _ => by go_simp) (by rfl) (by rfl) (by rfl) (by kernel_rfl) (fun _ _ _ h => h) rfl (fun w3 hp hH => (rwhole_at HW1.out HM.out _).mono (by rintro e w4 ⟨rfl, h2⟩; exact ⟨rfl, Chg.of_below h2 _, trivial⟩)) ?_
  refine RA.bo (by rfl) (by rfl) (by rfl) (by rfl) (y' := .bool false) (fun w3 hp => area_ne w3 _ _ _ _ _ _ _ (by first | decide | (simp; done) | (simp; omega))) ?_
  repeat (first | refine RA.mv (by rfl) (by rfl) (by rfl) ?_ | refine RA.as (by rfl) (by rfl) (by rfl) ?_ | refine RA.pt (by rfl) (by rfl) (by rfl) (by rfl) ?_ | refine RA.pf (by rfl) (by rfl) (by rfl) (by rfl) ?_)
  refine RA.nt (by rfl) (by rfl) (by rfl) ?_
  repeat (first | refine RA.mv (by rfl) (by rfl) (by rfl) ?_ | refine RA.as (by rfl) (by rfl) (by rfl) ?_ | refine RA.pt (by rfl) (by rfl) (by rfl) (by rfl) ?_ | refine RA.pf (by rfl) (by rfl) (by rfl) (by rfl) ?_)
  refine RA.n (by rfl) (by rfl) ?_
  simp only [RA.add]
  refine RA.n (by rfl) (by rfl) ?_
  simp only [RA.add]
  refine RA.n (by rfl) (by rfl) ?_
  simp only [RA.add]
  repeat (first | refine RA.mv (by rfl) (by rfl) (by rfl) ?_ | refine RA.as (by rfl) (by rfl) (by rfl) ?_ | refine RA.pt (by rfl) (by rfl) (by rfl) (by rfl) ?_ | refine RA.pf (by rfl) (by rfl) (by rfl) (by rfl) ?_)
  refine RA.RA.done rfl (fun w9 hR hF hH => ?_)
  clear hF hH
  simp only [RA.put, List.foldr_cons, List.foldr_nil, cx, Act.put, List.setIfInBounds_toArray, List.set_cons_succ, List.set_cons_zero]
  try simp only [Bool.not_true]
  try simp only [Bool.not_false]
  have hb := (hdr _ hR).no
  replace B := Lib.hid (B.out.trans (hb.mono B.out.size))
  replace Xp0 := Lib.hid (Xp0.out.keep hb)
  replace Xp1 := Lib.hid (Xp1.out.keep hb)
  replace Xp2 := Lib.hid (Xp2.out.keep hb)
  clear hb hR hdr
  have ap0 := Xp0.out.c0
  have bp0 := Xp0.out.c1
  have lp0 := Xp0.out.lt
  have fp0 := fun j => frozen_of Xp0.out j
  clear fp0
  go_wp2_with fail
  clear ap0 bp0 lp0
  refine (split_at HME.out HDA.out HSP.out _).mono ?_
  rintro e w5 ⟨rfl, hb⟩
  replace B := Lib.hid (B.out.trans (hb.mono B.out.size))
  replace Xp0 := Lib.hid (Xp0.out.keep hb)
  replace Xp1 := Lib.hid (Xp1.out.keep hb)
  replace Xp2 := Lib.hid (Xp2.out.keep hb)
  clear hb
  have ap0 := Xp0.out.c0
  have bp0 := Xp0.out.c1
  have lp0 := Xp0.out.lt
  have fp0 := fun j => frozen_of Xp0.out j
  clear fp0
  replace B := Lib.hid (B.out.alloc B.out.size (.cells #[.int .i64 (x), .int .i64 (y - e2)] 46))
  replace Xp0 := Lib.hid (Xp0.out.alloc (.cells #[.int .i64 (x), .int .i64 (y - e2)] 46))
  replace Xp1 := Lib.hid (Xp1.out.alloc (.cells #[.int .i64 (x), .int .i64 (y - e2)] 46))
  replace Xp2 := Lib.hid (Xp2.out.alloc (.cells #[.int .i64 (x), .int .i64 (y - e2)] 46))
  have xp3 := box_new (w5) (x) (y - e2)
  have Xp3 := Lib.hid xp3
  clear xp3
  replace B := Lib.hid (B.out.alloc B.out.size (.cells #[.int .i64 (dx), .int .i64 (e2)] 46))
  replace Xp0 := Lib.hid (Xp0.out.alloc (.cells #[.int .i64 (dx), .int .i64 (e2)] 46))
  replace Xp1 := Lib.hid (Xp1.out.alloc (.cells #[.int .i64 (dx), .int .i64 (e2)] 46))
  replace Xp2 := Lib.hid (Xp2.out.alloc (.cells #[.int .i64 (dx), .int .i64 (e2)] 46))
  replace Xp3 := Lib.hid (Xp3.out.alloc (.cells #[.int .i64 (dx), .int .i64 (e2)] 46))
  have xp4 := box_new ((w5).alloc (.cells #[.int .i64 (x), .int .i64 (y - e2)] 46)) (dx) (e2)
  simp only [World.size_alloc] at xp4
  have Xp4 := Lib.hid xp4
  clear xp4
  go_wp2_with fail
  obtain ⟨p4, hp4⟩ : ∃ p4, p4 = w5.heap.size + 1 := ⟨_, rfl⟩
  rw [← hp4] at Xp4 ⊢
  clear hp4
  obtain ⟨p3, hp3⟩ : ∃ p3, p3 = w5.heap.size := ⟨_, rfl⟩
  rw [← hp3] at Xp3 ⊢
  clear hp3
  generalize ((w5).alloc (.cells #[.int .i64 (x), .int .i64 (y - e2)] 46)).alloc (.cells #[.int .i64 (dx), .int .i64 (e2)] 46) = W6 at *
  clear ap0 bp0 lp0
  refine (rsplit_at HSP.out _).mono ?_
  rintro e w7 ⟨rfl, hb⟩
  replace B := Lib.hid (B.out.trans (hb.mono B.out.size))
  replace Xp0 := Lib.hid (Xp0.out.keep hb)
  replace Xp1 := Lib.hid (Xp1.out.keep hb)
  replace Xp2 := Lib.hid (Xp2.out.keep hb)
  replace Xp3 := Lib.hid (Xp3.out.keep hb)
  replace Xp4 := Lib.hid (Xp4.out.keep hb)
  clear hb
  go_wp2_with fail
  have hdr : ∀ w3, Chg No w7.drew w3 → Chg No w7 w3 := fun w3 h => ⟨h.os, h.tape, h.output, h.size, h.block⟩
  refine RA.region (fun a b => Chg No a b) (· = ·) [1, 1, 1, 1, 1, 1, 1, 0, 0, 0, 0, 0, 0, 0, 0, 1, 1, 1, 1, 1, 1, 1, 4, 1, 1, 1, 1, 1, 1, 1, 1, 1, 1, 1, 1, 1, 1, 1, 1, 1, 1, 1, 1] (fun _ _ _ => True) (fun _ => True) (by kernel_rfl) (Chg.refl _ _) (fun _ _ h => h ▸ Chg.refl _ _) (fun _ _ _ h k => h.trans k) (fun _ _ h k => h ▸ k) trivial (by kernel_rfl) ?_
  intro cx
  repeat (first | refine RA.mv (by rfl) (by rfl) (by rfl) ?_ | refine RA.as (by rfl) (by rfl) (by rfl) ?_ | refine RA.pt (by rfl) (by rfl) (by rfl) (by rfl) ?_ | refine RA.pf (by rfl) (by rfl) (by rfl) (by rfl) ?_)
  refine RA.bo (by rfl) (by rfl) (by rfl) (by rfl) (y' := .bool false) (fun w3 hp => bool_ne w3 _ _ _ _ _ rfl) ?_
  repeat (first | refine RA.mv (by rfl) (by rfl) (by rfl) ?_ | refine RA.as (by rfl) (by rfl) (by rfl) ?_ | refine RA.pt (by rfl) (by rfl) (by rfl) (by rfl) ?_ | refine RA.pf (by rfl) (by rfl) (by rfl) (by rfl) ?_)
  refine RA.nt (by rfl) (by rfl) (by rfl) ?_
  repeat (first | refine RA.mv (by rfl) (by rfl) (by rfl) ?_ | refine RA.as (by rfl) (by rfl) (by rfl) ?_ | refine RA.pt (by rfl) (by rfl) (by rfl) (by rfl) ?_ | refine RA.pf (by rfl) (by rfl) (by rfl) (by rfl) ?_)
  refine RA.n (by rfl) (by rfl) ?_
  simp only [RA.add]
  refine RA.n (by rfl) (by rfl) ?_
  simp only [RA.add]
  refine RA.n (by rfl) (by rfl) ?_
  simp only [RA.add]
  refine RA.n (by rfl) (by rfl) ?_
  simp only [RA.add]
  refine RA.n (by rfl) (by rfl) ?_
  simp only [RA.add]
  refine RA.n (by rfl) (by rfl) ?_
  simp only [RA.add]
  refine RA.n (by rfl) (by rfl) ?_
  simp only [RA.add]
  refine RA.n (by rfl) (by rfl) ?_
  simp only [RA.add]
  repeat (first | refine RA.mv (by rfl) (by rfl) (by rfl) ?_ | refine RA.as (by rfl) (by rfl) (by rfl) ?_ | refine RA.pt (by rfl) (by rfl) (by rfl) (by rfl) ?_ | refine RA.pf (by rfl) (by rfl) (by rfl) (by rfl) ?_)
  refine RA.ld (by rfl) (by rfl) (by rfl) (y' := .agg #[.int .i64 (dx), .int .i64 (e2)]) (fun w3 hp => (Xp4.out.chg (hdr _ hp.1)).ld) ?_
  refine RA.ld (by rfl) (by rfl) (by rfl) (y' := .agg #[.int .i64 (x), .int .i64 (y)]) (fun w3 hp => (Xp0.out.chg (hdr _ hp.1)).ld) ?_
  refine RA.kc (P := Try.prog) [_] (.agg #[.int .i64 (dx), .int .i64 (e2)]) (fun _ => True) (fun _ _ => by go_simp) (by rfl) (by rfl) (by rfl) (by kernel_rfl) (fun _ _ _ h => h) rfl (fun w3 hp hH => (rdata_at HDA.out HSP.out _).mono (by rintro e w4 ⟨rfl, h2⟩; exact ⟨rfl, Chg.of_below h2 _, trivial⟩)) ?_
  refine RA.bo (by rfl) (by rfl) (by rfl) (by rfl) (y' := .bool false) (fun w3 hp => area_ne w3 _ _ _ _ _ _ _ (by first | decide | (simp; done) | (simp; omega))) ?_
  repeat (first | refine RA.mv (by rfl) (by rfl) (by rfl) ?_ | refine RA.as (by rfl) (by rfl) (by rfl) ?_ | refine RA.pt (by rfl) (by rfl) (by rfl) (by rfl) ?_ | refine RA.pf (by rfl) (by rfl) (by rfl) (by rfl) ?_)
  refine RA.fa (by rfl) (by rfl) (by rfl) (y' := .pointer (some ⟨p3, 0, none⟩)) (fun w3 hp => by show (Instr.fieldAt _ _ _).run Try.prog w3 = _; go_simp) ?_
  refine RA.ld (by rfl) (by rfl) (by rfl) (y' := .int .i64 (x)) (fun w3 hp => by
    have h1 := (Xp3.out.chg (hdr _ hp.1)).c0
    show (Instr.loadAt _ _).run Try.prog w3 = _
    go_simp) ?_
  refine RA.fa (by rfl) (by rfl) (by rfl) (y' := .pointer (some ⟨p0, 0, none⟩)) (fun w3 hp => by show (Instr.fieldAt _ _ _).run Try.prog w3 = _; go_simp) ?_
  refine RA.ld (by rfl) (by rfl) (by rfl) (y' := .int .i64 (x)) (fun w3 hp => by
    have h1 := (Xp0.out.chg (hdr _ hp.1)).c0
    show (Instr.loadAt _ _).run Try.prog w3 = _
    go_simp) ?_
  refine RA.ne false (by rfl) (by rfl) (by rfl) (by rfl) (by first | rfl | (simp; done) | (simp; omega)) ?_
  repeat (first | refine RA.mv (by rfl) (by rfl) (by rfl) ?_ | refine RA.as (by rfl) (by rfl) (by rfl) ?_ | refine RA.pt (by rfl) (by rfl) (by rfl) (by rfl) ?_ | refine RA.pf (by rfl) (by rfl) (by rfl) (by rfl) ?_)
  refine RA.fa (by rfl) (by rfl) (by rfl) (y' := .pointer (some ⟨p3, 1, none⟩)) (fun w3 hp => by show (Instr.fieldAt _ _ _).run Try.prog w3 = _; go_simp) ?_
  refine RA.ld (by rfl) (by rfl) (by rfl) (y' := .int .i64 (y - e2)) (fun w3 hp => by
    have h1 := (Xp3.out.chg (hdr _ hp.1)).c1
    show (Instr.loadAt _ _).run Try.prog w3 = _
    go_simp) ?_
  refine RA.fa (by rfl) (by rfl) (by rfl) (y' := .pointer (some ⟨p0, 1, none⟩)) (fun w3 hp => by show (Instr.fieldAt _ _ _).run Try.prog w3 = _; go_simp) ?_
  refine RA.ld (by rfl) (by rfl) (by rfl) (y' := .int .i64 (y)) (fun w3 hp => by
    have h1 := (Xp0.out.chg (hdr _ hp.1)).c1
    show (Instr.loadAt _ _).run Try.prog w3 = _
    go_simp) ?_
  refine RA.fa (by rfl) (by rfl) (by rfl) (y' := .pointer (some ⟨p4, 1, none⟩)) (fun w3 hp => by show (Instr.fieldAt _ _ _).run Try.prog w3 = _; go_simp) ?_
  refine RA.ld (by rfl) (by rfl) (by rfl) (y' := .int .i64 (e2)) (fun w3 hp => by
    have h1 := (Xp4.out.chg (hdr _ hp.1)).c1
    show (Instr.loadAt _ _).run Try.prog w3 = _
    go_simp) ?_
  refine RA.si (by rfl) (by rfl) (by rfl) (by rfl) (y - e2) (by omega) (by omega) ?_
  refine RA.ne false (by rfl) (by rfl) (by rfl) (by rfl) (by first | rfl | (simp; done) | (simp; omega)) ?_
  repeat (first | refine RA.mv (by rfl) (by rfl) (by rfl) ?_ | refine RA.as (by rfl) (by rfl) (by rfl) ?_ | refine RA.pt (by rfl) (by rfl) (by rfl) (by rfl) ?_ | refine RA.pf (by rfl) (by rfl) (by rfl) (by rfl) ?_)
  refine RA.RA.done rfl (fun w9 hR hF hH => ?_)
  clear hF hH
  simp only [RA.put, List.foldr_cons, List.foldr_nil, cx, Act.put, List.setIfInBounds_toArray, List.set_cons_succ, List.set_cons_zero]
  try simp only [Bool.not_true]
  try simp only [Bool.not_false]
  have hb := (hdr _ hR).no
  replace B := Lib.hid (B.out.trans (hb.mono B.out.size))
  replace Xp0 := Lib.hid (Xp0.out.keep hb)
  replace Xp1 := Lib.hid (Xp1.out.keep hb)
  replace Xp2 := Lib.hid (Xp2.out.keep hb)
  replace Xp3 := Lib.hid (Xp3.out.keep hb)
  replace Xp4 := Lib.hid (Xp4.out.keep hb)
  clear hb hR hdr
  have ap0 := Xp0.out.c0
  have bp0 := Xp0.out.c1
  have lp0 := Xp0.out.lt
  have fp0 := fun j => frozen_of Xp0.out j
  clear fp0
  go_wp2_with fail
  clear ap0 bp0 lp0
  refine (inside_at HI1.out HI2.out _).mono ?_
  rintro e w8 ⟨rfl, hb⟩
  replace B := Lib.hid (B.out.trans (hb.mono B.out.size))
  replace Xp0 := Lib.hid (Xp0.out.keep hb)
  replace Xp1 := Lib.hid (Xp1.out.keep hb)
  replace Xp2 := Lib.hid (Xp2.out.keep hb)
  replace Xp3 := Lib.hid (Xp3.out.keep hb)
  replace Xp4 := Lib.hid (Xp4.out.keep hb)
  clear hb
  have ap0 := Xp0.out.c0
  have bp0 := Xp0.out.c1
  have lp0 := Xp0.out.lt
  have fp0 := fun j => frozen_of Xp0.out j
  clear fp0
  replace B := Lib.hid (B.out.alloc B.out.size (.cells #[.int .i64 (if1), .int .i64 (ic1)] 46))
  replace Xp0 := Lib.hid (Xp0.out.alloc (.cells #[.int .i64 (if1), .int .i64 (ic1)] 46))
  replace Xp1 := Lib.hid (Xp1.out.alloc (.cells #[.int .i64 (if1), .int .i64 (ic1)] 46))
  replace Xp2 := Lib.hid (Xp2.out.alloc (.cells #[.int .i64 (if1), .int .i64 (ic1)] 46))
  replace Xp3 := Lib.hid (Xp3.out.alloc (.cells #[.int .i64 (if1), .int .i64 (ic1)] 46))
  replace Xp4 := Lib.hid (Xp4.out.alloc (.cells #[.int .i64 (if1), .int .i64 (ic1)] 46))
  have xp5 := box_new (w8) (if1) (ic1)
  have Xp5 := Lib.hid xp5
  clear xp5
  go_wp2_with fail
  obtain ⟨p5, hp5⟩ : ∃ p5, p5 = w8.heap.size := ⟨_, rfl⟩
  rw [← hp5] at Xp5 ⊢
  clear hp5
  generalize (w8).alloc (.cells #[.int .i64 (if1), .int .i64 (ic1)] 46) = W9 at *
  clear ap0 bp0 lp0
  refine (rinside_at HI1.out HI2.out _).mono ?_
  rintro e w10 ⟨rfl, hb⟩
  replace B := Lib.hid (B.out.trans (hb.mono B.out.size))
  replace Xp0 := Lib.hid (Xp0.out.keep hb)
  replace Xp1 := Lib.hid (Xp1.out.keep hb)
  replace Xp2 := Lib.hid (Xp2.out.keep hb)
  replace Xp3 := Lib.hid (Xp3.out.keep hb)
  replace Xp4 := Lib.hid (Xp4.out.keep hb)
  replace Xp5 := Lib.hid (Xp5.out.keep hb)
  clear hb
  have ap5 := Xp5.out.c0
  have bp5 := Xp5.out.c1
  have lp5 := Xp5.out.lt
  have fp5 := fun j => frozen_of Xp5.out j
  clear fp5
  replace B := Lib.hid (B.out.alloc B.out.size (.cells #[.int .i64 (if1), .int .i64 (ic1)] 46))
  replace Xp0 := Lib.hid (Xp0.out.alloc (.cells #[.int .i64 (if1), .int .i64 (ic1)] 46))
  replace Xp1 := Lib.hid (Xp1.out.alloc (.cells #[.int .i64 (if1), .int .i64 (ic1)] 46))
  replace Xp2 := Lib.hid (Xp2.out.alloc (.cells #[.int .i64 (if1), .int .i64 (ic1)] 46))
  replace Xp3 := Lib.hid (Xp3.out.alloc (.cells #[.int .i64 (if1), .int .i64 (ic1)] 46))
  replace Xp4 := Lib.hid (Xp4.out.alloc (.cells #[.int .i64 (if1), .int .i64 (ic1)] 46))
  replace Xp5 := Lib.hid (Xp5.out.alloc (.cells #[.int .i64 (if1), .int .i64 (ic1)] 46))
  have xp6 := box_new (w10) (if1) (ic1)
  have Xp6 := Lib.hid xp6
  clear xp6
  go_wp2_with fail
  obtain ⟨p6, hp6⟩ : ∃ p6, p6 = w10.heap.size := ⟨_, rfl⟩
  rw [← hp6] at Xp6 ⊢
  clear hp6
  generalize (w10).alloc (.cells #[.int .i64 (if1), .int .i64 (ic1)] 46) = W11 at *
  clear ap5 bp5 lp5
  refine (awake14_ok _).mono ?_
  rintro e w12 ⟨rfl, hb⟩
  replace B := Lib.hid (B.out.trans (hb.mono B.out.size))
  replace Xp0 := Lib.hid (Xp0.out.keep hb)
  replace Xp1 := Lib.hid (Xp1.out.keep hb)
  replace Xp2 := Lib.hid (Xp2.out.keep hb)
  replace Xp3 := Lib.hid (Xp3.out.keep hb)
  replace Xp4 := Lib.hid (Xp4.out.keep hb)
  replace Xp5 := Lib.hid (Xp5.out.keep hb)
  replace Xp6 := Lib.hid (Xp6.out.keep hb)
  clear hb
  have hfin := B.out
  go_wp2_with fail
  go_ret
  exact ⟨rfl, hfin⟩

set_option maxRecDepth 100000 in
set_option maxHeartbeats 8000000 in
theorem planTells_c2 (n k x y f c : Int) (hm : mayB n = true) (hs : slotB n k = false) (hsp : splitB (x, y) = false) (hk : 4 ≤ k) (w : World) : Calls Try.prog 6 #[.int .i64 n, .int .i64 k, .agg #[.int .i64 x, .int .i64 y], .int .i64 f, .int .i64 c] w fun e w' => e = .returned (.bool true) ∧ Below w.heap.size w w' := by
  have hs1 : slotA n k = (0, 0) := by simp [slotA, hs]
  obtain ⟨wf, wc, hw1⟩ : ∃ wf wc, wholeA n = (wf, wc) := ⟨_, _, rfl⟩
  have hme : metaA (x, y) = (0, 0) := by simp [metaA, hsp]
  have hda : dataA (x, y) = (0, 0) := by simp [dataA, hsp]
  obtain ⟨if1, ic1, hi1⟩ : ∃ p q, insideA (x, y) f c = (p, q) := ⟨_, _, rfl⟩
  obtain ⟨ib, hi2⟩ : ∃ b, insideB (x, y) f c = b := ⟨_, rfl⟩
  have HM := Lib.hid hm
  have HS := Lib.hid hs
  have HS1 := Lib.hid hs1
  have HW1 := Lib.hid hw1
  have HSP := Lib.hid hsp
  have HME := Lib.hid hme
  have HDA := Lib.hid hda
  have HI1 := Lib.hid hi1
  have HI2 := Lib.hid hi2
  clear hm hs hs1 hw1 hsp hme hda hi1 hi2
  have hag := area_guard
  have hae := area_eql
  have B := Lib.hid ((Below.refl _ w).alloc (Nat.le_refl _) (.cells #[.int .i64 x, .int .i64 y] 46))
  have Xp0 := Lib.hid (box_new w x y)
  go_enter Try.func6, Try.ntmps6
  go_wp2_with fail
  obtain ⟨p0, hp0⟩ : ∃ p0, p0 = w.heap.size := ⟨_, rfl⟩
  rw [← hp0] at Xp0 ⊢
  obtain ⟨W0, hW0⟩ : ∃ W0, W0 = w.alloc (.cells #[.int .i64 x, .int .i64 y] 46) := ⟨_, rfl⟩
  rw [← hW0] at B Xp0 ⊢
  clear hp0 hW0
  refine (slot_at HS1.out HS.out _).mono ?_
  rintro e w1 ⟨rfl, hb⟩
  replace B := Lib.hid (B.out.trans (hb.mono B.out.size))
  replace Xp0 := Lib.hid (Xp0.out.keep hb)
  clear hb
  replace B := Lib.hid (B.out.alloc B.out.size (.cells #[.int .i64 (0), .int .i64 (0)] 46))
  replace Xp0 := Lib.hid (Xp0.out.alloc (.cells #[.int .i64 (0), .int .i64 (0)] 46))
  have xp1 := box_new (w1) (0) (0)
  have Xp1 := Lib.hid xp1
  clear xp1
  go_wp2_with fail
  obtain ⟨p1, hp1⟩ : ∃ p1, p1 = w1.heap.size := ⟨_, rfl⟩
  rw [← hp1] at Xp1 ⊢
  clear hp1
  generalize (w1).alloc (.cells #[.int .i64 (0), .int .i64 (0)] 46) = W2 at *
  refine (whole_at HW1.out HM.out _).mono ?_
  rintro e w3 ⟨rfl, hb⟩
  replace B := Lib.hid (B.out.trans (hb.mono B.out.size))
  replace Xp0 := Lib.hid (Xp0.out.keep hb)
  replace Xp1 := Lib.hid (Xp1.out.keep hb)
  clear hb
  replace B := Lib.hid (B.out.alloc B.out.size (.cells #[.int .i64 (wf), .int .i64 (wc)] 46))
  replace Xp0 := Lib.hid (Xp0.out.alloc (.cells #[.int .i64 (wf), .int .i64 (wc)] 46))
  replace Xp1 := Lib.hid (Xp1.out.alloc (.cells #[.int .i64 (wf), .int .i64 (wc)] 46))
  have xp2 := box_new (w3) (wf) (wc)
  have Xp2 := Lib.hid xp2
  clear xp2
  go_wp2_with fail
  obtain ⟨p2, hp2⟩ : ∃ p2, p2 = w3.heap.size := ⟨_, rfl⟩
  rw [← hp2] at Xp2 ⊢
  clear hp2
  generalize (w3).alloc (.cells #[.int .i64 (wf), .int .i64 (wc)] 46) = W4 at *
  refine (rmay_at HM.out _).mono ?_
  rintro e w1 ⟨rfl, rfl⟩
  go_wp2_with fail
  have hdr : ∀ w3, Chg No W4.drew w3 → Chg No W4 w3 := fun w3 h => ⟨h.os, h.tape, h.output, h.size, h.block⟩
  refine RA.region (fun a b => Chg No a b) (· = ·) [1, 4, 1, 1, 1, 1, 1, 1, 1, 1, 1, 1, 1, 1, 1, 1, 1, 1, 1, 1, 1, 1, 1, 1, 1, 0, 0, 0, 0, 0, 1, 1, 1, 1, 1, 1, 1, 1, 1, 1, 1, 1, 1, 1, 1, 1, 4, 1, 1, 1, 1, 1, 1, 1, 0, 0, 0, 1, 1] (fun _ _ _ => True) (fun _ => True) (by kernel_rfl) (Chg.refl _ _) (fun _ _ h => h ▸ Chg.refl _ _) (fun _ _ _ h k => h.trans k) (fun _ _ h k => h ▸ k) trivial (by kernel_rfl) ?_
  intro cx
  repeat (first | refine RA.mv (by rfl) (by rfl) (by rfl) ?_ | refine RA.as (by rfl) (by rfl) (by rfl) ?_ | refine RA.pt (by rfl) (by rfl) (by rfl) (by rfl) ?_ | refine RA.pf (by rfl) (by rfl) (by rfl) (by rfl) ?_)
  refine RA.kc (P := Try.prog) [_] (.bool true) (fun _ => True) (fun _ _ => by go_simp) (by rfl) (by rfl) (by rfl) (by kernel_rfl) (fun _ _ _ h => h) rfl (fun w3 hp hH => (may_at HM.out _).mono (by rintro e w4 ⟨rfl, rfl⟩; exact ⟨rfl, Chg.refl _ _, trivial⟩)) ?_
  repeat (first | refine RA.mv (by rfl) (by rfl) (by rfl) ?_ | refine RA.as (by rfl) (by rfl) (by rfl) ?_ | refine RA.pt (by rfl) (by rfl) (by rfl) (by rfl) ?_ | refine RA.pf (by rfl) (by rfl) (by rfl) (by rfl) ?_)
  refine RA.bo (by rfl) (by rfl) (by rfl) (by rfl) (y' := .bool false) (fun w3 hp => bool_ne w3 _ _ _ _ _ rfl) ?_
  repeat (first | refine RA.mv (by rfl) (by rfl) (by rfl) ?_ | refine RA.as (by rfl) (by rfl) (by rfl) ?_ | refine RA.pt (by rfl) (by rfl) (by rfl) (by rfl) ?_ | refine RA.pf (by rfl) (by rfl) (by rfl) (by rfl) ?_)
  refine RA.bo (by rfl) (by rfl) (by rfl) (by rfl) (y' := .bool false) (fun w3 hp => bool_ne w3 _ _ _ _ _ rfl) ?_
  repeat (first | refine RA.mv (by rfl) (by rfl) (by rfl) ?_ | refine RA.as (by rfl) (by rfl) (by rfl) ?_ | refine RA.pt (by rfl) (by rfl) (by rfl) (by rfl) ?_ | refine RA.pf (by rfl) (by rfl) (by rfl) (by rfl) ?_)
  refine RA.ge true (by rfl) (by rfl) (by rfl) (by rfl) (by first | rfl | (simp; done) | (simp; omega)) ?_
  repeat (first | refine RA.mv (by rfl) (by rfl) (by rfl) ?_ | refine RA.as (by rfl) (by rfl) (by rfl) ?_ | refine RA.pt (by rfl) (by rfl) (by rfl) (by rfl) ?_ | refine RA.pf (by rfl) (by rfl) (by rfl) (by rfl) ?_)
  refine RA.lt false (by rfl) (by rfl) (by rfl) (by rfl) (by first | rfl | (simp; done) | (simp; omega)) ?_
  repeat (first | refine RA.mv (by rfl) (by rfl) (by rfl) ?_ | refine RA.as (by rfl) (by rfl) (by rfl) ?_ | refine RA.pt (by rfl) (by rfl) (by rfl) (by rfl) ?_ | refine RA.pf (by rfl) (by rfl) (by rfl) (by rfl) ?_)
  refine RA.bo (by rfl) (by rfl) (by rfl) (by rfl) (y' := .bool false) (fun w3 hp => bool_ne w3 _ _ _ _ _ rfl) ?_
  repeat (first | refine RA.mv (by rfl) (by rfl) (by rfl) ?_ | refine RA.as (by rfl) (by rfl) (by rfl) ?_ | refine RA.pt (by rfl) (by rfl) (by rfl) (by rfl) ?_ | refine RA.pf (by rfl) (by rfl) (by rfl) (by rfl) ?_)
  refine RA.n (by rfl) (by rfl) ?_
  simp only [RA.add]
  refine RA.n (by rfl) (by rfl) ?_
  simp only [RA.add]
  refine RA.n (by rfl) (by rfl) ?_
  simp only [RA.add]
  refine RA.n (by rfl) (by rfl) ?_
  simp only [RA.add]
  refine RA.n (by rfl) (by rfl) ?_
  simp only [RA.add]
  repeat (first | refine RA.mv (by rfl) (by rfl) (by rfl) ?_ | refine RA.as (by rfl) (by rfl) (by rfl) ?_ | refine RA.pt (by rfl) (by rfl) (by rfl) (by rfl) ?_ | refine RA.pf (by rfl) (by rfl) (by rfl) (by rfl) ?_)
  refine RA.nt (by rfl) (by rfl) (by rfl) ?_
  repeat (first | refine RA.mv (by rfl) (by rfl) (by rfl) ?_ | refine RA.as (by rfl) (by rfl) (by rfl) ?_ | refine RA.pt (by rfl) (by rfl) (by rfl) (by rfl) ?_ | refine RA.pf (by rfl) (by rfl) (by rfl) (by rfl) ?_)
  refine RA.ld (by rfl) (by rfl) (by rfl) (y' := .agg #[.int .i64 (0), .int .i64 (0)]) (fun w3 hp => (Xp1.out.chg (hdr _ hp.1)).ld) ?_
  refine RA.v Try.prog (x := .agg #[.int .i64 (0), .int .i64 (0)]) (by rfl) (by rfl) (by rfl) (fun w hp => by go_simp) ?_
  simp only [RA.add]
  refine RA.bo (by rfl) (by rfl) (by rfl) (by rfl) (y' := .bool false) (fun w3 hp => area_ne w3 _ _ _ _ _ _ _ (by first | decide | (simp; done) | (simp; omega))) ?_
  repeat (first | refine RA.mv (by rfl) (by rfl) (by rfl) ?_ | refine RA.as (by rfl) (by rfl) (by rfl) ?_ | refine RA.pt (by rfl) (by rfl) (by rfl) (by rfl) ?_ | refine RA.pf (by rfl) (by rfl) (by rfl) (by rfl) ?_)
  refine RA.ld (by rfl) (by rfl) (by rfl) (y' := .agg #[.int .i64 (wf), .int .i64 (wc)]) (fun w3 hp => (Xp2.out.chg (hdr _ hp.1)).ld) ?_
  repeat (first | refine RA.mv (by rfl) (by rfl) (by rfl) ?_ | refine RA.as (by rfl) (by rfl) (by rfl) ?_ | refine RA.pt (by rfl) (by rfl) (by rfl) (by rfl) ?_ | refine RA.pf (by rfl) (by rfl) (by rfl) (by rfl) ?_)
  refine RA.kc (P := Try.prog) [_] (.agg #[.int .i64 (wf), .int .i64 (wc)]) (fun _ => True) (fun _ _ => by go_simp) (by rfl) (by rfl) (by rfl) (by kernel_rfl) (fun _ _ _ h => h) rfl (fun w3 hp hH => (rwhole_at HW1.out HM.out _).mono (by rintro e w4 ⟨rfl, h2⟩; exact ⟨rfl, Chg.of_below h2 _, trivial⟩)) ?_
  refine RA.bo (by rfl) (by rfl) (by rfl) (by rfl) (y' := .bool false) (fun w3 hp => area_ne w3 _ _ _ _ _ _ _ (by first | decide | (simp; done) | (simp; omega))) ?_
  repeat (first | refine RA.mv (by rfl) (by rfl) (by rfl) ?_ | refine RA.as (by rfl) (by rfl) (by rfl) ?_ | refine RA.pt (by rfl) (by rfl) (by rfl) (by rfl) ?_ | refine RA.pf (by rfl) (by rfl) (by rfl) (by rfl) ?_)
  refine RA.nt (by rfl) (by rfl) (by rfl) ?_
  repeat (first | refine RA.mv (by rfl) (by rfl) (by rfl) ?_ | refine RA.as (by rfl) (by rfl) (by rfl) ?_ | refine RA.pt (by rfl) (by rfl) (by rfl) (by rfl) ?_ | refine RA.pf (by rfl) (by rfl) (by rfl) (by rfl) ?_)
  refine RA.n (by rfl) (by rfl) ?_
  simp only [RA.add]
  refine RA.n (by rfl) (by rfl) ?_
  simp only [RA.add]
  refine RA.n (by rfl) (by rfl) ?_
  simp only [RA.add]
  repeat (first | refine RA.mv (by rfl) (by rfl) (by rfl) ?_ | refine RA.as (by rfl) (by rfl) (by rfl) ?_ | refine RA.pt (by rfl) (by rfl) (by rfl) (by rfl) ?_ | refine RA.pf (by rfl) (by rfl) (by rfl) (by rfl) ?_)
  refine RA.RA.done rfl (fun w9 hR hF hH => ?_)
  clear hF hH
  simp only [RA.put, List.foldr_cons, List.foldr_nil, cx, Act.put, List.setIfInBounds_toArray, List.set_cons_succ, List.set_cons_zero]
  try simp only [Bool.not_true]
  try simp only [Bool.not_false]
  have hb := (hdr _ hR).no
  replace B := Lib.hid (B.out.trans (hb.mono B.out.size))
  replace Xp0 := Lib.hid (Xp0.out.keep hb)
  replace Xp1 := Lib.hid (Xp1.out.keep hb)
  replace Xp2 := Lib.hid (Xp2.out.keep hb)
  clear hb hR hdr
  have ap0 := Xp0.out.c0
  have bp0 := Xp0.out.c1
  have lp0 := Xp0.out.lt
  have fp0 := fun j => frozen_of Xp0.out j
  clear fp0
  go_wp2_with fail
  clear ap0 bp0 lp0
  refine (split_at HME.out HDA.out HSP.out _).mono ?_
  rintro e w5 ⟨rfl, hb⟩
  replace B := Lib.hid (B.out.trans (hb.mono B.out.size))
  replace Xp0 := Lib.hid (Xp0.out.keep hb)
  replace Xp1 := Lib.hid (Xp1.out.keep hb)
  replace Xp2 := Lib.hid (Xp2.out.keep hb)
  clear hb
  have ap0 := Xp0.out.c0
  have bp0 := Xp0.out.c1
  have lp0 := Xp0.out.lt
  have fp0 := fun j => frozen_of Xp0.out j
  clear fp0
  replace B := Lib.hid (B.out.alloc B.out.size (.cells #[.int .i64 (0), .int .i64 (0)] 46))
  replace Xp0 := Lib.hid (Xp0.out.alloc (.cells #[.int .i64 (0), .int .i64 (0)] 46))
  replace Xp1 := Lib.hid (Xp1.out.alloc (.cells #[.int .i64 (0), .int .i64 (0)] 46))
  replace Xp2 := Lib.hid (Xp2.out.alloc (.cells #[.int .i64 (0), .int .i64 (0)] 46))
  have xp3 := box_new (w5) (0) (0)
  have Xp3 := Lib.hid xp3
  clear xp3
  replace B := Lib.hid (B.out.alloc B.out.size (.cells #[.int .i64 (0), .int .i64 (0)] 46))
  replace Xp0 := Lib.hid (Xp0.out.alloc (.cells #[.int .i64 (0), .int .i64 (0)] 46))
  replace Xp1 := Lib.hid (Xp1.out.alloc (.cells #[.int .i64 (0), .int .i64 (0)] 46))
  replace Xp2 := Lib.hid (Xp2.out.alloc (.cells #[.int .i64 (0), .int .i64 (0)] 46))
  replace Xp3 := Lib.hid (Xp3.out.alloc (.cells #[.int .i64 (0), .int .i64 (0)] 46))
  have xp4 := box_new ((w5).alloc (.cells #[.int .i64 (0), .int .i64 (0)] 46)) (0) (0)
  simp only [World.size_alloc] at xp4
  have Xp4 := Lib.hid xp4
  clear xp4
  go_wp2_with fail
  obtain ⟨p4, hp4⟩ : ∃ p4, p4 = w5.heap.size + 1 := ⟨_, rfl⟩
  rw [← hp4] at Xp4 ⊢
  clear hp4
  obtain ⟨p3, hp3⟩ : ∃ p3, p3 = w5.heap.size := ⟨_, rfl⟩
  rw [← hp3] at Xp3 ⊢
  clear hp3
  generalize ((w5).alloc (.cells #[.int .i64 (0), .int .i64 (0)] 46)).alloc (.cells #[.int .i64 (0), .int .i64 (0)] 46) = W6 at *
  clear ap0 bp0 lp0
  refine (rsplit_at HSP.out _).mono ?_
  rintro e w7 ⟨rfl, hb⟩
  replace B := Lib.hid (B.out.trans (hb.mono B.out.size))
  replace Xp0 := Lib.hid (Xp0.out.keep hb)
  replace Xp1 := Lib.hid (Xp1.out.keep hb)
  replace Xp2 := Lib.hid (Xp2.out.keep hb)
  replace Xp3 := Lib.hid (Xp3.out.keep hb)
  replace Xp4 := Lib.hid (Xp4.out.keep hb)
  clear hb
  go_wp2_with fail
  have hdr : ∀ w3, Chg No w7.drew w3 → Chg No w7 w3 := fun w3 h => ⟨h.os, h.tape, h.output, h.size, h.block⟩
  refine RA.region (fun a b => Chg No a b) (· = ·) [1, 1, 1, 1, 1, 1, 1, 1, 1, 1, 1, 1, 1, 1, 1, 1, 1, 1, 1, 1, 0, 0, 0, 0, 0, 0, 0, 0, 0, 0, 0, 0, 0, 0, 0, 0, 0, 0, 0, 0, 0, 1, 1] (fun _ _ _ => True) (fun _ => True) (by kernel_rfl) (Chg.refl _ _) (fun _ _ h => h ▸ Chg.refl _ _) (fun _ _ _ h k => h.trans k) (fun _ _ h k => h ▸ k) trivial (by kernel_rfl) ?_
  intro cx
  repeat (first | refine RA.mv (by rfl) (by rfl) (by rfl) ?_ | refine RA.as (by rfl) (by rfl) (by rfl) ?_ | refine RA.pt (by rfl) (by rfl) (by rfl) (by rfl) ?_ | refine RA.pf (by rfl) (by rfl) (by rfl) (by rfl) ?_)
  refine RA.bo (by rfl) (by rfl) (by rfl) (by rfl) (y' := .bool false) (fun w3 hp => bool_ne w3 _ _ _ _ _ rfl) ?_
  repeat (first | refine RA.mv (by rfl) (by rfl) (by rfl) ?_ | refine RA.as (by rfl) (by rfl) (by rfl) ?_ | refine RA.pt (by rfl) (by rfl) (by rfl) (by rfl) ?_ | refine RA.pf (by rfl) (by rfl) (by rfl) (by rfl) ?_)
  refine RA.nt (by rfl) (by rfl) (by rfl) ?_
  repeat (first | refine RA.mv (by rfl) (by rfl) (by rfl) ?_ | refine RA.as (by rfl) (by rfl) (by rfl) ?_ | refine RA.pt (by rfl) (by rfl) (by rfl) (by rfl) ?_ | refine RA.pf (by rfl) (by rfl) (by rfl) (by rfl) ?_)
  refine RA.ld (by rfl) (by rfl) (by rfl) (y' := .agg #[.int .i64 (0), .int .i64 (0)]) (fun w3 hp => (Xp3.out.chg (hdr _ hp.1)).ld) ?_
  refine RA.v Try.prog (x := .agg #[.int .i64 (0), .int .i64 (0)]) (by rfl) (by rfl) (by rfl) (fun w hp => by go_simp) ?_
  simp only [RA.add]
  refine RA.bo (by rfl) (by rfl) (by rfl) (by rfl) (y' := .bool false) (fun w3 hp => area_ne w3 _ _ _ _ _ _ _ (by first | decide | (simp; done) | (simp; omega))) ?_
  repeat (first | refine RA.mv (by rfl) (by rfl) (by rfl) ?_ | refine RA.as (by rfl) (by rfl) (by rfl) ?_ | refine RA.pt (by rfl) (by rfl) (by rfl) (by rfl) ?_ | refine RA.pf (by rfl) (by rfl) (by rfl) (by rfl) ?_)
  refine RA.ld (by rfl) (by rfl) (by rfl) (y' := .agg #[.int .i64 (0), .int .i64 (0)]) (fun w3 hp => (Xp4.out.chg (hdr _ hp.1)).ld) ?_
  refine RA.v Try.prog (x := .agg #[.int .i64 (0), .int .i64 (0)]) (by rfl) (by rfl) (by rfl) (fun w hp => by go_simp) ?_
  simp only [RA.add]
  refine RA.bo (by rfl) (by rfl) (by rfl) (by rfl) (y' := .bool false) (fun w3 hp => area_ne w3 _ _ _ _ _ _ _ (by first | decide | (simp; done) | (simp; omega))) ?_
  repeat (first | refine RA.mv (by rfl) (by rfl) (by rfl) ?_ | refine RA.as (by rfl) (by rfl) (by rfl) ?_ | refine RA.pt (by rfl) (by rfl) (by rfl) (by rfl) ?_ | refine RA.pf (by rfl) (by rfl) (by rfl) (by rfl) ?_)
  refine RA.n (by rfl) (by rfl) ?_
  simp only [RA.add]
  refine RA.n (by rfl) (by rfl) ?_
  simp only [RA.add]
  refine RA.n (by rfl) (by rfl) ?_
  simp only [RA.add]
  refine RA.n (by rfl) (by rfl) ?_
  simp only [RA.add]
  refine RA.n (by rfl) (by rfl) ?_
  simp only [RA.add]
  refine RA.n (by rfl) (by rfl) ?_
  simp only [RA.add]
  refine RA.n (by rfl) (by rfl) ?_
  simp only [RA.add]
  refine RA.n (by rfl) (by rfl) ?_
  simp only [RA.add]
  refine RA.n (by rfl) (by rfl) ?_
  simp only [RA.add]
  refine RA.n (by rfl) (by rfl) ?_
  simp only [RA.add]
  refine RA.n (by rfl) (by rfl) ?_
  simp only [RA.add]
  refine RA.n (by rfl) (by rfl) ?_
  simp only [RA.add]
  refine RA.n (by rfl) (by rfl) ?_
  simp only [RA.add]
  refine RA.n (by rfl) (by rfl) ?_
  simp only [RA.add]
  refine RA.n (by rfl) (by rfl) ?_
  simp only [RA.add]
  refine RA.n (by rfl) (by rfl) ?_
  simp only [RA.add]
  refine RA.n (by rfl) (by rfl) ?_
  simp only [RA.add]
  refine RA.n (by rfl) (by rfl) ?_
  simp only [RA.add]
  refine RA.n (by rfl) (by rfl) ?_
  simp only [RA.add]
  refine RA.n (by rfl) (by rfl) ?_
  simp only [RA.add]
  refine RA.n (by rfl) (by rfl) ?_
  simp only [RA.add]
  repeat (first | refine RA.mv (by rfl) (by rfl) (by rfl) ?_ | refine RA.as (by rfl) (by rfl) (by rfl) ?_ | refine RA.pt (by rfl) (by rfl) (by rfl) (by rfl) ?_ | refine RA.pf (by rfl) (by rfl) (by rfl) (by rfl) ?_)
  refine RA.RA.done rfl (fun w9 hR hF hH => ?_)
  clear hF hH
  simp only [RA.put, List.foldr_cons, List.foldr_nil, cx, Act.put, List.setIfInBounds_toArray, List.set_cons_succ, List.set_cons_zero]
  try simp only [Bool.not_true]
  try simp only [Bool.not_false]
  have hb := (hdr _ hR).no
  replace B := Lib.hid (B.out.trans (hb.mono B.out.size))
  replace Xp0 := Lib.hid (Xp0.out.keep hb)
  replace Xp1 := Lib.hid (Xp1.out.keep hb)
  replace Xp2 := Lib.hid (Xp2.out.keep hb)
  replace Xp3 := Lib.hid (Xp3.out.keep hb)
  replace Xp4 := Lib.hid (Xp4.out.keep hb)
  clear hb hR hdr
  have ap0 := Xp0.out.c0
  have bp0 := Xp0.out.c1
  have lp0 := Xp0.out.lt
  have fp0 := fun j => frozen_of Xp0.out j
  clear fp0
  go_wp2_with fail
  clear ap0 bp0 lp0
  refine (inside_at HI1.out HI2.out _).mono ?_
  rintro e w8 ⟨rfl, hb⟩
  replace B := Lib.hid (B.out.trans (hb.mono B.out.size))
  replace Xp0 := Lib.hid (Xp0.out.keep hb)
  replace Xp1 := Lib.hid (Xp1.out.keep hb)
  replace Xp2 := Lib.hid (Xp2.out.keep hb)
  replace Xp3 := Lib.hid (Xp3.out.keep hb)
  replace Xp4 := Lib.hid (Xp4.out.keep hb)
  clear hb
  have ap0 := Xp0.out.c0
  have bp0 := Xp0.out.c1
  have lp0 := Xp0.out.lt
  have fp0 := fun j => frozen_of Xp0.out j
  clear fp0
  replace B := Lib.hid (B.out.alloc B.out.size (.cells #[.int .i64 (if1), .int .i64 (ic1)] 46))
  replace Xp0 := Lib.hid (Xp0.out.alloc (.cells #[.int .i64 (if1), .int .i64 (ic1)] 46))
  replace Xp1 := Lib.hid (Xp1.out.alloc (.cells #[.int .i64 (if1), .int .i64 (ic1)] 46))
  replace Xp2 := Lib.hid (Xp2.out.alloc (.cells #[.int .i64 (if1), .int .i64 (ic1)] 46))
  replace Xp3 := Lib.hid (Xp3.out.alloc (.cells #[.int .i64 (if1), .int .i64 (ic1)] 46))
  replace Xp4 := Lib.hid (Xp4.out.alloc (.cells #[.int .i64 (if1), .int .i64 (ic1)] 46))
  have xp5 := box_new (w8) (if1) (ic1)
  have Xp5 := Lib.hid xp5
  clear xp5
  go_wp2_with fail
  obtain ⟨p5, hp5⟩ : ∃ p5, p5 = w8.heap.size := ⟨_, rfl⟩
  rw [← hp5] at Xp5 ⊢
  clear hp5
  generalize (w8).alloc (.cells #[.int .i64 (if1), .int .i64 (ic1)] 46) = W9 at *
  clear ap0 bp0 lp0
  refine (rinside_at HI1.out HI2.out _).mono ?_
  rintro e w10 ⟨rfl, hb⟩
  replace B := Lib.hid (B.out.trans (hb.mono B.out.size))
  replace Xp0 := Lib.hid (Xp0.out.keep hb)
  replace Xp1 := Lib.hid (Xp1.out.keep hb)
  replace Xp2 := Lib.hid (Xp2.out.keep hb)
  replace Xp3 := Lib.hid (Xp3.out.keep hb)
  replace Xp4 := Lib.hid (Xp4.out.keep hb)
  replace Xp5 := Lib.hid (Xp5.out.keep hb)
  clear hb
  have ap5 := Xp5.out.c0
  have bp5 := Xp5.out.c1
  have lp5 := Xp5.out.lt
  have fp5 := fun j => frozen_of Xp5.out j
  clear fp5
  replace B := Lib.hid (B.out.alloc B.out.size (.cells #[.int .i64 (if1), .int .i64 (ic1)] 46))
  replace Xp0 := Lib.hid (Xp0.out.alloc (.cells #[.int .i64 (if1), .int .i64 (ic1)] 46))
  replace Xp1 := Lib.hid (Xp1.out.alloc (.cells #[.int .i64 (if1), .int .i64 (ic1)] 46))
  replace Xp2 := Lib.hid (Xp2.out.alloc (.cells #[.int .i64 (if1), .int .i64 (ic1)] 46))
  replace Xp3 := Lib.hid (Xp3.out.alloc (.cells #[.int .i64 (if1), .int .i64 (ic1)] 46))
  replace Xp4 := Lib.hid (Xp4.out.alloc (.cells #[.int .i64 (if1), .int .i64 (ic1)] 46))
  replace Xp5 := Lib.hid (Xp5.out.alloc (.cells #[.int .i64 (if1), .int .i64 (ic1)] 46))
  have xp6 := box_new (w10) (if1) (ic1)
  have Xp6 := Lib.hid xp6
  clear xp6
  go_wp2_with fail
  obtain ⟨p6, hp6⟩ : ∃ p6, p6 = w10.heap.size := ⟨_, rfl⟩
  rw [← hp6] at Xp6 ⊢
  clear hp6
  generalize (w10).alloc (.cells #[.int .i64 (if1), .int .i64 (ic1)] 46) = W11 at *
  clear ap5 bp5 lp5
  refine (awake14_ok _).mono ?_
  rintro e w12 ⟨rfl, hb⟩
  replace B := Lib.hid (B.out.trans (hb.mono B.out.size))
  replace Xp0 := Lib.hid (Xp0.out.keep hb)
  replace Xp1 := Lib.hid (Xp1.out.keep hb)
  replace Xp2 := Lib.hid (Xp2.out.keep hb)
  replace Xp3 := Lib.hid (Xp3.out.keep hb)
  replace Xp4 := Lib.hid (Xp4.out.keep hb)
  replace Xp5 := Lib.hid (Xp5.out.keep hb)
  replace Xp6 := Lib.hid (Xp6.out.keep hb)
  clear hb
  have hfin := B.out
  go_wp2_with fail
  go_ret
  exact ⟨rfl, hfin⟩

set_option maxRecDepth 100000 in
set_option maxHeartbeats 8000000 in
theorem planTells_d1 (n k x y f c : Int) (hm : mayB n = false) (hs : slotB n k = false) (hsp : splitB (x, y) = true) (w : World) : Calls Try.prog 6 #[.int .i64 n, .int .i64 k, .agg #[.int .i64 x, .int .i64 y], .int .i64 f, .int .i64 c] w fun e w' => e = .returned (.bool true) ∧ Below w.heap.size w w' := by
  have hs1 : slotA n k = (0, 0) := by simp [slotA, hs]
  have hw1 : wholeA n = (0, 0) := by simp [wholeA, hm]
  have hsb : 0 ≤ x ∧ x ≤ 65536 ∧ 48 ≤ y ∧ y ≤ 65536 := by simpa [splitB] using hsp
  obtain ⟨e2, he2⟩ : ∃ e2, e2 = y / 2 := ⟨_, rfl⟩
  have he3 : 0 ≤ e2 ∧ e2 ≤ y := by omega
  have hme : metaA (x, y) = (x, y - e2) := by simp only [metaA, hsp, if_true]; rw [he2]
  obtain ⟨dx, hdx⟩ : ∃ dx, dx = x + (y - e2) := ⟨_, rfl⟩
  have hda : dataA (x, y) = (dx, e2) := by simp only [dataA, hsp, if_true]; rw [hdx, he2]
  clear he2 hdx
  obtain ⟨if1, ic1, hi1⟩ : ∃ p q, insideA (x, y) f c = (p, q) := ⟨_, _, rfl⟩
  obtain ⟨ib, hi2⟩ : ∃ b, insideB (x, y) f c = b := ⟨_, rfl⟩
  have HM := Lib.hid hm
  have HS := Lib.hid hs
  have HS1 := Lib.hid hs1
  have HW1 := Lib.hid hw1
  have HSP := Lib.hid hsp
  have HME := Lib.hid hme
  have HDA := Lib.hid hda
  have HI1 := Lib.hid hi1
  have HI2 := Lib.hid hi2
  clear hm hs hs1 hw1 hsp hme hda hi1 hi2
  have hag := area_guard
  have hae := area_eql
  have B := Lib.hid ((Below.refl _ w).alloc (Nat.le_refl _) (.cells #[.int .i64 x, .int .i64 y] 46))
  have Xp0 := Lib.hid (box_new w x y)
  go_enter Try.func6, Try.ntmps6
  go_wp2_with fail
  obtain ⟨p0, hp0⟩ : ∃ p0, p0 = w.heap.size := ⟨_, rfl⟩
  rw [← hp0] at Xp0 ⊢
  obtain ⟨W0, hW0⟩ : ∃ W0, W0 = w.alloc (.cells #[.int .i64 x, .int .i64 y] 46) := ⟨_, rfl⟩
  rw [← hW0] at B Xp0 ⊢
  clear hp0 hW0
  refine (slot_at HS1.out HS.out _).mono ?_
  rintro e w1 ⟨rfl, hb⟩
  replace B := Lib.hid (B.out.trans (hb.mono B.out.size))
  replace Xp0 := Lib.hid (Xp0.out.keep hb)
  clear hb
  replace B := Lib.hid (B.out.alloc B.out.size (.cells #[.int .i64 (0), .int .i64 (0)] 46))
  replace Xp0 := Lib.hid (Xp0.out.alloc (.cells #[.int .i64 (0), .int .i64 (0)] 46))
  have xp1 := box_new (w1) (0) (0)
  have Xp1 := Lib.hid xp1
  clear xp1
  go_wp2_with fail
  obtain ⟨p1, hp1⟩ : ∃ p1, p1 = w1.heap.size := ⟨_, rfl⟩
  rw [← hp1] at Xp1 ⊢
  clear hp1
  generalize (w1).alloc (.cells #[.int .i64 (0), .int .i64 (0)] 46) = W2 at *
  refine (whole_at HW1.out HM.out _).mono ?_
  rintro e w3 ⟨rfl, hb⟩
  replace B := Lib.hid (B.out.trans (hb.mono B.out.size))
  replace Xp0 := Lib.hid (Xp0.out.keep hb)
  replace Xp1 := Lib.hid (Xp1.out.keep hb)
  clear hb
  replace B := Lib.hid (B.out.alloc B.out.size (.cells #[.int .i64 (0), .int .i64 (0)] 46))
  replace Xp0 := Lib.hid (Xp0.out.alloc (.cells #[.int .i64 (0), .int .i64 (0)] 46))
  replace Xp1 := Lib.hid (Xp1.out.alloc (.cells #[.int .i64 (0), .int .i64 (0)] 46))
  have xp2 := box_new (w3) (0) (0)
  have Xp2 := Lib.hid xp2
  clear xp2
  go_wp2_with fail
  obtain ⟨p2, hp2⟩ : ∃ p2, p2 = w3.heap.size := ⟨_, rfl⟩
  rw [← hp2] at Xp2 ⊢
  clear hp2
  generalize (w3).alloc (.cells #[.int .i64 (0), .int .i64 (0)] 46) = W4 at *
  refine (rmay_at HM.out _).mono ?_
  rintro e w1 ⟨rfl, rfl⟩
  go_wp2_with fail
  have hdr : ∀ w3, Chg No W4.drew w3 → Chg No W4 w3 := fun w3 h => ⟨h.os, h.tape, h.output, h.size, h.block⟩
  refine RA.region (fun a b => Chg No a b) (· = ·) [1, 4, 1, 1, 1, 1, 1, 1, 1, 1, 1, 1, 1, 0, 0, 1, 1, 0, 0, 1, 1, 1, 1, 1, 1, 0, 0, 0, 0, 0, 1, 1, 1, 1, 1, 1, 1, 1, 1, 1, 1, 1, 1, 1, 0, 0, 0, 0, 1, 1, 1, 1, 1, 1, 1, 1, 1, 1, 1] (fun _ _ _ => True) (fun _ => True) (by kernel_rfl) (Chg.refl _ _) (fun _ _ h => h ▸ Chg.refl _ _) (fun _ _ _ h k => h.trans k) (fun _ _ h k => h ▸ k) trivial (by kernel_rfl) ?_
  intro cx
  repeat (first | refine RA.mv (by rfl) (by rfl) (by rfl) ?_ | refine RA.as (by rfl) (by rfl) (by rfl) ?_ | refine RA.pt (by rfl) (by rfl) (by rfl) (by rfl) ?_ | refine RA.pf (by rfl) (by rfl) (by rfl) (by rfl) ?_)
  refine RA.kc (P := Try.prog) [_] (.bool false) (fun _ => True) (fun _ _ => by go_simp) (by rfl) (by rfl) (by rfl) (by kernel_rfl) (fun _ _ _ h => h) rfl (fun w3 hp hH => (may_at HM.out _).mono (by rintro e w4 ⟨rfl, rfl⟩; exact ⟨rfl, Chg.refl _ _, trivial⟩)) ?_
  repeat (first | refine RA.mv (by rfl) (by rfl) (by rfl) ?_ | refine RA.as (by rfl) (by rfl) (by rfl) ?_ | refine RA.pt (by rfl) (by rfl) (by rfl) (by rfl) ?_ | refine RA.pf (by rfl) (by rfl) (by rfl) (by rfl) ?_)
  refine RA.bo (by rfl) (by rfl) (by rfl) (by rfl) (y' := .bool false) (fun w3 hp => bool_ne w3 _ _ _ _ _ rfl) ?_
  repeat (first | refine RA.mv (by rfl) (by rfl) (by rfl) ?_ | refine RA.as (by rfl) (by rfl) (by rfl) ?_ | refine RA.pt (by rfl) (by rfl) (by rfl) (by rfl) ?_ | refine RA.pf (by rfl) (by rfl) (by rfl) (by rfl) ?_)
  refine RA.bo (by rfl) (by rfl) (by rfl) (by rfl) (y' := .bool false) (fun w3 hp => bool_ne w3 _ _ _ _ _ rfl) ?_
  repeat (first | refine RA.mv (by rfl) (by rfl) (by rfl) ?_ | refine RA.as (by rfl) (by rfl) (by rfl) ?_ | refine RA.pt (by rfl) (by rfl) (by rfl) (by rfl) ?_ | refine RA.pf (by rfl) (by rfl) (by rfl) (by rfl) ?_)
  refine RA.n (by rfl) (by rfl) ?_
  simp only [RA.add]
  refine RA.n (by rfl) (by rfl) ?_
  simp only [RA.add]
  repeat (first | refine RA.mv (by rfl) (by rfl) (by rfl) ?_ | refine RA.as (by rfl) (by rfl) (by rfl) ?_ | refine RA.pt (by rfl) (by rfl) (by rfl) (by rfl) ?_ | refine RA.pf (by rfl) (by rfl) (by rfl) (by rfl) ?_)
  refine RA.n (by rfl) (by rfl) ?_
  simp only [RA.add]
  refine RA.n (by rfl) (by rfl) ?_
  simp only [RA.add]
  repeat (first | refine RA.mv (by rfl) (by rfl) (by rfl) ?_ | refine RA.as (by rfl) (by rfl) (by rfl) ?_ | refine RA.pt (by rfl) (by rfl) (by rfl) (by rfl) ?_ | refine RA.pf (by rfl) (by rfl) (by rfl) (by rfl) ?_)
  refine RA.bo (by rfl) (by rfl) (by rfl) (by rfl) (y' := .bool false) (fun w3 hp => bool_ne w3 _ _ _ _ _ rfl) ?_
  repeat (first | refine RA.mv (by rfl) (by rfl) (by rfl) ?_ | refine RA.as (by rfl) (by rfl) (by rfl) ?_ | refine RA.pt (by rfl) (by rfl) (by rfl) (by rfl) ?_ | refine RA.pf (by rfl) (by rfl) (by rfl) (by rfl) ?_)
  refine RA.n (by rfl) (by rfl) ?_
  simp only [RA.add]
  refine RA.n (by rfl) (by rfl) ?_
  simp only [RA.add]
  refine RA.n (by rfl) (by rfl) ?_
  simp only [RA.add]
  refine RA.n (by rfl) (by rfl) ?_
  simp only [RA.add]
  refine RA.n (by rfl) (by rfl) ?_
  simp only [RA.add]
  repeat (first | refine RA.mv (by rfl) (by rfl) (by rfl) ?_ | refine RA.as (by rfl) (by rfl) (by rfl) ?_ | refine RA.pt (by rfl) (by rfl) (by rfl) (by rfl) ?_ | refine RA.pf (by rfl) (by rfl) (by rfl) (by rfl) ?_)
  refine RA.nt (by rfl) (by rfl) (by rfl) ?_
  repeat (first | refine RA.mv (by rfl) (by rfl) (by rfl) ?_ | refine RA.as (by rfl) (by rfl) (by rfl) ?_ | refine RA.pt (by rfl) (by rfl) (by rfl) (by rfl) ?_ | refine RA.pf (by rfl) (by rfl) (by rfl) (by rfl) ?_)
  refine RA.ld (by rfl) (by rfl) (by rfl) (y' := .agg #[.int .i64 (0), .int .i64 (0)]) (fun w3 hp => (Xp1.out.chg (hdr _ hp.1)).ld) ?_
  refine RA.v Try.prog (x := .agg #[.int .i64 (0), .int .i64 (0)]) (by rfl) (by rfl) (by rfl) (fun w hp => by go_simp) ?_
  simp only [RA.add]
  refine RA.bo (by rfl) (by rfl) (by rfl) (by rfl) (y' := .bool false) (fun w3 hp => area_ne w3 _ _ _ _ _ _ _ (by first | decide | (simp; done) | (simp; omega))) ?_
  repeat (first | refine RA.mv (by rfl) (by rfl) (by rfl) ?_ | refine RA.as (by rfl) (by rfl) (by rfl) ?_ | refine RA.pt (by rfl) (by rfl) (by rfl) (by rfl) ?_ | refine RA.pf (by rfl) (by rfl) (by rfl) (by rfl) ?_)
  refine RA.n (by rfl) (by rfl) ?_
  simp only [RA.add]
  refine RA.n (by rfl) (by rfl) ?_
  simp only [RA.add]
  refine RA.n (by rfl) (by rfl) ?_
  simp only [RA.add]
  refine RA.n (by rfl) (by rfl) ?_
  simp only [RA.add]
  repeat (first | refine RA.mv (by rfl) (by rfl) (by rfl) ?_ | refine RA.as (by rfl) (by rfl) (by rfl) ?_ | refine RA.pt (by rfl) (by rfl) (by rfl) (by rfl) ?_ | refine RA.pf (by rfl) (by rfl) (by rfl) (by rfl) ?_)
  refine RA.nt (by rfl) (by rfl) (by rfl) ?_
  repeat (first | refine RA.mv (by rfl) (by rfl) (by rfl) ?_ | refine RA.as (by rfl) (by rfl) (by rfl) ?_ | refine RA.pt (by rfl) (by rfl) (by rfl) (by rfl) ?_ | refine RA.pf (by rfl) (by rfl) (by rfl) (by rfl) ?_)
  refine RA.ld (by rfl) (by rfl) (by rfl) (y' := .agg #[.int .i64 (0), .int .i64 (0)]) (fun w3 hp => (Xp2.out.chg (hdr _ hp.1)).ld) ?_
  refine RA.v Try.prog (x := .agg #[.int .i64 (0), .int .i64 (0)]) (by rfl) (by rfl) (by rfl) (fun w hp => by go_simp) ?_
  simp only [RA.add]
  refine RA.bo (by rfl) (by rfl) (by rfl) (by rfl) (y' := .bool false) (fun w3 hp => area_ne w3 _ _ _ _ _ _ _ (by first | decide | (simp; done) | (simp; omega))) ?_
  repeat (first | refine RA.mv (by rfl) (by rfl) (by rfl) ?_ | refine RA.as (by rfl) (by rfl) (by rfl) ?_ | refine RA.pt (by rfl) (by rfl) (by rfl) (by rfl) ?_ | refine RA.pf (by rfl) (by rfl) (by rfl) (by rfl) ?_)
  refine RA.RA.done rfl (fun w9 hR hF hH => ?_)
  clear hF hH
  simp only [RA.put, List.foldr_cons, List.foldr_nil, cx, Act.put, List.setIfInBounds_toArray, List.set_cons_succ, List.set_cons_zero]
  try simp only [Bool.not_true]
  try simp only [Bool.not_false]
  have hb := (hdr _ hR).no
  replace B := Lib.hid (B.out.trans (hb.mono B.out.size))
  replace Xp0 := Lib.hid (Xp0.out.keep hb)
  replace Xp1 := Lib.hid (Xp1.out.keep hb)
  replace Xp2 := Lib.hid (Xp2.out.keep hb)
  clear hb hR hdr
  have ap0 := Xp0.out.c0
  have bp0 := Xp0.out.c1
  have lp0 := Xp0.out.lt
  have fp0 := fun j => frozen_of Xp0.out j
  clear fp0
  go_wp2_with fail
  clear ap0 bp0 lp0
  refine (split_at HME.out HDA.out HSP.out _).mono ?_
  rintro e w5 ⟨rfl, hb⟩
  replace B := Lib.hid (B.out.trans (hb.mono B.out.size))
  replace Xp0 := Lib.hid (Xp0.out.keep hb)
  replace Xp1 := Lib.hid (Xp1.out.keep hb)
  replace Xp2 := Lib.hid (Xp2.out.keep hb)
  clear hb
  have ap0 := Xp0.out.c0
  have bp0 := Xp0.out.c1
  have lp0 := Xp0.out.lt
  have fp0 := fun j => frozen_of Xp0.out j
  clear fp0
  replace B := Lib.hid (B.out.alloc B.out.size (.cells #[.int .i64 (x), .int .i64 (y - e2)] 46))
  replace Xp0 := Lib.hid (Xp0.out.alloc (.cells #[.int .i64 (x), .int .i64 (y - e2)] 46))
  replace Xp1 := Lib.hid (Xp1.out.alloc (.cells #[.int .i64 (x), .int .i64 (y - e2)] 46))
  replace Xp2 := Lib.hid (Xp2.out.alloc (.cells #[.int .i64 (x), .int .i64 (y - e2)] 46))
  have xp3 := box_new (w5) (x) (y - e2)
  have Xp3 := Lib.hid xp3
  clear xp3
  replace B := Lib.hid (B.out.alloc B.out.size (.cells #[.int .i64 (dx), .int .i64 (e2)] 46))
  replace Xp0 := Lib.hid (Xp0.out.alloc (.cells #[.int .i64 (dx), .int .i64 (e2)] 46))
  replace Xp1 := Lib.hid (Xp1.out.alloc (.cells #[.int .i64 (dx), .int .i64 (e2)] 46))
  replace Xp2 := Lib.hid (Xp2.out.alloc (.cells #[.int .i64 (dx), .int .i64 (e2)] 46))
  replace Xp3 := Lib.hid (Xp3.out.alloc (.cells #[.int .i64 (dx), .int .i64 (e2)] 46))
  have xp4 := box_new ((w5).alloc (.cells #[.int .i64 (x), .int .i64 (y - e2)] 46)) (dx) (e2)
  simp only [World.size_alloc] at xp4
  have Xp4 := Lib.hid xp4
  clear xp4
  go_wp2_with fail
  obtain ⟨p4, hp4⟩ : ∃ p4, p4 = w5.heap.size + 1 := ⟨_, rfl⟩
  rw [← hp4] at Xp4 ⊢
  clear hp4
  obtain ⟨p3, hp3⟩ : ∃ p3, p3 = w5.heap.size := ⟨_, rfl⟩
  rw [← hp3] at Xp3 ⊢
  clear hp3
  generalize ((w5).alloc (.cells #[.int .i64 (x), .int .i64 (y - e2)] 46)).alloc (.cells #[.int .i64 (dx), .int .i64 (e2)] 46) = W6 at *
  clear ap0 bp0 lp0
  refine (rsplit_at HSP.out _).mono ?_
  rintro e w7 ⟨rfl, hb⟩
  replace B := Lib.hid (B.out.trans (hb.mono B.out.size))
  replace Xp0 := Lib.hid (Xp0.out.keep hb)
  replace Xp1 := Lib.hid (Xp1.out.keep hb)
  replace Xp2 := Lib.hid (Xp2.out.keep hb)
  replace Xp3 := Lib.hid (Xp3.out.keep hb)
  replace Xp4 := Lib.hid (Xp4.out.keep hb)
  clear hb
  go_wp2_with fail
  have hdr : ∀ w3, Chg No w7.drew w3 → Chg No w7 w3 := fun w3 h => ⟨h.os, h.tape, h.output, h.size, h.block⟩
  refine RA.region (fun a b => Chg No a b) (· = ·) [1, 1, 1, 1, 1, 1, 1, 0, 0, 0, 0, 0, 0, 0, 0, 1, 1, 1, 1, 1, 1, 1, 4, 1, 1, 1, 1, 1, 1, 1, 1, 1, 1, 1, 1, 1, 1, 1, 1, 1, 1, 1, 1] (fun _ _ _ => True) (fun _ => True) (by kernel_rfl) (Chg.refl _ _) (fun _ _ h => h ▸ Chg.refl _ _) (fun _ _ _ h k => h.trans k) (fun _ _ h k => h ▸ k) trivial (by kernel_rfl) ?_
  intro cx
  repeat (first | refine RA.mv (by rfl) (by rfl) (by rfl) ?_ | refine RA.as (by rfl) (by rfl) (by rfl) ?_ | refine RA.pt (by rfl) (by rfl) (by rfl) (by rfl) ?_ | refine RA.pf (by rfl) (by rfl) (by rfl) (by rfl) ?_)
  refine RA.bo (by rfl) (by rfl) (by rfl) (by rfl) (y' := .bool false) (fun w3 hp => bool_ne w3 _ _ _ _ _ rfl) ?_
  repeat (first | refine RA.mv (by rfl) (by rfl) (by rfl) ?_ | refine RA.as (by rfl) (by rfl) (by rfl) ?_ | refine RA.pt (by rfl) (by rfl) (by rfl) (by rfl) ?_ | refine RA.pf (by rfl) (by rfl) (by rfl) (by rfl) ?_)
  refine RA.nt (by rfl) (by rfl) (by rfl) ?_
  repeat (first | refine RA.mv (by rfl) (by rfl) (by rfl) ?_ | refine RA.as (by rfl) (by rfl) (by rfl) ?_ | refine RA.pt (by rfl) (by rfl) (by rfl) (by rfl) ?_ | refine RA.pf (by rfl) (by rfl) (by rfl) (by rfl) ?_)
  refine RA.n (by rfl) (by rfl) ?_
  simp only [RA.add]
  refine RA.n (by rfl) (by rfl) ?_
  simp only [RA.add]
  refine RA.n (by rfl) (by rfl) ?_
  simp only [RA.add]
  refine RA.n (by rfl) (by rfl) ?_
  simp only [RA.add]
  refine RA.n (by rfl) (by rfl) ?_
  simp only [RA.add]
  refine RA.n (by rfl) (by rfl) ?_
  simp only [RA.add]
  refine RA.n (by rfl) (by rfl) ?_
  simp only [RA.add]
  refine RA.n (by rfl) (by rfl) ?_
  simp only [RA.add]
  repeat (first | refine RA.mv (by rfl) (by rfl) (by rfl) ?_ | refine RA.as (by rfl) (by rfl) (by rfl) ?_ | refine RA.pt (by rfl) (by rfl) (by rfl) (by rfl) ?_ | refine RA.pf (by rfl) (by rfl) (by rfl) (by rfl) ?_)
  refine RA.ld (by rfl) (by rfl) (by rfl) (y' := .agg #[.int .i64 (dx), .int .i64 (e2)]) (fun w3 hp => (Xp4.out.chg (hdr _ hp.1)).ld) ?_
  refine RA.ld (by rfl) (by rfl) (by rfl) (y' := .agg #[.int .i64 (x), .int .i64 (y)]) (fun w3 hp => (Xp0.out.chg (hdr _ hp.1)).ld) ?_
  refine RA.kc (P := Try.prog) [_] (.agg #[.int .i64 (dx), .int .i64 (e2)]) (fun _ => True) (fun _ _ => by go_simp) (by rfl) (by rfl) (by rfl) (by kernel_rfl) (fun _ _ _ h => h) rfl (fun w3 hp hH => (rdata_at HDA.out HSP.out _).mono (by rintro e w4 ⟨rfl, h2⟩; exact ⟨rfl, Chg.of_below h2 _, trivial⟩)) ?_
  refine RA.bo (by rfl) (by rfl) (by rfl) (by rfl) (y' := .bool false) (fun w3 hp => area_ne w3 _ _ _ _ _ _ _ (by first | decide | (simp; done) | (simp; omega))) ?_
  repeat (first | refine RA.mv (by rfl) (by rfl) (by rfl) ?_ | refine RA.as (by rfl) (by rfl) (by rfl) ?_ | refine RA.pt (by rfl) (by rfl) (by rfl) (by rfl) ?_ | refine RA.pf (by rfl) (by rfl) (by rfl) (by rfl) ?_)
  refine RA.fa (by rfl) (by rfl) (by rfl) (y' := .pointer (some ⟨p3, 0, none⟩)) (fun w3 hp => by show (Instr.fieldAt _ _ _).run Try.prog w3 = _; go_simp) ?_
  refine RA.ld (by rfl) (by rfl) (by rfl) (y' := .int .i64 (x)) (fun w3 hp => by
    have h1 := (Xp3.out.chg (hdr _ hp.1)).c0
    show (Instr.loadAt _ _).run Try.prog w3 = _
    go_simp) ?_
  refine RA.fa (by rfl) (by rfl) (by rfl) (y' := .pointer (some ⟨p0, 0, none⟩)) (fun w3 hp => by show (Instr.fieldAt _ _ _).run Try.prog w3 = _; go_simp) ?_
  refine RA.ld (by rfl) (by rfl) (by rfl) (y' := .int .i64 (x)) (fun w3 hp => by
    have h1 := (Xp0.out.chg (hdr _ hp.1)).c0
    show (Instr.loadAt _ _).run Try.prog w3 = _
    go_simp) ?_
  refine RA.ne false (by rfl) (by rfl) (by rfl) (by rfl) (by first | rfl | (simp; done) | (simp; omega)) ?_
  repeat (first | refine RA.mv (by rfl) (by rfl) (by rfl) ?_ | refine RA.as (by rfl) (by rfl) (by rfl) ?_ | refine RA.pt (by rfl) (by rfl) (by rfl) (by rfl) ?_ | refine RA.pf (by rfl) (by rfl) (by rfl) (by rfl) ?_)
  refine RA.fa (by rfl) (by rfl) (by rfl) (y' := .pointer (some ⟨p3, 1, none⟩)) (fun w3 hp => by show (Instr.fieldAt _ _ _).run Try.prog w3 = _; go_simp) ?_
  refine RA.ld (by rfl) (by rfl) (by rfl) (y' := .int .i64 (y - e2)) (fun w3 hp => by
    have h1 := (Xp3.out.chg (hdr _ hp.1)).c1
    show (Instr.loadAt _ _).run Try.prog w3 = _
    go_simp) ?_
  refine RA.fa (by rfl) (by rfl) (by rfl) (y' := .pointer (some ⟨p0, 1, none⟩)) (fun w3 hp => by show (Instr.fieldAt _ _ _).run Try.prog w3 = _; go_simp) ?_
  refine RA.ld (by rfl) (by rfl) (by rfl) (y' := .int .i64 (y)) (fun w3 hp => by
    have h1 := (Xp0.out.chg (hdr _ hp.1)).c1
    show (Instr.loadAt _ _).run Try.prog w3 = _
    go_simp) ?_
  refine RA.fa (by rfl) (by rfl) (by rfl) (y' := .pointer (some ⟨p4, 1, none⟩)) (fun w3 hp => by show (Instr.fieldAt _ _ _).run Try.prog w3 = _; go_simp) ?_
  refine RA.ld (by rfl) (by rfl) (by rfl) (y' := .int .i64 (e2)) (fun w3 hp => by
    have h1 := (Xp4.out.chg (hdr _ hp.1)).c1
    show (Instr.loadAt _ _).run Try.prog w3 = _
    go_simp) ?_
  refine RA.si (by rfl) (by rfl) (by rfl) (by rfl) (y - e2) (by omega) (by omega) ?_
  refine RA.ne false (by rfl) (by rfl) (by rfl) (by rfl) (by first | rfl | (simp; done) | (simp; omega)) ?_
  repeat (first | refine RA.mv (by rfl) (by rfl) (by rfl) ?_ | refine RA.as (by rfl) (by rfl) (by rfl) ?_ | refine RA.pt (by rfl) (by rfl) (by rfl) (by rfl) ?_ | refine RA.pf (by rfl) (by rfl) (by rfl) (by rfl) ?_)
  refine RA.RA.done rfl (fun w9 hR hF hH => ?_)
  clear hF hH
  simp only [RA.put, List.foldr_cons, List.foldr_nil, cx, Act.put, List.setIfInBounds_toArray, List.set_cons_succ, List.set_cons_zero]
  try simp only [Bool.not_true]
  try simp only [Bool.not_false]
  have hb := (hdr _ hR).no
  replace B := Lib.hid (B.out.trans (hb.mono B.out.size))
  replace Xp0 := Lib.hid (Xp0.out.keep hb)
  replace Xp1 := Lib.hid (Xp1.out.keep hb)
  replace Xp2 := Lib.hid (Xp2.out.keep hb)
  replace Xp3 := Lib.hid (Xp3.out.keep hb)
  replace Xp4 := Lib.hid (Xp4.out.keep hb)
  clear hb hR hdr
  have ap0 := Xp0.out.c0
  have bp0 := Xp0.out.c1
  have lp0 := Xp0.out.lt
  have fp0 := fun j => frozen_of Xp0.out j
  clear fp0
  go_wp2_with fail
  clear ap0 bp0 lp0
  refine (inside_at HI1.out HI2.out _).mono ?_
  rintro e w8 ⟨rfl, hb⟩
  replace B := Lib.hid (B.out.trans (hb.mono B.out.size))
  replace Xp0 := Lib.hid (Xp0.out.keep hb)
  replace Xp1 := Lib.hid (Xp1.out.keep hb)
  replace Xp2 := Lib.hid (Xp2.out.keep hb)
  replace Xp3 := Lib.hid (Xp3.out.keep hb)
  replace Xp4 := Lib.hid (Xp4.out.keep hb)
  clear hb
  have ap0 := Xp0.out.c0
  have bp0 := Xp0.out.c1
  have lp0 := Xp0.out.lt
  have fp0 := fun j => frozen_of Xp0.out j
  clear fp0
  replace B := Lib.hid (B.out.alloc B.out.size (.cells #[.int .i64 (if1), .int .i64 (ic1)] 46))
  replace Xp0 := Lib.hid (Xp0.out.alloc (.cells #[.int .i64 (if1), .int .i64 (ic1)] 46))
  replace Xp1 := Lib.hid (Xp1.out.alloc (.cells #[.int .i64 (if1), .int .i64 (ic1)] 46))
  replace Xp2 := Lib.hid (Xp2.out.alloc (.cells #[.int .i64 (if1), .int .i64 (ic1)] 46))
  replace Xp3 := Lib.hid (Xp3.out.alloc (.cells #[.int .i64 (if1), .int .i64 (ic1)] 46))
  replace Xp4 := Lib.hid (Xp4.out.alloc (.cells #[.int .i64 (if1), .int .i64 (ic1)] 46))
  have xp5 := box_new (w8) (if1) (ic1)
  have Xp5 := Lib.hid xp5
  clear xp5
  go_wp2_with fail
  obtain ⟨p5, hp5⟩ : ∃ p5, p5 = w8.heap.size := ⟨_, rfl⟩
  rw [← hp5] at Xp5 ⊢
  clear hp5
  generalize (w8).alloc (.cells #[.int .i64 (if1), .int .i64 (ic1)] 46) = W9 at *
  clear ap0 bp0 lp0
  refine (rinside_at HI1.out HI2.out _).mono ?_
  rintro e w10 ⟨rfl, hb⟩
  replace B := Lib.hid (B.out.trans (hb.mono B.out.size))
  replace Xp0 := Lib.hid (Xp0.out.keep hb)
  replace Xp1 := Lib.hid (Xp1.out.keep hb)
  replace Xp2 := Lib.hid (Xp2.out.keep hb)
  replace Xp3 := Lib.hid (Xp3.out.keep hb)
  replace Xp4 := Lib.hid (Xp4.out.keep hb)
  replace Xp5 := Lib.hid (Xp5.out.keep hb)
  clear hb
  have ap5 := Xp5.out.c0
  have bp5 := Xp5.out.c1
  have lp5 := Xp5.out.lt
  have fp5 := fun j => frozen_of Xp5.out j
  clear fp5
  replace B := Lib.hid (B.out.alloc B.out.size (.cells #[.int .i64 (if1), .int .i64 (ic1)] 46))
  replace Xp0 := Lib.hid (Xp0.out.alloc (.cells #[.int .i64 (if1), .int .i64 (ic1)] 46))
  replace Xp1 := Lib.hid (Xp1.out.alloc (.cells #[.int .i64 (if1), .int .i64 (ic1)] 46))
  replace Xp2 := Lib.hid (Xp2.out.alloc (.cells #[.int .i64 (if1), .int .i64 (ic1)] 46))
  replace Xp3 := Lib.hid (Xp3.out.alloc (.cells #[.int .i64 (if1), .int .i64 (ic1)] 46))
  replace Xp4 := Lib.hid (Xp4.out.alloc (.cells #[.int .i64 (if1), .int .i64 (ic1)] 46))
  replace Xp5 := Lib.hid (Xp5.out.alloc (.cells #[.int .i64 (if1), .int .i64 (ic1)] 46))
  have xp6 := box_new (w10) (if1) (ic1)
  have Xp6 := Lib.hid xp6
  clear xp6
  go_wp2_with fail
  obtain ⟨p6, hp6⟩ : ∃ p6, p6 = w10.heap.size := ⟨_, rfl⟩
  rw [← hp6] at Xp6 ⊢
  clear hp6
  generalize (w10).alloc (.cells #[.int .i64 (if1), .int .i64 (ic1)] 46) = W11 at *
  clear ap5 bp5 lp5
  refine (awake14_ok _).mono ?_
  rintro e w12 ⟨rfl, hb⟩
  replace B := Lib.hid (B.out.trans (hb.mono B.out.size))
  replace Xp0 := Lib.hid (Xp0.out.keep hb)
  replace Xp1 := Lib.hid (Xp1.out.keep hb)
  replace Xp2 := Lib.hid (Xp2.out.keep hb)
  replace Xp3 := Lib.hid (Xp3.out.keep hb)
  replace Xp4 := Lib.hid (Xp4.out.keep hb)
  replace Xp5 := Lib.hid (Xp5.out.keep hb)
  replace Xp6 := Lib.hid (Xp6.out.keep hb)
  clear hb
  have hfin := B.out
  go_wp2_with fail
  go_ret
  exact ⟨rfl, hfin⟩

set_option maxRecDepth 100000 in
set_option maxHeartbeats 8000000 in
theorem planTells_d2 (n k x y f c : Int) (hm : mayB n = false) (hs : slotB n k = false) (hsp : splitB (x, y) = false) (w : World) : Calls Try.prog 6 #[.int .i64 n, .int .i64 k, .agg #[.int .i64 x, .int .i64 y], .int .i64 f, .int .i64 c] w fun e w' => e = .returned (.bool true) ∧ Below w.heap.size w w' := by
  have hs1 : slotA n k = (0, 0) := by simp [slotA, hs]
  have hw1 : wholeA n = (0, 0) := by simp [wholeA, hm]
  have hme : metaA (x, y) = (0, 0) := by simp [metaA, hsp]
  have hda : dataA (x, y) = (0, 0) := by simp [dataA, hsp]
  obtain ⟨if1, ic1, hi1⟩ : ∃ p q, insideA (x, y) f c = (p, q) := ⟨_, _, rfl⟩
  obtain ⟨ib, hi2⟩ : ∃ b, insideB (x, y) f c = b := ⟨_, rfl⟩
  have HM := Lib.hid hm
  have HS := Lib.hid hs
  have HS1 := Lib.hid hs1
  have HW1 := Lib.hid hw1
  have HSP := Lib.hid hsp
  have HME := Lib.hid hme
  have HDA := Lib.hid hda
  have HI1 := Lib.hid hi1
  have HI2 := Lib.hid hi2
  clear hm hs hs1 hw1 hsp hme hda hi1 hi2
  have hag := area_guard
  have hae := area_eql
  have B := Lib.hid ((Below.refl _ w).alloc (Nat.le_refl _) (.cells #[.int .i64 x, .int .i64 y] 46))
  have Xp0 := Lib.hid (box_new w x y)
  go_enter Try.func6, Try.ntmps6
  go_wp2_with fail
  obtain ⟨p0, hp0⟩ : ∃ p0, p0 = w.heap.size := ⟨_, rfl⟩
  rw [← hp0] at Xp0 ⊢
  obtain ⟨W0, hW0⟩ : ∃ W0, W0 = w.alloc (.cells #[.int .i64 x, .int .i64 y] 46) := ⟨_, rfl⟩
  rw [← hW0] at B Xp0 ⊢
  clear hp0 hW0
  refine (slot_at HS1.out HS.out _).mono ?_
  rintro e w1 ⟨rfl, hb⟩
  replace B := Lib.hid (B.out.trans (hb.mono B.out.size))
  replace Xp0 := Lib.hid (Xp0.out.keep hb)
  clear hb
  replace B := Lib.hid (B.out.alloc B.out.size (.cells #[.int .i64 (0), .int .i64 (0)] 46))
  replace Xp0 := Lib.hid (Xp0.out.alloc (.cells #[.int .i64 (0), .int .i64 (0)] 46))
  have xp1 := box_new (w1) (0) (0)
  have Xp1 := Lib.hid xp1
  clear xp1
  go_wp2_with fail
  obtain ⟨p1, hp1⟩ : ∃ p1, p1 = w1.heap.size := ⟨_, rfl⟩
  rw [← hp1] at Xp1 ⊢
  clear hp1
  generalize (w1).alloc (.cells #[.int .i64 (0), .int .i64 (0)] 46) = W2 at *
  refine (whole_at HW1.out HM.out _).mono ?_
  rintro e w3 ⟨rfl, hb⟩
  replace B := Lib.hid (B.out.trans (hb.mono B.out.size))
  replace Xp0 := Lib.hid (Xp0.out.keep hb)
  replace Xp1 := Lib.hid (Xp1.out.keep hb)
  clear hb
  replace B := Lib.hid (B.out.alloc B.out.size (.cells #[.int .i64 (0), .int .i64 (0)] 46))
  replace Xp0 := Lib.hid (Xp0.out.alloc (.cells #[.int .i64 (0), .int .i64 (0)] 46))
  replace Xp1 := Lib.hid (Xp1.out.alloc (.cells #[.int .i64 (0), .int .i64 (0)] 46))
  have xp2 := box_new (w3) (0) (0)
  have Xp2 := Lib.hid xp2
  clear xp2
  go_wp2_with fail
  obtain ⟨p2, hp2⟩ : ∃ p2, p2 = w3.heap.size := ⟨_, rfl⟩
  rw [← hp2] at Xp2 ⊢
  clear hp2
  generalize (w3).alloc (.cells #[.int .i64 (0), .int .i64 (0)] 46) = W4 at *
  refine (rmay_at HM.out _).mono ?_
  rintro e w1 ⟨rfl, rfl⟩
  go_wp2_with fail
  have hdr : ∀ w3, Chg No W4.drew w3 → Chg No W4 w3 := fun w3 h => ⟨h.os, h.tape, h.output, h.size, h.block⟩
  refine RA.region (fun a b => Chg No a b) (· = ·) [1, 4, 1, 1, 1, 1, 1, 1, 1, 1, 1, 1, 1, 0, 0, 1, 1, 0, 0, 1, 1, 1, 1, 1, 1, 0, 0, 0, 0, 0, 1, 1, 1, 1, 1, 1, 1, 1, 1, 1, 1, 1, 1, 1, 0, 0, 0, 0, 1, 1, 1, 1, 1, 1, 1, 1, 1, 1, 1] (fun _ _ _ => True) (fun _ => True) (by kernel_rfl) (Chg.refl _ _) (fun _ _ h => h ▸ Chg.refl _ _) (fun _ _ _ h k => h.trans k) (fun _ _ h k => h ▸ k) trivial (by kernel_rfl) ?_
  intro cx
  repeat (first | refine RA.mv (by rfl) (by rfl) (by rfl) ?_ | refine RA.as (by rfl) (by rfl) (by rfl) ?_ | refine RA.pt (by rfl) (by rfl) (by rfl) (by rfl) ?_ | refine RA.pf (by rfl) (by rfl) (by rfl) (by rfl) ?_)
  refine RA.kc (P := Try.prog) [_] (.bool false) (fun _ => True) (fun _ _ => by go_simp) (by rfl) (by rfl) (by rfl) (by kernel_rfl) (fun _ _ _ h => h) rfl (fun w3 hp hH => (may_at HM.out _).mono (by rintro e w4 ⟨rfl, rfl⟩; exact ⟨rfl, Chg.refl _ _, trivial⟩)) ?_
  repeat (first | refine RA.mv (by rfl) (by rfl) (by rfl) ?_ | refine RA.as (by rfl) (by rfl) (by rfl) ?_ | refine RA.pt (by rfl) (by rfl) (by rfl) (by rfl) ?_ | refine RA.pf (by rfl) (by rfl) (by rfl) (by rfl) ?_)
  refine RA.bo (by rfl) (by rfl) (by rfl) (by rfl) (y' := .bool false) (fun w3 hp => bool_ne w3 _ _ _ _ _ rfl) ?_
  repeat (first | refine RA.mv (by rfl) (by rfl) (by rfl) ?_ | refine RA.as (by rfl) (by rfl) (by rfl) ?_ | refine RA.pt (by rfl) (by rfl) (by rfl) (by rfl) ?_ | refine RA.pf (by rfl) (by rfl) (by rfl) (by rfl) ?_)
  refine RA.bo (by rfl) (by rfl) (by rfl) (by rfl) (y' := .bool false) (fun w3 hp => bool_ne w3 _ _ _ _ _ rfl) ?_
  repeat (first | refine RA.mv (by rfl) (by rfl) (by rfl) ?_ | refine RA.as (by rfl) (by rfl) (by rfl) ?_ | refine RA.pt (by rfl) (by rfl) (by rfl) (by rfl) ?_ | refine RA.pf (by rfl) (by rfl) (by rfl) (by rfl) ?_)
  refine RA.n (by rfl) (by rfl) ?_
  simp only [RA.add]
  refine RA.n (by rfl) (by rfl) ?_
  simp only [RA.add]
  repeat (first | refine RA.mv (by rfl) (by rfl) (by rfl) ?_ | refine RA.as (by rfl) (by rfl) (by rfl) ?_ | refine RA.pt (by rfl) (by rfl) (by rfl) (by rfl) ?_ | refine RA.pf (by rfl) (by rfl) (by rfl) (by rfl) ?_)
  refine RA.n (by rfl) (by rfl) ?_
  simp only [RA.add]
  refine RA.n (by rfl) (by rfl) ?_
  simp only [RA.add]
  repeat (first | refine RA.mv (by rfl) (by rfl) (by rfl) ?_ | refine RA.as (by rfl) (by rfl) (by rfl) ?_ | refine RA.pt (by rfl) (by rfl) (by rfl) (by rfl) ?_ | refine RA.pf (by rfl) (by rfl) (by rfl) (by rfl) ?_)
  refine RA.bo (by rfl) (by rfl) (by rfl) (by rfl) (y' := .bool false) (fun w3 hp => bool_ne w3 _ _ _ _ _ rfl) ?_
  repeat (first | refine RA.mv (by rfl) (by rfl) (by rfl) ?_ | refine RA.as (by rfl) (by rfl) (by rfl) ?_ | refine RA.pt (by rfl) (by rfl) (by rfl) (by rfl) ?_ | refine RA.pf (by rfl) (by rfl) (by rfl) (by rfl) ?_)
  refine RA.n (by rfl) (by rfl) ?_
  simp only [RA.add]
  refine RA.n (by rfl) (by rfl) ?_
  simp only [RA.add]
  refine RA.n (by rfl) (by rfl) ?_
  simp only [RA.add]
  refine RA.n (by rfl) (by rfl) ?_
  simp only [RA.add]
  refine RA.n (by rfl) (by rfl) ?_
  simp only [RA.add]
  repeat (first | refine RA.mv (by rfl) (by rfl) (by rfl) ?_ | refine RA.as (by rfl) (by rfl) (by rfl) ?_ | refine RA.pt (by rfl) (by rfl) (by rfl) (by rfl) ?_ | refine RA.pf (by rfl) (by rfl) (by rfl) (by rfl) ?_)
  refine RA.nt (by rfl) (by rfl) (by rfl) ?_
  repeat (first | refine RA.mv (by rfl) (by rfl) (by rfl) ?_ | refine RA.as (by rfl) (by rfl) (by rfl) ?_ | refine RA.pt (by rfl) (by rfl) (by rfl) (by rfl) ?_ | refine RA.pf (by rfl) (by rfl) (by rfl) (by rfl) ?_)
  refine RA.ld (by rfl) (by rfl) (by rfl) (y' := .agg #[.int .i64 (0), .int .i64 (0)]) (fun w3 hp => (Xp1.out.chg (hdr _ hp.1)).ld) ?_
  refine RA.v Try.prog (x := .agg #[.int .i64 (0), .int .i64 (0)]) (by rfl) (by rfl) (by rfl) (fun w hp => by go_simp) ?_
  simp only [RA.add]
  refine RA.bo (by rfl) (by rfl) (by rfl) (by rfl) (y' := .bool false) (fun w3 hp => area_ne w3 _ _ _ _ _ _ _ (by first | decide | (simp; done) | (simp; omega))) ?_
  repeat (first | refine RA.mv (by rfl) (by rfl) (by rfl) ?_ | refine RA.as (by rfl) (by rfl) (by rfl) ?_ | refine RA.pt (by rfl) (by rfl) (by rfl) (by rfl) ?_ | refine RA.pf (by rfl) (by rfl) (by rfl) (by rfl) ?_)
  refine RA.n (by rfl) (by rfl) ?_
  simp only [RA.add]
  refine RA.n (by rfl) (by rfl) ?_
  simp only [RA.add]
  refine RA.n (by rfl) (by rfl) ?_
  simp only [RA.add]
  refine RA.n (by rfl) (by rfl) ?_
  simp only [RA.add]
  repeat (first | refine RA.mv (by rfl) (by rfl) (by rfl) ?_ | refine RA.as (by rfl) (by rfl) (by rfl) ?_ | refine RA.pt (by rfl) (by rfl) (by rfl) (by rfl) ?_ | refine RA.pf (by rfl) (by rfl) (by rfl) (by rfl) ?_)
  refine RA.nt (by rfl) (by rfl) (by rfl) ?_
  repeat (first | refine RA.mv (by rfl) (by rfl) (by rfl) ?_ | refine RA.as (by rfl) (by rfl) (by rfl) ?_ | refine RA.pt (by rfl) (by rfl) (by rfl) (by rfl) ?_ | refine RA.pf (by rfl) (by rfl) (by rfl) (by rfl) ?_)
  refine RA.ld (by rfl) (by rfl) (by rfl) (y' := .agg #[.int .i64 (0), .int .i64 (0)]) (fun w3 hp => (Xp2.out.chg (hdr _ hp.1)).ld) ?_
  refine RA.v Try.prog (x := .agg #[.int .i64 (0), .int .i64 (0)]) (by rfl) (by rfl) (by rfl) (fun w hp => by go_simp) ?_
  simp only [RA.add]
  refine RA.bo (by rfl) (by rfl) (by rfl) (by rfl) (y' := .bool false) (fun w3 hp => area_ne w3 _ _ _ _ _ _ _ (by first | decide | (simp; done) | (simp; omega))) ?_
  repeat (first | refine RA.mv (by rfl) (by rfl) (by rfl) ?_ | refine RA.as (by rfl) (by rfl) (by rfl) ?_ | refine RA.pt (by rfl) (by rfl) (by rfl) (by rfl) ?_ | refine RA.pf (by rfl) (by rfl) (by rfl) (by rfl) ?_)
  refine RA.RA.done rfl (fun w9 hR hF hH => ?_)
  clear hF hH
  simp only [RA.put, List.foldr_cons, List.foldr_nil, cx, Act.put, List.setIfInBounds_toArray, List.set_cons_succ, List.set_cons_zero]
  try simp only [Bool.not_true]
  try simp only [Bool.not_false]
  have hb := (hdr _ hR).no
  replace B := Lib.hid (B.out.trans (hb.mono B.out.size))
  replace Xp0 := Lib.hid (Xp0.out.keep hb)
  replace Xp1 := Lib.hid (Xp1.out.keep hb)
  replace Xp2 := Lib.hid (Xp2.out.keep hb)
  clear hb hR hdr
  have ap0 := Xp0.out.c0
  have bp0 := Xp0.out.c1
  have lp0 := Xp0.out.lt
  have fp0 := fun j => frozen_of Xp0.out j
  clear fp0
  go_wp2_with fail
  clear ap0 bp0 lp0
  refine (split_at HME.out HDA.out HSP.out _).mono ?_
  rintro e w5 ⟨rfl, hb⟩
  replace B := Lib.hid (B.out.trans (hb.mono B.out.size))
  replace Xp0 := Lib.hid (Xp0.out.keep hb)
  replace Xp1 := Lib.hid (Xp1.out.keep hb)
  replace Xp2 := Lib.hid (Xp2.out.keep hb)
  clear hb
  have ap0 := Xp0.out.c0
  have bp0 := Xp0.out.c1
  have lp0 := Xp0.out.lt
  have fp0 := fun j => frozen_of Xp0.out j
  clear fp0
  replace B := Lib.hid (B.out.alloc B.out.size (.cells #[.int .i64 (0), .int .i64 (0)] 46))
  replace Xp0 := Lib.hid (Xp0.out.alloc (.cells #[.int .i64 (0), .int .i64 (0)] 46))
  replace Xp1 := Lib.hid (Xp1.out.alloc (.cells #[.int .i64 (0), .int .i64 (0)] 46))
  replace Xp2 := Lib.hid (Xp2.out.alloc (.cells #[.int .i64 (0), .int .i64 (0)] 46))
  have xp3 := box_new (w5) (0) (0)
  have Xp3 := Lib.hid xp3
  clear xp3
  replace B := Lib.hid (B.out.alloc B.out.size (.cells #[.int .i64 (0), .int .i64 (0)] 46))
  replace Xp0 := Lib.hid (Xp0.out.alloc (.cells #[.int .i64 (0), .int .i64 (0)] 46))
  replace Xp1 := Lib.hid (Xp1.out.alloc (.cells #[.int .i64 (0), .int .i64 (0)] 46))
  replace Xp2 := Lib.hid (Xp2.out.alloc (.cells #[.int .i64 (0), .int .i64 (0)] 46))
  replace Xp3 := Lib.hid (Xp3.out.alloc (.cells #[.int .i64 (0), .int .i64 (0)] 46))
  have xp4 := box_new ((w5).alloc (.cells #[.int .i64 (0), .int .i64 (0)] 46)) (0) (0)
  simp only [World.size_alloc] at xp4
  have Xp4 := Lib.hid xp4
  clear xp4
  go_wp2_with fail
  obtain ⟨p4, hp4⟩ : ∃ p4, p4 = w5.heap.size + 1 := ⟨_, rfl⟩
  rw [← hp4] at Xp4 ⊢
  clear hp4
  obtain ⟨p3, hp3⟩ : ∃ p3, p3 = w5.heap.size := ⟨_, rfl⟩
  rw [← hp3] at Xp3 ⊢
  clear hp3
  generalize ((w5).alloc (.cells #[.int .i64 (0), .int .i64 (0)] 46)).alloc (.cells #[.int .i64 (0), .int .i64 (0)] 46) = W6 at *
  clear ap0 bp0 lp0
  refine (rsplit_at HSP.out _).mono ?_
  rintro e w7 ⟨rfl, hb⟩
  replace B := Lib.hid (B.out.trans (hb.mono B.out.size))
  replace Xp0 := Lib.hid (Xp0.out.keep hb)
  replace Xp1 := Lib.hid (Xp1.out.keep hb)
  replace Xp2 := Lib.hid (Xp2.out.keep hb)
  replace Xp3 := Lib.hid (Xp3.out.keep hb)
  replace Xp4 := Lib.hid (Xp4.out.keep hb)
  clear hb
  go_wp2_with fail
  have hdr : ∀ w3, Chg No w7.drew w3 → Chg No w7 w3 := fun w3 h => ⟨h.os, h.tape, h.output, h.size, h.block⟩
  refine RA.region (fun a b => Chg No a b) (· = ·) [1, 1, 1, 1, 1, 1, 1, 1, 1, 1, 1, 1, 1, 1, 1, 1, 1, 1, 1, 1, 0, 0, 0, 0, 0, 0, 0, 0, 0, 0, 0, 0, 0, 0, 0, 0, 0, 0, 0, 0, 0, 1, 1] (fun _ _ _ => True) (fun _ => True) (by kernel_rfl) (Chg.refl _ _) (fun _ _ h => h ▸ Chg.refl _ _) (fun _ _ _ h k => h.trans k) (fun _ _ h k => h ▸ k) trivial (by kernel_rfl) ?_
  intro cx
  repeat (first | refine RA.mv (by rfl) (by rfl) (by rfl) ?_ | refine RA.as (by rfl) (by rfl) (by rfl) ?_ | refine RA.pt (by rfl) (by rfl) (by rfl) (by rfl) ?_ | refine RA.pf (by rfl) (by rfl) (by rfl) (by rfl) ?_)
  refine RA.bo (by rfl) (by rfl) (by rfl) (by rfl) (y' := .bool false) (fun w3 hp => bool_ne w3 _ _ _ _ _ rfl) ?_
  repeat (first | refine RA.mv (by rfl) (by rfl) (by rfl) ?_ | refine RA.as (by rfl) (by rfl) (by rfl) ?_ | refine RA.pt (by rfl) (by rfl) (by rfl) (by rfl) ?_ | refine RA.pf (by rfl) (by rfl) (by rfl) (by rfl) ?_)
  refine RA.nt (by rfl) (by rfl) (by rfl) ?_
  repeat (first | refine RA.mv (by rfl) (by rfl) (by rfl) ?_ | refine RA.as (by rfl) (by rfl) (by rfl) ?_ | refine RA.pt (by rfl) (by rfl) (by rfl) (by rfl) ?_ | refine RA.pf (by rfl) (by rfl) (by rfl) (by rfl) ?_)
  refine RA.ld (by rfl) (by rfl) (by rfl) (y' := .agg #[.int .i64 (0), .int .i64 (0)]) (fun w3 hp => (Xp3.out.chg (hdr _ hp.1)).ld) ?_
  refine RA.v Try.prog (x := .agg #[.int .i64 (0), .int .i64 (0)]) (by rfl) (by rfl) (by rfl) (fun w hp => by go_simp) ?_
  simp only [RA.add]
  refine RA.bo (by rfl) (by rfl) (by rfl) (by rfl) (y' := .bool false) (fun w3 hp => area_ne w3 _ _ _ _ _ _ _ (by first | decide | (simp; done) | (simp; omega))) ?_
  repeat (first | refine RA.mv (by rfl) (by rfl) (by rfl) ?_ | refine RA.as (by rfl) (by rfl) (by rfl) ?_ | refine RA.pt (by rfl) (by rfl) (by rfl) (by rfl) ?_ | refine RA.pf (by rfl) (by rfl) (by rfl) (by rfl) ?_)
  refine RA.ld (by rfl) (by rfl) (by rfl) (y' := .agg #[.int .i64 (0), .int .i64 (0)]) (fun w3 hp => (Xp4.out.chg (hdr _ hp.1)).ld) ?_
  refine RA.v Try.prog (x := .agg #[.int .i64 (0), .int .i64 (0)]) (by rfl) (by rfl) (by rfl) (fun w hp => by go_simp) ?_
  simp only [RA.add]
  refine RA.bo (by rfl) (by rfl) (by rfl) (by rfl) (y' := .bool false) (fun w3 hp => area_ne w3 _ _ _ _ _ _ _ (by first | decide | (simp; done) | (simp; omega))) ?_
  repeat (first | refine RA.mv (by rfl) (by rfl) (by rfl) ?_ | refine RA.as (by rfl) (by rfl) (by rfl) ?_ | refine RA.pt (by rfl) (by rfl) (by rfl) (by rfl) ?_ | refine RA.pf (by rfl) (by rfl) (by rfl) (by rfl) ?_)
  refine RA.n (by rfl) (by rfl) ?_
  simp only [RA.add]
  refine RA.n (by rfl) (by rfl) ?_
  simp only [RA.add]
  refine RA.n (by rfl) (by rfl) ?_
  simp only [RA.add]
  refine RA.n (by rfl) (by rfl) ?_
  simp only [RA.add]
  refine RA.n (by rfl) (by rfl) ?_
  simp only [RA.add]
  refine RA.n (by rfl) (by rfl) ?_
  simp only [RA.add]
  refine RA.n (by rfl) (by rfl) ?_
  simp only [RA.add]
  refine RA.n (by rfl) (by rfl) ?_
  simp only [RA.add]
  refine RA.n (by rfl) (by rfl) ?_
  simp only [RA.add]
  refine RA.n (by rfl) (by rfl) ?_
  simp only [RA.add]
  refine RA.n (by rfl) (by rfl) ?_
  simp only [RA.add]
  refine RA.n (by rfl) (by rfl) ?_
  simp only [RA.add]
  refine RA.n (by rfl) (by rfl) ?_
  simp only [RA.add]
  refine RA.n (by rfl) (by rfl) ?_
  simp only [RA.add]
  refine RA.n (by rfl) (by rfl) ?_
  simp only [RA.add]
  refine RA.n (by rfl) (by rfl) ?_
  simp only [RA.add]
  refine RA.n (by rfl) (by rfl) ?_
  simp only [RA.add]
  refine RA.n (by rfl) (by rfl) ?_
  simp only [RA.add]
  refine RA.n (by rfl) (by rfl) ?_
  simp only [RA.add]
  refine RA.n (by rfl) (by rfl) ?_
  simp only [RA.add]
  refine RA.n (by rfl) (by rfl) ?_
  simp only [RA.add]
  repeat (first | refine RA.mv (by rfl) (by rfl) (by rfl) ?_ | refine RA.as (by rfl) (by rfl) (by rfl) ?_ | refine RA.pt (by rfl) (by rfl) (by rfl) (by rfl) ?_ | refine RA.pf (by rfl) (by rfl) (by rfl) (by rfl) ?_)
  refine RA.RA.done rfl (fun w9 hR hF hH => ?_)
  clear hF hH
  simp only [RA.put, List.foldr_cons, List.foldr_nil, cx, Act.put, List.setIfInBounds_toArray, List.set_cons_succ, List.set_cons_zero]
  try simp only [Bool.not_true]
  try simp only [Bool.not_false]
  have hb := (hdr _ hR).no
  replace B := Lib.hid (B.out.trans (hb.mono B.out.size))
  replace Xp0 := Lib.hid (Xp0.out.keep hb)
  replace Xp1 := Lib.hid (Xp1.out.keep hb)
  replace Xp2 := Lib.hid (Xp2.out.keep hb)
  replace Xp3 := Lib.hid (Xp3.out.keep hb)
  replace Xp4 := Lib.hid (Xp4.out.keep hb)
  clear hb hR hdr
  have ap0 := Xp0.out.c0
  have bp0 := Xp0.out.c1
  have lp0 := Xp0.out.lt
  have fp0 := fun j => frozen_of Xp0.out j
  clear fp0
  go_wp2_with fail
  clear ap0 bp0 lp0
  refine (inside_at HI1.out HI2.out _).mono ?_
  rintro e w8 ⟨rfl, hb⟩
  replace B := Lib.hid (B.out.trans (hb.mono B.out.size))
  replace Xp0 := Lib.hid (Xp0.out.keep hb)
  replace Xp1 := Lib.hid (Xp1.out.keep hb)
  replace Xp2 := Lib.hid (Xp2.out.keep hb)
  replace Xp3 := Lib.hid (Xp3.out.keep hb)
  replace Xp4 := Lib.hid (Xp4.out.keep hb)
  clear hb
  have ap0 := Xp0.out.c0
  have bp0 := Xp0.out.c1
  have lp0 := Xp0.out.lt
  have fp0 := fun j => frozen_of Xp0.out j
  clear fp0
  replace B := Lib.hid (B.out.alloc B.out.size (.cells #[.int .i64 (if1), .int .i64 (ic1)] 46))
  replace Xp0 := Lib.hid (Xp0.out.alloc (.cells #[.int .i64 (if1), .int .i64 (ic1)] 46))
  replace Xp1 := Lib.hid (Xp1.out.alloc (.cells #[.int .i64 (if1), .int .i64 (ic1)] 46))
  replace Xp2 := Lib.hid (Xp2.out.alloc (.cells #[.int .i64 (if1), .int .i64 (ic1)] 46))
  replace Xp3 := Lib.hid (Xp3.out.alloc (.cells #[.int .i64 (if1), .int .i64 (ic1)] 46))
  replace Xp4 := Lib.hid (Xp4.out.alloc (.cells #[.int .i64 (if1), .int .i64 (ic1)] 46))
  have xp5 := box_new (w8) (if1) (ic1)
  have Xp5 := Lib.hid xp5
  clear xp5
  go_wp2_with fail
  obtain ⟨p5, hp5⟩ : ∃ p5, p5 = w8.heap.size := ⟨_, rfl⟩
  rw [← hp5] at Xp5 ⊢
  clear hp5
  generalize (w8).alloc (.cells #[.int .i64 (if1), .int .i64 (ic1)] 46) = W9 at *
  clear ap0 bp0 lp0
  refine (rinside_at HI1.out HI2.out _).mono ?_
  rintro e w10 ⟨rfl, hb⟩
  replace B := Lib.hid (B.out.trans (hb.mono B.out.size))
  replace Xp0 := Lib.hid (Xp0.out.keep hb)
  replace Xp1 := Lib.hid (Xp1.out.keep hb)
  replace Xp2 := Lib.hid (Xp2.out.keep hb)
  replace Xp3 := Lib.hid (Xp3.out.keep hb)
  replace Xp4 := Lib.hid (Xp4.out.keep hb)
  replace Xp5 := Lib.hid (Xp5.out.keep hb)
  clear hb
  have ap5 := Xp5.out.c0
  have bp5 := Xp5.out.c1
  have lp5 := Xp5.out.lt
  have fp5 := fun j => frozen_of Xp5.out j
  clear fp5
  replace B := Lib.hid (B.out.alloc B.out.size (.cells #[.int .i64 (if1), .int .i64 (ic1)] 46))
  replace Xp0 := Lib.hid (Xp0.out.alloc (.cells #[.int .i64 (if1), .int .i64 (ic1)] 46))
  replace Xp1 := Lib.hid (Xp1.out.alloc (.cells #[.int .i64 (if1), .int .i64 (ic1)] 46))
  replace Xp2 := Lib.hid (Xp2.out.alloc (.cells #[.int .i64 (if1), .int .i64 (ic1)] 46))
  replace Xp3 := Lib.hid (Xp3.out.alloc (.cells #[.int .i64 (if1), .int .i64 (ic1)] 46))
  replace Xp4 := Lib.hid (Xp4.out.alloc (.cells #[.int .i64 (if1), .int .i64 (ic1)] 46))
  replace Xp5 := Lib.hid (Xp5.out.alloc (.cells #[.int .i64 (if1), .int .i64 (ic1)] 46))
  have xp6 := box_new (w10) (if1) (ic1)
  have Xp6 := Lib.hid xp6
  clear xp6
  go_wp2_with fail
  obtain ⟨p6, hp6⟩ : ∃ p6, p6 = w10.heap.size := ⟨_, rfl⟩
  rw [← hp6] at Xp6 ⊢
  clear hp6
  generalize (w10).alloc (.cells #[.int .i64 (if1), .int .i64 (ic1)] 46) = W11 at *
  clear ap5 bp5 lp5
  refine (awake14_ok _).mono ?_
  rintro e w12 ⟨rfl, hb⟩
  replace B := Lib.hid (B.out.trans (hb.mono B.out.size))
  replace Xp0 := Lib.hid (Xp0.out.keep hb)
  replace Xp1 := Lib.hid (Xp1.out.keep hb)
  replace Xp2 := Lib.hid (Xp2.out.keep hb)
  replace Xp3 := Lib.hid (Xp3.out.keep hb)
  replace Xp4 := Lib.hid (Xp4.out.keep hb)
  replace Xp5 := Lib.hid (Xp5.out.keep hb)
  replace Xp6 := Lib.hid (Xp6.out.keep hb)
  clear hb
  have hfin := B.out
  go_wp2_with fail
  go_ret
  exact ⟨rfl, hfin⟩

theorem planTells_ok (n k x y f c : Int) (w : World) : Calls Try.prog 6 #[.int .i64 n, .int .i64 k, .agg #[.int .i64 x, .int .i64 y], .int .i64 f, .int .i64 c] w fun e w' => e = .returned (.bool true) ∧ Below w.heap.size w w' := by
  have hk : ∀ b, slotB n k = b → mayB n = true → (b = true ∧ 0 ≤ k ∧ k < 4) ∨ (b = false ∧ k < 0) ∨ (b = false ∧ 4 ≤ k) := by
    rintro b rfl hm
    simp [slotB, hm]
    omega
  cases hm : mayB n with
  | true =>
    cases hsp : splitB (x, y) with
    | true =>
      rcases hk _ rfl hm with ⟨h, h1, h2⟩ | ⟨h, h1⟩ | ⟨h, h1⟩
      · exact planTells_a1 n k x y f c hm h hsp h1 h2 w
      · exact planTells_b1 n k x y f c hm h hsp h1 w
      · exact planTells_c1 n k x y f c hm h hsp h1 w
    | false =>
      rcases hk _ rfl hm with ⟨h, h1, h2⟩ | ⟨h, h1⟩ | ⟨h, h1⟩
      · exact planTells_a2 n k x y f c hm h hsp h1 h2 w
      · exact planTells_b2 n k x y f c hm h hsp h1 w
      · exact planTells_c2 n k x y f c hm h hsp h1 w
  | false =>
    have hs : slotB n k = false := by simp [slotB, hm]
    cases hsp : splitB (x, y) with
    | true => exact planTells_d1 n k x y f c hm hs hsp w
    | false => exact planTells_d2 n k x y f c hm hs hsp w
end Go.Proofs.Ytifocofpplhacaa.P

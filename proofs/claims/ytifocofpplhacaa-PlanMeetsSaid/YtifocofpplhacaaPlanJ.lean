/-
  PlanMeets. No condition beyond what each theorem names.
-/
import Derived.Test.YtifocofpplhacaaPlanI
import Derived.Test.YtifocofpplhacaaRegionB
namespace Go.Proofs.Ytifocofpplhacaa.P
open Go Go.RowKit K

def cntB (a b : Ar) (k : Nat) : Nat := (List.range k).countP fun i => inB a i && inB b i
def cntO (a b : Ar) (k : Nat) : Nat := (List.range k).countP fun i => inB a i || inB b i
theorem cntB_succ (a b : Ar) (k : Nat) : cntB a b (k + 1) = cntB a b k + (if inB a k && inB b k then 1 else 0) := by
  simp only [cntB, List.range_succ, List.countP_append, List.countP_cons, List.countP_nil, Nat.zero_add]
theorem cntO_succ (a b : Ar) (k : Nat) : cntO a b (k + 1) = cntO a b k + (if inB a k || inB b k then 1 else 0) := by
  simp only [cntO, List.range_succ, List.countP_append, List.countP_cons, List.countP_nil, Nat.zero_add]
theorem cnt_le (a b : Ar) (k : Nat) : cntB a b k ≤ k ∧ cntO a b k ≤ k := by
  have h1 := List.countP_le_length (p := fun i => inB a i && inB b i) (l := List.range k)
  have h2 := List.countP_le_length (p := fun i => inB a i || inB b i) (l := List.range k)
  simp only [List.length_range] at h1 h2
  exact ⟨h1, h2⟩
theorem over_cnt {x y u v : Int} (h : 0 ≤ x ∧ x ≤ 200 ∧ y ≤ 200 ∧ 0 ≤ u ∧ u ≤ 200 ∧ v ≤ 200) : overB (x, y) (u, v) = decide (0 < cntB (x, y) (u, v) 400) := by
  rw [Bool.eq_iff_iff]
  simp only [overB, hasB, Bool.or_eq_true, Bool.and_eq_true, decide_eq_true_eq, cntB, List.countP_pos_iff, List.mem_range, inB]
  constructor
  · rintro (⟨h1, h2⟩ | ⟨h1, h2⟩)
    · exact ⟨u.toNat, by omega, by omega, by omega⟩
    · exact ⟨x.toNat, by omega, by omega, by omega⟩
  · rintro ⟨i, _, h1, h2⟩
    omega
theorem over_comm (a b : Ar) : overB a b = overB b a := by simp [overB, Bool.or_comm]
theorem one_cov {x y u v : Int} (h : 0 ≤ x ∧ x ≤ 200 ∧ y ≤ 200 ∧ 0 ≤ u ∧ u ≤ 200 ∧ v ≤ 200) : cov [(x, y), (u, v)] 400 = cntO (x, y) (u, v) 400 := by
  refine List.countP_congr fun i _ => ?_
  simp only [List.any_cons, List.any_nil, Bool.or_false, Bool.or_eq_true, Bool.and_eq_true, countsB, inB, decide_eq_true_eq]
  omega

set_option maxRecDepth 100000 in
set_option maxHeartbeats 16000000 in
theorem planMeets_ok (x y u v : Int) (hy0 : -9223372036854775808 ≤ y) (hv0 : -9223372036854775808 ≤ v) (w : World) : Calls Try.prog 8 #[.agg #[.int .i64 x, .int .i64 y], .agg #[.int .i64 u, .int .i64 v]] w fun e w' => e = .returned (.bool true) ∧ Below w.heap.size w w' := by
  have hbb := ((Below.refl _ w).alloc (Nat.le_refl _) (.cells #[.int .i64 x, .int .i64 y] 46)).alloc (by simp) (.cells #[.int .i64 u, .int .i64 v] 46)
  have BB := Lib.hid hbb
  clear hbb
  by_cases hbig : x < 0 ∨ 200 < x ∨ 200 < y ∨ u < 0 ∨ 200 < u ∨ 200 < v
  · have HA := Lib.hid (awake14_ok ((w.alloc (.cells #[.int .i64 x, .int .i64 y] 46)).alloc (.cells #[.int .i64 u, .int .i64 v] 46)))
    rcases (by omega : x < 0 ∨ (¬ x < 0 ∧ 200 < x) ∨ (¬ x < 0 ∧ ¬ 200 < x ∧ 200 < y) ∨ (¬ x < 0 ∧ ¬ 200 < x ∧ ¬ 200 < y ∧ u < 0) ∨ (¬ x < 0 ∧ ¬ 200 < x ∧ ¬ 200 < y ∧ ¬ u < 0 ∧ 200 < u) ∨ (¬ x < 0 ∧ ¬ 200 < x ∧ ¬ 200 < y ∧ ¬ u < 0 ∧ ¬ 200 < u ∧ 200 < v)) with h1 | ⟨h1, h2⟩ | ⟨h1, h2, h3⟩ | ⟨h1, h2, h3, h4⟩ | ⟨h1, h2, h3, h4, h5⟩ | ⟨h1, h2, h3, h4, h5, h6⟩
    all_goals
      clear hbig
      go_enter Try.func8, Try.ntmps8
      go_wp2_with fail
      refine HA.out.mono ?_
      rintro e w' ⟨rfl, hb⟩
      have hfin := BB.out.trans (hb.mono (by simp; omega))
      clear hb
      go_wp2
      go_ret
      exact ⟨rfl, hfin⟩
  · obtain ⟨h1, h2, h3, h4, h5, h6⟩ : 0 ≤ x ∧ x ≤ 200 ∧ y ≤ 200 ∧ 0 ≤ u ∧ u ≤ 200 ∧ v ≤ 200 := by omega
    clear hbig
    have HOV := Lib.hid (over_cnt ⟨h1, h2, h3, h4, h5, h6⟩)
    have HCO := Lib.hid (one_cov ⟨h1, h2, h3, h4, h5, h6⟩)
    have HLE := Lib.hid (fun k => cnt_le (x, y) (u, v) k)
    have B := BB
    have xp0 := (box_new w x y).alloc (.cells #[.int .i64 u, .int .i64 v] 46)
    have xp1 := box_new (w.alloc (.cells #[.int .i64 x, .int .i64 y] 46)) u v
    simp only [World.size_alloc] at xp1
    have Xp0 := Lib.hid xp0
    have Xp1 := Lib.hid xp1
    clear xp0 xp1 BB
    go_enter Try.func8, Try.ntmps8
    go_wp2_with fail
    obtain ⟨p1, hp1⟩ : ∃ p1, p1 = w.heap.size + 1 := ⟨_, rfl⟩
    obtain ⟨p0, hp0⟩ : ∃ p0, p0 = w.heap.size := ⟨_, rfl⟩
    rw [← hp1] at Xp1 ⊢
    rw [← hp0] at Xp0 ⊢
    clear hp1 hp0
    generalize (w.alloc (.cells #[.int .i64 x, .int .i64 y] 46)).alloc (.cells #[.int .i64 u, .int .i64 v] 46) = W0 at *
    go_loopw [5, 6, 7] (fun b5 b6 i wr => ∃ k : Nat, k ≤ 400 ∧ i = .int .i64 k ∧ b5 = .int .i64 (cntB (x, y) (u, v) k : Nat) ∧ b6 = .int .i64 (cntO (x, y) (u, v) k : Nat) ∧ Hid (Below w.heap.size w wr ∧ BoxA wr p0 x y ∧ BoxA wr p1 u v)) (fun _ _ i _ => 400 - (intOf i).toNat)
    case atStart => exact ⟨0, by omega, rfl, rfl, rfl, B.out, Xp0.out, Xp1.out⟩
    case round =>
      obtain ⟨k, hk, rfl, rfl, rfl, HH⟩ := hrel
      obtain ⟨hB, hx0, hx1⟩ := HH.out
      replace B := Lib.hid hB
      replace Xp0 := Lib.hid hx0
      replace Xp1 := Lib.hid hx1
      have hc1 := (HLE.out k).1
      have hc2 := (HLE.out k).2
      clear HH hB hx0 hx1
      by_cases hlt : k < 400
      · have HS1 := Lib.hid (cntB_succ (x, y) (u, v) k)
        have HS2 := Lib.hid (cntO_succ (x, y) (u, v) k)
        generalize cntB (x, y) (u, v) k = cb at *
        generalize cntO (x, y) (u, v) k = co at *
        rcases (by omega : ¬ x ≤ (k : Int) ∨ (x ≤ (k : Int) ∧ ¬ (k : Int) < x + y) ∨ (x ≤ (k : Int) ∧ (k : Int) < x + y)) with ha1 | ⟨ha1, ha2⟩ | ⟨ha1, ha2⟩
        · rcases (by omega : ¬ u ≤ (k : Int) ∨ (u ≤ (k : Int) ∧ ¬ (k : Int) < u + v) ∨ (u ≤ (k : Int) ∧ (k : Int) < u + v)) with hb1 | ⟨hb1, hb2⟩ | ⟨hb1, hb2⟩
          · have HP := Lib.hid (show hasB (x, y) k = false from by simp [hasB]; omega)
            have HQ := Lib.hid (show hasB (u, v) k = false from by simp [hasB]; omega)
            have HP2 := Lib.hid (show inB (x, y) k = false from by simp [inB]; omega)
            have HQ2 := Lib.hid (show inB (u, v) k = false from by simp [inB]; omega)
            go_wp2_with fail
            have hdr : ∀ w3, Chg No wr.drew w3 → Chg No wr w3 := fun w3 h => ⟨h.os, h.tape, h.output, h.size, h.block⟩
            refine RA.region (fun a b => Chg No a b) (· = ·) [1, 1, 1, 1, 1, 0, 0, 0, 0, 0, 0, 0, 1, 1, 1, 1, 1, 1, 0, 0, 0, 0, 0, 0, 0, 1, 1, 1] (fun _ _ _ => True) (fun _ => True) (by kernel_rfl) (Chg.refl _ _) (fun _ _ h => h ▸ Chg.refl _ _) (fun _ _ _ h k => h.trans k) (fun _ _ h k => h ▸ k) trivial (by kernel_rfl) ?_
            intro cx
            repeat (first | refine RA.mv (by rfl) (by rfl) (by rfl) ?_ | refine RA.as (by rfl) (by rfl) (by rfl) ?_ | refine RA.pt (by rfl) (by rfl) (by rfl) (by rfl) ?_ | refine RA.pf (by rfl) (by rfl) (by rfl) (by rfl) ?_)
            refine RA.fa (by rfl) (by rfl) (by rfl) (y' := .pointer (some ⟨p0, 0, none⟩)) (fun w3 hp => by show (Instr.fieldAt _ _ _).run Try.prog w3 = _; go_simp) ?_
            refine RA.ld (by rfl) (by rfl) (by rfl) (y' := .int .i64 (x)) (fun w3 hp => by
              have h1 := (Xp0.out.chg (hdr _ hp.1)).c0
              show (Instr.loadAt _ _).run Try.prog w3 = _
              go_simp) ?_
            refine RA.ge false (by rfl) (by rfl) (by rfl) (by rfl) (by first | rfl | (simp; done) | (simp; omega)) ?_
            repeat (first | refine RA.mv (by rfl) (by rfl) (by rfl) ?_ | refine RA.as (by rfl) (by rfl) (by rfl) ?_ | refine RA.pt (by rfl) (by rfl) (by rfl) (by rfl) ?_ | refine RA.pf (by rfl) (by rfl) (by rfl) (by rfl) ?_)
            refine RA.n (by rfl) (by rfl) ?_
            simp only [RA.add]
            refine RA.n (by rfl) (by rfl) ?_
            simp only [RA.add]
            refine RA.n (by rfl) (by rfl) ?_
            simp only [RA.add]
            refine RA.n (by rfl) (by rfl) ?_
            simp only [RA.add]
            refine RA.n (by rfl) (by rfl) ?_
            simp only [RA.add]
            refine RA.n (by rfl) (by rfl) ?_
            simp only [RA.add]
            refine RA.n (by rfl) (by rfl) ?_
            simp only [RA.add]
            repeat (first | refine RA.mv (by rfl) (by rfl) (by rfl) ?_ | refine RA.as (by rfl) (by rfl) (by rfl) ?_ | refine RA.pt (by rfl) (by rfl) (by rfl) (by rfl) ?_ | refine RA.pf (by rfl) (by rfl) (by rfl) (by rfl) ?_)
            refine RA.fa (by rfl) (by rfl) (by rfl) (y' := .pointer (some ⟨p1, 0, none⟩)) (fun w3 hp => by show (Instr.fieldAt _ _ _).run Try.prog w3 = _; go_simp) ?_
            refine RA.ld (by rfl) (by rfl) (by rfl) (y' := .int .i64 (u)) (fun w3 hp => by
              have h1 := (Xp1.out.chg (hdr _ hp.1)).c0
              show (Instr.loadAt _ _).run Try.prog w3 = _
              go_simp) ?_
            refine RA.ge false (by rfl) (by rfl) (by rfl) (by rfl) (by first | rfl | (simp; done) | (simp; omega)) ?_
            repeat (first | refine RA.mv (by rfl) (by rfl) (by rfl) ?_ | refine RA.as (by rfl) (by rfl) (by rfl) ?_ | refine RA.pt (by rfl) (by rfl) (by rfl) (by rfl) ?_ | refine RA.pf (by rfl) (by rfl) (by rfl) (by rfl) ?_)
            refine RA.n (by rfl) (by rfl) ?_
            simp only [RA.add]
            refine RA.n (by rfl) (by rfl) ?_
            simp only [RA.add]
            refine RA.n (by rfl) (by rfl) ?_
            simp only [RA.add]
            refine RA.n (by rfl) (by rfl) ?_
            simp only [RA.add]
            refine RA.n (by rfl) (by rfl) ?_
            simp only [RA.add]
            refine RA.n (by rfl) (by rfl) ?_
            simp only [RA.add]
            refine RA.n (by rfl) (by rfl) ?_
            simp only [RA.add]
            repeat (first | refine RA.mv (by rfl) (by rfl) (by rfl) ?_ | refine RA.as (by rfl) (by rfl) (by rfl) ?_ | refine RA.pt (by rfl) (by rfl) (by rfl) (by rfl) ?_ | refine RA.pf (by rfl) (by rfl) (by rfl) (by rfl) ?_)
            refine RA.RA.done rfl (fun w9 hR hF hH => ?_)
            clear hF hH
            simp only [RA.put, List.foldr_cons, List.foldr_nil, cx, Act.put, List.setIfInBounds_toArray, List.set_cons_succ, List.set_cons_zero]
            try simp only [Bool.not_true]
            try simp only [Bool.not_false]
            have hb := (hdr _ hR).no
            replace B := Lib.hid (B.out.trans (hb.mono B.out.size))
            replace Xp0 := Lib.hid (Xp0.out.keep hb)
            replace Xp1 := Lib.hid (Xp1.out.keep hb)
            clear hb hR hdr
            have ap0 := Xp0.out.c0
            have bp0 := Xp0.out.c1
            have lp0 := Xp0.out.lt
            have fp0 := fun j => frozen_of Xp0.out j
            clear fp0
            go_wp2_with fail
            clear ap0 bp0 lp0
            refine (has_at (by omega) HP.out _).mono ?_
            rintro e w1 ⟨rfl, hb⟩
            replace B := Lib.hid (B.out.trans (hb.mono B.out.size))
            replace Xp0 := Lib.hid (Xp0.out.keep hb)
            replace Xp1 := Lib.hid (Xp1.out.keep hb)
            clear hb
            have ap1 := Xp1.out.c0
            have bp1 := Xp1.out.c1
            have lp1 := Xp1.out.lt
            have fp1 := fun j => frozen_of Xp1.out j
            clear fp1
            go_wp2_with fail
            clear ap1 bp1 lp1
            refine (has_at (by omega) HQ.out _).mono ?_
            rintro e w2 ⟨rfl, hb⟩
            replace B := Lib.hid (B.out.trans (hb.mono B.out.size))
            replace Xp0 := Lib.hid (Xp0.out.keep hb)
            replace Xp1 := Lib.hid (Xp1.out.keep hb)
            clear hb
            go_wp2_with fail
            go_roundw
            case rel => exact ⟨k + 1, by omega, by go_num, by rw [HS1.out, HP2.out, HQ2.out]; rfl, by rw [HS2.out, HP2.out, HQ2.out]; rfl, B.out, Xp0.out, Xp1.out⟩
            case measure => simp [intOf]; omega
          · have HP := Lib.hid (show hasB (x, y) k = false from by simp [hasB]; omega)
            have HQ := Lib.hid (show hasB (u, v) k = false from by simp [hasB]; omega)
            have HP2 := Lib.hid (show inB (x, y) k = false from by simp [inB]; omega)
            have HQ2 := Lib.hid (show inB (u, v) k = false from by simp [inB]; omega)
            go_wp2_with fail
            have hdr : ∀ w3, Chg No wr.drew w3 → Chg No wr w3 := fun w3 h => ⟨h.os, h.tape, h.output, h.size, h.block⟩
            refine RA.region (fun a b => Chg No a b) (· = ·) [1, 1, 1, 1, 1, 0, 0, 0, 0, 0, 0, 0, 1, 1, 1, 1, 1, 1, 1, 1, 1, 1, 1, 1, 1, 1, 1, 1] (fun _ _ _ => True) (fun _ => True) (by kernel_rfl) (Chg.refl _ _) (fun _ _ h => h ▸ Chg.refl _ _) (fun _ _ _ h k => h.trans k) (fun _ _ h k => h ▸ k) trivial (by kernel_rfl) ?_
            intro cx
            repeat (first | refine RA.mv (by rfl) (by rfl) (by rfl) ?_ | refine RA.as (by rfl) (by rfl) (by rfl) ?_ | refine RA.pt (by rfl) (by rfl) (by rfl) (by rfl) ?_ | refine RA.pf (by rfl) (by rfl) (by rfl) (by rfl) ?_)
            refine RA.fa (by rfl) (by rfl) (by rfl) (y' := .pointer (some ⟨p0, 0, none⟩)) (fun w3 hp => by show (Instr.fieldAt _ _ _).run Try.prog w3 = _; go_simp) ?_
            refine RA.ld (by rfl) (by rfl) (by rfl) (y' := .int .i64 (x)) (fun w3 hp => by
              have h1 := (Xp0.out.chg (hdr _ hp.1)).c0
              show (Instr.loadAt _ _).run Try.prog w3 = _
              go_simp) ?_
            refine RA.ge false (by rfl) (by rfl) (by rfl) (by rfl) (by first | rfl | (simp; done) | (simp; omega)) ?_
            repeat (first | refine RA.mv (by rfl) (by rfl) (by rfl) ?_ | refine RA.as (by rfl) (by rfl) (by rfl) ?_ | refine RA.pt (by rfl) (by rfl) (by rfl) (by rfl) ?_ | refine RA.pf (by rfl) (by rfl) (by rfl) (by rfl) ?_)
            refine RA.n (by rfl) (by rfl) ?_
            simp only [RA.add]
            refine RA.n (by rfl) (by rfl) ?_
            simp only [RA.add]
            refine RA.n (by rfl) (by rfl) ?_
            simp only [RA.add]
            refine RA.n (by rfl) (by rfl) ?_
            simp only [RA.add]
            refine RA.n (by rfl) (by rfl) ?_
            simp only [RA.add]
            refine RA.n (by rfl) (by rfl) ?_
            simp only [RA.add]
            refine RA.n (by rfl) (by rfl) ?_
            simp only [RA.add]
            repeat (first | refine RA.mv (by rfl) (by rfl) (by rfl) ?_ | refine RA.as (by rfl) (by rfl) (by rfl) ?_ | refine RA.pt (by rfl) (by rfl) (by rfl) (by rfl) ?_ | refine RA.pf (by rfl) (by rfl) (by rfl) (by rfl) ?_)
            refine RA.fa (by rfl) (by rfl) (by rfl) (y' := .pointer (some ⟨p1, 0, none⟩)) (fun w3 hp => by show (Instr.fieldAt _ _ _).run Try.prog w3 = _; go_simp) ?_
            refine RA.ld (by rfl) (by rfl) (by rfl) (y' := .int .i64 (u)) (fun w3 hp => by
              have h1 := (Xp1.out.chg (hdr _ hp.1)).c0
              show (Instr.loadAt _ _).run Try.prog w3 = _
              go_simp) ?_
            refine RA.ge true (by rfl) (by rfl) (by rfl) (by rfl) (by first | rfl | (simp; done) | (simp; omega)) ?_
            repeat (first | refine RA.mv (by rfl) (by rfl) (by rfl) ?_ | refine RA.as (by rfl) (by rfl) (by rfl) ?_ | refine RA.pt (by rfl) (by rfl) (by rfl) (by rfl) ?_ | refine RA.pf (by rfl) (by rfl) (by rfl) (by rfl) ?_)
            refine RA.fa (by rfl) (by rfl) (by rfl) (y' := .pointer (some ⟨p1, 0, none⟩)) (fun w3 hp => by show (Instr.fieldAt _ _ _).run Try.prog w3 = _; go_simp) ?_
            refine RA.ld (by rfl) (by rfl) (by rfl) (y' := .int .i64 (u)) (fun w3 hp => by
              have h1 := (Xp1.out.chg (hdr _ hp.1)).c0
              show (Instr.loadAt _ _).run Try.prog w3 = _
              go_simp) ?_
            refine RA.fa (by rfl) (by rfl) (by rfl) (y' := .pointer (some ⟨p1, 1, none⟩)) (fun w3 hp => by show (Instr.fieldAt _ _ _).run Try.prog w3 = _; go_simp) ?_
            refine RA.ld (by rfl) (by rfl) (by rfl) (y' := .int .i64 (v)) (fun w3 hp => by
              have h1 := (Xp1.out.chg (hdr _ hp.1)).c1
              show (Instr.loadAt _ _).run Try.prog w3 = _
              go_simp) ?_
            refine RA.ai (by rfl) (by rfl) (by rfl) (by rfl) (u + v) (by omega) (by omega) ?_
            refine RA.lt false (by rfl) (by rfl) (by rfl) (by rfl) (by first | rfl | (simp; done) | (simp; omega)) ?_
            repeat (first | refine RA.mv (by rfl) (by rfl) (by rfl) ?_ | refine RA.as (by rfl) (by rfl) (by rfl) ?_ | refine RA.pt (by rfl) (by rfl) (by rfl) (by rfl) ?_ | refine RA.pf (by rfl) (by rfl) (by rfl) (by rfl) ?_)
            refine RA.RA.done rfl (fun w9 hR hF hH => ?_)
            clear hF hH
            simp only [RA.put, List.foldr_cons, List.foldr_nil, cx, Act.put, List.setIfInBounds_toArray, List.set_cons_succ, List.set_cons_zero]
            try simp only [Bool.not_true]
            try simp only [Bool.not_false]
            have hb := (hdr _ hR).no
            replace B := Lib.hid (B.out.trans (hb.mono B.out.size))
            replace Xp0 := Lib.hid (Xp0.out.keep hb)
            replace Xp1 := Lib.hid (Xp1.out.keep hb)
            clear hb hR hdr
            have ap0 := Xp0.out.c0
            have bp0 := Xp0.out.c1
            have lp0 := Xp0.out.lt
            have fp0 := fun j => frozen_of Xp0.out j
            clear fp0
            go_wp2_with fail
            clear ap0 bp0 lp0
            refine (has_at (by omega) HP.out _).mono ?_
            rintro e w1 ⟨rfl, hb⟩
            replace B := Lib.hid (B.out.trans (hb.mono B.out.size))
            replace Xp0 := Lib.hid (Xp0.out.keep hb)
            replace Xp1 := Lib.hid (Xp1.out.keep hb)
            clear hb
            have ap1 := Xp1.out.c0
            have bp1 := Xp1.out.c1
            have lp1 := Xp1.out.lt
            have fp1 := fun j => frozen_of Xp1.out j
            clear fp1
            go_wp2_with fail
            clear ap1 bp1 lp1
            refine (has_at (by omega) HQ.out _).mono ?_
            rintro e w2 ⟨rfl, hb⟩
            replace B := Lib.hid (B.out.trans (hb.mono B.out.size))
            replace Xp0 := Lib.hid (Xp0.out.keep hb)
            replace Xp1 := Lib.hid (Xp1.out.keep hb)
            clear hb
            go_wp2_with fail
            go_roundw
            case rel => exact ⟨k + 1, by omega, by go_num, by rw [HS1.out, HP2.out, HQ2.out]; rfl, by rw [HS2.out, HP2.out, HQ2.out]; rfl, B.out, Xp0.out, Xp1.out⟩
            case measure => simp [intOf]; omega
          · have HP := Lib.hid (show hasB (x, y) k = false from by simp [hasB]; omega)
            have HQ := Lib.hid (show hasB (u, v) k = true from by simp [hasB]; omega)
            have HP2 := Lib.hid (show inB (x, y) k = false from by simp [inB]; omega)
            have HQ2 := Lib.hid (show inB (u, v) k = true from by simp [inB]; omega)
            go_wp2_with fail
            have hdr : ∀ w3, Chg No wr.drew w3 → Chg No wr w3 := fun w3 h => ⟨h.os, h.tape, h.output, h.size, h.block⟩
            refine RA.region (fun a b => Chg No a b) (· = ·) [1, 1, 1, 1, 1, 0, 0, 0, 0, 0, 0, 0, 1, 1, 1, 1, 1, 1, 1, 1, 1, 1, 1, 1, 1, 1, 1, 1] (fun _ _ _ => True) (fun _ => True) (by kernel_rfl) (Chg.refl _ _) (fun _ _ h => h ▸ Chg.refl _ _) (fun _ _ _ h k => h.trans k) (fun _ _ h k => h ▸ k) trivial (by kernel_rfl) ?_
            intro cx
            repeat (first | refine RA.mv (by rfl) (by rfl) (by rfl) ?_ | refine RA.as (by rfl) (by rfl) (by rfl) ?_ | refine RA.pt (by rfl) (by rfl) (by rfl) (by rfl) ?_ | refine RA.pf (by rfl) (by rfl) (by rfl) (by rfl) ?_)
            refine RA.fa (by rfl) (by rfl) (by rfl) (y' := .pointer (some ⟨p0, 0, none⟩)) (fun w3 hp => by show (Instr.fieldAt _ _ _).run Try.prog w3 = _; go_simp) ?_
            refine RA.ld (by rfl) (by rfl) (by rfl) (y' := .int .i64 (x)) (fun w3 hp => by
              have h1 := (Xp0.out.chg (hdr _ hp.1)).c0
              show (Instr.loadAt _ _).run Try.prog w3 = _
              go_simp) ?_
            refine RA.ge false (by rfl) (by rfl) (by rfl) (by rfl) (by first | rfl | (simp; done) | (simp; omega)) ?_
            repeat (first | refine RA.mv (by rfl) (by rfl) (by rfl) ?_ | refine RA.as (by rfl) (by rfl) (by rfl) ?_ | refine RA.pt (by rfl) (by rfl) (by rfl) (by rfl) ?_ | refine RA.pf (by rfl) (by rfl) (by rfl) (by rfl) ?_)
            refine RA.n (by rfl) (by rfl) ?_
            simp only [RA.add]
            refine RA.n (by rfl) (by rfl) ?_
            simp only [RA.add]
            refine RA.n (by rfl) (by rfl) ?_
            simp only [RA.add]
            refine RA.n (by rfl) (by rfl) ?_
            simp only [RA.add]
            refine RA.n (by rfl) (by rfl) ?_
            simp only [RA.add]
            refine RA.n (by rfl) (by rfl) ?_
            simp only [RA.add]
            refine RA.n (by rfl) (by rfl) ?_
            simp only [RA.add]
            repeat (first | refine RA.mv (by rfl) (by rfl) (by rfl) ?_ | refine RA.as (by rfl) (by rfl) (by rfl) ?_ | refine RA.pt (by rfl) (by rfl) (by rfl) (by rfl) ?_ | refine RA.pf (by rfl) (by rfl) (by rfl) (by rfl) ?_)
            refine RA.fa (by rfl) (by rfl) (by rfl) (y' := .pointer (some ⟨p1, 0, none⟩)) (fun w3 hp => by show (Instr.fieldAt _ _ _).run Try.prog w3 = _; go_simp) ?_
            refine RA.ld (by rfl) (by rfl) (by rfl) (y' := .int .i64 (u)) (fun w3 hp => by
              have h1 := (Xp1.out.chg (hdr _ hp.1)).c0
              show (Instr.loadAt _ _).run Try.prog w3 = _
              go_simp) ?_
            refine RA.ge true (by rfl) (by rfl) (by rfl) (by rfl) (by first | rfl | (simp; done) | (simp; omega)) ?_
            repeat (first | refine RA.mv (by rfl) (by rfl) (by rfl) ?_ | refine RA.as (by rfl) (by rfl) (by rfl) ?_ | refine RA.pt (by rfl) (by rfl) (by rfl) (by rfl) ?_ | refine RA.pf (by rfl) (by rfl) (by rfl) (by rfl) ?_)
            refine RA.fa (by rfl) (by rfl) (by rfl) (y' := .pointer (some ⟨p1, 0, none⟩)) (fun w3 hp => by show (Instr.fieldAt _ _ _).run Try.prog w3 = _; go_simp) ?_
            refine RA.ld (by rfl) (by rfl) (by rfl) (y' := .int .i64 (u)) (fun w3 hp => by
              have h1 := (Xp1.out.chg (hdr _ hp.1)).c0
              show (Instr.loadAt _ _).run Try.prog w3 = _
              go_simp) ?_
            refine RA.fa (by rfl) (by rfl) (by rfl) (y' := .pointer (some ⟨p1, 1, none⟩)) (fun w3 hp => by show (Instr.fieldAt _ _ _).run Try.prog w3 = _; go_simp) ?_
            refine RA.ld (by rfl) (by rfl) (by rfl) (y' := .int .i64 (v)) (fun w3 hp => by
              have h1 := (Xp1.out.chg (hdr _ hp.1)).c1
              show (Instr.loadAt _ _).run Try.prog w3 = _
              go_simp) ?_
            refine RA.ai (by rfl) (by rfl) (by rfl) (by rfl) (u + v) (by omega) (by omega) ?_
            refine RA.lt true (by rfl) (by rfl) (by rfl) (by rfl) (by first | rfl | (simp; done) | (simp; omega)) ?_
            repeat (first | refine RA.mv (by rfl) (by rfl) (by rfl) ?_ | refine RA.as (by rfl) (by rfl) (by rfl) ?_ | refine RA.pt (by rfl) (by rfl) (by rfl) (by rfl) ?_ | refine RA.pf (by rfl) (by rfl) (by rfl) (by rfl) ?_)
            refine RA.RA.done rfl (fun w9 hR hF hH => ?_)
            clear hF hH
            simp only [RA.put, List.foldr_cons, List.foldr_nil, cx, Act.put, List.setIfInBounds_toArray, List.set_cons_succ, List.set_cons_zero]
            try simp only [Bool.not_true]
            try simp only [Bool.not_false]
            have hb := (hdr _ hR).no
            replace B := Lib.hid (B.out.trans (hb.mono B.out.size))
            replace Xp0 := Lib.hid (Xp0.out.keep hb)
            replace Xp1 := Lib.hid (Xp1.out.keep hb)
            clear hb hR hdr
            have ap0 := Xp0.out.c0
            have bp0 := Xp0.out.c1
            have lp0 := Xp0.out.lt
            have fp0 := fun j => frozen_of Xp0.out j
            clear fp0
            go_wp2_with fail
            clear ap0 bp0 lp0
            refine (has_at (by omega) HP.out _).mono ?_
            rintro e w1 ⟨rfl, hb⟩
            replace B := Lib.hid (B.out.trans (hb.mono B.out.size))
            replace Xp0 := Lib.hid (Xp0.out.keep hb)
            replace Xp1 := Lib.hid (Xp1.out.keep hb)
            clear hb
            have ap1 := Xp1.out.c0
            have bp1 := Xp1.out.c1
            have lp1 := Xp1.out.lt
            have fp1 := fun j => frozen_of Xp1.out j
            clear fp1
            go_wp2_with fail
            clear ap1 bp1 lp1
            refine (has_at (by omega) HQ.out _).mono ?_
            rintro e w2 ⟨rfl, hb⟩
            replace B := Lib.hid (B.out.trans (hb.mono B.out.size))
            replace Xp0 := Lib.hid (Xp0.out.keep hb)
            replace Xp1 := Lib.hid (Xp1.out.keep hb)
            clear hb
            go_wp2_with fail
            go_roundw
            case rel => exact ⟨k + 1, by omega, by go_num, by rw [HS1.out, HP2.out, HQ2.out]; rfl, by rw [HS2.out, HP2.out, HQ2.out]; rfl, B.out, Xp0.out, Xp1.out⟩
            case measure => simp [intOf]; omega
        · rcases (by omega : ¬ u ≤ (k : Int) ∨ (u ≤ (k : Int) ∧ ¬ (k : Int) < u + v) ∨ (u ≤ (k : Int) ∧ (k : Int) < u + v)) with hb1 | ⟨hb1, hb2⟩ | ⟨hb1, hb2⟩
          · have HP := Lib.hid (show hasB (x, y) k = false from by simp [hasB]; omega)
            have HQ := Lib.hid (show hasB (u, v) k = false from by simp [hasB]; omega)
            have HP2 := Lib.hid (show inB (x, y) k = false from by simp [inB]; omega)
            have HQ2 := Lib.hid (show inB (u, v) k = false from by simp [inB]; omega)
            go_wp2_with fail
            have hdr : ∀ w3, Chg No wr.drew w3 → Chg No wr w3 := fun w3 h => ⟨h.os, h.tape, h.output, h.size, h.block⟩
            refine RA.region (fun a b => Chg No a b) (· = ·) [1, 1, 1, 1, 1, 1, 1, 1, 1, 1, 1, 1, 1, 1, 1, 1, 1, 1, 0, 0, 0, 0, 0, 0, 0, 1, 1, 1] (fun _ _ _ => True) (fun _ => True) (by kernel_rfl) (Chg.refl _ _) (fun _ _ h => h ▸ Chg.refl _ _) (fun _ _ _ h k => h.trans k) (fun _ _ h k => h ▸ k) trivial (by kernel_rfl) ?_
            intro cx
            repeat (first | refine RA.mv (by rfl) (by rfl) (by rfl) ?_ | refine RA.as (by rfl) (by rfl) (by rfl) ?_ | refine RA.pt (by rfl) (by rfl) (by rfl) (by rfl) ?_ | refine RA.pf (by rfl) (by rfl) (by rfl) (by rfl) ?_)
            refine RA.fa (by rfl) (by rfl) (by rfl) (y' := .pointer (some ⟨p0, 0, none⟩)) (fun w3 hp => by show (Instr.fieldAt _ _ _).run Try.prog w3 = _; go_simp) ?_
            refine RA.ld (by rfl) (by rfl) (by rfl) (y' := .int .i64 (x)) (fun w3 hp => by
              have h1 := (Xp0.out.chg (hdr _ hp.1)).c0
              show (Instr.loadAt _ _).run Try.prog w3 = _
              go_simp) ?_
            refine RA.ge true (by rfl) (by rfl) (by rfl) (by rfl) (by first | rfl | (simp; done) | (simp; omega)) ?_
            repeat (first | refine RA.mv (by rfl) (by rfl) (by rfl) ?_ | refine RA.as (by rfl) (by rfl) (by rfl) ?_ | refine RA.pt (by rfl) (by rfl) (by rfl) (by rfl) ?_ | refine RA.pf (by rfl) (by rfl) (by rfl) (by rfl) ?_)
            refine RA.fa (by rfl) (by rfl) (by rfl) (y' := .pointer (some ⟨p0, 0, none⟩)) (fun w3 hp => by show (Instr.fieldAt _ _ _).run Try.prog w3 = _; go_simp) ?_
            refine RA.ld (by rfl) (by rfl) (by rfl) (y' := .int .i64 (x)) (fun w3 hp => by
              have h1 := (Xp0.out.chg (hdr _ hp.1)).c0
              show (Instr.loadAt _ _).run Try.prog w3 = _
              go_simp) ?_
            refine RA.fa (by rfl) (by rfl) (by rfl) (y' := .pointer (some ⟨p0, 1, none⟩)) (fun w3 hp => by show (Instr.fieldAt _ _ _).run Try.prog w3 = _; go_simp) ?_
            refine RA.ld (by rfl) (by rfl) (by rfl) (y' := .int .i64 (y)) (fun w3 hp => by
              have h1 := (Xp0.out.chg (hdr _ hp.1)).c1
              show (Instr.loadAt _ _).run Try.prog w3 = _
              go_simp) ?_
            refine RA.ai (by rfl) (by rfl) (by rfl) (by rfl) (x + y) (by omega) (by omega) ?_
            refine RA.lt false (by rfl) (by rfl) (by rfl) (by rfl) (by first | rfl | (simp; done) | (simp; omega)) ?_
            repeat (first | refine RA.mv (by rfl) (by rfl) (by rfl) ?_ | refine RA.as (by rfl) (by rfl) (by rfl) ?_ | refine RA.pt (by rfl) (by rfl) (by rfl) (by rfl) ?_ | refine RA.pf (by rfl) (by rfl) (by rfl) (by rfl) ?_)
            refine RA.fa (by rfl) (by rfl) (by rfl) (y' := .pointer (some ⟨p1, 0, none⟩)) (fun w3 hp => by show (Instr.fieldAt _ _ _).run Try.prog w3 = _; go_simp) ?_
            refine RA.ld (by rfl) (by rfl) (by rfl) (y' := .int .i64 (u)) (fun w3 hp => by
              have h1 := (Xp1.out.chg (hdr _ hp.1)).c0
              show (Instr.loadAt _ _).run Try.prog w3 = _
              go_simp) ?_
            refine RA.ge false (by rfl) (by rfl) (by rfl) (by rfl) (by first | rfl | (simp; done) | (simp; omega)) ?_
            repeat (first | refine RA.mv (by rfl) (by rfl) (by rfl) ?_ | refine RA.as (by rfl) (by rfl) (by rfl) ?_ | refine RA.pt (by rfl) (by rfl) (by rfl) (by rfl) ?_ | refine RA.pf (by rfl) (by rfl) (by rfl) (by rfl) ?_)
            refine RA.n (by rfl) (by rfl) ?_
            simp only [RA.add]
            refine RA.n (by rfl) (by rfl) ?_
            simp only [RA.add]
            refine RA.n (by rfl) (by rfl) ?_
            simp only [RA.add]
            refine RA.n (by rfl) (by rfl) ?_
            simp only [RA.add]
            refine RA.n (by rfl) (by rfl) ?_
            simp only [RA.add]
            refine RA.n (by rfl) (by rfl) ?_
            simp only [RA.add]
            refine RA.n (by rfl) (by rfl) ?_
            simp only [RA.add]
            repeat (first | refine RA.mv (by rfl) (by rfl) (by rfl) ?_ | refine RA.as (by rfl) (by rfl) (by rfl) ?_ | refine RA.pt (by rfl) (by rfl) (by rfl) (by rfl) ?_ | refine RA.pf (by rfl) (by rfl) (by rfl) (by rfl) ?_)
            refine RA.RA.done rfl (fun w9 hR hF hH => ?_)
            clear hF hH
            simp only [RA.put, List.foldr_cons, List.foldr_nil, cx, Act.put, List.setIfInBounds_toArray, List.set_cons_succ, List.set_cons_zero]
            try simp only [Bool.not_true]
            try simp only [Bool.not_false]
            have hb := (hdr _ hR).no
            replace B := Lib.hid (B.out.trans (hb.mono B.out.size))
            replace Xp0 := Lib.hid (Xp0.out.keep hb)
            replace Xp1 := Lib.hid (Xp1.out.keep hb)
            clear hb hR hdr
            have ap0 := Xp0.out.c0
            have bp0 := Xp0.out.c1
            have lp0 := Xp0.out.lt
            have fp0 := fun j => frozen_of Xp0.out j
            clear fp0
            go_wp2_with fail
            clear ap0 bp0 lp0
            refine (has_at (by omega) HP.out _).mono ?_
            rintro e w1 ⟨rfl, hb⟩
            replace B := Lib.hid (B.out.trans (hb.mono B.out.size))
            replace Xp0 := Lib.hid (Xp0.out.keep hb)
            replace Xp1 := Lib.hid (Xp1.out.keep hb)
            clear hb
            have ap1 := Xp1.out.c0
            have bp1 := Xp1.out.c1
            have lp1 := Xp1.out.lt
            have fp1 := fun j => frozen_of Xp1.out j
            clear fp1
            go_wp2_with fail
            clear ap1 bp1 lp1
            refine (has_at (by omega) HQ.out _).mono ?_
            rintro e w2 ⟨rfl, hb⟩
            replace B := Lib.hid (B.out.trans (hb.mono B.out.size))
            replace Xp0 := Lib.hid (Xp0.out.keep hb)
            replace Xp1 := Lib.hid (Xp1.out.keep hb)
            clear hb
            go_wp2_with fail
            go_roundw
            case rel => exact ⟨k + 1, by omega, by go_num, by rw [HS1.out, HP2.out, HQ2.out]; rfl, by rw [HS2.out, HP2.out, HQ2.out]; rfl, B.out, Xp0.out, Xp1.out⟩
            case measure => simp [intOf]; omega
          · have HP := Lib.hid (show hasB (x, y) k = false from by simp [hasB]; omega)
            have HQ := Lib.hid (show hasB (u, v) k = false from by simp [hasB]; omega)
            have HP2 := Lib.hid (show inB (x, y) k = false from by simp [inB]; omega)
            have HQ2 := Lib.hid (show inB (u, v) k = false from by simp [inB]; omega)
            go_wp2_with fail
            have hdr : ∀ w3, Chg No wr.drew w3 → Chg No wr w3 := fun w3 h => ⟨h.os, h.tape, h.output, h.size, h.block⟩
            refine RA.region (fun a b => Chg No a b) (· = ·) [1, 1, 1, 1, 1, 1, 1, 1, 1, 1, 1, 1, 1, 1, 1, 1, 1, 1, 1, 1, 1, 1, 1, 1, 1, 1, 1, 1] (fun _ _ _ => True) (fun _ => True) (by kernel_rfl) (Chg.refl _ _) (fun _ _ h => h ▸ Chg.refl _ _) (fun _ _ _ h k => h.trans k) (fun _ _ h k => h ▸ k) trivial (by kernel_rfl) ?_
            intro cx
            repeat (first | refine RA.mv (by rfl) (by rfl) (by rfl) ?_ | refine RA.as (by rfl) (by rfl) (by rfl) ?_ | refine RA.pt (by rfl) (by rfl) (by rfl) (by rfl) ?_ | refine RA.pf (by rfl) (by rfl) (by rfl) (by rfl) ?_)
            refine RA.fa (by rfl) (by rfl) (by rfl) (y' := .pointer (some ⟨p0, 0, none⟩)) (fun w3 hp => by show (Instr.fieldAt _ _ _).run Try.prog w3 = _; go_simp) ?_
            refine RA.ld (by rfl) (by rfl) (by rfl) (y' := .int .i64 (x)) (fun w3 hp => by
              have h1 := (Xp0.out.chg (hdr _ hp.1)).c0
              show (Instr.loadAt _ _).run Try.prog w3 = _
              go_simp) ?_
            refine RA.ge true (by rfl) (by rfl) (by rfl) (by rfl) (by first | rfl | (simp; done) | (simp; omega)) ?_
            repeat (first | refine RA.mv (by rfl) (by rfl) (by rfl) ?_ | refine RA.as (by rfl) (by rfl) (by rfl) ?_ | refine RA.pt (by rfl) (by rfl) (by rfl) (by rfl) ?_ | refine RA.pf (by rfl) (by rfl) (by rfl) (by rfl) ?_)
            refine RA.fa (by rfl) (by rfl) (by rfl) (y' := .pointer (some ⟨p0, 0, none⟩)) (fun w3 hp => by show (Instr.fieldAt _ _ _).run Try.prog w3 = _; go_simp) ?_
            refine RA.ld (by rfl) (by rfl) (by rfl) (y' := .int .i64 (x)) (fun w3 hp => by
              have h1 := (Xp0.out.chg (hdr _ hp.1)).c0
              show (Instr.loadAt _ _).run Try.prog w3 = _
              go_simp) ?_
            refine RA.fa (by rfl) (by rfl) (by rfl) (y' := .pointer (some ⟨p0, 1, none⟩)) (fun w3 hp => by show (Instr.fieldAt _ _ _).run Try.prog w3 = _; go_simp) ?_
            refine RA.ld (by rfl) (by rfl) (by rfl) (y' := .int .i64 (y)) (fun w3 hp => by
              have h1 := (Xp0.out.chg (hdr _ hp.1)).c1
              show (Instr.loadAt _ _).run Try.prog w3 = _
              go_simp) ?_
            refine RA.ai (by rfl) (by rfl) (by rfl) (by rfl) (x + y) (by omega) (by omega) ?_
            refine RA.lt false (by rfl) (by rfl) (by rfl) (by rfl) (by first | rfl | (simp; done) | (simp; omega)) ?_
            repeat (first | refine RA.mv (by rfl) (by rfl) (by rfl) ?_ | refine RA.as (by rfl) (by rfl) (by rfl) ?_ | refine RA.pt (by rfl) (by rfl) (by rfl) (by rfl) ?_ | refine RA.pf (by rfl) (by rfl) (by rfl) (by rfl) ?_)
            refine RA.fa (by rfl) (by rfl) (by rfl) (y' := .pointer (some ⟨p1, 0, none⟩)) (fun w3 hp => by show (Instr.fieldAt _ _ _).run Try.prog w3 = _; go_simp) ?_
            refine RA.ld (by rfl) (by rfl) (by rfl) (y' := .int .i64 (u)) (fun w3 hp => by
              have h1 := (Xp1.out.chg (hdr _ hp.1)).c0
              show (Instr.loadAt _ _).run Try.prog w3 = _
              go_simp) ?_
            refine RA.ge true (by rfl) (by rfl) (by rfl) (by rfl) (by first | rfl | (simp; done) | (simp; omega)) ?_
            repeat (first | refine RA.mv (by rfl) (by rfl) (by rfl) ?_ | refine RA.as (by rfl) (by rfl) (by rfl) ?_ | refine RA.pt (by rfl) (by rfl) (by rfl) (by rfl) ?_ | refine RA.pf (by rfl) (by rfl) (by rfl) (by rfl) ?_)
            refine RA.fa (by rfl) (by rfl) (by rfl) (y' := .pointer (some ⟨p1, 0, none⟩)) (fun w3 hp => by show (Instr.fieldAt _ _ _).run Try.prog w3 = _; go_simp) ?_
            refine RA.ld (by rfl) (by rfl) (by rfl) (y' := .int .i64 (u)) (fun w3 hp => by
              have h1 := (Xp1.out.chg (hdr _ hp.1)).c0
              show (Instr.loadAt _ _).run Try.prog w3 = _
              go_simp) ?_
            refine RA.fa (by rfl) (by rfl) (by rfl) (y' := .pointer (some ⟨p1, 1, none⟩)) (fun w3 hp => by show (Instr.fieldAt _ _ _).run Try.prog w3 = _; go_simp) ?_
            refine RA.ld (by rfl) (by rfl) (by rfl) (y' := .int .i64 (v)) (fun w3 hp => by
              have h1 := (Xp1.out.chg (hdr _ hp.1)).c1
              show (Instr.loadAt _ _).run Try.prog w3 = _
              go_simp) ?_
            refine RA.ai (by rfl) (by rfl) (by rfl) (by rfl) (u + v) (by omega) (by omega) ?_
            refine RA.lt false (by rfl) (by rfl) (by rfl) (by rfl) (by first | rfl | (simp; done) | (simp; omega)) ?_
            repeat (first | refine RA.mv (by rfl) (by rfl) (by rfl) ?_ | refine RA.as (by rfl) (by rfl) (by rfl) ?_ | refine RA.pt (by rfl) (by rfl) (by rfl) (by rfl) ?_ | refine RA.pf (by rfl) (by rfl) (by rfl) (by rfl) ?_)
            refine RA.RA.done rfl (fun w9 hR hF hH => ?_)
            clear hF hH
            simp only [RA.put, List.foldr_cons, List.foldr_nil, cx, Act.put, List.setIfInBounds_toArray, List.set_cons_succ, List.set_cons_zero]
            try simp only [Bool.not_true]
            try simp only [Bool.not_false]
            have hb := (hdr _ hR).no
            replace B := Lib.hid (B.out.trans (hb.mono B.out.size))
            replace Xp0 := Lib.hid (Xp0.out.keep hb)
            replace Xp1 := Lib.hid (Xp1.out.keep hb)
            clear hb hR hdr
            have ap0 := Xp0.out.c0
            have bp0 := Xp0.out.c1
            have lp0 := Xp0.out.lt
            have fp0 := fun j => frozen_of Xp0.out j
            clear fp0
            go_wp2_with fail
            clear ap0 bp0 lp0
            refine (has_at (by omega) HP.out _).mono ?_
            rintro e w1 ⟨rfl, hb⟩
            replace B := Lib.hid (B.out.trans (hb.mono B.out.size))
            replace Xp0 := Lib.hid (Xp0.out.keep hb)
            replace Xp1 := Lib.hid (Xp1.out.keep hb)
            clear hb
            have ap1 := Xp1.out.c0
            have bp1 := Xp1.out.c1
            have lp1 := Xp1.out.lt
            have fp1 := fun j => frozen_of Xp1.out j
            clear fp1
            go_wp2_with fail
            clear ap1 bp1 lp1
            refine (has_at (by omega) HQ.out _).mono ?_
            rintro e w2 ⟨rfl, hb⟩
            replace B := Lib.hid (B.out.trans (hb.mono B.out.size))
            replace Xp0 := Lib.hid (Xp0.out.keep hb)
            replace Xp1 := Lib.hid (Xp1.out.keep hb)
            clear hb
            go_wp2_with fail
            go_roundw
            case rel => exact ⟨k + 1, by omega, by go_num, by rw [HS1.out, HP2.out, HQ2.out]; rfl, by rw [HS2.out, HP2.out, HQ2.out]; rfl, B.out, Xp0.out, Xp1.out⟩
            case measure => simp [intOf]; omega
          · have HP := Lib.hid (show hasB (x, y) k = false from by simp [hasB]; omega)
            have HQ := Lib.hid (show hasB (u, v) k = true from by simp [hasB]; omega)
            have HP2 := Lib.hid (show inB (x, y) k = false from by simp [inB]; omega)
            have HQ2 := Lib.hid (show inB (u, v) k = true from by simp [inB]; omega)
            go_wp2_with fail
            have hdr : ∀ w3, Chg No wr.drew w3 → Chg No wr w3 := fun w3 h => ⟨h.os, h.tape, h.output, h.size, h.block⟩
            refine RA.region (fun a b => Chg No a b) (· = ·) [1, 1, 1, 1, 1, 1, 1, 1, 1, 1, 1, 1, 1, 1, 1, 1, 1, 1, 1, 1, 1, 1, 1, 1, 1, 1, 1, 1] (fun _ _ _ => True) (fun _ => True) (by kernel_rfl) (Chg.refl _ _) (fun _ _ h => h ▸ Chg.refl _ _) (fun _ _ _ h k => h.trans k) (fun _ _ h k => h ▸ k) trivial (by kernel_rfl) ?_
            intro cx
            repeat (first | refine RA.mv (by rfl) (by rfl) (by rfl) ?_ | refine RA.as (by rfl) (by rfl) (by rfl) ?_ | refine RA.pt (by rfl) (by rfl) (by rfl) (by rfl) ?_ | refine RA.pf (by rfl) (by rfl) (by rfl) (by rfl) ?_)
            refine RA.fa (by rfl) (by rfl) (by rfl) (y' := .pointer (some ⟨p0, 0, none⟩)) (fun w3 hp => by show (Instr.fieldAt _ _ _).run Try.prog w3 = _; go_simp) ?_
            refine RA.ld (by rfl) (by rfl) (by rfl) (y' := .int .i64 (x)) (fun w3 hp => by
              have h1 := (Xp0.out.chg (hdr _ hp.1)).c0
              show (Instr.loadAt _ _).run Try.prog w3 = _
              go_simp) ?_
            refine RA.ge true (by rfl) (by rfl) (by rfl) (by rfl) (by first | rfl | (simp; done) | (simp; omega)) ?_
            repeat (first | refine RA.mv (by rfl) (by rfl) (by rfl) ?_ | refine RA.as (by rfl) (by rfl) (by rfl) ?_ | refine RA.pt (by rfl) (by rfl) (by rfl) (by rfl) ?_ | refine RA.pf (by rfl) (by rfl) (by rfl) (by rfl) ?_)
            refine RA.fa (by rfl) (by rfl) (by rfl) (y' := .pointer (some ⟨p0, 0, none⟩)) (fun w3 hp => by show (Instr.fieldAt _ _ _).run Try.prog w3 = _; go_simp) ?_
            refine RA.ld (by rfl) (by rfl) (by rfl) (y' := .int .i64 (x)) (fun w3 hp => by
              have h1 := (Xp0.out.chg (hdr _ hp.1)).c0
              show (Instr.loadAt _ _).run Try.prog w3 = _
              go_simp) ?_
            refine RA.fa (by rfl) (by rfl) (by rfl) (y' := .pointer (some ⟨p0, 1, none⟩)) (fun w3 hp => by show (Instr.fieldAt _ _ _).run Try.prog w3 = _; go_simp) ?_
            refine RA.ld (by rfl) (by rfl) (by rfl) (y' := .int .i64 (y)) (fun w3 hp => by
              have h1 := (Xp0.out.chg (hdr _ hp.1)).c1
              show (Instr.loadAt _ _).run Try.prog w3 = _
              go_simp) ?_
            refine RA.ai (by rfl) (by rfl) (by rfl) (by rfl) (x + y) (by omega) (by omega) ?_
            refine RA.lt false (by rfl) (by rfl) (by rfl) (by rfl) (by first | rfl | (simp; done) | (simp; omega)) ?_
            repeat (first | refine RA.mv (by rfl) (by rfl) (by rfl) ?_ | refine RA.as (by rfl) (by rfl) (by rfl) ?_ | refine RA.pt (by rfl) (by rfl) (by rfl) (by rfl) ?_ | refine RA.pf (by rfl) (by rfl) (by rfl) (by rfl) ?_)
            refine RA.fa (by rfl) (by rfl) (by rfl) (y' := .pointer (some ⟨p1, 0, none⟩)) (fun w3 hp => by show (Instr.fieldAt _ _ _).run Try.prog w3 = _; go_simp) ?_
            refine RA.ld (by rfl) (by rfl) (by rfl) (y' := .int .i64 (u)) (fun w3 hp => by
              have h1 := (Xp1.out.chg (hdr _ hp.1)).c0
              show (Instr.loadAt _ _).run Try.prog w3 = _
              go_simp) ?_
            refine RA.ge true (by rfl) (by rfl) (by rfl) (by rfl) (by first | rfl | (simp; done) | (simp; omega)) ?_
            repeat (first | refine RA.mv (by rfl) (by rfl) (by rfl) ?_ | refine RA.as (by rfl) (by rfl) (by rfl) ?_ | refine RA.pt (by rfl) (by rfl) (by rfl) (by rfl) ?_ | refine RA.pf (by rfl) (by rfl) (by rfl) (by rfl) ?_)
            refine RA.fa (by rfl) (by rfl) (by rfl) (y' := .pointer (some ⟨p1, 0, none⟩)) (fun w3 hp => by show (Instr.fieldAt _ _ _).run Try.prog w3 = _; go_simp) ?_
            refine RA.ld (by rfl) (by rfl) (by rfl) (y' := .int .i64 (u)) (fun w3 hp => by
              have h1 := (Xp1.out.chg (hdr _ hp.1)).c0
              show (Instr.loadAt _ _).run Try.prog w3 = _
              go_simp) ?_
            refine RA.fa (by rfl) (by rfl) (by rfl) (y' := .pointer (some ⟨p1, 1, none⟩)) (fun w3 hp => by show (Instr.fieldAt _ _ _).run Try.prog w3 = _; go_simp) ?_
            refine RA.ld (by rfl) (by rfl) (by rfl) (y' := .int .i64 (v)) (fun w3 hp => by
              have h1 := (Xp1.out.chg (hdr _ hp.1)).c1
              show (Instr.loadAt _ _).run Try.prog w3 = _
              go_simp) ?_
            refine RA.ai (by rfl) (by rfl) (by rfl) (by rfl) (u + v) (by omega) (by omega) ?_
            refine RA.lt true (by rfl) (by rfl) (by rfl) (by rfl) (by first | rfl | (simp; done) | (simp; omega)) ?_
            repeat (first | refine RA.mv (by rfl) (by rfl) (by rfl) ?_ | refine RA.as (by rfl) (by rfl) (by rfl) ?_ | refine RA.pt (by rfl) (by rfl) (by rfl) (by rfl) ?_ | refine RA.pf (by rfl) (by rfl) (by rfl) (by rfl) ?_)
            refine RA.RA.done rfl (fun w9 hR hF hH => ?_)
            clear hF hH
            simp only [RA.put, List.foldr_cons, List.foldr_nil, cx, Act.put, List.setIfInBounds_toArray, List.set_cons_succ, List.set_cons_zero]
            try simp only [Bool.not_true]
            try simp only [Bool.not_false]
            have hb := (hdr _ hR).no
            replace B := Lib.hid (B.out.trans (hb.mono B.out.size))
            replace Xp0 := Lib.hid (Xp0.out.keep hb)
            replace Xp1 := Lib.hid (Xp1.out.keep hb)
            clear hb hR hdr
            have ap0 := Xp0.out.c0
            have bp0 := Xp0.out.c1
            have lp0 := Xp0.out.lt
            have fp0 := fun j => frozen_of Xp0.out j
            clear fp0
            go_wp2_with fail
            clear ap0 bp0 lp0
            refine (has_at (by omega) HP.out _).mono ?_
            rintro e w1 ⟨rfl, hb⟩
            replace B := Lib.hid (B.out.trans (hb.mono B.out.size))
            replace Xp0 := Lib.hid (Xp0.out.keep hb)
            replace Xp1 := Lib.hid (Xp1.out.keep hb)
            clear hb
            have ap1 := Xp1.out.c0
            have bp1 := Xp1.out.c1
            have lp1 := Xp1.out.lt
            have fp1 := fun j => frozen_of Xp1.out j
            clear fp1
            go_wp2_with fail
            clear ap1 bp1 lp1
            refine (has_at (by omega) HQ.out _).mono ?_
            rintro e w2 ⟨rfl, hb⟩
            replace B := Lib.hid (B.out.trans (hb.mono B.out.size))
            replace Xp0 := Lib.hid (Xp0.out.keep hb)
            replace Xp1 := Lib.hid (Xp1.out.keep hb)
            clear hb
            go_wp2_with fail
            go_roundw
            case rel => exact ⟨k + 1, by omega, by go_num, by rw [HS1.out, HP2.out, HQ2.out]; rfl, by rw [HS2.out, HP2.out, HQ2.out]; rfl, B.out, Xp0.out, Xp1.out⟩
            case measure => simp [intOf]; omega
        · rcases (by omega : ¬ u ≤ (k : Int) ∨ (u ≤ (k : Int) ∧ ¬ (k : Int) < u + v) ∨ (u ≤ (k : Int) ∧ (k : Int) < u + v)) with hb1 | ⟨hb1, hb2⟩ | ⟨hb1, hb2⟩
          · have HP := Lib.hid (show hasB (x, y) k = true from by simp [hasB]; omega)
            have HQ := Lib.hid (show hasB (u, v) k = false from by simp [hasB]; omega)
            have HP2 := Lib.hid (show inB (x, y) k = true from by simp [inB]; omega)
            have HQ2 := Lib.hid (show inB (u, v) k = false from by simp [inB]; omega)
            go_wp2_with fail
            have hdr : ∀ w3, Chg No wr.drew w3 → Chg No wr w3 := fun w3 h => ⟨h.os, h.tape, h.output, h.size, h.block⟩
            refine RA.region (fun a b => Chg No a b) (· = ·) [1, 1, 1, 1, 1, 1, 1, 1, 1, 1, 1, 1, 1, 1, 1, 1, 1, 1, 0, 0, 0, 0, 0, 0, 0, 1, 1, 1] (fun _ _ _ => True) (fun _ => True) (by kernel_rfl) (Chg.refl _ _) (fun _ _ h => h ▸ Chg.refl _ _) (fun _ _ _ h k => h.trans k) (fun _ _ h k => h ▸ k) trivial (by kernel_rfl) ?_
            intro cx
            repeat (first | refine RA.mv (by rfl) (by rfl) (by rfl) ?_ | refine RA.as (by rfl) (by rfl) (by rfl) ?_ | refine RA.pt (by rfl) (by rfl) (by rfl) (by rfl) ?_ | refine RA.pf (by rfl) (by rfl) (by rfl) (by rfl) ?_)
            refine RA.fa (by rfl) (by rfl) (by rfl) (y' := .pointer (some ⟨p0, 0, none⟩)) (fun w3 hp => by show (Instr.fieldAt _ _ _).run Try.prog w3 = _; go_simp) ?_
            refine RA.ld (by rfl) (by rfl) (by rfl) (y' := .int .i64 (x)) (fun w3 hp => by
              have h1 := (Xp0.out.chg (hdr _ hp.1)).c0
              show (Instr.loadAt _ _).run Try.prog w3 = _
              go_simp) ?_
            refine RA.ge true (by rfl) (by rfl) (by rfl) (by rfl) (by first | rfl | (simp; done) | (simp; omega)) ?_
            repeat (first | refine RA.mv (by rfl) (by rfl) (by rfl) ?_ | refine RA.as (by rfl) (by rfl) (by rfl) ?_ | refine RA.pt (by rfl) (by rfl) (by rfl) (by rfl) ?_ | refine RA.pf (by rfl) (by rfl) (by rfl) (by rfl) ?_)
            refine RA.fa (by rfl) (by rfl) (by rfl) (y' := .pointer (some ⟨p0, 0, none⟩)) (fun w3 hp => by show (Instr.fieldAt _ _ _).run Try.prog w3 = _; go_simp) ?_
            refine RA.ld (by rfl) (by rfl) (by rfl) (y' := .int .i64 (x)) (fun w3 hp => by
              have h1 := (Xp0.out.chg (hdr _ hp.1)).c0
              show (Instr.loadAt _ _).run Try.prog w3 = _
              go_simp) ?_
            refine RA.fa (by rfl) (by rfl) (by rfl) (y' := .pointer (some ⟨p0, 1, none⟩)) (fun w3 hp => by show (Instr.fieldAt _ _ _).run Try.prog w3 = _; go_simp) ?_
            refine RA.ld (by rfl) (by rfl) (by rfl) (y' := .int .i64 (y)) (fun w3 hp => by
              have h1 := (Xp0.out.chg (hdr _ hp.1)).c1
              show (Instr.loadAt _ _).run Try.prog w3 = _
              go_simp) ?_
            refine RA.ai (by rfl) (by rfl) (by rfl) (by rfl) (x + y) (by omega) (by omega) ?_
            refine RA.lt true (by rfl) (by rfl) (by rfl) (by rfl) (by first | rfl | (simp; done) | (simp; omega)) ?_
            repeat (first | refine RA.mv (by rfl) (by rfl) (by rfl) ?_ | refine RA.as (by rfl) (by rfl) (by rfl) ?_ | refine RA.pt (by rfl) (by rfl) (by rfl) (by rfl) ?_ | refine RA.pf (by rfl) (by rfl) (by rfl) (by rfl) ?_)
            refine RA.fa (by rfl) (by rfl) (by rfl) (y' := .pointer (some ⟨p1, 0, none⟩)) (fun w3 hp => by show (Instr.fieldAt _ _ _).run Try.prog w3 = _; go_simp) ?_
            refine RA.ld (by rfl) (by rfl) (by rfl) (y' := .int .i64 (u)) (fun w3 hp => by
              have h1 := (Xp1.out.chg (hdr _ hp.1)).c0
              show (Instr.loadAt _ _).run Try.prog w3 = _
              go_simp) ?_
            refine RA.ge false (by rfl) (by rfl) (by rfl) (by rfl) (by first | rfl | (simp; done) | (simp; omega)) ?_
            repeat (first | refine RA.mv (by rfl) (by rfl) (by rfl) ?_ | refine RA.as (by rfl) (by rfl) (by rfl) ?_ | refine RA.pt (by rfl) (by rfl) (by rfl) (by rfl) ?_ | refine RA.pf (by rfl) (by rfl) (by rfl) (by rfl) ?_)
            refine RA.n (by rfl) (by rfl) ?_
            simp only [RA.add]
            refine RA.n (by rfl) (by rfl) ?_
            simp only [RA.add]
            refine RA.n (by rfl) (by rfl) ?_
            simp only [RA.add]
            refine RA.n (by rfl) (by rfl) ?_
            simp only [RA.add]
            refine RA.n (by rfl) (by rfl) ?_
            simp only [RA.add]
            refine RA.n (by rfl) (by rfl) ?_
            simp only [RA.add]
            refine RA.n (by rfl) (by rfl) ?_
            simp only [RA.add]
            repeat (first | refine RA.mv (by rfl) (by rfl) (by rfl) ?_ | refine RA.as (by rfl) (by rfl) (by rfl) ?_ | refine RA.pt (by rfl) (by rfl) (by rfl) (by rfl) ?_ | refine RA.pf (by rfl) (by rfl) (by rfl) (by rfl) ?_)
            refine RA.RA.done rfl (fun w9 hR hF hH => ?_)
            clear hF hH
            simp only [RA.put, List.foldr_cons, List.foldr_nil, cx, Act.put, List.setIfInBounds_toArray, List.set_cons_succ, List.set_cons_zero]
            try simp only [Bool.not_true]
            try simp only [Bool.not_false]
            have hb := (hdr _ hR).no
            replace B := Lib.hid (B.out.trans (hb.mono B.out.size))
            replace Xp0 := Lib.hid (Xp0.out.keep hb)
            replace Xp1 := Lib.hid (Xp1.out.keep hb)
            clear hb hR hdr
            have ap0 := Xp0.out.c0
            have bp0 := Xp0.out.c1
            have lp0 := Xp0.out.lt
            have fp0 := fun j => frozen_of Xp0.out j
            clear fp0
            go_wp2_with fail
            clear ap0 bp0 lp0
            refine (has_at (by omega) HP.out _).mono ?_
            rintro e w1 ⟨rfl, hb⟩
            replace B := Lib.hid (B.out.trans (hb.mono B.out.size))
            replace Xp0 := Lib.hid (Xp0.out.keep hb)
            replace Xp1 := Lib.hid (Xp1.out.keep hb)
            clear hb
            have ap1 := Xp1.out.c0
            have bp1 := Xp1.out.c1
            have lp1 := Xp1.out.lt
            have fp1 := fun j => frozen_of Xp1.out j
            clear fp1
            go_wp2_with fail
            clear ap1 bp1 lp1
            refine (has_at (by omega) HQ.out _).mono ?_
            rintro e w2 ⟨rfl, hb⟩
            replace B := Lib.hid (B.out.trans (hb.mono B.out.size))
            replace Xp0 := Lib.hid (Xp0.out.keep hb)
            replace Xp1 := Lib.hid (Xp1.out.keep hb)
            clear hb
            go_wp2_with fail
            go_roundw
            case rel => exact ⟨k + 1, by omega, by go_num, by rw [HS1.out, HP2.out, HQ2.out]; rfl, by rw [HS2.out, HP2.out, HQ2.out]; rfl, B.out, Xp0.out, Xp1.out⟩
            case measure => simp [intOf]; omega
          · have HP := Lib.hid (show hasB (x, y) k = true from by simp [hasB]; omega)
            have HQ := Lib.hid (show hasB (u, v) k = false from by simp [hasB]; omega)
            have HP2 := Lib.hid (show inB (x, y) k = true from by simp [inB]; omega)
            have HQ2 := Lib.hid (show inB (u, v) k = false from by simp [inB]; omega)
            go_wp2_with fail
            have hdr : ∀ w3, Chg No wr.drew w3 → Chg No wr w3 := fun w3 h => ⟨h.os, h.tape, h.output, h.size, h.block⟩
            refine RA.region (fun a b => Chg No a b) (· = ·) [1, 1, 1, 1, 1, 1, 1, 1, 1, 1, 1, 1, 1, 1, 1, 1, 1, 1, 1, 1, 1, 1, 1, 1, 1, 1, 1, 1] (fun _ _ _ => True) (fun _ => True) (by kernel_rfl) (Chg.refl _ _) (fun _ _ h => h ▸ Chg.refl _ _) (fun _ _ _ h k => h.trans k) (fun _ _ h k => h ▸ k) trivial (by kernel_rfl) ?_
            intro cx
            repeat (first | refine RA.mv (by rfl) (by rfl) (by rfl) ?_ | refine RA.as (by rfl) (by rfl) (by rfl) ?_ | refine RA.pt (by rfl) (by rfl) (by rfl) (by rfl) ?_ | refine RA.pf (by rfl) (by rfl) (by rfl) (by rfl) ?_)
            refine RA.fa (by rfl) (by rfl) (by rfl) (y' := .pointer (some ⟨p0, 0, none⟩)) (fun w3 hp => by show (Instr.fieldAt _ _ _).run Try.prog w3 = _; go_simp) ?_
            refine RA.ld (by rfl) (by rfl) (by rfl) (y' := .int .i64 (x)) (fun w3 hp => by
              have h1 := (Xp0.out.chg (hdr _ hp.1)).c0
              show (Instr.loadAt _ _).run Try.prog w3 = _
              go_simp) ?_
            refine RA.ge true (by rfl) (by rfl) (by rfl) (by rfl) (by first | rfl | (simp; done) | (simp; omega)) ?_
            repeat (first | refine RA.mv (by rfl) (by rfl) (by rfl) ?_ | refine RA.as (by rfl) (by rfl) (by rfl) ?_ | refine RA.pt (by rfl) (by rfl) (by rfl) (by rfl) ?_ | refine RA.pf (by rfl) (by rfl) (by rfl) (by rfl) ?_)
            refine RA.fa (by rfl) (by rfl) (by rfl) (y' := .pointer (some ⟨p0, 0, none⟩)) (fun w3 hp => by show (Instr.fieldAt _ _ _).run Try.prog w3 = _; go_simp) ?_
            refine RA.ld (by rfl) (by rfl) (by rfl) (y' := .int .i64 (x)) (fun w3 hp => by
              have h1 := (Xp0.out.chg (hdr _ hp.1)).c0
              show (Instr.loadAt _ _).run Try.prog w3 = _
              go_simp) ?_
            refine RA.fa (by rfl) (by rfl) (by rfl) (y' := .pointer (some ⟨p0, 1, none⟩)) (fun w3 hp => by show (Instr.fieldAt _ _ _).run Try.prog w3 = _; go_simp) ?_
            refine RA.ld (by rfl) (by rfl) (by rfl) (y' := .int .i64 (y)) (fun w3 hp => by
              have h1 := (Xp0.out.chg (hdr _ hp.1)).c1
              show (Instr.loadAt _ _).run Try.prog w3 = _
              go_simp) ?_
            refine RA.ai (by rfl) (by rfl) (by rfl) (by rfl) (x + y) (by omega) (by omega) ?_
            refine RA.lt true (by rfl) (by rfl) (by rfl) (by rfl) (by first | rfl | (simp; done) | (simp; omega)) ?_
            repeat (first | refine RA.mv (by rfl) (by rfl) (by rfl) ?_ | refine RA.as (by rfl) (by rfl) (by rfl) ?_ | refine RA.pt (by rfl) (by rfl) (by rfl) (by rfl) ?_ | refine RA.pf (by rfl) (by rfl) (by rfl) (by rfl) ?_)
            refine RA.fa (by rfl) (by rfl) (by rfl) (y' := .pointer (some ⟨p1, 0, none⟩)) (fun w3 hp => by show (Instr.fieldAt _ _ _).run Try.prog w3 = _; go_simp) ?_
            refine RA.ld (by rfl) (by rfl) (by rfl) (y' := .int .i64 (u)) (fun w3 hp => by
              have h1 := (Xp1.out.chg (hdr _ hp.1)).c0
              show (Instr.loadAt _ _).run Try.prog w3 = _
              go_simp) ?_
            refine RA.ge true (by rfl) (by rfl) (by rfl) (by rfl) (by first | rfl | (simp; done) | (simp; omega)) ?_
            repeat (first | refine RA.mv (by rfl) (by rfl) (by rfl) ?_ | refine RA.as (by rfl) (by rfl) (by rfl) ?_ | refine RA.pt (by rfl) (by rfl) (by rfl) (by rfl) ?_ | refine RA.pf (by rfl) (by rfl) (by rfl) (by rfl) ?_)
            refine RA.fa (by rfl) (by rfl) (by rfl) (y' := .pointer (some ⟨p1, 0, none⟩)) (fun w3 hp => by show (Instr.fieldAt _ _ _).run Try.prog w3 = _; go_simp) ?_
            refine RA.ld (by rfl) (by rfl) (by rfl) (y' := .int .i64 (u)) (fun w3 hp => by
              have h1 := (Xp1.out.chg (hdr _ hp.1)).c0
              show (Instr.loadAt _ _).run Try.prog w3 = _
              go_simp) ?_
            refine RA.fa (by rfl) (by rfl) (by rfl) (y' := .pointer (some ⟨p1, 1, none⟩)) (fun w3 hp => by show (Instr.fieldAt _ _ _).run Try.prog w3 = _; go_simp) ?_
            refine RA.ld (by rfl) (by rfl) (by rfl) (y' := .int .i64 (v)) (fun w3 hp => by
              have h1 := (Xp1.out.chg (hdr _ hp.1)).c1
              show (Instr.loadAt _ _).run Try.prog w3 = _
              go_simp) ?_
            refine RA.ai (by rfl) (by rfl) (by rfl) (by rfl) (u + v) (by omega) (by omega) ?_
            refine RA.lt false (by rfl) (by rfl) (by rfl) (by rfl) (by first | rfl | (simp; done) | (simp; omega)) ?_
            repeat (first | refine RA.mv (by rfl) (by rfl) (by rfl) ?_ | refine RA.as (by rfl) (by rfl) (by rfl) ?_ | refine RA.pt (by rfl) (by rfl) (by rfl) (by rfl) ?_ | refine RA.pf (by rfl) (by rfl) (by rfl) (by rfl) ?_)
            refine RA.RA.done rfl (fun w9 hR hF hH => ?_)
            clear hF hH
            simp only [RA.put, List.foldr_cons, List.foldr_nil, cx, Act.put, List.setIfInBounds_toArray, List.set_cons_succ, List.set_cons_zero]
            try simp only [Bool.not_true]
            try simp only [Bool.not_false]
            have hb := (hdr _ hR).no
            replace B := Lib.hid (B.out.trans (hb.mono B.out.size))
            replace Xp0 := Lib.hid (Xp0.out.keep hb)
            replace Xp1 := Lib.hid (Xp1.out.keep hb)
            clear hb hR hdr
            have ap0 := Xp0.out.c0
            have bp0 := Xp0.out.c1
            have lp0 := Xp0.out.lt
            have fp0 := fun j => frozen_of Xp0.out j
            clear fp0
            go_wp2_with fail
            clear ap0 bp0 lp0
            refine (has_at (by omega) HP.out _).mono ?_
            rintro e w1 ⟨rfl, hb⟩
            replace B := Lib.hid (B.out.trans (hb.mono B.out.size))
            replace Xp0 := Lib.hid (Xp0.out.keep hb)
            replace Xp1 := Lib.hid (Xp1.out.keep hb)
            clear hb
            have ap1 := Xp1.out.c0
            have bp1 := Xp1.out.c1
            have lp1 := Xp1.out.lt
            have fp1 := fun j => frozen_of Xp1.out j
            clear fp1
            go_wp2_with fail
            clear ap1 bp1 lp1
            refine (has_at (by omega) HQ.out _).mono ?_
            rintro e w2 ⟨rfl, hb⟩
            replace B := Lib.hid (B.out.trans (hb.mono B.out.size))
            replace Xp0 := Lib.hid (Xp0.out.keep hb)
            replace Xp1 := Lib.hid (Xp1.out.keep hb)
            clear hb
            go_wp2_with fail
            go_roundw
            case rel => exact ⟨k + 1, by omega, by go_num, by rw [HS1.out, HP2.out, HQ2.out]; rfl, by rw [HS2.out, HP2.out, HQ2.out]; rfl, B.out, Xp0.out, Xp1.out⟩
            case measure => simp [intOf]; omega
          · have HP := Lib.hid (show hasB (x, y) k = true from by simp [hasB]; omega)
            have HQ := Lib.hid (show hasB (u, v) k = true from by simp [hasB]; omega)
            have HP2 := Lib.hid (show inB (x, y) k = true from by simp [inB]; omega)
            have HQ2 := Lib.hid (show inB (u, v) k = true from by simp [inB]; omega)
            go_wp2_with fail
            have hdr : ∀ w3, Chg No wr.drew w3 → Chg No wr w3 := fun w3 h => ⟨h.os, h.tape, h.output, h.size, h.block⟩
            refine RA.region (fun a b => Chg No a b) (· = ·) [1, 1, 1, 1, 1, 1, 1, 1, 1, 1, 1, 1, 1, 1, 1, 1, 1, 1, 1, 1, 1, 1, 1, 1, 1, 1, 1, 1] (fun _ _ _ => True) (fun _ => True) (by kernel_rfl) (Chg.refl _ _) (fun _ _ h => h ▸ Chg.refl _ _) (fun _ _ _ h k => h.trans k) (fun _ _ h k => h ▸ k) trivial (by kernel_rfl) ?_
            intro cx
            repeat (first | refine RA.mv (by rfl) (by rfl) (by rfl) ?_ | refine RA.as (by rfl) (by rfl) (by rfl) ?_ | refine RA.pt (by rfl) (by rfl) (by rfl) (by rfl) ?_ | refine RA.pf (by rfl) (by rfl) (by rfl) (by rfl) ?_)
            refine RA.fa (by rfl) (by rfl) (by rfl) (y' := .pointer (some ⟨p0, 0, none⟩)) (fun w3 hp => by show (Instr.fieldAt _ _ _).run Try.prog w3 = _; go_simp) ?_
            refine RA.ld (by rfl) (by rfl) (by rfl) (y' := .int .i64 (x)) (fun w3 hp => by
              have h1 := (Xp0.out.chg (hdr _ hp.1)).c0
              show (Instr.loadAt _ _).run Try.prog w3 = _
              go_simp) ?_
            refine RA.ge true (by rfl) (by rfl) (by rfl) (by rfl) (by first | rfl | (simp; done) | (simp; omega)) ?_
            repeat (first | refine RA.mv (by rfl) (by rfl) (by rfl) ?_ | refine RA.as (by rfl) (by rfl) (by rfl) ?_ | refine RA.pt (by rfl) (by rfl) (by rfl) (by rfl) ?_ | refine RA.pf (by rfl) (by rfl) (by rfl) (by rfl) ?_)
            refine RA.fa (by rfl) (by rfl) (by rfl) (y' := .pointer (some ⟨p0, 0, none⟩)) (fun w3 hp => by show (Instr.fieldAt _ _ _).run Try.prog w3 = _; go_simp) ?_
            refine RA.ld (by rfl) (by rfl) (by rfl) (y' := .int .i64 (x)) (fun w3 hp => by
              have h1 := (Xp0.out.chg (hdr _ hp.1)).c0
              show (Instr.loadAt _ _).run Try.prog w3 = _
              go_simp) ?_
            refine RA.fa (by rfl) (by rfl) (by rfl) (y' := .pointer (some ⟨p0, 1, none⟩)) (fun w3 hp => by show (Instr.fieldAt _ _ _).run Try.prog w3 = _; go_simp) ?_
            refine RA.ld (by rfl) (by rfl) (by rfl) (y' := .int .i64 (y)) (fun w3 hp => by
              have h1 := (Xp0.out.chg (hdr _ hp.1)).c1
              show (Instr.loadAt _ _).run Try.prog w3 = _
              go_simp) ?_
            refine RA.ai (by rfl) (by rfl) (by rfl) (by rfl) (x + y) (by omega) (by omega) ?_
            refine RA.lt true (by rfl) (by rfl) (by rfl) (by rfl) (by first | rfl | (simp; done) | (simp; omega)) ?_
            repeat (first | refine RA.mv (by rfl) (by rfl) (by rfl) ?_ | refine RA.as (by rfl) (by rfl) (by rfl) ?_ | refine RA.pt (by rfl) (by rfl) (by rfl) (by rfl) ?_ | refine RA.pf (by rfl) (by rfl) (by rfl) (by rfl) ?_)
            refine RA.fa (by rfl) (by rfl) (by rfl) (y' := .pointer (some ⟨p1, 0, none⟩)) (fun w3 hp => by show (Instr.fieldAt _ _ _).run Try.prog w3 = _; go_simp) ?_
            refine RA.ld (by rfl) (by rfl) (by rfl) (y' := .int .i64 (u)) (fun w3 hp => by
              have h1 := (Xp1.out.chg (hdr _ hp.1)).c0
              show (Instr.loadAt _ _).run Try.prog w3 = _
              go_simp) ?_
            refine RA.ge true (by rfl) (by rfl) (by rfl) (by rfl) (by first | rfl | (simp; done) | (simp; omega)) ?_
            repeat (first | refine RA.mv (by rfl) (by rfl) (by rfl) ?_ | refine RA.as (by rfl) (by rfl) (by rfl) ?_ | refine RA.pt (by rfl) (by rfl) (by rfl) (by rfl) ?_ | refine RA.pf (by rfl) (by rfl) (by rfl) (by rfl) ?_)
            refine RA.fa (by rfl) (by rfl) (by rfl) (y' := .pointer (some ⟨p1, 0, none⟩)) (fun w3 hp => by show (Instr.fieldAt _ _ _).run Try.prog w3 = _; go_simp) ?_
            refine RA.ld (by rfl) (by rfl) (by rfl) (y' := .int .i64 (u)) (fun w3 hp => by
              have h1 := (Xp1.out.chg (hdr _ hp.1)).c0
              show (Instr.loadAt _ _).run Try.prog w3 = _
              go_simp) ?_
            refine RA.fa (by rfl) (by rfl) (by rfl) (y' := .pointer (some ⟨p1, 1, none⟩)) (fun w3 hp => by show (Instr.fieldAt _ _ _).run Try.prog w3 = _; go_simp) ?_
            refine RA.ld (by rfl) (by rfl) (by rfl) (y' := .int .i64 (v)) (fun w3 hp => by
              have h1 := (Xp1.out.chg (hdr _ hp.1)).c1
              show (Instr.loadAt _ _).run Try.prog w3 = _
              go_simp) ?_
            refine RA.ai (by rfl) (by rfl) (by rfl) (by rfl) (u + v) (by omega) (by omega) ?_
            refine RA.lt true (by rfl) (by rfl) (by rfl) (by rfl) (by first | rfl | (simp; done) | (simp; omega)) ?_
            repeat (first | refine RA.mv (by rfl) (by rfl) (by rfl) ?_ | refine RA.as (by rfl) (by rfl) (by rfl) ?_ | refine RA.pt (by rfl) (by rfl) (by rfl) (by rfl) ?_ | refine RA.pf (by rfl) (by rfl) (by rfl) (by rfl) ?_)
            refine RA.RA.done rfl (fun w9 hR hF hH => ?_)
            clear hF hH
            simp only [RA.put, List.foldr_cons, List.foldr_nil, cx, Act.put, List.setIfInBounds_toArray, List.set_cons_succ, List.set_cons_zero]
            try simp only [Bool.not_true]
            try simp only [Bool.not_false]
            have hb := (hdr _ hR).no
            replace B := Lib.hid (B.out.trans (hb.mono B.out.size))
            replace Xp0 := Lib.hid (Xp0.out.keep hb)
            replace Xp1 := Lib.hid (Xp1.out.keep hb)
            clear hb hR hdr
            have ap0 := Xp0.out.c0
            have bp0 := Xp0.out.c1
            have lp0 := Xp0.out.lt
            have fp0 := fun j => frozen_of Xp0.out j
            clear fp0
            go_wp2_with fail
            clear ap0 bp0 lp0
            refine (has_at (by omega) HP.out _).mono ?_
            rintro e w1 ⟨rfl, hb⟩
            replace B := Lib.hid (B.out.trans (hb.mono B.out.size))
            replace Xp0 := Lib.hid (Xp0.out.keep hb)
            replace Xp1 := Lib.hid (Xp1.out.keep hb)
            clear hb
            have ap1 := Xp1.out.c0
            have bp1 := Xp1.out.c1
            have lp1 := Xp1.out.lt
            have fp1 := fun j => frozen_of Xp1.out j
            clear fp1
            go_wp2_with fail
            clear ap1 bp1 lp1
            refine (has_at (by omega) HQ.out _).mono ?_
            rintro e w2 ⟨rfl, hb⟩
            replace B := Lib.hid (B.out.trans (hb.mono B.out.size))
            replace Xp0 := Lib.hid (Xp0.out.keep hb)
            replace Xp1 := Lib.hid (Xp1.out.keep hb)
            clear hb
            go_wp2_with fail
            go_roundw
            case rel => exact ⟨k + 1, by omega, by go_num, by rw [HS1.out, HP2.out, HQ2.out]; rfl, by rw [HS2.out, HP2.out, HQ2.out]; rfl, B.out, Xp0.out, Xp1.out⟩
            case measure => simp [intOf]; omega
      · obtain rfl : k = 400 := by omega
        have HCO2 := Lib.hid (show ((cov [(x, y), (u, v)] 400 : Nat) : Int) = (cntO (x, y) (u, v) 400 : Nat) from by rw [HCO.out])
        have hdec : (0 < cntB (x, y) (u, v) 400 ∧ overB (x, y) (u, v) = true) ∨ (¬ 0 < cntB (x, y) (u, v) 400 ∧ overB (x, y) (u, v) = false) := by
          rw [HOV.out]
          by_cases h : 0 < cntB (x, y) (u, v) 400 <;> simp [h]
        generalize cntB (x, y) (u, v) 400 = cb at *
        generalize cntO (x, y) (u, v) 400 = co at *
        rcases hdec with ⟨hpos, ho⟩ | ⟨hpos, ho⟩
        · have HO2 := Lib.hid (show overB (u, v) (x, y) = true from by rw [over_comm]; exact ho)
          have HO1 := Lib.hid ho
          clear ho hlt
          have ap0 := Xp0.out.c0
          have bp0 := Xp0.out.c1
          have lp0 := Xp0.out.lt
          have fp0 := fun j => frozen_of Xp0.out j
          clear fp0
          have ap1 := Xp1.out.c0
          have bp1 := Xp1.out.c1
          have lp1 := Xp1.out.lt
          have fp1 := fun j => frozen_of Xp1.out j
          clear fp1
          go_wp2_with fail
          clear ap0 bp0 lp0 ap1 bp1 lp1
          refine (over_at (by omega) HO1.out _).mono ?_
          rintro e w1 ⟨rfl, hb⟩
          replace B := Lib.hid (B.out.trans (hb.mono B.out.size))
          replace Xp0 := Lib.hid (Xp0.out.keep hb)
          replace Xp1 := Lib.hid (Xp1.out.keep hb)
          clear hb
          have ap0 := Xp0.out.c0
          have bp0 := Xp0.out.c1
          have lp0 := Xp0.out.lt
          have fp0 := fun j => frozen_of Xp0.out j
          clear fp0
          have ap1 := Xp1.out.c0
          have bp1 := Xp1.out.c1
          have lp1 := Xp1.out.lt
          have fp1 := fun j => frozen_of Xp1.out j
          clear fp1
          go_wp2_with fail
          clear ap0 bp0 lp0 ap1 bp1 lp1
          refine (over_at (by omega) HO2.out _).mono ?_
          rintro e w2 ⟨rfl, hb⟩
          replace B := Lib.hid (B.out.trans (hb.mono B.out.size))
          replace Xp0 := Lib.hid (Xp0.out.keep hb)
          replace Xp1 := Lib.hid (Xp1.out.keep hb)
          clear hb
          have ap0 := Xp0.out.c0
          have bp0 := Xp0.out.c1
          have lp0 := Xp0.out.lt
          have fp0 := fun j => frozen_of Xp0.out j
          clear fp0
          have ap1 := Xp1.out.c0
          have bp1 := Xp1.out.c1
          have lp1 := Xp1.out.lt
          have fp1 := fun j => frozen_of Xp1.out j
          clear fp1
          go_wp2_with fail
          clear ap0 bp0 lp0 ap1 bp1 lp1
          refine (join_ok (cells_areas w2 [(x, y), (u, v)] (by simp)) (by simp) 400 (by simp; omega)).mono ?_
          rintro e wj ⟨rfl, hb⟩
          replace B := Lib.hid (B.out.trans (((Below.refl _ _).alloc (Nat.le_refl _) _).trans (hb.mono (by simp)) |>.mono B.out.size))
          rw [HCO2.out]
          clear hb
          go_wp2_with fail
          refine (join_nil _).mono ?_
          rintro e w3 ⟨rfl, hb⟩
          replace B := Lib.hid (B.out.trans (hb.mono B.out.size))
          clear hb
          go_wp2_with fail
          refine (awake14_ok _).mono ?_
          rintro e w4 ⟨rfl, hb⟩
          replace B := Lib.hid (B.out.trans (hb.mono B.out.size))
          clear hb
          have hfin := B.out
          go_wp2_with fail
          go_ret
          exact ⟨rfl, hfin⟩
        · have HO2 := Lib.hid (show overB (u, v) (x, y) = false from by rw [over_comm]; exact ho)
          have HO1 := Lib.hid ho
          clear ho hlt
          obtain rfl : cb = 0 := by omega
          have ap0 := Xp0.out.c0
          have bp0 := Xp0.out.c1
          have lp0 := Xp0.out.lt
          have fp0 := fun j => frozen_of Xp0.out j
          clear fp0
          have ap1 := Xp1.out.c0
          have bp1 := Xp1.out.c1
          have lp1 := Xp1.out.lt
          have fp1 := fun j => frozen_of Xp1.out j
          clear fp1
          go_wp2_with fail
          clear ap0 bp0 lp0 ap1 bp1 lp1
          refine (over_at (by omega) HO1.out _).mono ?_
          rintro e w1 ⟨rfl, hb⟩
          replace B := Lib.hid (B.out.trans (hb.mono B.out.size))
          replace Xp0 := Lib.hid (Xp0.out.keep hb)
          replace Xp1 := Lib.hid (Xp1.out.keep hb)
          clear hb
          have ap0 := Xp0.out.c0
          have bp0 := Xp0.out.c1
          have lp0 := Xp0.out.lt
          have fp0 := fun j => frozen_of Xp0.out j
          clear fp0
          have ap1 := Xp1.out.c0
          have bp1 := Xp1.out.c1
          have lp1 := Xp1.out.lt
          have fp1 := fun j => frozen_of Xp1.out j
          clear fp1
          go_wp2_with fail
          clear ap0 bp0 lp0 ap1 bp1 lp1
          refine (over_at (by omega) HO2.out _).mono ?_
          rintro e w2 ⟨rfl, hb⟩
          replace B := Lib.hid (B.out.trans (hb.mono B.out.size))
          replace Xp0 := Lib.hid (Xp0.out.keep hb)
          replace Xp1 := Lib.hid (Xp1.out.keep hb)
          clear hb
          have ap0 := Xp0.out.c0
          have bp0 := Xp0.out.c1
          have lp0 := Xp0.out.lt
          have fp0 := fun j => frozen_of Xp0.out j
          clear fp0
          have ap1 := Xp1.out.c0
          have bp1 := Xp1.out.c1
          have lp1 := Xp1.out.lt
          have fp1 := fun j => frozen_of Xp1.out j
          clear fp1
          go_wp2_with fail
          clear ap0 bp0 lp0 ap1 bp1 lp1
          refine (join_ok (cells_areas w2 [(x, y), (u, v)] (by simp)) (by simp) 400 (by simp; omega)).mono ?_
          rintro e wj ⟨rfl, hb⟩
          replace B := Lib.hid (B.out.trans (((Below.refl _ _).alloc (Nat.le_refl _) _).trans (hb.mono (by simp)) |>.mono B.out.size))
          rw [HCO2.out]
          clear hb
          go_wp2_with fail
          refine (join_nil _).mono ?_
          rintro e w3 ⟨rfl, hb⟩
          replace B := Lib.hid (B.out.trans (hb.mono B.out.size))
          clear hb
          go_wp2_with fail
          refine (awake14_ok _).mono ?_
          rintro e w4 ⟨rfl, hb⟩
          replace B := Lib.hid (B.out.trans (hb.mono B.out.size))
          clear hb
          have hfin := B.out
          go_wp2_with fail
          go_ret
          exact ⟨rfl, hfin⟩
end Go.Proofs.Ytifocofpplhacaa.P

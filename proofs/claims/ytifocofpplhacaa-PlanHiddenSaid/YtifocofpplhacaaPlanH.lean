/-
  PlanHidden. No condition beyond what each theorem names.
-/
import Derived.Test.YtifocofpplhacaaPlanF
import Derived.Test.YtifocofpplhacaaDiskF
import Derived.Test.YtifocofpplhacaaRegionB
namespace Go.Proofs.Ytifocofpplhacaa.P
open Go Go.RowKit K

theorem join3_cov {x g e d : Int} (h0 : 0 ≤ x ∧ x ≤ 100000) (h1 : 1 ≤ g ∧ g ≤ 100000) (h2 : 1 ≤ e ∧ e ≤ 100000) (s : Int) (hs : 0 ≤ s ∧ s ≤ x) (hd : x + g + e ≤ s + d ∧ d ≤ 100000) (M : Nat) (hM : s + d ≤ M) :
    ((cov [(x, g), (x + g, e), (s, d)] M : Nat) : Int) = d := by
  have h := countP_span s (s + d) hs.1 M
  have e1 : cov [(x, g), (x + g, e), (s, d)] M = (List.range M).countP (fun i : Nat => decide (s ≤ (i : Int) ∧ (i : Int) < s + d)) := by
    refine List.countP_congr fun i _ => ?_
    simp only [List.any_cons, List.any_nil, Bool.or_false, Bool.or_eq_true, Bool.and_eq_true, countsB, inB, decide_eq_true_eq]
    omega
  rw [e1, h]
  omega

def slotF (n : Int) (k : Nat) : Int := if k < 2 then k * 4 else n - (4 - k) * 4

set_option maxRecDepth 100000 in
set_option maxHeartbeats 8000000 in
theorem planHidden_ok (n f0 c0 : Int) (w : World) : Calls Try.prog 10 #[.int .i64 n, .int .i64 f0, .int .i64 c0] w fun e w' => e = .returned (.bool true) ∧ Below w.heap.size w w' := by
  by_cases hbig : n < 150 ∨ 3000 < n
  · have HA := Lib.hid (awake14_ok w)
    rcases (by omega : n < 150 ∨ (¬ n < 150 ∧ 3000 < n)) with h1 | ⟨h1, h2⟩
    all_goals
      clear hbig
      go_enter Try.func10, Try.ntmps10
      go_wp2_with fail
      refine HA.out.mono ?_
      rintro e w' ⟨rfl, hb⟩
      go_wp2
      go_ret
      exact ⟨rfl, hb⟩
  · obtain ⟨h1, h2⟩ : 150 ≤ n ∧ n ≤ 3000 := by omega
    clear hbig
    obtain ⟨d, hd⟩ : ∃ d, d = (n - 16) / 2 := ⟨_, rfl⟩
    obtain ⟨m, hm⟩ : ∃ m, m = n - 16 - d := ⟨_, rfl⟩
    have hm2 : 67 ≤ d ∧ d ≤ 1500 ∧ 67 ≤ m ∧ m ≤ 1500 := by omega
    have HW := Lib.hid (show wholeA n = (8, n - 16) ∧ mayB n = true from ⟨by simp [wholeA, mayB]; omega, by simp [mayB]; omega⟩)
    have HS := Lib.hid (show metaA (8, n - 16) = (8, m) ∧ dataA (8, n - 16) = (8 + m, d) ∧ splitB (8, n - 16) = true from by
      have e : splitB (8, n - 16) = true := by simp [splitB]; omega
      refine ⟨?_, ?_, e⟩
      · simp only [metaA, e, if_true]; rw [hm, hd]
      · simp only [dataA, e, if_true]; rw [hm, hd])
    have hr1 : 0 ≤ c0 % (d - 48 + 1) ∧ c0 % (d - 48 + 1) < d - 48 + 1 := ⟨Int.emod_nonneg _ (by omega), Int.emod_lt_of_pos _ (by omega)⟩
    have HR1 := fun W => Lib.hid (D.round_ok c0 (d - 48 + 1) (by omega) W)
    generalize c0 % (d - 48 + 1) = r at hr1 HR1
    obtain ⟨c, hc⟩ : ∃ c, c = 48 + r := ⟨_, rfl⟩
    have HCC := Lib.hid hc
    have hc2 : 48 ≤ c ∧ c ≤ d := by omega
    have hr2 : 0 ≤ f0 % (d - c + 1) ∧ f0 % (d - c + 1) < d - c + 1 := ⟨Int.emod_nonneg _ (by omega), Int.emod_lt_of_pos _ (by omega)⟩
    have HR2 := fun W => Lib.hid (D.round_ok f0 (d - c + 1) (by omega) W)
    generalize f0 % (d - c + 1) = f at hr2 HR2
    have hf2 : 0 ≤ f ∧ f + c ≤ d := by omega
    have HI := Lib.hid (show insideA (8 + m, d) f c = (8 + m + f, c) ∧ insideB (8 + m, d) f c = true from by
      have e : insideB (8 + m, d) f c = true := by simp [insideB, countsB]; omega
      exact ⟨by simp [insideA, e], e⟩)
    obtain ⟨e2, he2⟩ : ∃ e2, e2 = c / 2 := ⟨_, rfl⟩
    obtain ⟨g2, hg2⟩ : ∃ g2, g2 = c - e2 := ⟨_, rfl⟩
    have hge : 24 ≤ e2 ∧ 24 ≤ g2 ∧ g2 + e2 = c := by omega
    obtain ⟨x, hx⟩ : ∃ x, x = 8 + m + f := ⟨_, rfl⟩
    have hxx : 8 + m ≤ x ∧ x + c ≤ 8 + m + d := by omega
    rw [← hx] at HI
    have HS2 := Lib.hid (show metaA (x, c) = (x, g2) ∧ dataA (x, c) = (x + g2, e2) ∧ splitB (x, c) = true from by
      have e : splitB (x, c) = true := by simp [splitB]; omega
      refine ⟨?_, ?_, e⟩
      · simp only [metaA, e, if_true]; rw [hg2, he2]
      · simp only [dataA, e, if_true]; rw [hg2, he2])
    have HO1 := Lib.hid (show overB (x, g2) (x + g2, e2) = false from by simp [overB, hasB]; omega)
    have HO2 := Lib.hid (show overB (x, c) (8, m) = false from by simp [overB, hasB]; omega)
    have HJ := Lib.hid (join3_cov (x := x) (g := g2) (e := e2) (d := d) (by omega) (by omega) (by omega) (8 + m) (by omega) (by omega) 10000 (by omega))
    have HH1 := Lib.hid (show hasB (8 + m, d) x = true from by simp [hasB]; omega)
    have HH2 := Lib.hid (show hasB (8 + m, d) (x + g2 + e2 - 1) = true from by simp [hasB]; omega)
    have hn16 : n - 16 = m + d := by omega
    have HSL := Lib.hid (show ∀ k : Nat, k < 4 → slotA n k = (slotF n k, 4) ∧ slotB n k = true ∧ overB (slotF n k, 4) (x, c) = false ∧ 0 ≤ slotF n k ∧ slotF n k ≤ 3000 from fun k hk => by
      have e : slotB n k = true := by simp [slotB, mayB]; omega
      have e3 : slotF n k = if k < 2 then (k : Int) * 4 else n - (4 - k) * 4 := rfl
      have e4 : (k < 2 ∧ slotF n k = (k : Int) * 4) ∨ (2 ≤ k ∧ slotF n k = n - (4 - k) * 4) := by
        rw [e3]
        by_cases h : k < 2
        · exact .inl ⟨h, if_pos h⟩
        · exact .inr ⟨by omega, if_neg h⟩
      refine ⟨?_, e, ?_, by omega, by omega⟩
      · simp only [slotA, e, if_true]
        rcases e4 with ⟨h, e4⟩ | ⟨h, e4⟩
        · rw [if_pos (by omega), e4]
        · rw [if_neg (by omega), e4]
      · simp [overB, hasB]
        omega)
    clear hd hm hc hr2 he2 hg2 hx hn16
    go_enter Try.func10, Try.ntmps10
    go_wp2_with fail
    refine (whole_at HW.out.1 HW.out.2 _).mono ?_
    rintro e w1 ⟨rfl, hb⟩
    have B := Lib.hid hb
    clear hb
    replace B := Lib.hid (B.out.alloc B.out.size (.cells #[.int .i64 (8), .int .i64 (n - 16)] 46))
    have xp1 := box_new (w1) (8) (n - 16)
    have Xp1 := Lib.hid xp1
    clear xp1
    go_wp2_with fail
    obtain ⟨p1, hp1⟩ : ∃ p1, p1 = w1.heap.size := ⟨_, rfl⟩
    rw [← hp1] at Xp1 ⊢
    clear hp1
    generalize (w1).alloc (.cells #[.int .i64 (8), .int .i64 (n - 16)] 46) = W2 at *
    refine (split_at HS.out.1 HS.out.2.1 HS.out.2.2 _).mono ?_
    rintro e w3 ⟨rfl, hb⟩
    replace B := Lib.hid (B.out.trans (hb.mono B.out.size))
    replace Xp1 := Lib.hid (Xp1.out.keep hb)
    clear hb
    replace B := Lib.hid (B.out.alloc B.out.size (.cells #[.int .i64 (8), .int .i64 (m)] 46))
    replace Xp1 := Lib.hid (Xp1.out.alloc (.cells #[.int .i64 (8), .int .i64 (m)] 46))
    have xp2 := box_new (w3) (8) (m)
    have Xp2 := Lib.hid xp2
    clear xp2
    replace B := Lib.hid (B.out.alloc B.out.size (.cells #[.int .i64 (8 + m), .int .i64 (d)] 46))
    replace Xp1 := Lib.hid (Xp1.out.alloc (.cells #[.int .i64 (8 + m), .int .i64 (d)] 46))
    replace Xp2 := Lib.hid (Xp2.out.alloc (.cells #[.int .i64 (8 + m), .int .i64 (d)] 46))
    have xp3 := box_new ((w3).alloc (.cells #[.int .i64 (8), .int .i64 (m)] 46)) (8 + m) (d)
    simp only [World.size_alloc] at xp3
    have Xp3 := Lib.hid xp3
    clear xp3
    go_wp2_with fail
    obtain ⟨p3, hp3⟩ : ∃ p3, p3 = w3.heap.size + 1 := ⟨_, rfl⟩
    rw [← hp3] at Xp3 ⊢
    clear hp3
    obtain ⟨p2, hp2⟩ : ∃ p2, p2 = w3.heap.size := ⟨_, rfl⟩
    rw [← hp2] at Xp2 ⊢
    clear hp2
    generalize ((w3).alloc (.cells #[.int .i64 (8), .int .i64 (m)] 46)).alloc (.cells #[.int .i64 (8 + m), .int .i64 (d)] 46) = W4 at *
    refine (HR1 _).out.mono ?_
    rintro e w5 ⟨rfl, rfl⟩
    have ap3 := Xp3.out.c0
    have bp3 := Xp3.out.c1
    have lp3 := Xp3.out.lt
    have fp3 := fun j => frozen_of Xp3.out j
    clear fp3
    go_wp2_with fail
    rw [← HCC.out]
    clear hr1
    clear ap3 bp3 lp3
    have hdr : ∀ w3, Chg No W4.drew w3 → Chg No W4 w3 := fun w3 h => ⟨h.os, h.tape, h.output, h.size, h.block⟩
    refine RA.regionT (Chg No) (Chg No) [1, 1, 1, 1, 1, 1, 1, 4, 1, 4, 5, 5, 5, 2, 7, 5] [14] (fun _ v w3 => ∃ b, v = .pointer (some ⟨b, 0, none⟩) ∧ W4.heap.size ≤ b ∧ BoxA w3 b 0 0) (fun _ => True) (by kernel_rfl) (Chg.refl _ _) (fun _ _ h => h) (fun _ _ _ h k => h.trans k) (fun _ _ h k => k) trivial (by kernel_rfl) (by kernel_rfl) ?_
    intro cx
    refine RA.ld (by kernel_rfl) (by rfl) (by rfl) (y' := .agg #[.int .i64 (8 + m), .int .i64 d]) (fun w3 hp => (Xp3.out.chg (hdr _ hp.1)).ld) ?_
    refine RA.mv (by kernel_rfl) (by rfl) (by rfl) ?_
    refine RA.fa (by kernel_rfl) (by rfl) (by rfl) (y' := .pointer (some ⟨p3, 1, none⟩)) (fun w3 hp => by show (Instr.fieldAt _ _ _).run Try.prog w3 = _; go_simp) ?_
    refine RA.ld (by kernel_rfl) (by rfl) (by rfl) (y' := .int .i64 d) (fun w3 hp => by
      have h1 := (Xp3.out.chg (hdr _ hp.1)).c1
      show (Instr.loadAt _ _).run Try.prog w3 = _
      go_simp) ?_
    refine RA.mv (by kernel_rfl) (by rfl) (by rfl) ?_
    refine RA.si (by kernel_rfl) (by rfl) (by rfl) (by rfl) (d - c) (by omega) (by omega) ?_
    refine RA.ai (by kernel_rfl) (by rfl) (by rfl) (by rfl) (d - c + 1) (by omega) (by omega) ?_
    refine RA.kc (P := Try.prog) [_, _] (.int .i64 f) (fun _ => True) (fun _ _ => by go_simp) (by kernel_rfl) (by rfl) (by rfl) (by kernel_rfl) (fun _ _ _ h => h) rfl (fun w3 hp hH => (HR2 _).out.mono (by rintro e w4 ⟨rfl, rfl⟩; exact ⟨rfl, Chg.refl _ _, trivial⟩)) ?_
    refine RA.mv (by kernel_rfl) (by rfl) (by rfl) ?_
    refine RA.kc (P := Try.prog) [_, _, _] (.tuple #[.agg #[.int .i64 x, .int .i64 c], .bool true]) (fun _ => True) (fun _ _ => by go_simp) (by kernel_rfl) (by rfl) (by rfl) (by kernel_rfl) (fun _ _ _ h => h) rfl (fun w3 hp hH => (inside_at HI.out.1 HI.out.2 _).mono (by rintro e w4 ⟨rfl, h2⟩; exact ⟨rfl, Chg.of_below h2 _, trivial⟩)) ?_
    refine RA.pmv (by kernel_rfl) (by rfl) (by rfl) ?_
    refine RA.pw (y := .agg #[.int .i64 x, .int .i64 c]) (by kernel_rfl) (by rfl) (fun w3 => by show (execOp _ _).run Try.prog w3 = _; go_simp) ?_
    refine RA.pw (y := .bool true) (by kernel_rfl) (by rfl) (fun w3 => by show (execOp _ _).run Try.prog w3 = _; go_simp) ?_
    refine RA.fr (by kernel_rfl) (by rfl) (fun v a b h h2 => by obtain ⟨b1, h3, h4, h5⟩ := h2; exact ⟨b1, h3, h4, h5.chg h⟩) (fun w3 hp => ⟨.pointer (some ⟨w3.heap.size, 0, none⟩), w3.alloc (.cells #[.int .i64 0, .int .i64 0] 46), by
      show (execOp _ _).run Try.prog w3 = _
      go_simp, (Chg.refl _ _).alloc _, _, rfl, (hdr _ hp.1).size, box_new _ _ _⟩) (fun u => ?_)
    refine RA.stt (fun w4 => ∃ b, u = .pointer (some ⟨b, 0, none⟩) ∧ W4.heap.size ≤ b ∧ BoxA w4 b x c ∧ Chg No W4 w4) (by kernel_rfl) (by rfl) (by kernel_rfl) (fun _ _ h k => by obtain ⟨b1, h3, h4, h5, h6⟩ := k; exact ⟨b1, h3, h4, h5.chg h, h6.trans h⟩) (fun w3 hp0 _ => by
      have hp := hp0.first (by kernel_rfl)
      have hR := hdr _ hp.1
      obtain ⟨b1, hu, h4, h5⟩ := hp.fact 0 rfl (by kernel_rfl)
      subst hu
      refine ⟨(w3.setCell ⟨b1, 0, none⟩ (.int .i64 x)).setCell ⟨b1, 1, none⟩ (.int .i64 c), RA.ex_store (by rfl) (by rfl) ?_, b1, rfl, h4, ?_, ?_⟩
      · have e0 := h5.c0
        have e1 := h5.c1
        have e2 := frozen_of h5 0
        have e3 := frozen_of h5 1
        clear hp hp0
        show (Instr.storeAt _ _ _).run Try.prog w3 = _
        go_simp
      · have := setCell_block (setCell_block h5 0 (.int .i64 x)) 1 (.int .i64 c)
        exact this
      · exact (hR.setCell (p := ⟨b1, 0, none⟩) (fun h => by have := h4; simp only at h; omega) _).setCell (p := ⟨b1, 1, none⟩) (fun h => by have := h4; simp only at h; omega) _) ?_
    refine RA.pw (y := .bool true) (by kernel_rfl) (by rfl) (fun w3 => by show (execOp _ _).run Try.prog w3 = _; go_simp) ?_
    refine RA.RA.doneT (fun w5 hH => ?_)
    simp only [RA.put, List.foldr_cons, List.foldr_nil, cx, Act.put, List.setIfInBounds_toArray, List.set_cons_succ, List.set_cons_zero]
    obtain ⟨p4, rfl, hp4, hx4, hch⟩ := hH
    have hb := hch.no
    replace B := Lib.hid (B.out.trans (hb.mono B.out.size))
    replace Xp1 := Lib.hid (Xp1.out.keep hb)
    replace Xp2 := Lib.hid (Xp2.out.keep hb)
    replace Xp3 := Lib.hid (Xp3.out.keep hb)
    have Xp4 := Lib.hid hx4
    clear hb hch hx4 hp4 hdr
    have ap4 := Xp4.out.c0
    have bp4 := Xp4.out.c1
    have lp4 := Xp4.out.lt
    have fp4 := fun j => frozen_of Xp4.out j
    clear fp4
    go_wp2_with fail
    clear ap4 bp4 lp4
    refine (split_at HS2.out.1 HS2.out.2.1 HS2.out.2.2 _).mono ?_
    rintro e w6 ⟨rfl, hb⟩
    replace B := Lib.hid (B.out.trans (hb.mono B.out.size))
    replace Xp1 := Lib.hid (Xp1.out.keep hb)
    replace Xp2 := Lib.hid (Xp2.out.keep hb)
    replace Xp3 := Lib.hid (Xp3.out.keep hb)
    replace Xp4 := Lib.hid (Xp4.out.keep hb)
    clear hb
    replace B := Lib.hid (B.out.alloc B.out.size (.cells #[.int .i64 (x), .int .i64 (g2)] 46))
    replace Xp1 := Lib.hid (Xp1.out.alloc (.cells #[.int .i64 (x), .int .i64 (g2)] 46))
    replace Xp2 := Lib.hid (Xp2.out.alloc (.cells #[.int .i64 (x), .int .i64 (g2)] 46))
    replace Xp3 := Lib.hid (Xp3.out.alloc (.cells #[.int .i64 (x), .int .i64 (g2)] 46))
    replace Xp4 := Lib.hid (Xp4.out.alloc (.cells #[.int .i64 (x), .int .i64 (g2)] 46))
    have xp5 := box_new (w6) (x) (g2)
    have Xp5 := Lib.hid xp5
    clear xp5
    replace B := Lib.hid (B.out.alloc B.out.size (.cells #[.int .i64 (x + g2), .int .i64 (e2)] 46))
    replace Xp1 := Lib.hid (Xp1.out.alloc (.cells #[.int .i64 (x + g2), .int .i64 (e2)] 46))
    replace Xp2 := Lib.hid (Xp2.out.alloc (.cells #[.int .i64 (x + g2), .int .i64 (e2)] 46))
    replace Xp3 := Lib.hid (Xp3.out.alloc (.cells #[.int .i64 (x + g2), .int .i64 (e2)] 46))
    replace Xp4 := Lib.hid (Xp4.out.alloc (.cells #[.int .i64 (x + g2), .int .i64 (e2)] 46))
    replace Xp5 := Lib.hid (Xp5.out.alloc (.cells #[.int .i64 (x + g2), .int .i64 (e2)] 46))
    have xp6 := box_new ((w6).alloc (.cells #[.int .i64 (x), .int .i64 (g2)] 46)) (x + g2) (e2)
    simp only [World.size_alloc] at xp6
    have Xp6 := Lib.hid xp6
    clear xp6
    go_wp2_with fail
    obtain ⟨p6, hp6⟩ : ∃ p6, p6 = w6.heap.size + 1 := ⟨_, rfl⟩
    rw [← hp6] at Xp6 ⊢
    clear hp6
    obtain ⟨p5, hp5⟩ : ∃ p5, p5 = w6.heap.size := ⟨_, rfl⟩
    rw [← hp5] at Xp5 ⊢
    clear hp5
    generalize ((w6).alloc (.cells #[.int .i64 (x), .int .i64 (g2)] 46)).alloc (.cells #[.int .i64 (x + g2), .int .i64 (e2)] 46) = W7 at *
    have hdr : ∀ w3, Chg No W7.drew w3 → Chg No W7 w3 := fun w3 h => ⟨h.os, h.tape, h.output, h.size, h.block⟩
    refine RA.region (fun a b => Chg No a b) (· = ·) [1, 1, 1, 1, 1, 1, 1, 1, 1, 1, 1, 1, 1, 1, 4, 1, 1, 1, 1, 4, 1, 1, 1, 1, 1, 3, 4, 1, 1, 1, 1] (fun _ _ _ => True) (fun _ => True) (by kernel_rfl) (Chg.refl _ _) (fun _ _ h => h ▸ Chg.refl _ _) (fun _ _ _ h k => h.trans k) (fun _ _ h k => h ▸ k) trivial (by kernel_rfl) ?_
    intro cx
    repeat (first | refine RA.mv (by rfl) (by rfl) (by rfl) ?_ | refine RA.as (by rfl) (by rfl) (by rfl) ?_ | refine RA.pt (by rfl) (by rfl) (by rfl) (by rfl) ?_ | refine RA.pf (by rfl) (by rfl) (by rfl) (by rfl) ?_)
    refine RA.nt (by rfl) (by rfl) (by rfl) ?_
    repeat (first | refine RA.mv (by rfl) (by rfl) (by rfl) ?_ | refine RA.as (by rfl) (by rfl) (by rfl) ?_ | refine RA.pt (by rfl) (by rfl) (by rfl) (by rfl) ?_ | refine RA.pf (by rfl) (by rfl) (by rfl) (by rfl) ?_)
    refine RA.fa (by rfl) (by rfl) (by rfl) (y' := .pointer (some ⟨p5, 1, none⟩)) (fun w3 hp => by show (Instr.fieldAt _ _ _).run Try.prog w3 = _; go_simp) ?_
    refine RA.ld (by rfl) (by rfl) (by rfl) (y' := .int .i64 (g2)) (fun w3 hp => by
      have h1 := (Xp5.out.chg (hdr _ hp.1)).c1
      show (Instr.loadAt _ _).run Try.prog w3 = _
      go_simp) ?_
    refine RA.fa (by rfl) (by rfl) (by rfl) (y' := .pointer (some ⟨p6, 1, none⟩)) (fun w3 hp => by show (Instr.fieldAt _ _ _).run Try.prog w3 = _; go_simp) ?_
    refine RA.ld (by rfl) (by rfl) (by rfl) (y' := .int .i64 (e2)) (fun w3 hp => by
      have h1 := (Xp6.out.chg (hdr _ hp.1)).c1
      show (Instr.loadAt _ _).run Try.prog w3 = _
      go_simp) ?_
    refine RA.ai (by rfl) (by rfl) (by rfl) (by rfl) c (by omega) (by omega) ?_
    repeat (first | refine RA.mv (by rfl) (by rfl) (by rfl) ?_ | refine RA.as (by rfl) (by rfl) (by rfl) ?_ | refine RA.pt (by rfl) (by rfl) (by rfl) (by rfl) ?_ | refine RA.pf (by rfl) (by rfl) (by rfl) (by rfl) ?_)
    refine RA.ne false (by rfl) (by rfl) (by rfl) (by rfl) (by simp) ?_
    repeat (first | refine RA.mv (by rfl) (by rfl) (by rfl) ?_ | refine RA.as (by rfl) (by rfl) (by rfl) ?_ | refine RA.pt (by rfl) (by rfl) (by rfl) (by rfl) ?_ | refine RA.pf (by rfl) (by rfl) (by rfl) (by rfl) ?_)
    refine RA.ld (by rfl) (by rfl) (by rfl) (y' := .agg #[.int .i64 x, .int .i64 g2]) (fun w3 hp => (Xp5.out.chg (hdr _ hp.1)).ld) ?_
    refine RA.ld (by rfl) (by rfl) (by rfl) (y' := .agg #[.int .i64 (x + g2), .int .i64 e2]) (fun w3 hp => (Xp6.out.chg (hdr _ hp.1)).ld) ?_
    refine RA.kc (P := Try.prog) [_, _] (.bool false) (fun _ => True) (fun _ _ => by go_simp) (by rfl) (by rfl) (by rfl) (by kernel_rfl) (fun _ _ _ h => h) rfl (fun w3 hp hH => (over_at (by omega) HO1.out _).mono (by rintro e w4 ⟨rfl, h2⟩; exact ⟨rfl, Chg.of_below h2 _, trivial⟩)) ?_
    repeat (first | refine RA.mv (by rfl) (by rfl) (by rfl) ?_ | refine RA.as (by rfl) (by rfl) (by rfl) ?_ | refine RA.pt (by rfl) (by rfl) (by rfl) (by rfl) ?_ | refine RA.pf (by rfl) (by rfl) (by rfl) (by rfl) ?_)
    refine RA.ld (by rfl) (by rfl) (by rfl) (y' := .agg #[.int .i64 x, .int .i64 c]) (fun w3 hp => (Xp4.out.chg (hdr _ hp.1)).ld) ?_
    refine RA.ld (by rfl) (by rfl) (by rfl) (y' := .agg #[.int .i64 8, .int .i64 m]) (fun w3 hp => (Xp2.out.chg (hdr _ hp.1)).ld) ?_
    refine RA.kc (P := Try.prog) [_, _] (.bool false) (fun _ => True) (fun _ _ => by go_simp) (by rfl) (by rfl) (by rfl) (by kernel_rfl) (fun _ _ _ h => h) rfl (fun w3 hp hH => (over_at (by omega) HO2.out _).mono (by rintro e w4 ⟨rfl, h2⟩; exact ⟨rfl, Chg.of_below h2 _, trivial⟩)) ?_
    repeat (first | refine RA.mv (by rfl) (by rfl) (by rfl) ?_ | refine RA.as (by rfl) (by rfl) (by rfl) ?_ | refine RA.pt (by rfl) (by rfl) (by rfl) (by rfl) ?_ | refine RA.pf (by rfl) (by rfl) (by rfl) (by rfl) ?_)
    refine RA.ld (by rfl) (by rfl) (by rfl) (y' := .agg #[.int .i64 x, .int .i64 g2]) (fun w3 hp => (Xp5.out.chg (hdr _ hp.1)).ld) ?_
    refine RA.ld (by rfl) (by rfl) (by rfl) (y' := .agg #[.int .i64 (x + g2), .int .i64 e2]) (fun w3 hp => (Xp6.out.chg (hdr _ hp.1)).ld) ?_
    refine RA.ld (by rfl) (by rfl) (by rfl) (y' := .agg #[.int .i64 (8 + m), .int .i64 d]) (fun w3 hp => (Xp3.out.chg (hdr _ hp.1)).ld) ?_
    refine RA.bq (fun u w3 => ∃ b c, u = .slice (some ⟨b, 0, none⟩) 3 c ∧ Cells w3 (fun _ => True) u 3 2 (arCells [(x, g2), (x + g2, e2), (8 + m, d)])) (fun _ _ => True) (by rfl) (by rfl) (by kernel_rfl) (fun v a b h h2 => by obtain ⟨x, c, h3, h4⟩ := h2; exact ⟨x, c, h3, h4.chg h (fun _ _ _ => id)⟩) (fun _ _ _ _ h => h) (fun w3 hp hH => by
      refine ⟨.slice (some ⟨w3.heap.size, 0, none⟩) 3 3, w3.alloc (.cells (arCells [(x, g2), (x + g2, e2), (8 + m, d)]).toArray 46), ?_, (Chg.refl _ _).alloc _, ⟨_, _, rfl, (cells_areas w3 [(x, g2), (x + g2, e2), (8 + m, d)] (by simp)).mono (fun _ _ _ => trivial)⟩, trivial⟩
      show (execOp _ _).run Try.prog w3 = _
      go_simp
      rfl) (fun u => ?_)
    refine RA.kc (P := Try.prog) [u] (.int .i64 d) (fun _ => True) (fun _ _ => by go_simp) (by rfl) (by rfl) (by rfl) (by kernel_rfl) (fun _ _ _ h => h) rfl (fun w3 hp hH => by
      obtain ⟨x1, c1, rfl, h2⟩ := hp.fact 0 rfl (by kernel_rfl)
      refine (join_ok h2 (by omega) 10000 (by simp; omega)).mono ?_
      rintro e w4 ⟨rfl, h2⟩
      exact ⟨ret_int HJ.out, Chg.of_below h2 _, trivial⟩) ?_
    refine RA.fa (by rfl) (by rfl) (by rfl) (y' := .pointer (some ⟨p3, 1, none⟩)) (fun w3 hp => by show (Instr.fieldAt _ _ _).run Try.prog w3 = _; go_simp) ?_
    refine RA.ld (by rfl) (by rfl) (by rfl) (y' := .int .i64 (d)) (fun w3 hp => by
      have h1 := (Xp3.out.chg (hdr _ hp.1)).c1
      show (Instr.loadAt _ _).run Try.prog w3 = _
      go_simp) ?_
    refine RA.ne false (by rfl) (by rfl) (by rfl) (by rfl) (by simp) ?_
    repeat (first | refine RA.mv (by rfl) (by rfl) (by rfl) ?_ | refine RA.as (by rfl) (by rfl) (by rfl) ?_ | refine RA.pt (by rfl) (by rfl) (by rfl) (by rfl) ?_ | refine RA.pf (by rfl) (by rfl) (by rfl) (by rfl) ?_)
    refine RA.RA.done rfl (fun w9 hR hF hH => ?_)
    clear hF hH
    simp only [RA.put, List.foldr_cons, List.foldr_nil, cx, Act.put, List.setIfInBounds_toArray, List.set_cons_succ, List.set_cons_zero]
    try simp only [Bool.not_true]
    try simp only [Bool.not_false]
    have hb := (hdr _ hR).no
    replace B := Lib.hid (B.out.trans (hb.mono B.out.size))
    replace Xp1 := Lib.hid (Xp1.out.keep hb)
    replace Xp2 := Lib.hid (Xp2.out.keep hb)
    replace Xp3 := Lib.hid (Xp3.out.keep hb)
    replace Xp4 := Lib.hid (Xp4.out.keep hb)
    replace Xp5 := Lib.hid (Xp5.out.keep hb)
    replace Xp6 := Lib.hid (Xp6.out.keep hb)
    clear hb hR hdr
    go_wp2_with fail
    go_loopw [18] (fun i wr => ∃ k : Nat, k ≤ 4 ∧ i = .int .i64 k ∧ Hid (Below w.heap.size w wr ∧ BoxA wr p1 (8) (n - 16) ∧ BoxA wr p2 (8) (m) ∧ BoxA wr p3 (8 + m) (d) ∧ BoxA wr p4 (x) (c) ∧ BoxA wr p5 (x) (g2) ∧ BoxA wr p6 (x + g2) (e2))) (fun i _ => 4 - (intOf i).toNat)
    case atStart => exact ⟨0, by omega, rfl, B.out, Xp1.out, Xp2.out, Xp3.out, Xp4.out, Xp5.out, Xp6.out⟩
    case round =>
      obtain ⟨k, hk, rfl, HJ2⟩ := hrel
      obtain ⟨hB, hp1, hp2, hp3, hp4, hp5, hp6⟩ := HJ2.out
      replace B := Lib.hid hB
      replace Xp1 := Lib.hid hp1
      replace Xp2 := Lib.hid hp2
      replace Xp3 := Lib.hid hp3
      replace Xp4 := Lib.hid hp4
      replace Xp5 := Lib.hid hp5
      replace Xp6 := Lib.hid hp6
      clear HJ2 hB hp1 hp2 hp3 hp4 hp5 hp6
      by_cases hlt : k < 4
      · obtain ⟨q1, q2, q3, q4, q5⟩ := HSL.out k hlt
        have Q1 := Lib.hid q1
        have Q2 := Lib.hid q2
        have Q3 := Lib.hid q3
        generalize slotF n k = sk at *
        clear q1 q2 q3
        go_wp2_with fail
        refine (slot_at Q1.out Q2.out _).mono ?_
        rintro e w21 ⟨rfl, hb⟩
        replace B := Lib.hid (B.out.trans (hb.mono B.out.size))
        replace Xp1 := Lib.hid (Xp1.out.keep hb)
        replace Xp2 := Lib.hid (Xp2.out.keep hb)
        replace Xp3 := Lib.hid (Xp3.out.keep hb)
        replace Xp4 := Lib.hid (Xp4.out.keep hb)
        replace Xp5 := Lib.hid (Xp5.out.keep hb)
        replace Xp6 := Lib.hid (Xp6.out.keep hb)
        clear hb
        have ap4 := Xp4.out.c0
        have bp4 := Xp4.out.c1
        have lp4 := Xp4.out.lt
        have fp4 := fun j => frozen_of Xp4.out j
        clear fp4
        replace B := Lib.hid (B.out.alloc B.out.size (.cells #[.int .i64 (sk), .int .i64 (4)] 46))
        replace Xp1 := Lib.hid (Xp1.out.alloc (.cells #[.int .i64 (sk), .int .i64 (4)] 46))
        replace Xp2 := Lib.hid (Xp2.out.alloc (.cells #[.int .i64 (sk), .int .i64 (4)] 46))
        replace Xp3 := Lib.hid (Xp3.out.alloc (.cells #[.int .i64 (sk), .int .i64 (4)] 46))
        replace Xp4 := Lib.hid (Xp4.out.alloc (.cells #[.int .i64 (sk), .int .i64 (4)] 46))
        replace Xp5 := Lib.hid (Xp5.out.alloc (.cells #[.int .i64 (sk), .int .i64 (4)] 46))
        replace Xp6 := Lib.hid (Xp6.out.alloc (.cells #[.int .i64 (sk), .int .i64 (4)] 46))
        have xp7 := box_new (w21) (sk) (4)
        have Xp7 := Lib.hid xp7
        clear xp7
        go_wp2_with fail
        obtain ⟨p7, hp7⟩ : ∃ p7, p7 = w21.heap.size := ⟨_, rfl⟩
        rw [← hp7] at Xp7 ⊢
        clear hp7
        generalize (w21).alloc (.cells #[.int .i64 (sk), .int .i64 (4)] 46) = W22 at *
        clear ap4 bp4 lp4
        refine (over_at (by omega) Q3.out _).mono ?_
        rintro e w23 ⟨rfl, hb⟩
        replace B := Lib.hid (B.out.trans (hb.mono B.out.size))
        replace Xp1 := Lib.hid (Xp1.out.keep hb)
        replace Xp2 := Lib.hid (Xp2.out.keep hb)
        replace Xp3 := Lib.hid (Xp3.out.keep hb)
        replace Xp4 := Lib.hid (Xp4.out.keep hb)
        replace Xp5 := Lib.hid (Xp5.out.keep hb)
        replace Xp6 := Lib.hid (Xp6.out.keep hb)
        replace Xp7 := Lib.hid (Xp7.out.keep hb)
        clear hb
        go_wp2_with fail
        go_roundw
        case rel => exact ⟨k + 1, by omega, by go_num, B.out, Xp1.out, Xp2.out, Xp3.out, Xp4.out, Xp5.out, Xp6.out⟩
        case measure => simp [intOf]; omega
      · have ap3 := Xp3.out.c0
        have bp3 := Xp3.out.c1
        have lp3 := Xp3.out.lt
        have fp3 := fun j => frozen_of Xp3.out j
        clear fp3
        have ap5 := Xp5.out.c0
        have bp5 := Xp5.out.c1
        have lp5 := Xp5.out.lt
        have fp5 := fun j => frozen_of Xp5.out j
        clear fp5
        go_wp2_with fail
        clear ap3 bp3 lp3 ap5 bp5 lp5
        refine (has_at (by omega) HH1.out _).mono ?_
        rintro e w31 ⟨rfl, hb⟩
        replace B := Lib.hid (B.out.trans (hb.mono B.out.size))
        replace Xp1 := Lib.hid (Xp1.out.keep hb)
        replace Xp2 := Lib.hid (Xp2.out.keep hb)
        replace Xp3 := Lib.hid (Xp3.out.keep hb)
        replace Xp4 := Lib.hid (Xp4.out.keep hb)
        replace Xp5 := Lib.hid (Xp5.out.keep hb)
        replace Xp6 := Lib.hid (Xp6.out.keep hb)
        clear hb
        have ap3 := Xp3.out.c0
        have bp3 := Xp3.out.c1
        have lp3 := Xp3.out.lt
        have fp3 := fun j => frozen_of Xp3.out j
        clear fp3
        have ap6 := Xp6.out.c0
        have bp6 := Xp6.out.c1
        have lp6 := Xp6.out.lt
        have fp6 := fun j => frozen_of Xp6.out j
        clear fp6
        go_wp2_with fail
        clear ap3 bp3 lp3 ap6 bp6 lp6
        refine (has_at (by omega) HH2.out _).mono ?_
        rintro e w32 ⟨rfl, hb⟩
        replace B := Lib.hid (B.out.trans (hb.mono B.out.size))
        replace Xp1 := Lib.hid (Xp1.out.keep hb)
        replace Xp2 := Lib.hid (Xp2.out.keep hb)
        replace Xp3 := Lib.hid (Xp3.out.keep hb)
        replace Xp4 := Lib.hid (Xp4.out.keep hb)
        replace Xp5 := Lib.hid (Xp5.out.keep hb)
        replace Xp6 := Lib.hid (Xp6.out.keep hb)
        clear hb
        go_wp2_with fail
        refine (awake14_ok _).mono ?_
        rintro e w33 ⟨rfl, hb⟩
        replace B := Lib.hid (B.out.trans (hb.mono B.out.size))
        replace Xp1 := Lib.hid (Xp1.out.keep hb)
        replace Xp2 := Lib.hid (Xp2.out.keep hb)
        replace Xp3 := Lib.hid (Xp3.out.keep hb)
        replace Xp4 := Lib.hid (Xp4.out.keep hb)
        replace Xp5 := Lib.hid (Xp5.out.keep hb)
        replace Xp6 := Lib.hid (Xp6.out.keep hb)
        clear hb
        have hfin := B.out
        go_wp2_with fail
        go_ret
        exact ⟨rfl, hfin⟩
end Go.Proofs.Ytifocofpplhacaa.P

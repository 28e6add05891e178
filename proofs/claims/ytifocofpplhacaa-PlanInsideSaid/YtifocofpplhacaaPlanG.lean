/-
  PlanInside. No condition beyond what each theorem names.
-/
import Derived.Test.YtifocofpplhacaaPlanF
namespace Go.Proofs.Ytifocofpplhacaa.P
open Go Go.RowKit K

set_option maxRecDepth 100000 in
set_option maxHeartbeats 4000000 in
theorem planInside_ok (n f c : Int) (w : World) : Calls Try.prog 9 #[.int .i64 n, .int .i64 f, .int .i64 c] w fun e w' => e = .returned (.bool true) ∧ Below w.heap.size w w' := by
  by_cases hbig : n < 200 ∨ 2000 < n ∨ f < 0 ∨ 2000 < f ∨ c < 0 ∨ 2000 < c
  · have HA := Lib.hid (awake14_ok w)
    rcases (by omega : n < 200 ∨ (¬ n < 200 ∧ 2000 < n) ∨ (¬ n < 200 ∧ ¬ 2000 < n ∧ f < 0) ∨ (¬ n < 200 ∧ ¬ 2000 < n ∧ ¬ f < 0 ∧ 2000 < f) ∨ (¬ n < 200 ∧ ¬ 2000 < n ∧ ¬ f < 0 ∧ ¬ 2000 < f ∧ c < 0) ∨ (¬ n < 200 ∧ ¬ 2000 < n ∧ ¬ f < 0 ∧ ¬ 2000 < f ∧ ¬ c < 0 ∧ 2000 < c)) with h1 | ⟨h1, h2⟩ | ⟨h1, h2, h3⟩ | ⟨h1, h2, h3, h4⟩ | ⟨h1, h2, h3, h4, h5⟩ | ⟨h1, h2, h3, h4, h5, h6⟩
    all_goals
      clear hbig
      go_enter Try.func9, Try.ntmps9
      go_wp2_with fail
      refine HA.out.mono ?_
      rintro e w' ⟨rfl, hb⟩
      go_wp2
      go_ret
      exact ⟨rfl, hb⟩
  · obtain ⟨h1, h2, h3, h4, h5, h6⟩ : 200 ≤ n ∧ n ≤ 2000 ∧ 0 ≤ f ∧ f ≤ 2000 ∧ 0 ≤ c ∧ c ≤ 2000 := by omega
    clear hbig
    obtain ⟨d, hd⟩ : ∃ d, d = (n - 16) / 2 := ⟨_, rfl⟩
    obtain ⟨m, hm⟩ : ∃ m, m = n - 16 - d := ⟨_, rfl⟩
    have hm2 : 0 ≤ d ∧ d ≤ 1000 ∧ 92 ≤ d ∧ 0 ≤ m ∧ m ≤ 1000 := by omega
    have HW := Lib.hid (show wholeA n = (8, n - 16) ∧ mayB n = true from ⟨by simp [wholeA, mayB]; omega, by simp [mayB]; omega⟩)
    have HS := Lib.hid (show metaA (8, n - 16) = (8, m) ∧ dataA (8, n - 16) = (8 + m, d) ∧ splitB (8, n - 16) = true from by
      have e : splitB (8, n - 16) = true := by simp [splitB]; omega
      refine ⟨?_, ?_, e⟩
      · simp only [metaA, e, if_true]; rw [hm, hd]
      · simp only [dataA, e, if_true]; rw [hm, hd])
    have hib : insideB (8 + m, d) f c = decide (48 ≤ c ∧ f + c ≤ d) := by
      rw [Bool.eq_iff_iff]
      simp [insideB, countsB]
      omega
    by_cases hin : 48 ≤ c ∧ f + c ≤ d
    · have HI := Lib.hid (show insideA (8 + m, d) f c = (8 + m + f, c) ∧ insideB (8 + m, d) f c = true from by
        have e : insideB (8 + m, d) f c = true := by rw [hib]; simp [hin]
        exact ⟨by simp [insideA, e], e⟩)
      have HS2 := Lib.hid (show metaA (8 + m + f, c) = (8 + m + f, c - c / 2) ∧ dataA (8 + m + f, c) = (8 + m + f + (c - c / 2), c / 2) ∧ splitB (8 + m + f, c) = true from by
        have e : splitB (8 + m + f, c) = true := by simp [splitB]; omega
        exact ⟨by simp [metaA, e], by simp [dataA, e], e⟩)
      have HH1 := Lib.hid (show hasB (8 + m, d) (8 + m + f) = true from by simp [hasB]; omega)
      have HH2 := Lib.hid (show hasB (8 + m, d) (8 + m + f + c - 1) = true from by simp [hasB]; omega)
      obtain ⟨hin1, hin2⟩ := hin
      clear hib hd hm
      go_enter Try.func9, Try.ntmps9
      go_wp2_with fail
      refine (whole_at HW.out.1 HW.out.2 _).mono ?_
      rintro e w1 ⟨rfl, hb⟩
      have B := Lib.hid hb
      clear hb
      replace B := Lib.hid (B.out.alloc B.out.size (.cells #[.int .i64 (8), .int .i64 (n - 16)] 46))
      have xp1 := box_new (w1) (8) (n - 16)
      have Xp1 := Lib.hid xp1
      clear xp1
      go_wp2_with fail
      obtain ⟨p1, hp1⟩ : ∃ p1, p1 = w1.heap.size := ⟨_, rfl⟩
      rw [← hp1] at Xp1 ⊢
      clear hp1
      generalize (w1).alloc (.cells #[.int .i64 (8), .int .i64 (n - 16)] 46) = W2 at *
      refine (split_at HS.out.1 HS.out.2.1 HS.out.2.2 _).mono ?_
      rintro e w3 ⟨rfl, hb⟩
      replace B := Lib.hid (B.out.trans (hb.mono B.out.size))
      replace Xp1 := Lib.hid (Xp1.out.keep hb)
      clear hb
      replace B := Lib.hid (B.out.alloc B.out.size (.cells #[.int .i64 (8), .int .i64 (m)] 46))
      replace Xp1 := Lib.hid (Xp1.out.alloc (.cells #[.int .i64 (8), .int .i64 (m)] 46))
      have xp2 := box_new (w3) (8) (m)
      have Xp2 := Lib.hid xp2
      clear xp2
      replace B := Lib.hid (B.out.alloc B.out.size (.cells #[.int .i64 (8 + m), .int .i64 (d)] 46))
      replace Xp1 := Lib.hid (Xp1.out.alloc (.cells #[.int .i64 (8 + m), .int .i64 (d)] 46))
      replace Xp2 := Lib.hid (Xp2.out.alloc (.cells #[.int .i64 (8 + m), .int .i64 (d)] 46))
      have xp3 := box_new ((w3).alloc (.cells #[.int .i64 (8), .int .i64 (m)] 46)) (8 + m) (d)
      simp only [World.size_alloc] at xp3
      have Xp3 := Lib.hid xp3
      clear xp3
      go_wp2_with fail
      obtain ⟨p3, hp3⟩ : ∃ p3, p3 = w3.heap.size + 1 := ⟨_, rfl⟩
      rw [← hp3] at Xp3 ⊢
      clear hp3
      obtain ⟨p2, hp2⟩ : ∃ p2, p2 = w3.heap.size := ⟨_, rfl⟩
      rw [← hp2] at Xp2 ⊢
      clear hp2
      generalize ((w3).alloc (.cells #[.int .i64 (8), .int .i64 (m)] 46)).alloc (.cells #[.int .i64 (8 + m), .int .i64 (d)] 46) = W4 at *
      refine (inside_at HI.out.1 HI.out.2 _).mono ?_
      rintro e w5 ⟨rfl, hb⟩
      replace B := Lib.hid (B.out.trans (hb.mono B.out.size))
      replace Xp1 := Lib.hid (Xp1.out.keep hb)
      replace Xp2 := Lib.hid (Xp2.out.keep hb)
      replace Xp3 := Lib.hid (Xp3.out.keep hb)
      clear hb
      have ap3 := Xp3.out.c0
      have bp3 := Xp3.out.c1
      have lp3 := Xp3.out.lt
      have fp3 := fun j => frozen_of Xp3.out j
      clear fp3
      replace B := Lib.hid (B.out.alloc B.out.size (.cells #[.int .i64 (8 + m + f), .int .i64 (c)] 46))
      replace Xp1 := Lib.hid (Xp1.out.alloc (.cells #[.int .i64 (8 + m + f), .int .i64 (c)] 46))
      replace Xp2 := Lib.hid (Xp2.out.alloc (.cells #[.int .i64 (8 + m + f), .int .i64 (c)] 46))
      replace Xp3 := Lib.hid (Xp3.out.alloc (.cells #[.int .i64 (8 + m + f), .int .i64 (c)] 46))
      have xp4 := box_new (w5) (8 + m + f) (c)
      have Xp4 := Lib.hid xp4
      clear xp4
      go_wp2_with fail
      obtain ⟨p4, hp4⟩ : ∃ p4, p4 = w5.heap.size := ⟨_, rfl⟩
      rw [← hp4] at Xp4 ⊢
      clear hp4
      generalize (w5).alloc (.cells #[.int .i64 (8 + m + f), .int .i64 (c)] 46) = W6 at *
      clear ap3 bp3 lp3
      refine (split_at HS2.out.1 HS2.out.2.1 HS2.out.2.2 _).mono ?_
      rintro e w7 ⟨rfl, hb⟩
      replace B := Lib.hid (B.out.trans (hb.mono B.out.size))
      replace Xp1 := Lib.hid (Xp1.out.keep hb)
      replace Xp2 := Lib.hid (Xp2.out.keep hb)
      replace Xp3 := Lib.hid (Xp3.out.keep hb)
      replace Xp4 := Lib.hid (Xp4.out.keep hb)
      clear hb
      have ap3 := Xp3.out.c0
      have bp3 := Xp3.out.c1
      have lp3 := Xp3.out.lt
      have fp3 := fun j => frozen_of Xp3.out j
      clear fp3
      have ap4 := Xp4.out.c0
      have bp4 := Xp4.out.c1
      have lp4 := Xp4.out.lt
      have fp4 := fun j => frozen_of Xp4.out j
      clear fp4
      replace B := Lib.hid (B.out.alloc B.out.size (.cells #[.int .i64 (8 + m + f), .int .i64 (c - c / 2)] 46))
      replace Xp1 := Lib.hid (Xp1.out.alloc (.cells #[.int .i64 (8 + m + f), .int .i64 (c - c / 2)] 46))
      replace Xp2 := Lib.hid (Xp2.out.alloc (.cells #[.int .i64 (8 + m + f), .int .i64 (c - c / 2)] 46))
      replace Xp3 := Lib.hid (Xp3.out.alloc (.cells #[.int .i64 (8 + m + f), .int .i64 (c - c / 2)] 46))
      replace Xp4 := Lib.hid (Xp4.out.alloc (.cells #[.int .i64 (8 + m + f), .int .i64 (c - c / 2)] 46))
      have xp5 := box_new (w7) (8 + m + f) (c - c / 2)
      have Xp5 := Lib.hid xp5
      clear xp5
      replace B := Lib.hid (B.out.alloc B.out.size (.cells #[.int .i64 (8 + m + f + (c - c / 2)), .int .i64 (c / 2)] 46))
      replace Xp1 := Lib.hid (Xp1.out.alloc (.cells #[.int .i64 (8 + m + f + (c - c / 2)), .int .i64 (c / 2)] 46))
      replace Xp2 := Lib.hid (Xp2.out.alloc (.cells #[.int .i64 (8 + m + f + (c - c / 2)), .int .i64 (c / 2)] 46))
      replace Xp3 := Lib.hid (Xp3.out.alloc (.cells #[.int .i64 (8 + m + f + (c - c / 2)), .int .i64 (c / 2)] 46))
      replace Xp4 := Lib.hid (Xp4.out.alloc (.cells #[.int .i64 (8 + m + f + (c - c / 2)), .int .i64 (c / 2)] 46))
      replace Xp5 := Lib.hid (Xp5.out.alloc (.cells #[.int .i64 (8 + m + f + (c - c / 2)), .int .i64 (c / 2)] 46))
      have xp6 := box_new ((w7).alloc (.cells #[.int .i64 (8 + m + f), .int .i64 (c - c / 2)] 46)) (8 + m + f + (c - c / 2)) (c / 2)
      simp only [World.size_alloc] at xp6
      have Xp6 := Lib.hid xp6
      clear xp6
      go_wp2_with fail
      obtain ⟨p6, hp6⟩ : ∃ p6, p6 = w7.heap.size + 1 := ⟨_, rfl⟩
      rw [← hp6] at Xp6 ⊢
      clear hp6
      obtain ⟨p5, hp5⟩ : ∃ p5, p5 = w7.heap.size := ⟨_, rfl⟩
      rw [← hp5] at Xp5 ⊢
      clear hp5
      generalize ((w7).alloc (.cells #[.int .i64 (8 + m + f), .int .i64 (c - c / 2)] 46)).alloc (.cells #[.int .i64 (8 + m + f + (c - c / 2)), .int .i64 (c / 2)] 46) = W8 at *
      clear ap3 bp3 lp3 ap4 bp4 lp4
      refine (has_at (by omega) HH1.out _).mono ?_
      rintro e w9 ⟨rfl, hb⟩
      replace B := Lib.hid (B.out.trans (hb.mono B.out.size))
      replace Xp1 := Lib.hid (Xp1.out.keep hb)
      replace Xp2 := Lib.hid (Xp2.out.keep hb)
      replace Xp3 := Lib.hid (Xp3.out.keep hb)
      replace Xp4 := Lib.hid (Xp4.out.keep hb)
      replace Xp5 := Lib.hid (Xp5.out.keep hb)
      replace Xp6 := Lib.hid (Xp6.out.keep hb)
      clear hb
      have ap3 := Xp3.out.c0
      have bp3 := Xp3.out.c1
      have lp3 := Xp3.out.lt
      have fp3 := fun j => frozen_of Xp3.out j
      clear fp3
      have ap4 := Xp4.out.c0
      have bp4 := Xp4.out.c1
      have lp4 := Xp4.out.lt
      have fp4 := fun j => frozen_of Xp4.out j
      clear fp4
      have ap6 := Xp6.out.c0
      have bp6 := Xp6.out.c1
      have lp6 := Xp6.out.lt
      have fp6 := fun j => frozen_of Xp6.out j
      clear fp6
      go_wp2_with fail
      clear ap3 bp3 lp3 ap4 bp4 lp4 ap6 bp6 lp6
      refine (has_at (by omega) HH2.out _).mono ?_
      rintro e w10 ⟨rfl, hb⟩
      replace B := Lib.hid (B.out.trans (hb.mono B.out.size))
      replace Xp1 := Lib.hid (Xp1.out.keep hb)
      replace Xp2 := Lib.hid (Xp2.out.keep hb)
      replace Xp3 := Lib.hid (Xp3.out.keep hb)
      replace Xp4 := Lib.hid (Xp4.out.keep hb)
      replace Xp5 := Lib.hid (Xp5.out.keep hb)
      replace Xp6 := Lib.hid (Xp6.out.keep hb)
      clear hb
      have ap6 := Xp6.out.c0
      have bp6 := Xp6.out.c1
      have lp6 := Xp6.out.lt
      have fp6 := fun j => frozen_of Xp6.out j
      clear fp6
      go_wp2_with fail
      clear ap6 bp6 lp6
      refine (awake14_ok _).mono ?_
      rintro e w11 ⟨rfl, hb⟩
      replace B := Lib.hid (B.out.trans (hb.mono B.out.size))
      replace Xp1 := Lib.hid (Xp1.out.keep hb)
      replace Xp2 := Lib.hid (Xp2.out.keep hb)
      replace Xp3 := Lib.hid (Xp3.out.keep hb)
      replace Xp4 := Lib.hid (Xp4.out.keep hb)
      replace Xp5 := Lib.hid (Xp5.out.keep hb)
      replace Xp6 := Lib.hid (Xp6.out.keep hb)
      clear hb
      have hfin := B.out
      go_wp2_with fail
      go_ret
      exact ⟨rfl, hfin⟩
    · have HI := Lib.hid (show insideA (8 + m, d) f c = (0, 0) ∧ insideB (8 + m, d) f c = false from by
        have e : insideB (8 + m, d) f c = false := by rw [hib]; simp; omega
        exact ⟨by simp [insideA, e], e⟩)
      have hin2 : c < 48 ∨ (48 ≤ c ∧ d < f + c) := by omega
      clear hib hd hm hin
      rcases hin2 with hin1 | ⟨hin1, hin2⟩
      all_goals
        go_enter Try.func9, Try.ntmps9
        go_wp2_with fail
        refine (whole_at HW.out.1 HW.out.2 _).mono ?_
        rintro e w1 ⟨rfl, hb⟩
        have B := Lib.hid hb
        clear hb
        replace B := Lib.hid (B.out.alloc B.out.size (.cells #[.int .i64 (8), .int .i64 (n - 16)] 46))
        have xp1 := box_new (w1) (8) (n - 16)
        have Xp1 := Lib.hid xp1
        clear xp1
        go_wp2_with fail
        obtain ⟨p1, hp1⟩ : ∃ p1, p1 = w1.heap.size := ⟨_, rfl⟩
        rw [← hp1] at Xp1 ⊢
        clear hp1
        generalize (w1).alloc (.cells #[.int .i64 (8), .int .i64 (n - 16)] 46) = W2 at *
        refine (split_at HS.out.1 HS.out.2.1 HS.out.2.2 _).mono ?_
        rintro e w3 ⟨rfl, hb⟩
        replace B := Lib.hid (B.out.trans (hb.mono B.out.size))
        replace Xp1 := Lib.hid (Xp1.out.keep hb)
        clear hb
        replace B := Lib.hid (B.out.alloc B.out.size (.cells #[.int .i64 (8), .int .i64 (m)] 46))
        replace Xp1 := Lib.hid (Xp1.out.alloc (.cells #[.int .i64 (8), .int .i64 (m)] 46))
        have xp2 := box_new (w3) (8) (m)
        have Xp2 := Lib.hid xp2
        clear xp2
        replace B := Lib.hid (B.out.alloc B.out.size (.cells #[.int .i64 (8 + m), .int .i64 (d)] 46))
        replace Xp1 := Lib.hid (Xp1.out.alloc (.cells #[.int .i64 (8 + m), .int .i64 (d)] 46))
        replace Xp2 := Lib.hid (Xp2.out.alloc (.cells #[.int .i64 (8 + m), .int .i64 (d)] 46))
        have xp3 := box_new ((w3).alloc (.cells #[.int .i64 (8), .int .i64 (m)] 46)) (8 + m) (d)
        simp only [World.size_alloc] at xp3
        have Xp3 := Lib.hid xp3
        clear xp3
        go_wp2_with fail
        obtain ⟨p3, hp3⟩ : ∃ p3, p3 = w3.heap.size + 1 := ⟨_, rfl⟩
        rw [← hp3] at Xp3 ⊢
        clear hp3
        obtain ⟨p2, hp2⟩ : ∃ p2, p2 = w3.heap.size := ⟨_, rfl⟩
        rw [← hp2] at Xp2 ⊢
        clear hp2
        generalize ((w3).alloc (.cells #[.int .i64 (8), .int .i64 (m)] 46)).alloc (.cells #[.int .i64 (8 + m), .int .i64 (d)] 46) = W4 at *
        refine (inside_at HI.out.1 HI.out.2 _).mono ?_
        rintro e w5 ⟨rfl, hb⟩
        replace B := Lib.hid (B.out.trans (hb.mono B.out.size))
        replace Xp1 := Lib.hid (Xp1.out.keep hb)
        replace Xp2 := Lib.hid (Xp2.out.keep hb)
        replace Xp3 := Lib.hid (Xp3.out.keep hb)
        clear hb
        have ap3 := Xp3.out.c0
        have bp3 := Xp3.out.c1
        have lp3 := Xp3.out.lt
        have fp3 := fun j => frozen_of Xp3.out j
        clear fp3
        replace B := Lib.hid (B.out.alloc B.out.size (.cells #[.int .i64 (0), .int .i64 (0)] 46))
        replace Xp1 := Lib.hid (Xp1.out.alloc (.cells #[.int .i64 (0), .int .i64 (0)] 46))
        replace Xp2 := Lib.hid (Xp2.out.alloc (.cells #[.int .i64 (0), .int .i64 (0)] 46))
        replace Xp3 := Lib.hid (Xp3.out.alloc (.cells #[.int .i64 (0), .int .i64 (0)] 46))
        have xp4 := box_new (w5) (0) (0)
        have Xp4 := Lib.hid xp4
        clear xp4
        go_wp2_with fail
        obtain ⟨p4, hp4⟩ : ∃ p4, p4 = w5.heap.size := ⟨_, rfl⟩
        rw [← hp4] at Xp4 ⊢
        clear hp4
        generalize (w5).alloc (.cells #[.int .i64 (0), .int .i64 (0)] 46) = W6 at *
        clear ap3 bp3 lp3
        refine (awake14_ok _).mono ?_
        rintro e w7 ⟨rfl, hb⟩
        replace B := Lib.hid (B.out.trans (hb.mono B.out.size))
        replace Xp1 := Lib.hid (Xp1.out.keep hb)
        replace Xp2 := Lib.hid (Xp2.out.keep hb)
        replace Xp3 := Lib.hid (Xp3.out.keep hb)
        replace Xp4 := Lib.hid (Xp4.out.keep hb)
        clear hb
        have hfin := B.out
        go_wp2_with fail
        go_ret
        exact ⟨rfl, hfin⟩
end Go.Proofs.Ytifocofpplhacaa.P

/-
  plan's Inside, Has, Overlap, and the document's Inside. No condition beyond what each theorem names.
-/
import Derived.Test.YtifocofpplhacaaPlan
namespace Go.Proofs.Ytifocofpplhacaa.P
open Go Go.RowKit K

theorem bcell {W w1 : World} (hb : Below W.heap.size W w1) : (∀ b o, b < W.heap.size → w1.cell? ⟨b, o, none⟩ = W.cell? ⟨b, o, none⟩) ∧ (∀ b o, b < W.heap.size → w1.frozen? ⟨b, o, none⟩ = W.frozen? ⟨b, o, none⟩) :=
  ⟨fun b o h => hb.cell (p := ⟨b, o, none⟩) h, fun b o h => hb.frozen (p := ⟨b, o, none⟩) h⟩

def insideB (a : Ar) (f c : Int) : Bool := countsB a && decide (0 ≤ f ∧ 48 ≤ c ∧ c ≤ a.2 ∧ f ≤ a.2 - c)
def insideA (a : Ar) (f c : Int) : Ar := if insideB a f c then (a.1 + f, c) else (0, 0)
set_option maxHeartbeats 1000000 in
theorem inside_ok (a : Ar) (f c : Int) (w : World) : Calls Try.prog 33 #[arV a, .int .i64 f, .int .i64 c] w fun e w' => e = .returned (.tuple #[arV (insideA a f c), .bool (insideB a f c)]) ∧ Below w.heap.size w w' := by
  obtain ⟨x, y⟩ := a
  have HC := fun u => Lib.hid (counts_ok (x, y) u)
  unfold arV at *
  cases hb : insideB (x, y) f c with
  | true =>
    have HB := Lib.hid hb
    have hf : (0 ≤ x ∧ x ≤ 1048576 ∧ 1 ≤ y ∧ y ≤ 1048576) ∧ 0 ≤ f ∧ 48 ≤ c ∧ c ≤ y ∧ f ≤ y - c := by simpa [insideB, countsB] using hb
    have HK := Lib.hid (show countsB (x, y) = true by simp [countsB]; omega)
    clear hb
    go_enter Try.func33, Try.ntmps33
    go_wp2_with fail
    refine (HC _).out.mono ?_
    rw [HK.out]
    rintro e w1 ⟨rfl, hb⟩
    obtain ⟨hc, hfz⟩ := bcell hb
    have hz : w.heap.size + 1 < w1.heap.size := by have := hb.size; simp at this; omega
    have HBL := Lib.hid (((((Below.refl _ w).alloc (Nat.le_refl _) (.cells #[.int .i64 x, .int .i64 y] 46)).alloc (by simp) (.cells #[.int .i64 0, .int .i64 0] 46))).trans (hb.mono (by simp; omega)))
    clear hb
    go_wp2
    refine bodyPost_ret (v := .tuple #[arV (x + f, c), .bool true]) ?_ rfl ?_
    · simp [results, Try.results33, go_sem, hc]; rfl
    · refine ⟨by simp [insideA, HB.out, arV], ?_⟩
      have hbl := HBL.out
      repeat (first | exact Below.refl _ _ | assumption | refine Below.drew ?_ | refine Below.alloc ?_ (by first | exact Nat.le_refl _ | (simp; done) | (simp; omega)) _ | refine Below.setCell ?_ (by first | exact Nat.le_refl _ | (simp; done) | (simp; omega)) _)
  | false =>
    have HB := Lib.hid hb
    cases hk : countsB (x, y) with
    | false =>
      have HK := Lib.hid hk
      clear hb hk
      go_enter Try.func33, Try.ntmps33
      go_wp2_with fail
      refine (HC _).out.mono ?_
      rw [HK.out]
      rintro e w1 ⟨rfl, hb⟩
      obtain ⟨hc, hfz⟩ := bcell hb
      have hz : w.heap.size + 1 < w1.heap.size := by have := hb.size; simp at this; omega
      have HBL := Lib.hid (((((Below.refl _ w).alloc (Nat.le_refl _) (.cells #[.int .i64 x, .int .i64 y] 46)).alloc (by simp) (.cells #[.int .i64 0, .int .i64 0] 46))).trans (hb.mono (by simp; omega)))
      clear hb
      go_wp2
      refine bodyPost_ret (v := .tuple #[arV (0, 0), .bool false]) ?_ rfl ?_
      · simp [results, Try.results33, go_sem, hc]; rfl
      · refine ⟨by simp [insideA, HB.out, arV], ?_⟩
        have hbl := HBL.out
        repeat (first | exact Below.refl _ _ | assumption | refine Below.drew ?_ | refine Below.alloc ?_ (by first | exact Nat.le_refl _ | (simp; done) | (simp; omega)) _ | refine Below.setCell ?_ (by first | exact Nat.le_refl _ | (simp; done) | (simp; omega)) _)
    | true =>
      have HK := Lib.hid hk
      have hk' : 0 ≤ x ∧ x ≤ 1048576 ∧ 1 ≤ y ∧ y ≤ 1048576 := by simpa [countsB] using hk
      have hf : ¬ (0 ≤ f ∧ 48 ≤ c ∧ c ≤ y ∧ f ≤ y - c) := by simp [insideB, hk] at hb; omega
      clear hb hk
      rcases (by omega : f < 0 ∨ (¬ f < 0 ∧ c < 48) ∨ (¬ f < 0 ∧ ¬ c < 48 ∧ y < c) ∨ (¬ f < 0 ∧ ¬ c < 48 ∧ ¬ y < c ∧ y - c < f)) with h4 | ⟨h4, h5⟩ | ⟨h4, h5, h6⟩ | ⟨h4, h5, h6, h7⟩
      all_goals
        clear hf
        go_enter Try.func33, Try.ntmps33
        go_wp2_with fail
        refine (HC _).out.mono ?_
        rw [HK.out]
        rintro e w1 ⟨rfl, hb⟩
        obtain ⟨hc, hfz⟩ := bcell hb
        have hz : w.heap.size + 1 < w1.heap.size := by have := hb.size; simp at this; omega
        have HBL := Lib.hid (((((Below.refl _ w).alloc (Nat.le_refl _) (.cells #[.int .i64 x, .int .i64 y] 46)).alloc (by simp) (.cells #[.int .i64 0, .int .i64 0] 46))).trans (hb.mono (by simp; omega)))
        clear hb
        go_wp2
        refine bodyPost_ret (v := .tuple #[arV (0, 0), .bool false]) ?_ rfl ?_
        · simp [results, Try.results33, go_sem, hc]; rfl
        · refine ⟨by simp [insideA, HB.out, arV], ?_⟩
          have hbl := HBL.out
          repeat (first | exact Below.refl _ _ | assumption | refine Below.drew ?_ | refine Below.alloc ?_ (by first | exact Nat.le_refl _ | (simp; done) | (simp; omega)) _ | refine Below.setCell ?_ (by first | exact Nat.le_refl _ | (simp; done) | (simp; omega)) _)

def rinsideB (a : Ar) (f c : Int) : Bool := decide (0 ≤ a.1 ∧ a.1 ≤ 1048576 ∧ a.2 ≤ 1048576 ∧ 0 ≤ f ∧ 48 ≤ c ∧ c ≤ a.2 ∧ f ≤ a.2 - c)
theorem inside_same (a : Ar) (f c : Int) : rinsideB a f c = insideB a f c := by
  obtain ⟨x, y⟩ := a
  rw [Bool.eq_iff_iff]
  simp [rinsideB, insideB, countsB]
  omega

set_option maxHeartbeats 1000000 in
theorem rinside_ok (a : Ar) (f c : Int) (w : World) : Calls Try.prog 34 #[arV a, .int .i64 f, .int .i64 c] w fun e w' => e = .returned (.tuple #[arV (insideA a f c), .bool (insideB a f c)]) ∧ Below w.heap.size w w' := by
  obtain ⟨x, y⟩ := a
  unfold arV
  have hs := inside_same (x, y) f c
  cases hb : insideB (x, y) f c with
  | true =>
    rw [hb] at hs
    have HB := Lib.hid hb
    have hf : 0 ≤ x ∧ x ≤ 1048576 ∧ y ≤ 1048576 ∧ 0 ≤ f ∧ 48 ≤ c ∧ c ≤ y ∧ f ≤ y - c := by simpa [rinsideB] using hs
    clear hb hs
    go_enter Try.func34, Try.ntmps34
    go_wp2
    refine bodyPost_ret (v := .tuple #[arV (x + f, c), .bool true]) ?_ rfl ?_
    · simp [results, Try.results34, go_sem, arV]
    · refine ⟨by simp [insideA, HB.out, arV], ?_⟩
      repeat (first | exact Below.refl _ _ | assumption | refine Below.drew ?_ | refine Below.alloc ?_ (by first | exact Nat.le_refl _ | (simp; done) | (simp; omega)) _ | refine Below.setCell ?_ (by first | exact Nat.le_refl _ | (simp; done) | (simp; omega)) _)
  | false =>
    rw [hb] at hs
    have HB := Lib.hid hb
    have hf : ¬ (0 ≤ x ∧ x ≤ 1048576 ∧ y ≤ 1048576 ∧ 0 ≤ f ∧ 48 ≤ c ∧ c ≤ y ∧ f ≤ y - c) := by simpa [rinsideB] using hs
    clear hb hs
    rcases (by omega : x < 0 ∨ (¬ x < 0 ∧ 1048576 < x) ∨ (¬ x < 0 ∧ ¬ 1048576 < x ∧ 1048576 < y) ∨ (¬ x < 0 ∧ ¬ 1048576 < x ∧ ¬ 1048576 < y ∧ f < 0) ∨ (¬ x < 0 ∧ ¬ 1048576 < x ∧ ¬ 1048576 < y ∧ ¬ f < 0 ∧ c < 48) ∨ (¬ x < 0 ∧ ¬ 1048576 < x ∧ ¬ 1048576 < y ∧ ¬ f < 0 ∧ ¬ c < 48 ∧ y < c) ∨ (¬ x < 0 ∧ ¬ 1048576 < x ∧ ¬ 1048576 < y ∧ ¬ f < 0 ∧ ¬ c < 48 ∧ ¬ y < c ∧ y - c < f)) with h1 | ⟨h1, h2⟩ | ⟨h1, h2, h3⟩ | ⟨h1, h2, h3, h4⟩ | ⟨h1, h2, h3, h4, h5⟩ | ⟨h1, h2, h3, h4, h5, h6⟩ | ⟨h1, h2, h3, h4, h5, h6, h7⟩
    all_goals
      clear hf
      go_enter Try.func34, Try.ntmps34
      go_wp2
      refine bodyPost_ret (v := .tuple #[arV (0, 0), .bool false]) ?_ rfl ?_
      · simp [results, Try.results34, go_sem, arV]
      · refine ⟨by simp [insideA, HB.out, arV], ?_⟩
        repeat (first | exact Below.refl _ _ | assumption | refine Below.drew ?_ | refine Below.alloc ?_ (by first | exact Nat.le_refl _ | (simp; done) | (simp; omega)) _ | refine Below.setCell ?_ (by first | exact Nat.le_refl _ | (simp; done) | (simp; omega)) _)

/-- is a sector in an area -/
def hasB (a : Ar) (t : Int) : Bool := decide (0 < a.2 ∧ a.1 ≤ t ∧ t < a.1 + a.2)
set_option maxHeartbeats 1000000 in
theorem has_ok (a : Ar) (t : Int) (h : 0 ≤ a.1 ∧ a.1 ≤ 1000000000 ∧ a.2 ≤ 1000000000 ∧ 0 ≤ t ∧ t ≤ 1000000000) (w : World) : Calls Try.prog 36 #[arV a, .int .i64 t] w fun e w' => e = .returned (.bool (hasB a t)) ∧ Below w.heap.size w w' := by
  obtain ⟨x, y⟩ := a
  simp only at h
  unfold arV
  by_cases h1 : 0 < y
  · by_cases h2 : x ≤ t
    · have e1 : (hasB (x, y) t) = decide (t - x < y) := by rw [Bool.eq_iff_iff]; simp [hasB]; omega
      have HE := Lib.hid e1
      clear e1
      go_enter Try.func36, Try.ntmps36
      go_wp2
      go_ret
      refine ⟨ret_bool ?_, ?_⟩
      · rw [HE.out]
      · repeat (first | exact Below.refl _ _ | assumption | refine Below.drew ?_ | refine Below.alloc ?_ (by first | exact Nat.le_refl _ | (simp; done) | (simp; omega)) _ | refine Below.setCell ?_ (by first | exact Nat.le_refl _ | (simp; done) | (simp; omega)) _)
    · have HE := Lib.hid (show hasB (x, y) t = false by simp [hasB]; omega)
      go_enter Try.func36, Try.ntmps36
      go_wp2
      go_ret
      refine ⟨ret_bool ?_, ?_⟩
      · rw [HE.out]
      · repeat (first | exact Below.refl _ _ | assumption | refine Below.drew ?_ | refine Below.alloc ?_ (by first | exact Nat.le_refl _ | (simp; done) | (simp; omega)) _ | refine Below.setCell ?_ (by first | exact Nat.le_refl _ | (simp; done) | (simp; omega)) _)
  · have HE := Lib.hid (show hasB (x, y) t = false by simp [hasB]; omega)
    go_enter Try.func36, Try.ntmps36
    go_wp2
    go_ret
    refine ⟨ret_bool ?_, ?_⟩
    · rw [HE.out]
    · repeat (first | exact Below.refl _ _ | assumption | refine Below.drew ?_ | refine Below.alloc ?_ (by first | exact Nat.le_refl _ | (simp; done) | (simp; omega)) _ | refine Below.setCell ?_ (by first | exact Nat.le_refl _ | (simp; done) | (simp; omega)) _)

/-- have two areas a sector in common -/
def overB (a b : Ar) : Bool := (decide (0 < b.2) && hasB a b.1) || (decide (0 < a.2) && hasB b a.1)
set_option maxHeartbeats 1000000 in
theorem over_ok (a b : Ar) (h : 0 ≤ a.1 ∧ a.1 ≤ 1000000000 ∧ a.2 ≤ 1000000000 ∧ 0 ≤ b.1 ∧ b.1 ≤ 1000000000 ∧ b.2 ≤ 1000000000) (w : World) : Calls Try.prog 37 #[arV a, arV b] w fun e w' => e = .returned (.bool (overB a b)) ∧ Below w.heap.size w w' := by
  have H1 := fun u => Lib.hid (has_ok a b.1 (by omega) u)
  have H2 := fun u => Lib.hid (has_ok b a.1 (by omega) u)
  have HO : Hid (overB a b = ((decide (0 < b.2) && hasB a b.1) || (decide (0 < a.2) && hasB b a.1))) := rfl
  generalize overB a b = o at *
  generalize hasB a b.1 = p at *
  generalize hasB b a.1 = q at *
  obtain ⟨x, y⟩ := a
  obtain ⟨u, v⟩ := b
  unfold arV at *
  simp only at H1 H2 HO
  clear h
  have hb2 : Below w.heap.size w ((w.alloc (.cells #[.int .i64 x, .int .i64 y] 46)).alloc (.cells #[.int .i64 u, .int .i64 v] 46)) := ((Below.refl _ w).alloc (Nat.le_refl _) _).alloc (by simp) _
  have HB2 := Lib.hid hb2
  clear hb2
  by_cases h1 : 0 < v
  · cases p with
    | true =>
      have HV := Lib.hid (show o = true by rw [HO.out]; simp [h1])
      go_enter Try.func37, Try.ntmps37
      go_wp2_with fail
      refine (H1 _).out.mono ?_
      rintro e w1 ⟨rfl, hb⟩
      have hfin := HB2.out.trans (hb.mono (by simp; omega))
      clear hb
      go_wp2_with fail
      go_ret
      exact ⟨ret_bool HV.out.symm, hfin⟩
    | false =>
      by_cases h2 : 0 < y
      · have HV := Lib.hid (show o = q by rw [HO.out]; simp [h1, h2])
        go_enter Try.func37, Try.ntmps37
        go_wp2_with fail
        refine (H1 _).out.mono ?_
        rintro e w1 ⟨rfl, hb⟩
        obtain ⟨hc, hfz⟩ := bcell hb
        have hz : w.heap.size + 1 < w1.heap.size := by have := hb.size; simp at this; omega
        have HF := Lib.hid (HB2.out.trans (hb.mono (by simp; omega)))
        clear hb
        go_wp2_with fail
        refine (H2 _).out.mono ?_
        rintro e w2 ⟨rfl, hb⟩
        have hfin := HF.out.trans (hb.mono (by omega))
        clear hb hc hfz
        go_wp2_with fail
        go_ret
        exact ⟨ret_bool HV.out.symm, hfin⟩
      · have HV := Lib.hid (show o = false by rw [HO.out]; simp [h1, h2])
        go_enter Try.func37, Try.ntmps37
        go_wp2_with fail
        refine (H1 _).out.mono ?_
        rintro e w1 ⟨rfl, hb⟩
        obtain ⟨hc, hfz⟩ := bcell hb
        have hz : w.heap.size + 1 < w1.heap.size := by have := hb.size; simp at this; omega
        have HF := Lib.hid (HB2.out.trans (hb.mono (by simp; omega)))
        clear hb
        go_wp2_with fail
        go_ret
        exact ⟨ret_bool HV.out.symm, HF.out⟩
  · by_cases h2 : 0 < y
    · have HV := Lib.hid (show o = q by rw [HO.out]; simp [h1, h2])
      go_enter Try.func37, Try.ntmps37
      go_wp2_with fail
      refine (H2 _).out.mono ?_
      rintro e w2 ⟨rfl, hb⟩
      have hfin := HB2.out.trans (hb.mono (by simp; omega))
      clear hb
      go_wp2_with fail
      go_ret
      exact ⟨ret_bool HV.out.symm, hfin⟩
    · have HV := Lib.hid (show o = false by rw [HO.out]; simp [h1, h2])
      go_enter Try.func37, Try.ntmps37
      go_wp2_with fail
      go_ret
      exact ⟨ret_bool HV.out.symm, HB2.out⟩
end Go.Proofs.Ytifocofpplhacaa.P

/-
  plan's functions, and the document's own, each as a plain function. No condition beyond what each theorem names.
-/
import Derived.Test.YtifocofpplhacaaRows
import Derived.Test.YtifocofpplhacaaBase
import Derived.Test.YtifocofpplhacaaRegion
namespace Go.Proofs.Ytifocofpplhacaa.P
open Go Go.RowKit K

abbrev Ar := Int × Int
def arV (a : Ar) : Value := .agg #[.int .i64 a.1, .int .i64 a.2]
def In64 (x : Int) : Prop := -9223372036854775808 ≤ x ∧ x ≤ 9223372036854775807

def mayB (n : Int) : Bool := decide (96 ≤ n ∧ n ≤ 65536)
set_option maxHeartbeats 400000 in
theorem may_ok (n : Int) (w : World) : Calls Try.prog 27 #[.int .i64 n] w fun e w' => e = .returned (.bool (mayB n)) ∧ w = w' := by
  go_enter Try.func27, Try.ntmps27
  go_wp2
  all_goals go_ret
  all_goals exact ⟨ret_bool (by simp [mayB]; try omega), rfl⟩

set_option maxHeartbeats 400000 in
theorem rmay_ok (n : Int) (w : World) : Calls Try.prog 26 #[.int .i64 n] w fun e w' => e = .returned (.bool (mayB n)) ∧ w = w' := by
  go_enter Try.func26, Try.ntmps26
  go_wp2
  all_goals go_ret
  all_goals exact ⟨ret_bool (by simp [mayB]; try omega), rfl⟩

def slotB (n k : Int) : Bool := mayB n && decide (0 ≤ k ∧ k < 4)
def slotA (n k : Int) : Ar := if slotB n k then (if k < 2 then (k * 4, 4) else (n - (4 - k) * 4, 4)) else (0, 0)
set_option maxHeartbeats 1000000 in
theorem slot_ok (n k : Int) (w : World) : Calls Try.prog 24 #[.int .i64 n, .int .i64 k] w fun e w' => e = .returned (.tuple #[arV (slotA n k), .bool (slotB n k)]) ∧ Below w.heap.size w w' := by
  cases hm : mayB n with
  | false =>
    have HM := Lib.hid hm
    clear hm
    go_enter Try.func24, Try.ntmps24
    go_wp2_with (go_at_call 27; (with_reducible refine (may_ok _ _).mono ?_); rw [HM.out]; rintro e w' ⟨rfl, rfl⟩)
    exact bodyPost_ret (v := .tuple #[arV (0, 0), .bool false]) (by simp [results, Try.results24, go_sem, arV]) rfl ⟨by simp [slotA, slotB, HM.out], (Below.refl _ _).alloc (Nat.le_refl _) _⟩
  | true =>
    have hn : 96 ≤ n ∧ n ≤ 65536 := by simpa [mayB] using hm
    have HM := Lib.hid hm
    clear hm
    by_cases h1 : 0 ≤ k
    · by_cases h2 : k < 4
      · have HB := Lib.hid (show slotB n k = true by simp [slotB, HM.out, h1, h2])
        by_cases h3 : k < 2
        · go_enter Try.func24, Try.ntmps24
          go_wp2_with (go_at_call 27; (with_reducible refine (may_ok _ _).mono ?_); rw [HM.out]; rintro e w' ⟨rfl, rfl⟩)
          exact bodyPost_ret (v := .tuple #[arV (k * 4, 4), .bool true]) (by simp [results, Try.results24, go_sem, arV]) rfl ⟨by simp [slotA, HB.out, h3], (Below.refl _ _).alloc (Nat.le_refl _) _⟩
        · go_enter Try.func24, Try.ntmps24
          go_wp2_with (go_at_call 27; (with_reducible refine (may_ok _ _).mono ?_); rw [HM.out]; rintro e w' ⟨rfl, rfl⟩)
          exact bodyPost_ret (v := .tuple #[arV (n - (4 - k) * 4, 4), .bool true]) (by simp [results, Try.results24, go_sem, arV]) rfl ⟨by simp [slotA, HB.out]; rw [if_neg (by omega)], (Below.refl _ _).alloc (Nat.le_refl _) _⟩
      · have HB := Lib.hid (show slotB n k = false by simp [slotB, HM.out, h2])
        go_enter Try.func24, Try.ntmps24
        go_wp2_with (go_at_call 27; (with_reducible refine (may_ok _ _).mono ?_); rw [HM.out]; rintro e w' ⟨rfl, rfl⟩)
        exact bodyPost_ret (v := .tuple #[arV (0, 0), .bool false]) (by simp [results, Try.results24, go_sem, arV]) rfl ⟨by simp [slotA, HB.out], (Below.refl _ _).alloc (Nat.le_refl _) _⟩
    · have HB := Lib.hid (show slotB n k = false by simp [slotB, HM.out, h1])
      go_enter Try.func24, Try.ntmps24
      go_wp2_with (go_at_call 27; (with_reducible refine (may_ok _ _).mono ?_); rw [HM.out]; rintro e w' ⟨rfl, rfl⟩)
      exact bodyPost_ret (v := .tuple #[arV (0, 0), .bool false]) (by simp [results, Try.results24, go_sem, arV]) rfl ⟨by simp [slotA, HB.out], (Below.refl _ _).alloc (Nat.le_refl _) _⟩

def wholeA (n : Int) : Ar := if mayB n then (8, n - 16) else (0, 0)
set_option maxHeartbeats 400000 in
theorem whole_ok (n : Int) (w : World) : Calls Try.prog 25 #[.int .i64 n] w fun e w' => e = .returned (.tuple #[arV (wholeA n), .bool (mayB n)]) ∧ Below w.heap.size w w' := by
  cases hm : mayB n with
  | false =>
    have HM := Lib.hid hm
    clear hm
    go_enter Try.func25, Try.ntmps25
    go_wp2_with (go_at_call 27; (with_reducible refine (may_ok _ _).mono ?_); rw [HM.out]; rintro e w' ⟨rfl, rfl⟩)
    exact bodyPost_ret (v := .tuple #[arV (0, 0), .bool false]) (by simp [results, Try.results25, go_sem, arV]) rfl ⟨by simp [wholeA, HM.out], (Below.refl _ _).alloc (Nat.le_refl _) _⟩
  | true =>
    have hn : 96 ≤ n ∧ n ≤ 65536 := by simpa [mayB] using hm
    have HM := Lib.hid hm
    clear hm
    go_enter Try.func25, Try.ntmps25
    go_wp2_with (go_at_call 27; (with_reducible refine (may_ok _ _).mono ?_); rw [HM.out]; rintro e w' ⟨rfl, rfl⟩)
    exact bodyPost_ret (v := .tuple #[arV (8, n - 16), .bool true]) (by simp [results, Try.results25, go_sem, arV]) rfl ⟨by simp [wholeA, HM.out], (Below.refl _ _).alloc (Nat.le_refl _) _⟩

set_option maxHeartbeats 400000 in
theorem rwhole_ok (n : Int) (hn : mayB n = true) (w : World) : Calls Try.prog 29 #[.int .i64 n] w fun e w' => e = .returned (arV (wholeA n)) ∧ Below w.heap.size w w' := by
  have hn : 96 ≤ n ∧ n ≤ 65536 := by simpa [mayB] using hn
  have HM := Lib.hid (show mayB n = true by simpa [mayB] using hn)
  go_enter Try.func29, Try.ntmps29
  go_wp2
  exact bodyPost_ret (v := arV (8, n - 16)) (by simp [results, Try.results29, go_sem, arV]) rfl ⟨by simp [wholeA, HM.out], (Below.refl _ _).alloc (Nat.le_refl _) _⟩

set_option maxHeartbeats 1000000 in
theorem rslot_ok (n k : Int) (hn : slotB n k = true) (w : World) : Calls Try.prog 28 #[.int .i64 n, .int .i64 k] w fun e w' => e = .returned (arV (slotA n k)) ∧ Below w.heap.size w w' := by
  have hb := hn
  simp only [slotB, mayB, Bool.and_eq_true, decide_eq_true_eq] at hn
  have hk : k = 0 ∨ k = 1 ∨ k = 2 ∨ k = 3 := by omega
  have HM := Lib.hid hb
  clear hb
  rcases hk with rfl | rfl | rfl | rfl
  all_goals
    go_enter Try.func28, Try.ntmps28
    go_wp2
    refine bodyPost_ret (v := arV (slotA n _)) (by simp [results, Try.results28, go_sem, arV, slotA, HM.out]; try omega) rfl ⟨rfl, ?_⟩
    exact (((Below.refl _ _).alloc (Nat.le_refl _) _).alloc (by simp) _)

def splitB (a : Ar) : Bool := decide (0 ≤ a.1 ∧ a.1 ≤ 65536 ∧ 48 ≤ a.2 ∧ a.2 ≤ 65536)
def metaA (a : Ar) : Ar := if splitB a then (a.1, a.2 - a.2 / 2) else (0, 0)
def dataA (a : Ar) : Ar := if splitB a then (a.1 + (a.2 - a.2 / 2), a.2 / 2) else (0, 0)
set_option maxHeartbeats 1000000 in
theorem split_ok (a : Ar) (w : World) : Calls Try.prog 30 #[arV a] w fun e w' => e = .returned (.tuple #[arV (metaA a), arV (dataA a), .bool (splitB a)]) ∧ Below w.heap.size w w' := by
  obtain ⟨x, y⟩ := a
  unfold arV
  cases hb : splitB (x, y) with
  | false =>
    have HB := Lib.hid hb
    have hf : x < 0 ∨ 65536 < x ∨ y < 48 ∨ 65536 < y := by simp [splitB] at hb; omega
    clear hb
    rcases (by omega : x < 0 ∨ (¬ x < 0 ∧ 65536 < x) ∨ (¬ x < 0 ∧ ¬ 65536 < x ∧ y < 48) ∨ (¬ x < 0 ∧ ¬ 65536 < x ∧ ¬ y < 48 ∧ 65536 < y)) with h1 | ⟨h1, h2⟩ | ⟨h1, h2, h3⟩ | ⟨h1, h2, h3, h4⟩
    all_goals
      clear hf
      go_enter Try.func30, Try.ntmps30
      go_wp2
      go_region
      all_goals
        go_wp2
        refine bodyPost_ret (v := .tuple #[arV (metaA (x, y)), arV (dataA (x, y)), .bool false]) ?_ rfl ?_
        · simp [results, Try.results30, go_sem, arV, metaA, dataA, HB.out]
        · refine ⟨rfl, ?_⟩
          repeat (first | exact Below.refl _ _ | assumption | refine Below.drew ?_ | refine Below.alloc ?_ (by first | exact Nat.le_refl _ | (simp; done) | (simp; omega)) _ | refine Below.setCell ?_ (by first | exact Nat.le_refl _ | (simp; done) | (simp; omega)) _)
  | true =>
    have HB := Lib.hid hb
    have hf : 0 ≤ x ∧ x ≤ 65536 ∧ 48 ≤ y ∧ y ≤ 65536 := by simpa [splitB] using hb
    clear hb
    go_enter Try.func30, Try.ntmps30
    go_wp2
    go_region
    all_goals
      go_wp2
      refine bodyPost_ret (v := .tuple #[arV (metaA (x, y)), arV (dataA (x, y)), .bool true]) ?_ rfl ?_
      · simp [results, Try.results30, go_sem, arV, metaA, dataA, HB.out]
      · refine ⟨rfl, ?_⟩
        repeat (first | exact Below.refl _ _ | assumption | refine Below.drew ?_ | refine Below.alloc ?_ (by first | exact Nat.le_refl _ | (simp; done) | (simp; omega)) _ | refine Below.setCell ?_ (by first | exact Nat.le_refl _ | (simp; done) | (simp; omega)) _)

set_option maxHeartbeats 400000 in
theorem rsplit_ok (a : Ar) (w : World) : Calls Try.prog 31 #[arV a] w fun e w' => e = .returned (.bool (splitB a)) ∧ Below w.heap.size w w' := by
  obtain ⟨x, y⟩ := a
  unfold arV
  go_enter Try.func31, Try.ntmps31
  go_wp2
  all_goals go_ret
  all_goals exact ⟨ret_bool (by simp [splitB, *]; try omega), (Below.refl _ _).alloc (Nat.le_refl _) _⟩

set_option maxHeartbeats 400000 in
theorem rdata_ok (a : Ar) (h : splitB a = true) (w : World) : Calls Try.prog 32 #[arV a] w fun e w' => e = .returned (arV (dataA a)) ∧ Below w.heap.size w w' := by
  obtain ⟨x, y⟩ := a
  have hb := h
  simp only [splitB, decide_eq_true_eq] at h
  have HM := Lib.hid hb
  clear hb
  unfold arV
  go_enter Try.func32, Try.ntmps32
  go_wp2
  exact bodyPost_ret (v := arV (dataA (x, y))) (by simp [results, Try.results32, go_sem, arV, dataA, HM.out]; try omega) rfl ⟨rfl, (((Below.refl _ _).alloc (Nat.le_refl _) _).alloc (by simp) _)⟩

def countsB (a : Ar) : Bool := decide (0 ≤ a.1 ∧ a.1 ≤ 1048576 ∧ 1 ≤ a.2 ∧ a.2 ≤ 1048576)
set_option maxHeartbeats 400000 in
theorem counts_ok (a : Ar) (w : World) : Calls Try.prog 45 #[arV a] w fun e w' => e = .returned (.bool (countsB a)) ∧ Below w.heap.size w w' := by
  obtain ⟨x, y⟩ := a
  unfold arV
  go_enter Try.func45, Try.ntmps45
  go_wp2
  all_goals go_ret
  all_goals exact ⟨ret_bool (by simp [countsB, *]; try omega), (Below.refl _ _).alloc (Nat.le_refl _) _⟩
end Go.Proofs.Ytifocofpplhacaa.P

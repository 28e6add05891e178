/-
  plan.Join's callees: the closures, Clone, IndexFunc. No condition beyond what each theorem names.
-/
import Derived.Test.YtifocofpplhacaaPlanB
import Derived.Test.YtifocofpplhacaaShelf
import Derived.ProofKit
namespace Go.Proofs.Ytifocofpplhacaa.P
open Go Go.RowKit K

set_option maxHeartbeats 1000000 in
theorem len64_ok (n : Nat) (h : n ≤ 12) (w : World) : Calls Try.prog 66 #[.int .u64 n] w fun e w' => (∃ l : Int, e = .returned (.int .i64 l)) ∧ w' = w := by
  obtain rfl | rfl | rfl | rfl | rfl | rfl | rfl | rfl | rfl | rfl | rfl | rfl | rfl : n = 0 ∨ n = 1 ∨ n = 2 ∨ n = 3 ∨ n = 4 ∨ n = 5 ∨ n = 6 ∨ n = 7 ∨ n = 8 ∨ n = 9 ∨ n = 10 ∨ n = 11 ∨ n = 12 := by omega
  all_goals
    go_enter Try.func66, Try.ntmps66
    go_wp2
    go_ret
    exact ⟨⟨_, rfl⟩, rfl⟩
set_option maxHeartbeats 1000000 in
theorem len_ok (n : Nat) (h : n ≤ 12) (w : World) : Calls Try.prog 55 #[.int .u64 n] w fun e w' => (∃ l : Int, e = .returned (.int .i64 l)) ∧ w' = w := by
  have H := Lib.hid (len64_ok n h w)
  go_enter Try.func55, Try.ntmps55
  go_wp2_with (go_at_call 66; refine H.out.mono ?_; rintro e w' ⟨⟨l, rfl⟩, rfl⟩)
  go_ret
  exact ⟨⟨_, rfl⟩, rfl⟩

set_option maxHeartbeats 1000000 in
theorem nan_ok (x : Int) (w : World) : Calls Try.prog 56 #[.int .i64 x] w fun e w' => e = .returned (.bool false) ∧ w = w' := by
  go_enter Try.func56, Try.ntmps56
  go_wp2
  go_ret
  exact ⟨ret_bool (by simp), rfl⟩

def cmpZ (x y : Int) : Int := if x < y then -1 else if y < x then 1 else 0
set_option maxHeartbeats 1000000 in
theorem cmp_ok (x y : Int) (w : World) : Calls Try.prog 51 #[.int .i64 x, .int .i64 y] w fun e w' => e = .returned (.int .i64 (cmpZ x y)) ∧ w = w' := by
  by_cases h1 : x < y
  · have HC := Lib.hid (show cmpZ x y = -1 by simp [cmpZ, h1])
    go_enter Try.func51, Try.ntmps51
    go_wp2_with (go_at_call 56; (with_reducible refine (nan_ok _ _).mono ?_); rintro e w' ⟨rfl, rfl⟩)
    go_ret
    exact ⟨ret_int HC.out.symm, rfl⟩
  · by_cases h2 : y < x
    · have HC := Lib.hid (show cmpZ x y = 1 by simp [cmpZ, h1, h2])
      go_enter Try.func51, Try.ntmps51
      go_wp2_with (go_at_call 56; (with_reducible refine (nan_ok _ _).mono ?_); rintro e w' ⟨rfl, rfl⟩)
      go_ret
      exact ⟨ret_int HC.out.symm, rfl⟩
    · have HC := Lib.hid (show cmpZ x y = 0 by simp [cmpZ, h1, h2])
      go_enter Try.func51, Try.ntmps51
      go_wp2_with (go_at_call 56; (with_reducible refine (nan_ok _ _).mono ?_); rintro e w' ⟨rfl, rfl⟩)
      go_ret
      exact ⟨ret_int HC.out.symm, rfl⟩

set_option maxHeartbeats 1000000 in
theorem join1_ok (a : Ar) (w : World) : Calls Try.prog 48 #[arV a] w fun e w' => e = .returned (.bool (!countsB a)) ∧ Below w.heap.size w w' := by
  obtain ⟨x, y⟩ := a
  have HC := fun u => Lib.hid (counts_ok (x, y) u)
  unfold arV at *
  go_enter Try.func48, Try.ntmps48
  go_wp2_with fail
  refine (HC _).out.mono ?_
  rintro e w1 ⟨rfl, hb⟩
  have hf := ((Below.refl _ w).alloc (Nat.le_refl _) (.cells #[.int .i64 x, .int .i64 y] 46)).trans (hb.mono (by simp))
  clear hb
  go_wp2
  go_ret
  exact ⟨rfl, hf⟩

def encA (a : Ar) : List Value := [.int .i64 a.1, .int .i64 a.2]
open Go.Shelf Go.Lib Go.Sort in
set_option maxHeartbeats 1000000 in
theorem join2_ok (a b : Ar) (w : World) : Calls Try.prog 50 #[.agg (encA a).toArray, .agg (encA b).toArray] w fun e w' => e = .returned (.int .i64 (cmpZ a.1 b.1)) ∧ ∃ q os', w' = grow (w.drewN q) os' := by
  obtain ⟨x, y⟩ := a
  obtain ⟨u, v⟩ := b
  have HC := fun W => Lib.hid (cmp_ok x u W)
  generalize cmpZ x u = r at HC ⊢
  unfold encA
  simp only [List.toArray]
  go_enter Try.func50, Try.ntmps50
  go_wp2_with fail
  refine (HC _).out.mono ?_
  rintro e w' ⟨rfl, rfl⟩
  go_wp2
  go_ret
  exact ⟨rfl, 0, _, by rw [alloc_eq_grow, alloc_eq_grow, grow_grow]; rfl⟩
end Go.Proofs.Ytifocofpplhacaa.P

/-
  math/bits.RotateLeft32. No condition beyond what each theorem names.
-/
import Derived.Test.YtbgfdbidbjlaaaaTksSbox
namespace Go.Proofs.Ytbgfdbidbjlaaaa.Fd
open Go Go.RowKit K

def rot32 (x k : Nat) : Nat := (x * 2 ^ k % 4294967296) ||| (x / 2 ^ (32 - k))
theorem rot32_lt {x k : Nat} (hx : x < 4294967296) : rot32 x k < 4294967296 :=
  Nat.or_lt_two_pow (n := 32) (by omega) (Nat.lt_of_le_of_lt (Nat.div_le_self _ _) hx)

set_option maxHeartbeats 400000 in
theorem rot32_ok (x k : Nat) (z : Int) (hx : x < 4294967296) (hk : k < 32) (hz : z = k ∨ z = (k : Int) - 32 ∧ 0 < k) (w : World) : Calls Try.prog 61 #[.int .u32 x, .int .i64 z] w fun e w' => e = .returned (.int .u32 (rot32 x k)) ∧ w = w' := by
  have h1 : bits .and .u64 (IntKind.u64.wrap z) 31 = (k : Int) := by
    rcases hz with rfl | ⟨rfl, hk0⟩
    · have h := u64_and_nat k 31 (by omega) (by omega)
      rw [nat_mask5, Nat.mod_eq_of_lt hk] at h
      rw [IntKind.wrap_u64, Int.emod_eq_of_lt (by omega) (by omega)]
      exact h
    · have h := u64_and_nat (18446744073709551616 - 32 + k) 31 (by omega) (by omega)
      rw [nat_mask5, show (18446744073709551616 - 32 + k) % 32 = k by omega] at h
      have e : IntKind.u64.wrap ((k : Int) - 32) = ((18446744073709551616 - 32 + k : Nat) : Int) := by rw [IntKind.wrap_u64]; omega
      rw [e]
      exact h
  have h2 := u32_or_nat (x * 2 ^ k % 4294967296) (x / 2 ^ (32 - k)) (by omega) (Nat.lt_of_le_of_lt (Nat.div_le_self _ _) hx)
  replace h2 := Lib.hid h2
  have key : ∀ Z : Int, Z = z → Calls Try.prog 61 #[.int .u32 x, .int .i64 Z] w fun e w' => e = .returned (.int .u32 (rot32 x k)) ∧ w = w' := by
    intro Z hZ
    rw [← hZ] at h1
    rcases hz with hz | ⟨hz, hk0⟩
    · rw [hz] at hZ
      subst hZ
      have h1 : bits .and .u64 (k : Int) 31 = (k : Int) := by rw [IntKind.wrap_u64, Int.emod_eq_of_lt (by omega) (by omega)] at h1; exact h1
      go_enter Try.func61, Try.ntmps61
      go_wp2
      go_ret
      refine ⟨ret_int ?_, rfl⟩
      have h := h2.out
      simp only [Int.natCast_emod, Int.natCast_mul, Int.natCast_pow, Int.natCast_ediv, Int.cast_ofNat_Int] at h
      exact h
    · have hZ1 : Z = (k : Int) - 32 := by omega
      clear hZ hz
      have hZ2 : -32 < Z ∧ Z < 0 := by omega
      have e : IntKind.u64.wrap Z = Z % 18446744073709551616 := by rw [IntKind.wrap_u64]
      have h3 : bits .and .u64 (Z % 18446744073709551616) 31 = (k : Int) := by rw [← e]; exact h1
      have h4 : bits .and .u64 (Z + 18446744073709551616) 31 = (k : Int) := by rw [show Z + 18446744073709551616 = Z % 18446744073709551616 by omega]; exact h3
      clear e
      replace hZ1 := Lib.hid hZ1
      go_enter Try.func61, Try.ntmps61
      go_wp2
      go_ret
      refine ⟨ret_int ?_, rfl⟩
      have h := h2.out
      simp only [Int.natCast_emod, Int.natCast_mul, Int.natCast_pow, Int.natCast_ediv, Int.cast_ofNat_Int] at h
      exact h
  exact key z rfl

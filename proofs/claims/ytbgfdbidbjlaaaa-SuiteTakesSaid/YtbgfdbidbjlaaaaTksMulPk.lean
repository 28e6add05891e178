/-
  Texts of this claim, laid together by a program of mine. No condition beyond what each theorem names.
-/
import Derived.Test.YtbgfdbidbjlaaaaTksShelf
import Derived.Test.YtbgfdbidbjlaaaaTksSbox
/-
  math/bits: Mul64 (the shelf's contract, laid at this program), RotateLeft32. No condition beyond what each theorem names.
-/
namespace Go.Proofs
open Go.Shelf Go.RowKit
theorem Ytbgfdbidbjlaaaa.Fd.mul64_ok (x y : Nat) (hx : x < 18446744073709551616) (hy : y < 18446744073709551616) (w : World) :
    Calls Try.prog 77 #[.int .u64 x, .int .u64 y] w fun e w' => e = .returned (.tuple #[.int .u64 ((x * y / 18446744073709551616 : Nat) : Int), .int .u64 ((x * y % 18446744073709551616 : Nat) : Int)]) ∧ w' = w :=
  Any.bits_Mul64 Ytbgfdbidbjlaaaa.laysMul64 x y hx hy w
end Go.Proofs
/-
  sha: power, root, as plain functions on numbers. No condition beyond what each theorem names.
-/
namespace Go.Proofs.Ytbgfdbidbjlaaaa.Fd
open Go Go.RowKit K

/-- x to the n (2 or 3), in two halves -/
def pHi (x n : Nat) : Nat := if n = 3 then x * x / 18446744073709551616 * x + x * x % 18446744073709551616 * x / 18446744073709551616 else x * x / 18446744073709551616
def pLo (x n : Nat) : Nat := if n = 3 then x * x % 18446744073709551616 * x % 18446744073709551616 else x * x % 18446744073709551616

set_option maxHeartbeats 1000000 in
theorem power_ok (x n : Nat) (hx : x < 1099511627776) (hn : n = 2 ∨ n = 3) (w : World) :
    Calls Try.prog 73 #[.int .u64 x, .int .i64 n] w fun e w' => e = .returned (.tuple #[.int .u64 (pHi x n), .int .u64 (pLo x n)]) ∧ w = w' := by
  have hxx : x * x < 1208925819614629174706176 := Nat.mul_lt_mul'' hx hx
  have M1 := Lib.hid (mul64_ok x x (by omega) (by omega) w)
  obtain ⟨H, hH⟩ : ∃ H, H = x * x / 18446744073709551616 := ⟨_, rfl⟩
  obtain ⟨L, hL⟩ : ∃ L, L = x * x % 18446744073709551616 := ⟨_, rfl⟩
  have hHl : H < 65536 := by omega
  have hLl : L < 18446744073709551616 := by omega
  have M2 := Lib.hid (mul64_ok L x hLl (by omega) w)
  rw [← hH, ← hL] at M1
  obtain ⟨A, hA⟩ : ∃ A, A = L * x / 18446744073709551616 := ⟨_, rfl⟩
  have hLx : L * x < 18446744073709551616 * 1099511627776 := Nat.mul_lt_mul'' hLl hx
  have hAl : A < 1099511627776 := by omega
  have hHx : H * x < 65536 * 1099511627776 := Nat.mul_lt_mul'' hHl hx
  obtain ⟨C, hC⟩ : ∃ C, C = H * x := ⟨_, rfl⟩
  have hCi : (H : Int) * x = C := by rw [hC]; simp
  rw [← hC] at hHx
  rw [← hA] at M2
  obtain ⟨B, hB⟩ : ∃ B, B = L * x % 18446744073709551616 := ⟨_, rfl⟩
  rw [← hB] at M2
  have e1 : pHi x 3 = C + A := by rw [pHi, if_pos rfl, ← hH, ← hL, ← hA, ← hC]
  have e2 : pLo x 3 = B := by rw [pLo, if_pos rfl, ← hL, ← hB]
  have e3 : pHi x 2 = H := by rw [pHi, if_neg (by omega), ← hH]
  have e4 : pLo x 2 = L := by rw [pLo, if_neg (by omega), ← hL]
  replace e1 := Lib.hid e1
  replace e2 := Lib.hid e2
  replace e3 := Lib.hid e3
  replace e4 := Lib.hid e4
  clear hH hL hA hC hB hxx hLx
  rcases hn with rfl | rfl
  · rw [e3.out, e4.out]
    go_enter Try.func73, Try.ntmps73
    go_wp2_with (go_at_call 77; (with_reducible refine M1.out.mono ?_); rintro e w' ⟨rfl, rfl⟩)
    go_ret2
    exact ⟨rfl, rfl⟩
  · rw [e1.out, e2.out]
    go_enter Try.func73, Try.ntmps73
    go_wp2_with fail
    refine M1.out.mono ?_
    rintro e w' ⟨rfl, rfl⟩
    go_wp2_with fail
    refine M2.out.mono ?_
    rintro e w' ⟨rfl, rfl⟩
    go_wp2
    go_ret2
    exact ⟨by simp, rfl⟩
end Go.Proofs.Ytbgfdbidbjlaaaa.Fd
namespace Go.Proofs.Ytbgfdbidbjlaaaa.Fd
open Go Go.RowKit K

/-- may the bit be taken? -/
def okB (above x n : Nat) : Bool := decide (pHi x n < above) || (pHi x n == above && pLo x n == 0)
def rootF (above n : Nat) : Nat → Nat → Nat → Nat
  | 0, _, x => x
  | f + 1, b, x => rootF above n f (b / 2) (if okB above (x + b) n then x + b else x)
def aboveN (p n : Nat) : Nat := p * 2 ^ (32 * (n - 2))
def root (p n : Nat) : Nat := rootF (aboveN p n) n 37 68719476736 0 % 4294967296
theorem root_lt {p n : Nat} : root p n < 4294967296 := Nat.mod_lt _ (by omega)
theorem pHi_lt {x n : Nat} (hx : x < 1099511627776) : pHi x n < 18446744073709551616 := by
  have hxx : x * x < 1208925819614629174706176 := Nat.mul_lt_mul'' hx hx
  unfold pHi
  split
  · have h1 : x * x / 18446744073709551616 < 65536 := by omega
    have h2 : x * x % 18446744073709551616 < 18446744073709551616 := by omega
    generalize x * x / 18446744073709551616 = H at *
    generalize x * x % 18446744073709551616 = L at *
    have h3 : H * x < 65536 * 1099511627776 := Nat.mul_lt_mul'' h1 hx
    have h4 : L * x < 18446744073709551616 * 1099511627776 := Nat.mul_lt_mul'' h2 hx
    omega
  · omega
theorem pLo_lt {x n : Nat} : pLo x n < 18446744073709551616 := by
  unfold pLo
  split <;> omega

-- BY gen_root.py
set_option maxRecDepth 100000 in
set_option maxHeartbeats 8000000 in
theorem root2_ok (A : Nat) (hp : A < 1000) (w : World) :
    Calls Try.prog 64 #[.int .u64 A, .int .i64 2] w fun e w' => e = .returned (.int .u32 ((rootF A 2 37 68719476736 0 % 4294967296 : Nat) : Int)) ∧ w = w' := by
  go_enter Try.func64, Try.ntmps64
  go_wp2
  go_loop [6, 7] (fun x y => ∃ f B X : Nat, f ≤ 37 ∧ (f = 0 ∧ B = 0 ∨ 1 ≤ f ∧ B = 2 ^ (f - 1)) ∧ X + 2 * B ≤ 137438953472 ∧ x = .int .u64 X ∧ y = .int .u64 B ∧ rootF A 2 f B X = rootF A 2 37 68719476736 0)
    (fun _ y => (intOf y).toNat)
  case atStart => exact ⟨37, 68719476736, 0, by omega, .inr ⟨by omega, rfl⟩, by omega, rfl, rfl, rfl⟩
  case round =>
    obtain ⟨f, B, X, hf, hB, hX, rfl, rfl, hm⟩ := hrel
    replace hm := Lib.hid hm
    by_cases hB0 : B = 0
    · subst hB0
      have hfin : rootF A 2 37 68719476736 0 = X := by
        rw [← hm.out]
        rcases hB with ⟨rfl, _⟩ | ⟨h1, h2⟩
        · rfl
        · have := Nat.two_pow_pos (f - 1); omega
      replace hfin := Lib.hid hfin
      clear hB hm
      go_wp2
      go_ret
      refine ⟨ret_int ?_, rfl⟩
      rw [hfin.out]
    · obtain ⟨f', rfl, hBp⟩ : ∃ f', f = f' + 1 ∧ B = 2 ^ f' := by
        rcases hB with ⟨_, h⟩ | ⟨h1, h2⟩
        · omega
        · exact ⟨f - 1, by omega, h2⟩
      have hB2 : f' = 0 ∧ B / 2 = 0 ∨ 1 ≤ f' ∧ B / 2 = 2 ^ (f' - 1) := by
        cases f' with
        | zero => left; simp at hBp; omega
        | succ g => right; rw [Nat.pow_succ] at hBp; exact ⟨by omega, by simp; omega⟩
      clear hB
      replace hBp := Lib.hid hBp
      obtain ⟨Z, hZ⟩ : ∃ Z, Z = X + B := ⟨_, rfl⟩
      have hZi : (X : Int) + B = Z := by omega
      have step := hm.out
      rw [rootF, ← hZ] at step
      replace step := Lib.hid step
      have PW := Lib.hid (power_ok Z 2 (by omega) (by omega) w)
      obtain ⟨H, hH⟩ : ∃ H, H = pHi Z 2 := ⟨_, rfl⟩
      obtain ⟨L, hL⟩ : ∃ L, L = pLo Z 2 := ⟨_, rfl⟩
      rw [← hH, ← hL] at PW
      have hHl : H < 18446744073709551616 := hH ▸ pHi_lt (by omega)
      have hLl : L < 18446744073709551616 := hL ▸ pLo_lt
      replace hH := Lib.hid hH
      replace hL := Lib.hid hL
      replace hZ := Lib.hid hZ
      replace hB2 := Lib.hid hB2
      go_wp2_with fail
      refine PW.out.mono ?_
      rintro e w' ⟨rfl, rfl⟩
      clear PW
      rcases (by omega : H < A ∨ A < H ∨ H = A ∧ L = 0 ∨ H = A ∧ 0 < L) with hc | hc | ⟨hc, hc2⟩ | ⟨hc, hc2⟩
      · go_wp2
        have hZ := hZ.out
        go_round
        case rel =>
          refine ⟨f', B / 2, Z, by omega, hB2.out, by omega, by simp, by simp, ?_⟩
          have h := step.out
          rw [show okB A Z 2 = true from by simp [okB, ← hH.out, ← hL.out]; try omega] at h
          simpa using h
        case measure => simp [intOf]; omega
      · go_wp2
        have hZ := hZ.out
        go_round
        case rel =>
          refine ⟨f', B / 2, X, by omega, hB2.out, by omega, by simp, by simp, ?_⟩
          have h := step.out
          rw [show okB A Z 2 = false from by simp [okB, ← hH.out, ← hL.out]; try omega] at h
          simpa using h
        case measure => simp [intOf]; omega
      · replace hc := hc.symm; subst hc; subst hc2; go_wp2
        have hZ := hZ.out
        go_round
        case rel =>
          refine ⟨f', B / 2, Z, by omega, hB2.out, by omega, by simp, by simp, ?_⟩
          have h := step.out
          rw [show okB A Z 2 = true from by simp [okB, ← hH.out, ← hL.out]; try omega] at h
          simpa using h
        case measure => simp [intOf]; omega
      · replace hc := hc.symm; subst hc; go_wp2
        have hZ := hZ.out
        go_round
        case rel =>
          refine ⟨f', B / 2, X, by omega, hB2.out, by omega, by simp, by simp, ?_⟩
          have h := step.out
          rw [show okB A Z 2 = false from by simp [okB, ← hH.out, ← hL.out]; try omega] at h
          simpa using h
        case measure => simp [intOf]; omega

set_option maxRecDepth 100000 in
set_option maxHeartbeats 8000000 in
theorem root3_ok (p A : Nat) (hp : p < 1000) (hA : A = p * 4294967296) (w : World) :
    Calls Try.prog 64 #[.int .u64 p, .int .i64 3] w fun e w' => e = .returned (.int .u32 ((rootF A 3 37 68719476736 0 % 4294967296 : Nat) : Int)) ∧ w = w' := by
  have hAi : (p : Int) * 4294967296 = A := by omega
  have hAl : A < 4294967296000 := by omega
  replace hA := Lib.hid hA
  go_enter Try.func64, Try.ntmps64
  go_wp2
  go_loop [6, 7] (fun x y => ∃ f B X : Nat, f ≤ 37 ∧ (f = 0 ∧ B = 0 ∨ 1 ≤ f ∧ B = 2 ^ (f - 1)) ∧ X + 2 * B ≤ 137438953472 ∧ x = .int .u64 X ∧ y = .int .u64 B ∧ rootF A 3 f B X = rootF A 3 37 68719476736 0)
    (fun _ y => (intOf y).toNat)
  case atStart => exact ⟨37, 68719476736, 0, by omega, .inr ⟨by omega, rfl⟩, by omega, rfl, rfl, rfl⟩
  case round =>
    obtain ⟨f, B, X, hf, hB, hX, rfl, rfl, hm⟩ := hrel
    replace hm := Lib.hid hm
    by_cases hB0 : B = 0
    · subst hB0
      have hfin : rootF A 3 37 68719476736 0 = X := by
        rw [← hm.out]
        rcases hB with ⟨rfl, _⟩ | ⟨h1, h2⟩
        · rfl
        · have := Nat.two_pow_pos (f - 1); omega
      replace hfin := Lib.hid hfin
      clear hB hm
      go_wp2
      go_ret
      refine ⟨ret_int ?_, rfl⟩
      rw [hfin.out]
    · obtain ⟨f', rfl, hBp⟩ : ∃ f', f = f' + 1 ∧ B = 2 ^ f' := by
        rcases hB with ⟨_, h⟩ | ⟨h1, h2⟩
        · omega
        · exact ⟨f - 1, by omega, h2⟩
      have hB2 : f' = 0 ∧ B / 2 = 0 ∨ 1 ≤ f' ∧ B / 2 = 2 ^ (f' - 1) := by
        cases f' with
        | zero => left; simp at hBp; omega
        | succ g => right; rw [Nat.pow_succ] at hBp; exact ⟨by omega, by simp; omega⟩
      clear hB
      replace hBp := Lib.hid hBp
      obtain ⟨Z, hZ⟩ : ∃ Z, Z = X + B := ⟨_, rfl⟩
      have hZi : (X : Int) + B = Z := by omega
      have step := hm.out
      rw [rootF, ← hZ] at step
      replace step := Lib.hid step
      have PW := Lib.hid (power_ok Z 3 (by omega) (by omega) w)
      obtain ⟨H, hH⟩ : ∃ H, H = pHi Z 3 := ⟨_, rfl⟩
      obtain ⟨L, hL⟩ : ∃ L, L = pLo Z 3 := ⟨_, rfl⟩
      rw [← hH, ← hL] at PW
      have hHl : H < 18446744073709551616 := hH ▸ pHi_lt (by omega)
      have hLl : L < 18446744073709551616 := hL ▸ pLo_lt
      replace hH := Lib.hid hH
      replace hL := Lib.hid hL
      replace hZ := Lib.hid hZ
      replace hB2 := Lib.hid hB2
      go_wp2_with fail
      refine PW.out.mono ?_
      rintro e w' ⟨rfl, rfl⟩
      clear PW
      rcases (by omega : H < A ∨ A < H ∨ H = A ∧ L = 0 ∨ H = A ∧ 0 < L) with hc | hc | ⟨hc, hc2⟩ | ⟨hc, hc2⟩
      · go_wp2
        have hZ := hZ.out
        go_round
        case rel =>
          refine ⟨f', B / 2, Z, by omega, hB2.out, by omega, by simp, by simp, ?_⟩
          have h := step.out
          rw [show okB A Z 3 = true from by simp [okB, ← hH.out, ← hL.out]; try omega] at h
          simpa using h
        case measure => simp [intOf]; omega
      · go_wp2
        have hZ := hZ.out
        go_round
        case rel =>
          refine ⟨f', B / 2, X, by omega, hB2.out, by omega, by simp, by simp, ?_⟩
          have h := step.out
          rw [show okB A Z 3 = false from by simp [okB, ← hH.out, ← hL.out]; try omega] at h
          simpa using h
        case measure => simp [intOf]; omega
      · replace hc := hc.symm; subst hc; subst hc2; go_wp2
        have hZ := hZ.out
        go_round
        case rel =>
          refine ⟨f', B / 2, Z, by omega, hB2.out, by omega, by simp, by simp, ?_⟩
          have h := step.out
          rw [show okB A Z 3 = true from by simp [okB, ← hH.out, ← hL.out]; try omega] at h
          simpa using h
        case measure => simp [intOf]; omega
      · replace hc := hc.symm; subst hc; go_wp2
        have hZ := hZ.out
        go_round
        case rel =>
          refine ⟨f', B / 2, X, by omega, hB2.out, by omega, by simp, by simp, ?_⟩
          have h := step.out
          rw [show okB A Z 3 = false from by simp [okB, ← hH.out, ← hL.out]; try omega] at h
          simpa using h
        case measure => simp [intOf]; omega
end Go.Proofs.Ytbgfdbidbjlaaaa.Fd

/-
  field: bytes that multiply, as plain functions on numbers. No condition beyond what each theorem names.
-/
import Derived.Test.YtbgfdbidbjlaaaaRows
import Derived.Laws.BitsAllLaws
import Derived.Test.YtbgfdbidbjlaaaaBckBase
namespace Go.Proofs.Ytbgfdbidbjlaaaa.Fd
open Go Go.RowKit K

theorem xor8 {a b : Nat} (ha : a < 256) (hb : b < 256) : a ^^^ b < 256 := Nat.xor_lt_two_pow (n := 8) ha hb

def twice (a : Nat) : Nat := if a &&& 128 = 0 then a * 2 % 256 else (a * 2 % 256) ^^^ 27
theorem twice_lt {a : Nat} : twice a < 256 := by
  unfold twice
  split
  · omega
  · exact xor8 (by omega) (by omega)

set_option maxHeartbeats 400000 in
theorem twice_ok (a : Nat) (ha : a < 256) (w : World) : Calls Try.prog 69 #[.int .u8 a] w fun e w' => e = .returned (.int .u8 (twice a)) ∧ w = w' := by
  have hb := Lib.hid (u8_and_nat a 128 ha (by omega))
  have hx := Lib.hid (u8_xor_nat (a * 2 % 256) 27 (by omega) (by omega))
  go_enter Try.func69, Try.ntmps69
  go_wp2
  · rename_i h
    go_ret
    refine ⟨ret_int ?_, rfl⟩
    have hb := hb.out
    have hx := hx.out
    simp only [Int.natCast_emod, Int.natCast_mul, Int.cast_ofNat_Int] at hb hx
    rw [hb] at h
    rw [hx, twice, if_neg (by intro h0; rw [h0] at h; simp at h)]
  · rename_i h
    go_ret
    refine ⟨ret_int ?_, rfl⟩
    have hb := hb.out
    simp only [Int.cast_ofNat_Int] at hb
    rw [hb] at h
    rw [twice, if_pos (by simp at h; omega)]
    omega

/-- the product, in at most n steps -/
def mulF : Nat → Nat → Nat → Nat → Nat
  | 0, _, _, o => o
  | n + 1, a, b, o => if b = 0 then o else mulF n (twice a) (b / 2) (if b % 2 = 0 then o else o ^^^ a)
def mul (a b : Nat) : Nat := mulF 8 a b 0
theorem mulF_zero {n a o : Nat} : mulF n a 0 o = o := by cases n <;> simp [mulF]
theorem mulF_lt : ∀ {n a b o : Nat}, a < 256 → o < 256 → mulF n a b o < 256 := by
  intro n
  induction n with
  | zero => intro a b o _ h; exact h
  | succ n ih =>
    intro a b o ha ho
    unfold mulF
    split
    · exact ho
    · refine ih twice_lt ?_
      split
      · exact ho
      · exact xor8 ho ha
theorem mul_lt {a b : Nat} (ha : a < 256) : mul a b < 256 := mulF_lt ha (by omega)

set_option maxHeartbeats 1000000 in
theorem mul_ok (a b : Nat) (ha : a < 256) (hb : b < 256) (w : World) : Calls Try.prog 70 #[.int .u8 a, .int .u8 b] w fun e w' => e = .returned (.int .u8 (mul a b)) ∧ w = w' := by
  go_enter Try.func70, Try.ntmps70
  go_wp2
  go_loop [0, 1, 4] (fun x y z => ∃ n A B O : Nat, n ≤ 8 ∧ A < 256 ∧ B < 2 ^ n ∧ B < 256 ∧ O < 256 ∧ x = .int .u8 A ∧ y = .int .u8 B ∧ z = .int .u8 O ∧ mulF n A B O = mul a b)
    (fun _ y _ => (intOf y).toNat)
  case atStart => exact ⟨8, a, b, 0, by omega, ha, hb, hb, by omega, rfl, rfl, rfl, rfl⟩
  case round =>
    obtain ⟨n, A, B, O, hn, hA, hBn, hB, hO, rfl, rfl, rfl, hm⟩ := hrel
    replace hm := Lib.hid hm
    have h1 : bits .and .u8 (B : Int) 1 = ((B % 2 : Nat) : Int) := by have h := u8_and_nat B 1 hB (by omega); rw [nat_mask1] at h; exact h
    have hx := u8_xor_nat O A hO hA
    have hxl := xor8 hO hA
    have step : B ≠ 0 → ∃ m, n = m + 1 ∧ B / 2 < 2 ^ m ∧ mulF m (twice A) (B / 2) (if B % 2 = 0 then O else O ^^^ A) = mul a b := by
      intro hB0
      cases n with
      | zero => omega
      | succ m =>
        refine ⟨m, rfl, by rw [Nat.pow_succ] at hBn; omega, ?_⟩
        have h := hm.out
        rw [mulF, if_neg hB0] at h
        exact h
    replace step := Lib.hid step
    go_wp2_with (go_at_call 69; (with_reducible refine (twice_ok _ (by assumption) _).mono ?_); rintro e w' ⟨rfl, rfl⟩)
    · rename_i h0 h2 _
      have hB0 : B ≠ 0 := by rintro rfl; simp at h0
      have hB2 : B % 2 ≠ 0 := by simp at h2; omega
      obtain ⟨m, rfl, hl, hf⟩ := step.out hB0
      rw [if_neg hB2] at hf
      go_round
      case rel => exact ⟨m, twice A, B / 2, O ^^^ A, by omega, twice_lt, hl, by omega, hxl, rfl, by simp, rfl, hf⟩
      case measure => simp [intOf]; omega
    · rename_i h0 h2 _
      have hB0 : B ≠ 0 := by rintro rfl; simp at h0
      have hB2 : B % 2 = 0 := by simp at h2; omega
      obtain ⟨m, rfl, hl, hf⟩ := step.out hB0
      rw [if_pos hB2] at hf
      go_round
      case rel => exact ⟨m, twice A, B / 2, O, by omega, twice_lt, hl, by omega, hO, rfl, by simp, rfl, hf⟩
      case measure => simp [intOf]; omega
    · have h0 : ((B : Int) != 0) = false := by assumption
      have hB0 : B = 0 := by simp at h0; omega
      subst hB0
      go_ret
      refine ⟨ret_int ?_, rfl⟩
      rw [← hm.out, mulF_zero]

/-- the power: squares, in at most n steps -/
def powF : Nat → Nat → Nat → Nat → Nat
  | 0, _, _, o => o
  | n + 1, a, k, o => if k = 0 then o else powF n (mul a a) (k / 2) (if k % 2 = 0 then o else mul o a)
def exq (k : Int) : Nat := ((k.tmod 255 + 255).tmod 255).toNat
def pow (a : Nat) (k : Int) : Nat := if a = 0 ∧ k ≠ 0 then 0 else powF 8 a (exq k) 1
theorem powF_zero {n a o : Nat} : powF n a 0 o = o := by cases n <;> simp [powF]
theorem powF_lt : ∀ {n a k o : Nat}, a < 256 → o < 256 → powF n a k o < 256 := by
  intro n
  induction n with
  | zero => intro a k o _ h; exact h
  | succ n ih =>
    intro a k o ha ho
    unfold powF
    split
    · exact ho
    · refine ih (mul_lt ha) ?_
      split
      · exact ho
      · exact mul_lt ho
theorem pow_lt {a : Nat} {k : Int} (ha : a < 256) : pow a k < 256 := by
  unfold pow
  split
  · omega
  · exact powF_lt ha (by omega)
theorem exq_lt {k : Int} : exq k < 255 := by
  unfold exq
  have := Int.tmod_lt_of_pos (k.tmod 255 + 255) (by omega : (0 : Int) < 255)
  omega
theorem exq_eq {k : Int} : (k.tmod 255 + 255).tmod 255 = (exq k : Int) := by
  unfold exq
  have h1 := Int.lt_tmod_of_pos k (by omega : (0 : Int) < 255)
  have := Int.tmod_nonneg (255 : Int) (a := k.tmod 255 + 255) (by omega)
  omega

-- BY gen_field.py

set_option maxRecDepth 100000 in
set_option maxHeartbeats 2000000 in
theorem power_nn (a : Nat) (k : Int) (hk0 : 0 ≤ k) (hk : k < 255) (ha : a < 256) (hz : a ≠ 0) (w : World) : Calls Try.prog 72 #[.int .u8 a, .int .i64 k] w fun e w' => e = .returned (.int .u8 (pow a k)) ∧ w = w' := by
  have hp : pow a k = powF 8 a (exq k) 1 := by rw [pow, if_neg (by omega)]
  have hql := @exq_lt k
  have hq : ((exq k : Nat) : Int) = k := by rw [← exq_eq, Int.tmod_eq_emod_of_nonneg hk0, Int.tmod_eq_emod_of_nonneg (by omega)]; omega
  obtain ⟨q, rfl⟩ : ∃ q : Nat, k = q := ⟨k.toNat, by omega⟩
  have hq2 : exq (q : Int) = q := by omega
  rw [hq2] at hp
  clear hq hq2 hql
  replace hp := Lib.hid hp
  go_enter Try.func72, Try.ntmps72
  go_wp2
  have e1 : (q : Int) % 255 = q := by omega
  have e2 : ((q : Int) + 255) % 255 = q := by omega
  simp only [e1, e2]
  clear e1 e2
  go_loop [0, 1, 5] (fun x y z => ∃ n A B O : Nat, n ≤ 8 ∧ A < 256 ∧ B < 2 ^ n ∧ B < 256 ∧ O < 256 ∧ x = .int .u8 A ∧ y = .int .i64 B ∧ z = .int .u8 O ∧ powF n A B O = pow a (q : Int))
    (fun _ y _ => (intOf y).toNat)
  case atStart => exact ⟨8, a, q, 1, by omega, ha, by omega, by omega, by omega, by simp [*], by simp [*]; try omega, rfl, hp.out.symm⟩
  case round =>
    obtain ⟨n, A, B, O, hn, hA, hBn, hB, hO, rfl, rfl, rfl, hm⟩ := hrel
    replace hm := Lib.hid hm
    have h1 : bits .and .i64 (B : Int) 1 = ((B % 2 : Nat) : Int) := by
      have h := bits_mask .i64 63 (by decide) (fun n h0 h1 => by rw [IntKind.wrap_i64]; omega) 1 (by decide) (B : Int) (by omega) (by omega)
      simpa using h
    have hoa := @mul_lt O A hO
    have haa := @mul_lt A A hA
    have step : B ≠ 0 → ∃ m, n = m + 1 ∧ B / 2 < 2 ^ m ∧ powF m (mul A A) (B / 2) (if B % 2 = 0 then O else mul O A) = pow a (q : Int) := by
      intro hB0
      cases n with
      | zero => omega
      | succ m =>
        refine ⟨m, rfl, by rw [Nat.pow_succ] at hBn; omega, ?_⟩
        have h := hm.out
        rw [powF, if_neg hB0] at h
        exact h
    replace step := Lib.hid step
    go_wp2_with (go_at_call 70; (with_reducible refine (mul_ok _ _ (by assumption) (by assumption) _).mono ?_); rintro e w' ⟨rfl, rfl⟩)
    · have h0 : 0 < (B : Int) := by omega
      have h2 : ((B : Int) % 2 != 0) = true := by assumption
      have hB0 : B ≠ 0 := by omega
      have hB2 : B % 2 ≠ 0 := by simp at h2; omega
      obtain ⟨m, rfl, hl, hf⟩ := step.out hB0
      rw [if_neg hB2] at hf
      go_round
      case rel => exact ⟨m, mul A A, B / 2, mul O A, by omega, haa, hl, by omega, hoa, rfl, by simp, rfl, hf⟩
      case measure => simp [intOf]; omega
    · have h0 : 0 < (B : Int) := by omega
      have h2 : ((B : Int) % 2 != 0) = false := by assumption
      have hB0 : B ≠ 0 := by omega
      have hB2 : B % 2 = 0 := by simp at h2; omega
      obtain ⟨m, rfl, hl, hf⟩ := step.out hB0
      rw [if_pos hB2] at hf
      go_round
      case rel => exact ⟨m, mul A A, B / 2, O, by omega, haa, hl, by omega, hO, rfl, by simp, rfl, hf⟩
      case measure => simp [intOf]; omega
    · have hB0 : B = 0 := by omega
      subst hB0
      go_ret
      refine ⟨ret_int ?_, rfl⟩
      rw [← hm.out, powF_zero]

set_option maxRecDepth 100000 in
set_option maxHeartbeats 2000000 in
theorem power_m1 (a : Nat) (k : Int) (hk : k = -1) (ha : a < 256) (hz : a ≠ 0) (w : World) : Calls Try.prog 72 #[.int .u8 a, .int .i64 k] w fun e w' => e = .returned (.int .u8 (pow a k)) ∧ w = w' := by
  have hp : pow a k = powF 8 a (exq k) 1 := by rw [pow, if_neg (by omega)]
  have hql := @exq_lt k
  obtain rfl := hk
  have hq2 : exq (-1) = 254 := by decide
  rw [hq2] at hp
  clear hq2 hql
  replace hp := Lib.hid hp
  go_enter Try.func72, Try.ntmps72
  go_wp2
  go_loop [0, 1, 5] (fun x y z => ∃ n A B O : Nat, n ≤ 8 ∧ A < 256 ∧ B < 2 ^ n ∧ B < 256 ∧ O < 256 ∧ x = .int .u8 A ∧ y = .int .i64 B ∧ z = .int .u8 O ∧ powF n A B O = pow a (-1))
    (fun _ y _ => (intOf y).toNat)
  case atStart => exact ⟨8, a, 254, 1, by omega, ha, by omega, by omega, by omega, rfl, rfl, rfl, hp.out.symm⟩
  case round =>
    obtain ⟨n, A, B, O, hn, hA, hBn, hB, hO, rfl, rfl, rfl, hm⟩ := hrel
    replace hm := Lib.hid hm
    have h1 : bits .and .i64 (B : Int) 1 = ((B % 2 : Nat) : Int) := by
      have h := bits_mask .i64 63 (by decide) (fun n h0 h1 => by rw [IntKind.wrap_i64]; omega) 1 (by decide) (B : Int) (by omega) (by omega)
      simpa using h
    have hoa := @mul_lt O A hO
    have haa := @mul_lt A A hA
    have step : B ≠ 0 → ∃ m, n = m + 1 ∧ B / 2 < 2 ^ m ∧ powF m (mul A A) (B / 2) (if B % 2 = 0 then O else mul O A) = pow a (-1) := by
      intro hB0
      cases n with
      | zero => omega
      | succ m =>
        refine ⟨m, rfl, by rw [Nat.pow_succ] at hBn; omega, ?_⟩
        have h := hm.out
        rw [powF, if_neg hB0] at h
        exact h
    replace step := Lib.hid step
    go_wp2_with (go_at_call 70; (with_reducible refine (mul_ok _ _ (by assumption) (by assumption) _).mono ?_); rintro e w' ⟨rfl, rfl⟩)
    · have h0 : 0 < (B : Int) := by omega
      have h2 : ((B : Int) % 2 != 0) = true := by assumption
      have hB0 : B ≠ 0 := by omega
      have hB2 : B % 2 ≠ 0 := by simp at h2; omega
      obtain ⟨m, rfl, hl, hf⟩ := step.out hB0
      rw [if_neg hB2] at hf
      go_round
      case rel => exact ⟨m, mul A A, B / 2, mul O A, by omega, haa, hl, by omega, hoa, rfl, by simp, rfl, hf⟩
      case measure => simp [intOf]; omega
    · have h0 : 0 < (B : Int) := by omega
      have h2 : ((B : Int) % 2 != 0) = false := by assumption
      have hB0 : B ≠ 0 := by omega
      have hB2 : B % 2 = 0 := by simp at h2; omega
      obtain ⟨m, rfl, hl, hf⟩ := step.out hB0
      rw [if_pos hB2] at hf
      go_round
      case rel => exact ⟨m, mul A A, B / 2, O, by omega, haa, hl, by omega, hO, rfl, by simp, rfl, hf⟩
      case measure => simp [intOf]; omega
    · have hB0 : B = 0 := by omega
      subst hB0
      go_ret
      refine ⟨ret_int ?_, rfl⟩
      rw [← hm.out, powF_zero]

theorem power_z (k : Int) (hk : k ≠ 0) (w : World) : Calls Try.prog 72 #[.int .u8 0, .int .i64 k] w fun e w' => e = .returned (.int .u8 (pow 0 k)) ∧ w = w' := by
  go_enter Try.func72, Try.ntmps72
  go_wp2
  go_ret
  exact ⟨ret_int (by simp [pow, hk]), rfl⟩

def inv (a : Nat) : Nat := pow a (-1)
theorem inv_lt {a : Nat} (ha : a < 256) : inv a < 256 := pow_lt ha
set_option maxHeartbeats 400000 in
theorem inv_ok (a : Nat) (ha : a < 256) (w : World) : Calls Try.prog 76 #[.int .u8 a] w fun e w' => e = .returned (.int .u8 (inv a)) ∧ w = w' := by
  by_cases hz : a = 0
  · subst hz
    go_enter Try.func76, Try.ntmps76
    go_wp2_with (go_at_call 72; (with_reducible refine (power_z _ (by omega) _).mono ?_); rintro e w' ⟨rfl, rfl⟩)
    go_ret
    exact ⟨rfl, rfl⟩
  · go_enter Try.func76, Try.ntmps76
    go_wp2_with (go_at_call 72; (with_reducible refine (power_m1 _ _ rfl ha hz _).mono ?_); rintro e w' ⟨rfl, rfl⟩)
    go_ret
    exact ⟨rfl, rfl⟩

/-- the sum of bytes -/
def sum (l : List UInt8) : Nat := l.foldl (fun o c => o ^^^ c.toNat) 0
theorem foldl_lt (l : List UInt8) : ∀ o, o < 256 → l.foldl (fun o c => o ^^^ c.toNat) o < 256 := by
  induction l with
  | nil => intro o h; exact h
  | cons c l ih => intro o h; exact ih _ (xor8 h c.toNat_lt)
theorem sum_lt {l : List UInt8} : sum l < 256 := foldl_lt l 0 (by omega)

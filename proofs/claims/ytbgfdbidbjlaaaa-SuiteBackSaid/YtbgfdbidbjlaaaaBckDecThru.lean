/-
  xts: Decrypt after Encrypt. Plain lists; no program. No condition beyond what each theorem names.
-/
import Derived.Test.YtbgfdbidbjlaaaaBckDecLaw
import Derived.Test.YtbgfdbidbjlaaaaBckXdec
namespace Go.Proofs.Ytbgfdbidbjlaaaa.Fd
open Go Go.RowKit K
set_option maxRecDepth 1000000
theorem zero_byte (x : UInt8) : byte ((0 : UInt8).toNat ^^^ x.toNat) = x := by
  refine UInt8.toNat_inj.1 ?_
  have h0 : (0 : UInt8).toNat ^^^ x.toNat = x.toNat := by simp
  rw [h0, byte_toNat (UInt8.toNat_lt x)]
theorem xor2_raw (x0 x1 x2 x3 x4 x5 x6 x7 x8 x9 x10 x11 x12 x13 x14 x15 y0 y1 y2 y3 y4 y5 y6 y7 y8 y9 y10 y11 y12 y13 y14 y15 : UInt8) : xor2 [x0, x1, x2, x3, x4, x5, x6, x7, x8, x9, x10, x11, x12, x13, x14, x15] [y0, y1, y2, y3, y4, y5, y6, y7, y8, y9, y10, y11, y12, y13, y14, y15] = [byte ((byte ((0 : UInt8).toNat ^^^ x0.toNat)).toNat ^^^ y0.toNat), byte ((byte ((0 : UInt8).toNat ^^^ x1.toNat)).toNat ^^^ y1.toNat), byte ((byte ((0 : UInt8).toNat ^^^ x2.toNat)).toNat ^^^ y2.toNat), byte ((byte ((0 : UInt8).toNat ^^^ x3.toNat)).toNat ^^^ y3.toNat), byte ((byte ((0 : UInt8).toNat ^^^ x4.toNat)).toNat ^^^ y4.toNat), byte ((byte ((0 : UInt8).toNat ^^^ x5.toNat)).toNat ^^^ y5.toNat), byte ((byte ((0 : UInt8).toNat ^^^ x6.toNat)).toNat ^^^ y6.toNat), byte ((byte ((0 : UInt8).toNat ^^^ x7.toNat)).toNat ^^^ y7.toNat), byte ((byte ((0 : UInt8).toNat ^^^ x8.toNat)).toNat ^^^ y8.toNat), byte ((byte ((0 : UInt8).toNat ^^^ x9.toNat)).toNat ^^^ y9.toNat), byte ((byte ((0 : UInt8).toNat ^^^ x10.toNat)).toNat ^^^ y10.toNat), byte ((byte ((0 : UInt8).toNat ^^^ x11.toNat)).toNat ^^^ y11.toNat), byte ((byte ((0 : UInt8).toNat ^^^ x12.toNat)).toNat ^^^ y12.toNat), byte ((byte ((0 : UInt8).toNat ^^^ x13.toNat)).toNat ^^^ y13.toNat), byte ((byte ((0 : UInt8).toNat ^^^ x14.toNat)).toNat ^^^ y14.toNat), byte ((byte ((0 : UInt8).toNat ^^^ x15.toNat)).toNat ^^^ y15.toNat)] := by kernel_rfl
theorem xor2_twice {l t : List UInt8} (h : l.length = 16) (ht : t.length = 16) : xor2 (xor2 l t) t = l := by
  obtain ⟨x0, x1, x2, x3, x4, x5, x6, x7, x8, x9, x10, x11, x12, x13, x14, x15, rfl⟩ := six h
  obtain ⟨y0, y1, y2, y3, y4, y5, y6, y7, y8, y9, y10, y11, y12, y13, y14, y15, rfl⟩ := six ht
  rw [xor2_raw, xor2_raw]
  simp only [zero_byte, twice_xor _ (UInt8.toNat_lt _)]
theorem blk_thru {D : List UInt8 → List UInt8} {T data : List UInt8} : ∀ {n i : Nat}, i < n → blk (thru D T data n) i = thruB D T data i
  | 0, i, h => absurd h (Nat.not_lt_zero i)
  | n + 1, i, h => by
    have hl : (thru D T data n).length = 16 * n := thru_length
    have hb : (thruB D T data n).length = 16 := xor2_length
    rw [thru]
    by_cases hi : i < n
    · rw [← blk_thru (D := D) (T := T) (data := data) hi]
      simp only [blk]
      rw [List.drop_append_of_le_length (by omega), List.take_append_of_le_length (by rw [List.length_drop]; omega)]
    · have e : i = n := by omega
      subst e
      simp only [blk]
      rw [← hl, List.drop_left, List.take_of_length_le (by omega)]
theorem thru_inv {D E : List UInt8 → List UInt8} {T data : List UInt8} {n : Nat} (hE : ∀ b, b.length = 16 → (E b).length = 16) (hDE : ∀ b, b.length = 16 → D (E b) = b) (hT : ∀ i, (twB T i).length = 16) (hd : data.length = 16 * n) :
    ∀ m, m ≤ n → thru D T (thru E T data n) m = data.take (16 * m)
  | 0, _ => by simp [thru]
  | m + 1, hm => by
    have hb : (blk data m).length = 16 := blk_length (by omega)
    rw [thru, thru_inv hE hDE hT hd m (by omega), thruB, blk_thru (by omega), thruB, xor2_twice (hE _ xor2_length) (hT m), hDE _ xor2_length, xor2_twice hb (hT m), show 16 * (m + 1) = 16 * m + 16 by omega, List.take_add]
    rfl
theorem xts_back {key data : List UInt8} {unit : Nat} (h16 : data.length % 16 = 0) : xtsD key unit (xtsE key unit data) = data := by
  have hl := xtsE_length (key := key) (unit := unit) h16
  have hT : (encrypt (k2of key) (number unit)).length = 16 := encrypt_length number_length
  have h := thru_inv (D := decrypt (k1of key)) (E := encrypt (k1of key)) (T := encrypt (k2of key) (number unit)) (data := data) (n := data.length / 16) (fun b hb => encrypt_length hb) (fun b hb => dec_enc hb) (fun i => twB_length hT i) (by omega) (data.length / 16) (Nat.le_refl _)
  rw [xtsD, hl]
  rw [xtsE, h, show 16 * (data.length / 16) = data.length by omega, List.take_of_length_le (Nat.le_refl _)]
end Go.Proofs.Ytbgfdbidbjlaaaa.Fd

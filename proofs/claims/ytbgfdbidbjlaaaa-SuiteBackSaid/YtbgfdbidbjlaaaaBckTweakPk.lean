/-
  Texts of this claim, laid together by a program of mine. No condition beyond what each theorem names.
-/
import Derived.Test.YtbgfdbidbjlaaaaBckCipher
/-
  tweak: as plain lists. No condition beyond what each theorem names.
-/
namespace Go.Proofs.Ytbgfdbidbjlaaaa.Fd
open Go Go.RowKit K

def carryAt (b : List UInt8) (k : Nat) : Nat := if k = 0 then 0 else (b.getD (k - 1) 0).toNat / 128
theorem carryAt_lt {b : List UInt8} {k : Nat} : carryAt b k < 2 := by
  unfold carryAt
  split
  · omega
  · have := (b.getD (k - 1) 0).toNat_lt
    omega
def dblL (b : List UInt8) : Nat → List UInt8
  | 0 => List.replicate 16 0
  | k + 1 => (dblL b k).set k (byte (((b.getD k 0).toNat * 2 % 256) ||| carryAt b k))
theorem dblL_length {b : List UInt8} {k : Nat} : (dblL b k).length = 16 := by
  induction k with
  | zero => exact List.length_replicate
  | succ k ih => exact List.length_set.trans ih
def double (b : List UInt8) : List UInt8 := if carryAt b 16 = 0 then dblL b 16 else (dblL b 16).set 0 (byte (((dblL b 16).getD 0 0).toNat ^^^ 135))
theorem double_length {b : List UInt8} : (double b).length = 16 := by
  unfold double
  split
  · exact dblL_length
  · exact List.length_set.trans dblL_length

set_option maxRecDepth 100000 in
set_option maxHeartbeats 4000000 in
theorem double_ok (b : List UInt8) (hb : b.length = 16) (w : World) :
    Calls Try.prog 54 #[.agg (u8s b).toArray] w fun e w' => e = .returned (.agg (u8s (double b)).toArray) ∧ Below w.heap.size w w' := by
  obtain ⟨n, hn⟩ : ∃ n, n = w.heap.size := ⟨_, rfl⟩
  have HN := Lib.hid hn
  have HX := Lib.hid (box2 w 61 b (List.replicate 16 0))
  have hs6 := Lib.hid (size61 hb)
  clear hn
  obtain ⟨V, hV⟩ : ∃ V, V = (u8s b).toArray := ⟨_, rfl⟩
  rw [← hV] at HX ⊢
  have hz : (u8s (List.replicate 16 0)).toArray = #[.int .u8 0, .int .u8 0, .int .u8 0, .int .u8 0, .int .u8 0, .int .u8 0, .int .u8 0, .int .u8 0, .int .u8 0, .int .u8 0, .int .u8 0, .int .u8 0, .int .u8 0, .int .u8 0, .int .u8 0, .int .u8 0] := rfl
  rw [hz] at HX
  clear hz
  have hVs : (Try.prog.info? 61).map (·.size) = some V.size := by rw [hs6.out, hV]; simp [u8s_length]
  have hVi : ∀ k, k < 16 → V[k]? = some (.int .u8 (b.getD k 0).toNat) := fun k hk => by rw [hV]; exact u8s_ix b k (by omega)
  replace hV := Lib.hid hV
  replace hVs := Lib.hid hVs
  replace hVi := Lib.hid hVi
  go_enter Try.func54, Try.ntmps54
  go_wp2_with (refine wpList_load_row rfl 61 _ rfl _ rfl 61 V (0, 0) _ (Eq.trans HX.out.1 (by rw [hV.out])) Try.underlying61 rfl hVs.out ?_)
  obtain ⟨w2, hw2⟩ : ∃ w2, w2 = (w.alloc (.cells V 61)).alloc (.cells #[.int .u8 0, .int .u8 0, .int .u8 0, .int .u8 0, .int .u8 0, .int .u8 0, .int .u8 0, .int .u8 0, .int .u8 0, .int .u8 0, .int .u8 0, .int .u8 0, .int .u8 0, .int .u8 0, .int .u8 0, .int .u8 0] 61) := ⟨_, rfl⟩
  rw [← hw2] at HX ⊢
  rw [← HN.out] at HX ⊢
  clear hw2
  go_loopw [3, 7] (fun c i wr => ∃ k : Nat, k ≤ 16 ∧ i = .int .i64 k ∧ c = .int .u8 (carryAt b k) ∧ Below n w wr ∧ n + 1 < wr.heap.size ∧ Hid (Arr wr (n + 1) 61 (dblL b k)))
    (fun _ i _ => 16 - (intOf i).toNat)
  case atStart => exact ⟨0, by omega, rfl, rfl, HX.out.2.2.1, by have := HX.out.2.2.2; omega, HX.out.2.1⟩
  case round =>
    obtain ⟨k, hk, rfl, rfl, hbr, hsz, H1⟩ := hrel
    obtain ⟨c, hc⟩ : ∃ c, c = carryAt b k := ⟨_, rfl⟩
    rw [← hc]
    have hcl : c < 2 := hc ▸ carryAt_lt
    replace hbr := Lib.hid hbr
    by_cases hlt : k < 16
    · have hix := hVi.out k hlt
      have hrun := fun w => run_index_agg (P := Try.prog) (k := .i64) (j := k) (v := .int .u8 (b.getD k 0).toNat) Try.underlying61 (by kernel_rfl) (by kernel_rfl) (by kernel_rfl) hlt hix w
      obtain ⟨B, hB⟩ : ∃ B, B = (b.getD k 0).toNat := ⟨_, rfl⟩
      rw [← hB] at hrun hix
      have hBl : B < 256 := hB ▸ UInt8.toNat_lt _
      have ho := u8_or_nat (B * 2 % 256) c (by omega) (by omega)
      have ho2 : bits .or .u8 ((B : Int) * 2 % 256) (c : Int) = ((B * 2 % 256 ||| c : Nat) : Int) := by rw [← ho]; simp
      have hol : B * 2 % 256 ||| c < 256 := Nat.or_lt_two_pow (n := 8) (by omega) (by omega)
      have f0 := H1.out.frozen k
      have c0 := H1.out.cell k (by rw [dblL_length]; exact hlt)
      replace hc := Lib.hid hc
      replace hB := Lib.hid hB
      clear ho hix
      go_wp2
      go_roundw
      case rel =>
        refine ⟨k + 1, by omega, by go_num, ?_, hbr.out.setCell (p := ⟨n + 1, k, none⟩) (by show n ≤ n + 1; omega) _, by simpa using hsz, ?_⟩
        · rw [carryAt, if_neg (by omega), Nat.add_sub_cancel, ← hB.out]
          simp
        · have h := H1.out.set k (byte (B * 2 % 256 ||| c))
          rw [byte_toNat hol] at h
          show Arr _ _ _ _
          rw [dblL, ← hB.out, ← hc.out]
          exact h
      case measure => simp [intOf]; omega
    · have hk6 : k = 16 := by omega
      rw [hk6] at H1 hc
      clear hk6
      obtain ⟨L, hL⟩ : ∃ L, L = dblL b 16 := ⟨_, rfl⟩
      rw [← hL] at H1
      have hLl : L.length = 16 := hL ▸ dblL_length
      replace hc := Lib.hid hc
      replace hL := Lib.hid hL
      have hfin : ∀ (w3 : World) (R : List UInt8), R.length = 16 → Arr w3 (n + 1) 61 R → (Try.prog.info? 61).map (·.size) = some (u8s R).toArray.size ∧ (Instr.loadAt 61 (.pointer (some ⟨n + 1, 0, none⟩))).run Try.prog w3 = .ok (.agg (u8s R).toArray) w3 ∧ (Instr.storeAt 61 (.pointer (some ⟨n + 1, 0, none⟩)) (.agg (u8s R).toArray)).run Try.prog w3 = .ok () w3 :=
        fun w3 R hR hA => ⟨by rw [size61 hR]; simp [u8s_length], run_loadAt_arr hA Try.underlying61 (size61 hR), run_storeAt_arr hA (size61 hR)⟩
      replace hfin := Lib.hid hfin
      by_cases hc0 : c = 0
      · have hF := Lib.hid (hfin.out wr L hLl H1.out)
        go_wp2_with (first | (refine wpList_load rfl 61 _ rfl _ _ rfl hF.out.2.1 ?_) | (refine wpList_store rfl 61 _ _ rfl _ _ rfl rfl hF.out.2.2 ?_))
        refine bodyPost_ret (results_cell_row Try.results54 _ _ (n + 1) 61 _ (0, 0) _ rfl H1.out Try.underlying61 rfl hF.out.1) rfl ⟨?_, HN.out ▸ hbr.out⟩
        rw [double, if_pos (hc.out ▸ hc0), hL.out]
      · have hc1 : c = 1 := by omega
        subst hc1
        have f0 := H1.out.frozen 0
        have c0 := H1.out.cell 0 (by omega)
        obtain ⟨B, hB⟩ : ∃ B, B = (L.getD 0 0).toNat := ⟨_, rfl⟩
        rw [← hB] at c0
        have hBl : B < 256 := hB ▸ UInt8.toNat_lt _
        have hx : bits .xor .u8 (B : Int) 135 = ((B ^^^ 135 : Nat) : Int) := u8_xor_nat B 135 hBl (by omega)
        have hxl := xor8 hBl (show 135 < 256 by omega)
        have hset := H1.out.set 0 (byte (B ^^^ 135))
        rw [byte_toNat hxl] at hset
        have HS := Lib.hid hset
        have hF := Lib.hid (hfin.out _ _ (List.length_set.trans hLl) HS.out)
        clear hset
        replace hB := Lib.hid hB
        go_wp2_with (first | (refine wpList_load rfl 61 _ rfl _ _ rfl hF.out.2.1 ?_) | (refine wpList_store rfl 61 _ _ rfl _ _ rfl rfl hF.out.2.2 ?_))
        refine bodyPost_ret (results_cell_row Try.results54 _ _ (n + 1) 61 _ (0, 0) _ rfl HS.out Try.underlying61 rfl hF.out.1) rfl ⟨?_, HN.out ▸ hbr.out.setCell (p := ⟨n + 1, 0, none⟩) (by show n ≤ n + 1; omega) _⟩
        rw [double, if_neg (by rw [← hc.out]; omega), ← hL.out, ← hB.out]
end Go.Proofs.Ytbgfdbidbjlaaaa.Fd
namespace Go.Proofs.Ytbgfdbidbjlaaaa.Fd
open Go Go.RowKit K

/-- a number as a block: at most f bytes, from place i on -/
def numF : Nat → Nat → Nat → List UInt8 → List UInt8
  | 0, _, _, l => l
  | f + 1, i, n, l => if n = 0 then l else numF f (i + 1) (n / 256) (l.set i (byte (n % 256)))
def number (n : Nat) : List UInt8 := numF 16 0 n (List.replicate 16 0)
theorem numF_zero {f i : Nat} {l : List UInt8} : numF f i 0 l = l := by cases f <;> simp [numF]
theorem numF_length {f : Nat} : ∀ {i n : Nat} {l : List UInt8}, (numF f i n l).length = l.length := by
  induction f with
  | zero => intro i n l; rfl
  | succ f ih =>
    intro i n l
    rw [numF]
    split
    · rfl
    · exact ih.trans List.length_set
theorem number_length {n : Nat} : (number n).length = 16 := numF_length.trans List.length_replicate

set_option maxRecDepth 100000 in
set_option maxHeartbeats 4000000 in
theorem number_ok (x : Nat) (hx : x ≤ 9223372036854775807) (w : World) :
    Calls Try.prog 53 #[.int .i64 x] w fun e w' => e = .returned (.agg (u8s (number x)).toArray) ∧ Below w.heap.size w w' := by
  obtain ⟨n, hn⟩ : ∃ n, n = w.heap.size := ⟨_, rfl⟩
  have HN := Lib.hid hn
  have H1 : Arr (w.alloc (.cells #[.int .u8 0, .int .u8 0, .int .u8 0, .int .u8 0, .int .u8 0, .int .u8 0, .int .u8 0, .int .u8 0, .int .u8 0, .int .u8 0, .int .u8 0, .int .u8 0, .int .u8 0, .int .u8 0, .int .u8 0, .int .u8 0] 61)) n 61 (List.replicate 16 0) := by
    rw [hn]
    exact heap_alloc_new w _
  have hb : Below n w (w.alloc (.cells #[.int .u8 0, .int .u8 0, .int .u8 0, .int .u8 0, .int .u8 0, .int .u8 0, .int .u8 0, .int .u8 0, .int .u8 0, .int .u8 0, .int .u8 0, .int .u8 0, .int .u8 0, .int .u8 0, .int .u8 0, .int .u8 0] 61)) := (Below.refl _ _).alloc (Nat.le_of_eq hn) _
  have hs : n < (w.alloc (.cells #[.int .u8 0, .int .u8 0, .int .u8 0, .int .u8 0, .int .u8 0, .int .u8 0, .int .u8 0, .int .u8 0, .int .u8 0, .int .u8 0, .int .u8 0, .int .u8 0, .int .u8 0, .int .u8 0, .int .u8 0, .int .u8 0] 61)).heap.size := by simp [hn]
  replace H1 := Lib.hid H1
  replace hb := Lib.hid hb
  replace hs := Lib.hid hs
  clear hn
  go_enter Try.func53, Try.ntmps53
  go_wp2
  rw [← HN.out]
  go_loopw [0, 3] (fun y i wr => ∃ f i' N : Nat, ∃ l : List UInt8, f + i' = 16 ∧ N < 256 ^ f ∧ N ≤ 9223372036854775807 ∧ l.length = 16 ∧ y = .int .i64 N ∧ i = .int .i64 i' ∧ Below n w wr ∧ n < wr.heap.size ∧ Hid (Arr wr n 61 l) ∧ Hid (numF f i' N l = number x))
    (fun y _ _ => (intOf y).toNat)
  case atStart => exact ⟨16, 0, x, List.replicate 16 0, rfl, by omega, hx, List.length_replicate, rfl, rfl, hb.out, hs.out, H1.out, rfl⟩
  case round =>
    clear H1 hb hs
    obtain ⟨f, i, N, l, hfi, hN, hN2, hl, rfl, rfl, hbr, hsz, H1, hm⟩ := hrel
    replace hbr := Lib.hid hbr
    by_cases h0 : 0 < N
    · have step : ∃ f', f = f' + 1 ∧ N / 256 < 256 ^ f' ∧ numF f' (i + 1) (N / 256) (l.set i (byte (N % 256))) = number x := by
        cases f with
        | zero => simp at hN; omega
        | succ f' =>
          refine ⟨f', rfl, by rw [Nat.pow_succ] at hN; omega, ?_⟩
          have h := hm.out
          rw [numF, if_neg (by omega)] at h
          exact h
      obtain ⟨f', rfl, hN3, hm2⟩ := step
      replace hN3 := Lib.hid hN3
      replace hm2 := Lib.hid hm2
      clear hN hm
      have f0 := H1.out.frozen i
      have c0 := H1.out.cell i (by omega)
      have hset := H1.out.set i (byte (N % 256))
      rw [byte_toNat (by omega)] at hset
      replace hset := Lib.hid hset
      have hi16 : i < 16 := by omega
      go_wp2
      go_roundw
      case rel =>
        refine ⟨f', i + 1, N / 256, l.set i (byte (N % 256)), by omega, hN3.out, by omega, by rw [List.length_set]; exact hl, by simp, by go_num, hbr.out.setCell (p := ⟨n, i, none⟩) (Nat.le_refl n) _, by simpa using hsz, ?_, hm2.out⟩
        have h := hset.out
        show Arr _ _ _ _
        simpa using h
      case measure => simp [intOf]; omega
    · obtain rfl : N = 0 := by omega
      have hlx : l = number x := by have h := hm.out; rw [numF_zero] at h; exact h
      replace hlx := Lib.hid hlx
      clear hm hN
      have hF := Lib.hid (show (Try.prog.info? 61).map (·.size) = some (u8s l).toArray.size ∧ (Instr.loadAt 61 (.pointer (some ⟨n, 0, none⟩))).run Try.prog wr = .ok (.agg (u8s l).toArray) wr ∧ (Instr.storeAt 61 (.pointer (some ⟨n, 0, none⟩)) (.agg (u8s l).toArray)).run Try.prog wr = .ok () wr from
        ⟨by rw [size61 hl]; simp [u8s_length], run_loadAt_arr H1.out Try.underlying61 (size61 hl), run_storeAt_arr H1.out (size61 hl)⟩)
      go_wp2_with (first | (refine wpList_load rfl 61 _ rfl _ _ rfl hF.out.2.1 ?_) | (refine wpList_store rfl 61 _ _ rfl _ _ rfl rfl hF.out.2.2 ?_))
      refine bodyPost_ret (results_cell_row Try.results53 _ _ n 61 _ (0, 0) _ rfl H1.out Try.underlying61 rfl hF.out.1) rfl ⟨by rw [hlx.out], HN.out ▸ hbr.out⟩
end Go.Proofs.Ytbgfdbidbjlaaaa.Fd
/-
  aes: its columns, mixed by a table. No condition beyond what each theorem names.
-/
namespace Go.Proofs.Ytbgfdbidbjlaaaa.Fd
open Go Go.RowKit K

/-- a column's bytes, k of four -/
def colI (R : List UInt8) (i : Nat) (o : List UInt8) : Nat → List UInt8
  | 0 => o
  | k + 1 => (colI R i o k).set (i / 4 * 4 + (i + k) % 4) (byte (((colI R i o k).getD (i / 4 * 4 + (i + k) % 4) 0).toNat ^^^ (R.getD k 0).toNat))
theorem colI_length {R : List UInt8} {i : Nat} {o : List UInt8} {k : Nat} : (colI R i o k).length = o.length := by
  induction k with
  | zero => rfl
  | succ k ih => exact List.length_set.trans ih
/-- M a: the row of a byte -/
def colL (M : Nat → List UInt8) (b : List UInt8) : Nat → List UInt8
  | 0 => List.replicate 16 0
  | i + 1 => colI (M (b.getD i 0).toNat) i (colL M b i) 4
theorem colL_length {M : Nat → List UInt8} {b : List UInt8} {i : Nat} : (colL M b i).length = 16 := by
  induction i with
  | zero => exact List.length_replicate
  | succ i ih => exact colI_length.trans ih

set_option maxRecDepth 100000 in
set_option maxHeartbeats 4000000 in
theorem columns_ok (M : Nat → List UInt8) (hM4 : ∀ a, (M a).length = 4) (b : List UInt8) (hb : b.length = 16) (tb off : Nat) (w : World) (ht : tb < w.heap.size)
    (hM : ∀ a, a < 256 → ∀ j, j < 4 → w.cell? ⟨tb, off + a * 4 + j, none⟩ = some (.int .u8 ((M a).getD j 0).toNat)) :
    Calls Try.prog 47 #[.agg (u8s b).toArray, .pointer (some ⟨tb, off, none⟩)] w fun e w' => e = .returned (.agg (u8s (colL M b 16)).toArray) ∧ Below w.heap.size w w' := by
  obtain ⟨n, hn⟩ : ∃ n, n = w.heap.size := ⟨_, rfl⟩
  have HN := Lib.hid hn
  have HX := Lib.hid (box2 w 61 b (List.replicate 16 0))
  have hs6 := Lib.hid (size61 hb)
  rw [← hn] at ht
  clear hn
  obtain ⟨V, hV⟩ : ∃ V, V = (u8s b).toArray := ⟨_, rfl⟩
  rw [← hV] at HX ⊢
  have hz : (u8s (List.replicate 16 0)).toArray = #[.int .u8 0, .int .u8 0, .int .u8 0, .int .u8 0, .int .u8 0, .int .u8 0, .int .u8 0, .int .u8 0, .int .u8 0, .int .u8 0, .int .u8 0, .int .u8 0, .int .u8 0, .int .u8 0, .int .u8 0, .int .u8 0] := rfl
  rw [hz] at HX
  clear hz
  have hVs : (Try.prog.info? 61).map (·.size) = some V.size := by rw [hs6.out, hV]; simp [u8s_length]
  have hVi : ∀ k, k < 16 → V[k]? = some (.int .u8 (b.getD k 0).toNat) := fun k hk => by rw [hV]; exact u8s_ix b k (by omega)
  have hMw : ∀ wr, Below n w wr → ∀ a, a < 256 → (Instr.loadAt 102 (.pointer (some ⟨tb, off + a * 4, none⟩))).run Try.prog wr = .ok (.agg (u8s (M a)).toArray) wr := by
    intro wr hbr a ha
    refine run_loadAt_cells Try.underlying102 (size102 (hM4 a)) (fun j hj => ?_)
    rw [hM4] at hj
    rw [World.cell?_of_block (w := w) (hbr.block tb ht)]
    exact hM a ha j hj
  replace hMw := Lib.hid hMw
  replace hM := Lib.hid hM
  replace hM4 := Lib.hid hM4
  replace hV := Lib.hid hV
  replace hVs := Lib.hid hVs
  replace hVi := Lib.hid hVi
  go_enter Try.func47, Try.ntmps47
  go_wp2_with (refine wpList_load_row rfl 61 _ rfl _ rfl 61 V (0, 0) _ (Eq.trans HX.out.1 (by rw [hV.out])) Try.underlying61 rfl hVs.out ?_)
  obtain ⟨w2, hw2⟩ : ∃ w2, w2 = (w.alloc (.cells V 61)).alloc (.cells #[.int .u8 0, .int .u8 0, .int .u8 0, .int .u8 0, .int .u8 0, .int .u8 0, .int .u8 0, .int .u8 0, .int .u8 0, .int .u8 0, .int .u8 0, .int .u8 0, .int .u8 0, .int .u8 0, .int .u8 0, .int .u8 0] 61) := ⟨_, rfl⟩
  rw [← hw2] at HX ⊢
  rw [← HN.out] at HX ⊢
  clear hw2
  go_loopw [10] (fun i wr => ∃ k : Nat, k ≤ 16 ∧ i = .int .i64 k ∧ Below n w wr ∧ n + 1 < wr.heap.size ∧ Hid (Arr wr (n + 1) 61 (colL M b k)))
    (fun i _ => 16 - (intOf i).toNat)
  case atStart => exact ⟨0, by omega, rfl, HX.out.2.2.1, by have := HX.out.2.2.2; omega, HX.out.2.1⟩
  case round =>
    clear HX
    obtain ⟨k, hk, rfl, hbr, hsz, H1⟩ := hrel
    by_cases hlt : k < 16
    · have hix := hVi.out k hlt
      have hrun := fun w => run_index_agg (P := Try.prog) (k := .i64) (j := k) (v := .int .u8 (b.getD k 0).toNat) Try.underlying61 (by kernel_rfl) (by kernel_rfl) (by kernel_rfl) hlt hix w
      obtain ⟨B, hB⟩ : ∃ B, B = (b.getD k 0).toNat := ⟨_, rfl⟩
      rw [← hB] at hrun hix
      have hBl : B < 256 := hB ▸ UInt8.toNat_lt _
      have hld := Lib.hid (hMw.out wr hbr B hBl)
      obtain ⟨R, hR⟩ : ∃ R, R = M B := ⟨_, rfl⟩
      rw [← hR] at hld
      have hRl : R.length = 4 := hR ▸ hM4.out B
      replace hB := Lib.hid hB
      replace hR := Lib.hid hR
      replace hRl := Lib.hid hRl
      replace hbr := Lib.hid hbr
      clear hix
      go_wp2_with (refine wpList_load rfl 102 _ rfl _ _ rfl hld.out ?_)
      go_loopw [19] (fun i wr => ∃ m : Nat, m ≤ 4 ∧ i = .int .i64 m ∧ Below n w wr ∧ n + 1 < wr.heap.size ∧ Hid (Arr wr (n + 1) 61 (colI R k (colL M b k) m)))
        (fun i _ => 4 - (intOf i).toNat)
      case atStart => exact ⟨0, by omega, rfl, hbr.out, hsz, H1.out⟩
      case round =>
        clear H1 hsz hbr hld
        obtain ⟨m, hm, rfl, hbr, hsz, H1⟩ := hrel
        replace hbr := Lib.hid hbr
        by_cases hlm : m < 4
        · have hix := u8s_ix R m (by rw [hRl.out]; exact hlm)
          have hrn := fun w => run_index_agg (P := Try.prog) (k := .i64) (j := m) (v := .int .u8 (R.getD m 0).toNat) Try.underlying102 (by kernel_rfl) (by kernel_rfl) (by kernel_rfl) hlm hix w
          obtain ⟨C, hC⟩ : ∃ C, C = (R.getD m 0).toNat := ⟨_, rfl⟩
          rw [← hC] at hrn hix
          have hCl : C < 256 := hC ▸ UInt8.toNat_lt _
          obtain ⟨q, hq⟩ : ∃ q, q = k / 4 := ⟨_, rfl⟩
          obtain ⟨j, hj⟩ : ∃ j, j = (k + m) % 4 := ⟨_, rfl⟩
          obtain ⟨I, hI⟩ : ∃ I, I = q * 4 + j := ⟨_, rfl⟩
          have hI16 : I < 16 := by omega
          have hd : (k : Int) / 4 = q := by omega
          have hmod : ((k : Int) + m) % 4 = j := by omega
          have hI2 : (q : Int) * 4 + j = I := by omega
          have hq4 : q < 4 := by omega
          have hj4 : j < 4 := by omega
          have f0 := H1.out.frozen I
          have c0 := H1.out.cell I (by rw [colI_length, colL_length]; exact hI16)
          obtain ⟨D, hD⟩ : ∃ D, D = ((colI R k (colL M b k) m).getD I 0).toNat := ⟨_, rfl⟩
          rw [← hD] at c0
          have hDl : D < 256 := hD ▸ UInt8.toNat_lt _
          have hx := u8_xor_nat D C hDl hCl
          have hset := H1.out.set I (byte (D ^^^ C))
          rw [byte_toNat (xor8 hDl hCl)] at hset
          have HS := Lib.hid hset
          clear hset hix
          replace hq := Lib.hid hq
          replace hj := Lib.hid hj
          replace hI := Lib.hid hI
          replace hC := Lib.hid hC
          replace hD := Lib.hid hD
          go_wp2
          go_roundw
          case rel =>
            refine ⟨m + 1, by omega, by go_num, hbr.out.setCell (p := ⟨n + 1, I, none⟩) (by show n ≤ n + 1; omega) _, by simpa using hsz, ?_⟩
            show Arr _ _ _ _
            rw [colI, ← hq.out, ← hj.out, ← hI.out, ← hC.out, ← hD.out]
            exact HS.out
          case measure => simp [intOf]; omega
        · have hm4 : m = 4 := by omega
          rw [hm4] at H1
          clear hm4
          go_wp2
          go_roundw
          case rel =>
            refine ⟨k + 1, by omega, by go_num, hbr.out, hsz, ?_⟩
            show Arr _ _ _ _
            rw [colL, ← hB.out, ← hR.out]
            exact H1.out
          case measure => simp [intOf]; omega
    · have hk6 : k = 16 := by omega
      rw [hk6] at H1
      clear hk6
      obtain ⟨L, hL⟩ : ∃ L, L = colL M b 16 := ⟨_, rfl⟩
      rw [← hL] at H1
      have hLl : L.length = 16 := hL ▸ colL_length
      replace hL := Lib.hid hL
      replace hbr := Lib.hid hbr
      have hF := Lib.hid (show (Try.prog.info? 61).map (·.size) = some (u8s L).toArray.size ∧ (Instr.loadAt 61 (.pointer (some ⟨n + 1, 0, none⟩))).run Try.prog wr = .ok (.agg (u8s L).toArray) wr ∧ (Instr.storeAt 61 (.pointer (some ⟨n + 1, 0, none⟩)) (.agg (u8s L).toArray)).run Try.prog wr = .ok () wr from
        ⟨by rw [size61 hLl]; simp [u8s_length], run_loadAt_arr H1.out Try.underlying61 (size61 hLl), run_storeAt_arr H1.out (size61 hLl)⟩)
      go_wp2_with (first | (refine wpList_load rfl 61 _ rfl _ _ rfl hF.out.2.1 ?_) | (refine wpList_store rfl 61 _ _ rfl _ _ rfl rfl hF.out.2.2 ?_))
      refine bodyPost_ret (results_cell_row Try.results47 _ _ (n + 1) 61 _ (0, 0) _ rfl H1.out Try.underlying61 rfl hF.out.1) rfl ⟨by rw [hL.out], HN.out ▸ hbr.out⟩
end Go.Proofs.Ytbgfdbidbjlaaaa.Fd
/-
  tweak.Xor. No condition beyond what each theorem names.
-/
namespace Go.Proofs.Ytbgfdbidbjlaaaa.Fd
open Go Go.RowKit K

def xorL (o b : List UInt8) : Nat → List UInt8
  | 0 => o
  | k + 1 => (xorL o b k).set k (byte (((xorL o b k).getD k 0).toNat ^^^ (b.getD k 0).toNat))
theorem xorL_length {o b : List UInt8} {k : Nat} : (xorL o b k).length = o.length := by
  induction k with
  | zero => rfl
  | succ k ih => exact List.length_set.trans ih
def xorAll (L : Nat → List UInt8) : Nat → List UInt8
  | 0 => List.replicate 16 0
  | m + 1 => xorL (xorAll L m) (L m) 16
theorem xorAll_length {L : Nat → List UInt8} {m : Nat} : (xorAll L m).length = 16 := by
  induction m with
  | zero => exact List.length_replicate
  | succ m ih => exact xorL_length.trans ih

theorem splice_all {l x : List UInt8} (h : l.length = x.length) : splice l 0 x = x := by
  simp only [splice, List.take_zero, List.nil_append]
  rw [List.drop_eq_nil_of_le (by omega), List.append_nil]
/-- a block into a new box -/
theorem box_store (w : World) (b : List UInt8) (hb : b.length = 16) : ∃ w', (Instr.storeAt 61 (.pointer (some ⟨w.heap.size, 0, none⟩)) (.agg (u8s b).toArray)).run Try.prog (w.alloc (.cells #[.int .u8 0, .int .u8 0, .int .u8 0, .int .u8 0, .int .u8 0, .int .u8 0, .int .u8 0, .int .u8 0, .int .u8 0, .int .u8 0, .int .u8 0, .int .u8 0, .int .u8 0, .int .u8 0, .int .u8 0, .int .u8 0] 61)) = .ok () w' ∧
    Arr w' w.heap.size 61 b ∧ Below w.heap.size w w' ∧ w'.heap.size = w.heap.size + 1 := by
  have H1 : Arr (w.alloc (.cells #[.int .u8 0, .int .u8 0, .int .u8 0, .int .u8 0, .int .u8 0, .int .u8 0, .int .u8 0, .int .u8 0, .int .u8 0, .int .u8 0, .int .u8 0, .int .u8 0, .int .u8 0, .int .u8 0, .int .u8 0, .int .u8 0] 61)) w.heap.size 61 (List.replicate 16 0) := heap_alloc_new w _
  have hst := run_storeAt_at (P := Try.prog) (off := 0) (x := b) H1 (size61 hb) (by rw [hb, List.length_replicate]; omega)
  rw [splice_all (by rw [hb, List.length_replicate])] at hst
  exact ⟨_, hst, H1.setRow b, below_setRow ((Below.refl _ _).alloc (Nat.le_refl _) _) (Nat.le_refl _) _, by simp⟩

set_option maxRecDepth 100000 in
set_option maxHeartbeats 4000000 in
theorem xor_ok (L : Nat → List UInt8) (hL : ∀ m, (L m).length = 16) (g off cnt cap : Nat) (hcnt : cnt ≤ 1000) (w : World) (hg : g < w.heap.size)
    (hc : ∀ m, m < cnt → ∀ j, j < 16 → w.cell? ⟨g, off + m * 16 + j, none⟩ = some (.int .u8 ((L m).getD j 0).toNat)) :
    Calls Try.prog 44 #[.slice (some ⟨g, off, none⟩) cnt cap] w fun e w' => e = .returned (.agg (u8s (xorAll L cnt)).toArray) ∧ Below w.heap.size w w' := by
  obtain ⟨n, hn⟩ : ∃ n, n = w.heap.size := ⟨_, rfl⟩
  have HN := Lib.hid hn
  rw [← hn] at hg
  have H1 : Arr (w.alloc (.cells #[.int .u8 0, .int .u8 0, .int .u8 0, .int .u8 0, .int .u8 0, .int .u8 0, .int .u8 0, .int .u8 0, .int .u8 0, .int .u8 0, .int .u8 0, .int .u8 0, .int .u8 0, .int .u8 0, .int .u8 0, .int .u8 0] 61)) n 61 (List.replicate 16 0) := by
    rw [hn]
    exact heap_alloc_new w _
  have hb : Below n w (w.alloc (.cells #[.int .u8 0, .int .u8 0, .int .u8 0, .int .u8 0, .int .u8 0, .int .u8 0, .int .u8 0, .int .u8 0, .int .u8 0, .int .u8 0, .int .u8 0, .int .u8 0, .int .u8 0, .int .u8 0, .int .u8 0, .int .u8 0] 61)) := (Below.refl _ _).alloc (Nat.le_of_eq hn) _
  have hs : n < (w.alloc (.cells #[.int .u8 0, .int .u8 0, .int .u8 0, .int .u8 0, .int .u8 0, .int .u8 0, .int .u8 0, .int .u8 0, .int .u8 0, .int .u8 0, .int .u8 0, .int .u8 0, .int .u8 0, .int .u8 0, .int .u8 0, .int .u8 0] 61)).heap.size := by simp [hn]
  have hld : ∀ wr, Below n w wr → ∀ m, m < cnt → (Instr.loadAt 61 (.pointer (some ⟨g, off + m * 16, none⟩))).run Try.prog wr = .ok (.agg (u8s (L m)).toArray) wr := by
    intro wr hbr m hm
    refine run_loadAt_cells Try.underlying61 (size61 (hL m)) (fun j hj => ?_)
    rw [hL] at hj
    rw [World.cell?_of_block (w := w) (hbr.block g hg)]
    exact hc m hm j hj
  replace hld := Lib.hid hld
  replace H1 := Lib.hid H1
  replace hb := Lib.hid hb
  replace hs := Lib.hid hs
  replace hL := Lib.hid hL
  clear hn hc
  go_enter Try.func44, Try.ntmps44
  go_wp2
  rw [← HN.out]
  go_loopw [9] (fun i wr => ∃ m : Nat, m ≤ cnt ∧ i = .int .i64 m ∧ Below n w wr ∧ n < wr.heap.size ∧ Hid (Arr wr n 61 (xorAll L m)))
    (fun i _ => cnt - (intOf i).toNat)
  case atStart => exact ⟨0, by omega, rfl, hb.out, hs.out, H1.out⟩
  case round =>
    clear H1 hb hs
    obtain ⟨m, hm, rfl, hbr, hsz, H1⟩ := hrel
    by_cases hlt : m < cnt
    · have hl1 := Lib.hid (hld.out wr hbr m hlt)
      obtain ⟨B, hB⟩ : ∃ B, B = L m := ⟨_, rfl⟩
      rw [← hB] at hl1
      have hBl : B.length = 16 := hB ▸ hL.out m
      obtain ⟨V, hV⟩ : ∃ V, V = (u8s B).toArray := ⟨_, rfl⟩
      rw [← hV] at hl1
      have hVi : ∀ k, k < 16 → V[k]? = some (.int .u8 (B.getD k 0).toNat) := fun k hk => by rw [hV]; exact u8s_ix B k (by omega)
      obtain ⟨w3, hst, hA3, hb3, hs3⟩ := box_store wr B hBl
      have hl3 := run_loadAt_arr (P := Try.prog) hA3 Try.underlying61 (size61 hBl)
      rw [← hV] at hst hl3
      have HN1 : Hid (Arr w3 n 61 (xorAll L m)) := H1.out.keep (hb3.block n hsz)
      have hb4 := Lib.hid (show Below n w w3 from hbr.trans (hb3.mono (by omega)))
      have hs4 := Lib.hid (show n < w3.heap.size by omega)
      replace hst := Lib.hid hst
      replace hl3 := Lib.hid hl3
      replace hB := Lib.hid hB
      replace hV := Lib.hid hV
      replace hVi := Lib.hid hVi
      replace hA3 := Lib.hid hA3
      clear hbr hb3 hs3 hsz H1
      go_wp2_with (first | (refine wpList_load rfl 61 _ rfl _ _ rfl hl1.out ?_) | (refine wpList_store rfl 61 _ _ rfl _ _ rfl rfl hst.out ?_) | (refine wpList_load rfl 61 _ rfl _ _ rfl hl3.out ?_))
      clear hst hl1 hl3 hA3
      generalize wr.heap.size = z
      go_loopw [14] (fun i wr => ∃ k : Nat, k ≤ 16 ∧ i = .int .i64 k ∧ Below n w wr ∧ n < wr.heap.size ∧ Hid (Arr wr n 61 (xorL (xorAll L m) B k)))
        (fun i _ => 16 - (intOf i).toNat)
      case atStart => exact ⟨0, by omega, rfl, hb4.out, hs4.out, HN1.out⟩
      case round =>
        clear HN1 hb4 hs4
        obtain ⟨k, hk, rfl, hbr, hsz, H1⟩ := hrel
        replace hbr := Lib.hid hbr
        by_cases hlk : k < 16
        · have hix := hVi.out k hlk
          have hrn := fun w => run_index_agg (P := Try.prog) (k := .i64) (j := k) (v := .int .u8 (B.getD k 0).toNat) Try.underlying61 (by kernel_rfl) (by kernel_rfl) (by kernel_rfl) hlk hix w
          obtain ⟨C, hC⟩ : ∃ C, C = (B.getD k 0).toNat := ⟨_, rfl⟩
          rw [← hC] at hrn hix
          have hCl : C < 256 := hC ▸ UInt8.toNat_lt _
          have f0 := H1.out.frozen k
          have c0 := H1.out.cell k (by rw [xorL_length, xorAll_length]; exact hlk)
          obtain ⟨D, hD⟩ : ∃ D, D = ((xorL (xorAll L m) B k).getD k 0).toNat := ⟨_, rfl⟩
          rw [← hD] at c0
          have hDl : D < 256 := hD ▸ UInt8.toNat_lt _
          have hx := u8_xor_nat D C hDl hCl
          have hset := H1.out.set k (byte (D ^^^ C))
          rw [byte_toNat (xor8 hDl hCl)] at hset
          have HS := Lib.hid hset
          clear hset hix
          replace hC := Lib.hid hC
          replace hD := Lib.hid hD
          go_wp2
          go_roundw
          case rel =>
            refine ⟨k + 1, by omega, by go_num, hbr.out.setCell (p := ⟨n, k, none⟩) (Nat.le_refl n) _, by simpa using hsz, ?_⟩
            show Arr _ _ _ _
            rw [xorL, ← hC.out, ← hD.out]
            exact HS.out
          case measure => simp [intOf]; omega
        · have hk6 : k = 16 := by omega
          rw [hk6] at H1
          clear hk6
          go_wp2
          go_roundw
          case rel =>
            refine ⟨m + 1, by omega, by go_num, hbr.out, hsz, ?_⟩
            show Arr _ _ _ _
            rw [xorAll, ← hB.out]
            exact H1.out
          case measure => simp [intOf]; omega
    · have hm6 : m = cnt := by omega
      rw [hm6] at H1
      clear hm6
      obtain ⟨R, hR⟩ : ∃ R, R = xorAll L cnt := ⟨_, rfl⟩
      rw [← hR] at H1
      have hRl : R.length = 16 := hR ▸ xorAll_length
      replace hR := Lib.hid hR
      replace hbr := Lib.hid hbr
      have hF := Lib.hid (show (Try.prog.info? 61).map (·.size) = some (u8s R).toArray.size ∧ (Instr.loadAt 61 (.pointer (some ⟨n, 0, none⟩))).run Try.prog wr = .ok (.agg (u8s R).toArray) wr ∧ (Instr.storeAt 61 (.pointer (some ⟨n, 0, none⟩)) (.agg (u8s R).toArray)).run Try.prog wr = .ok () wr from
        ⟨by rw [size61 hRl]; simp [u8s_length], run_loadAt_arr H1.out Try.underlying61 (size61 hRl), run_storeAt_arr H1.out (size61 hRl)⟩)
      go_wp2_with (first | (refine wpList_load rfl 61 _ rfl _ _ rfl hF.out.2.1 ?_) | (refine wpList_store rfl 61 _ _ rfl _ _ rfl rfl hF.out.2.2 ?_))
      refine bodyPost_ret (results_cell_row Try.results44 _ _ n 61 _ (0, 0) _ rfl H1.out Try.underlying61 rfl hF.out.1) rfl ⟨by rw [hR.out], HN.out ▸ hbr.out⟩
end Go.Proofs.Ytbgfdbidbjlaaaa.Fd

/-
  aes: its tables. No condition beyond what each theorem names.
-/
import Derived.Test.YtbgfdbidbjlaaaaBckArr
namespace Go.Proofs.Ytbgfdbidbjlaaaa.Fd
open Go Go.RowKit K

def bk (i : Nat) : UInt8 := (bkL 256).getD i 0
def mixB (a : Nat) : List UInt8 := [byte (twice a), byte a, byte a, byte (mul a 3)]
def undoB (a : Nat) : List UInt8 := [byte (mul a 14), byte (mul a 9), byte (mul a 13), byte (mul a 11)]
/-- the tables' cells, when k rounds of the mixing ones are done -/
def tabC (k i : Nat) : UInt8 :=
  if i < 256 then sb i else if i < 512 then bk (i - 256)
  else if i < 1536 then (if (i - 512) / 4 < k then (mixB ((i - 512) / 4)).getD ((i - 512) % 4) 0 else 0)
  else (if (i - 1536) / 4 < k then (undoB ((i - 1536) / 4)).getD ((i - 1536) % 4) 0 else 0)
def TabL (k : Nat) (l : List UInt8) : Prop := l.length = 2560 ∧ ∀ i, i < 2560 → l.getD i 0 = tabC k i

theorem tabL_zero : TabL 0 (splice (splice (List.replicate 2560 0) 0 (sbL 255)) 256 (bkL 256)) := by
  have h0 : (List.replicate 2560 (0 : UInt8)).length = 2560 := List.length_replicate
  have h1 : (splice (List.replicate 2560 0) 0 (sbL 255)).length = 2560 := by rw [length_splice _ _ _ (by rw [h0, sbL_length]; omega), h0]
  refine ⟨by rw [length_splice _ _ _ (by rw [h1, bkL_length]; omega), h1], fun i hi => ?_⟩
  rw [splice_getD _ _ _ _ (by rw [h1, bkL_length]; omega), splice_getD _ _ _ _ (by rw [h0, sbL_length]; omega), bkL_length, sbL_length]
  unfold tabC
  by_cases a1 : i < 256
  · rw [if_neg (by omega), if_pos (by omega), if_pos a1]
    rfl
  · by_cases a2 : i < 512
    · rw [if_pos (by omega), if_neg a1, if_pos a2]
      rfl
    · rw [if_neg (by omega), if_neg (by omega), if_neg a1, if_neg a2]
      have e : (List.replicate 2560 (0 : UInt8)).getD i 0 = 0 := by
        rw [List.getD, List.getElem?_replicate, if_pos hi]
        rfl
      rw [e]
      split
      · rw [if_neg (by omega)]
      · rw [if_neg (by omega)]

theorem tabL_step {k : Nat} {l : List UInt8} (hk : k < 256) (h : TabL k l) : TabL (k + 1) (splice (splice l (512 + 4 * k) (mixB k)) (1536 + 4 * k) (undoB k)) := by
  have hm : (mixB k).length = 4 := rfl
  have hu : (undoB k).length = 4 := rfl
  have h1 : (splice l (512 + 4 * k) (mixB k)).length = 2560 := by rw [length_splice _ _ _ (by rw [h.1, hm]; omega), h.1]
  refine ⟨by rw [length_splice _ _ _ (by rw [h1, hu]; omega), h1], fun i hi => ?_⟩
  rw [splice_getD _ _ _ _ (by rw [h1, hu]; omega), splice_getD _ _ _ _ (by rw [h.1, hm]; omega), h.2 i hi, hm, hu]
  unfold tabC
  by_cases a1 : i < 256
  · rw [if_neg (by omega), if_neg (by omega), if_pos a1, if_pos a1]
  · by_cases a2 : i < 512
    · rw [if_neg (by omega), if_neg (by omega), if_neg a1, if_neg a1, if_pos a2, if_pos a2]
    · rw [if_neg a1, if_neg a1, if_neg a2, if_neg a2]
      by_cases a3 : i < 1536
      · rw [if_neg (by omega), if_pos a3, if_pos a3]
        by_cases a4 : 512 + 4 * k ≤ i ∧ i < 512 + 4 * k + 4
        · have e1 : (i - 512) / 4 = k := by omega
          have e2 : (i - 512) % 4 = i - (512 + 4 * k) := by omega
          rw [if_pos a4, e1, e2, if_pos (by omega)]
        · rw [if_neg a4]
          by_cases a5 : (i - 512) / 4 < k
          · rw [if_pos a5, if_pos (by omega)]
          · rw [if_neg a5, if_neg (by omega)]
      · rw [if_neg a3, if_neg a3, if_neg (by omega : ¬ (512 + 4 * k ≤ i ∧ i < 512 + 4 * k + 4))]
        by_cases a4 : 1536 + 4 * k ≤ i ∧ i < 1536 + 4 * k + 4
        · have e1 : (i - 1536) / 4 = k := by omega
          have e2 : (i - 1536) % 4 = i - (1536 + 4 * k) := by omega
          rw [if_pos a4, e1, e2, if_pos (by omega)]
        · rw [if_neg a4]
          by_cases a5 : (i - 1536) / 4 < k
          · rw [if_pos a5, if_pos (by omega)]
          · rw [if_neg a5, if_neg (by omega)]

/-- a block is the tables -/
def Tabs (w : World) (b k : Nat) : Prop := ∃ l, Arr w b 105 l ∧ TabL k l
theorem zero105 : Try.zeroCells105 = (u8s (List.replicate 2560 0)).toArray := by kernel_rfl
theorem size101 {l : List UInt8} (h : l.length = 256) : (Try.prog.info? 101).map (·.size) = some l.length := by rw [h]; kernel_rfl
theorem size102 {l : List UInt8} (h : l.length = 4) : (Try.prog.info? 102).map (·.size) = some l.length := by rw [h]; kernel_rfl

def TabSt (w : World) (n k : Nat) (x : World) : Prop := Below n w x ∧ n < x.heap.size ∧ Tabs x n k
theorem TabSt.drew {w : World} {n k : Nat} {x : World} (h : TabSt w n k x) : TabSt w n k x.drew := ⟨⟨h.1.os, h.1.tape, h.1.output, h.1.size, h.1.block⟩, h.2⟩
def TabMid (w : World) (n k : Nat) (x : World) : Prop := Below n w x ∧ n < x.heap.size ∧ ∃ l, TabL k l ∧ Arr x n 105 (splice l (512 + 4 * k) (mixB k))
theorem TabMid.drew {w : World} {n k : Nat} {x : World} (h : TabMid w n k x) : TabMid w n k x.drew := ⟨⟨h.1.os, h.1.tape, h.1.output, h.1.size, h.1.block⟩, h.2⟩

theorem mix_store {w : World} {n k : Nat} {x : World} (hn : n ≤ n) (h : TabSt w n k x) (hk : k < 256) :
    ∃ x', (Instr.storeAt 102 (.pointer (some ⟨n, 512 + 4 * k, none⟩)) (.agg #[.int .u8 (twice k), .int .u8 k, .int .u8 k, .int .u8 (mul k 3)])).run Try.prog x = .ok () x' ∧ Chg (· = n) x x' ∧ TabMid w n k x' := by
  obtain ⟨hb, hs, l, hA, hL⟩ := h
  have e : (u8s (mixB k)).toArray = #[.int .u8 (twice k), .int .u8 k, .int .u8 k, .int .u8 (mul k 3)] := by
    simp [u8s, u8, mixB, byte_toNat (@twice_lt k), byte_toNat hk, byte_toNat (@mul_lt k 3 hk)]
  have hr := run_storeAt_at (P := Try.prog) (off := 512 + 4 * k) hA (size102 (l := mixB k) rfl) (by rw [hL.1]; show 512 + 4 * k + 4 ≤ 2560; omega)
  rw [e] at hr
  exact ⟨_, hr, Chg.setRow (C := (· = n)) (Chg.refl _ x) (fun _ => rfl) _, below_setRow hb hn _, by simpa using hs, l, hL, hA.setRow _⟩
theorem undo_store {w : World} {n k : Nat} {x : World} (hn : n ≤ n) (h : TabMid w n k x) (hk : k < 256) :
    ∃ x', (Instr.storeAt 102 (.pointer (some ⟨n, 1536 + 4 * k, none⟩)) (.agg #[.int .u8 (mul k 14), .int .u8 (mul k 9), .int .u8 (mul k 13), .int .u8 (mul k 11)])).run Try.prog x = .ok () x' ∧ Chg (· = n) x x' ∧ TabSt w n (k + 1) x' := by
  obtain ⟨hb, hs, l, hL, hA⟩ := h
  have e : (u8s (undoB k)).toArray = #[.int .u8 (mul k 14), .int .u8 (mul k 9), .int .u8 (mul k 13), .int .u8 (mul k 11)] := by
    simp [u8s, u8, undoB, byte_toNat (mul_lt hk)]
  have hl : (splice l (512 + 4 * k) (mixB k)).length = 2560 := by rw [length_splice _ _ _ (by rw [hL.1]; show 512 + 4 * k + 4 ≤ 2560; omega), hL.1]
  have hr := run_storeAt_at (P := Try.prog) (off := 1536 + 4 * k) hA (size102 (l := undoB k) rfl) (by rw [hl]; show 1536 + 4 * k + 4 ≤ 2560; omega)
  rw [e] at hr
  exact ⟨_, hr, Chg.setRow (C := (· = n)) (Chg.refl _ x) (fun _ => rfl) _, below_setRow hb hn _, by simpa using hs, _, hA.setRow _, tabL_step hk hL⟩

set_option maxRecDepth 100000 in
set_option maxHeartbeats 2000000 in
theorem made_ok (w : World) : Calls Try.prog 59 #[] w fun e w' => ∃ b, e = .returned (.pointer (some ⟨b, 0, none⟩)) ∧ w.heap.size ≤ b ∧ Tabs w' b 256 ∧ Below w.heap.size w w' := by
  obtain ⟨n, hn⟩ : ∃ n, n = w.heap.size := ⟨_, rfl⟩
  have HN := Lib.hid hn
  go_enter Try.func59, Try.ntmps59
  go_wp2_with (go_at_call 68; fail)
  rw [← HN.out]
  clear hn
  refine (tables_ok _).mono ?_
  rintro e w1 ⟨rfl, hb⟩
  have hT0 := Lib.hid tabL_zero
  have hBl := @sbL_length 255
  have hCl := @bkL_length 256
  generalize sbL 255 = B at *
  generalize bkL 256 = C at *
  obtain ⟨Z, hZ⟩ : ∃ Z, Z = List.replicate 2560 (0 : UInt8) := ⟨_, rfl⟩
  rw [← hZ] at hT0
  have hZl : Z.length = 2560 := by rw [hZ, List.length_replicate]
  have hsz : n < (w.alloc (.cells Try.zeroCells105 105)).heap.size := by simp [HN.out]
  have ha : Arr w1 n 105 Z := by
    rw [hZ]
    refine Arr.of zero105 ((hb.block n hsz).trans ?_)
    rw [HN.out]
    exact heap_alloc_new w _
  have hbw : Below n w w1 := ((Below.refl _ _).alloc (Nat.le_of_eq HN.out) _).trans (hb.mono (by omega))
  have hs1 := run_storeAt_at (P := Try.prog) (off := 0) ha (size101 hBl) (by omega)
  have ha1 := ha.setRow (splice Z 0 B)
  have hs2 := run_storeAt_at (P := Try.prog) (off := 256) ha1 (size101 hCl) (by rw [length_splice _ _ _ (by omega)]; omega)
  have ha2 := ha1.setRow (splice (splice Z 0 B) 256 C)
  rw [setRow_setRow] at ha2 hs2
  obtain ⟨w2, hw2⟩ : ∃ w2, w2 = w1.setRow n (u8s (splice (splice Z 0 B) 256 C)).toArray := ⟨_, rfl⟩
  rw [← hw2] at ha2 hs2
  have hT := Lib.hid (show Tabs w2 n 0 from ⟨_, ha2, hT0.out⟩)
  have hsz2 := Lib.hid (show n < w2.heap.size by rw [hw2, setRow_size]; exact Nat.lt_of_lt_of_le hsz hb.size)
  have hb2 := Lib.hid (show Below n w w2 by rw [hw2]; exact below_setRow hbw (Nat.le_refl n) _)
  clear hw2 hT0 hBl hCl hZ hZl
  clear hbw ha ha1 ha2 hsz hb
  replace hs1 := Lib.hid hs1
  replace hs2 := Lib.hid hs2
  go_wp2_with (first | (refine wpList_store rfl 101 _ _ rfl _ _ rfl rfl hs1.out ?_) | (refine wpList_store rfl 101 _ _ rfl _ _ rfl rfl hs2.out ?_))
  clear hs1 hs2
  go_loopw [16] (fun i wr => ∃ k : Nat, k ≤ 256 ∧ i = .int .i64 k ∧ TabSt w n k wr)
    (fun i _ => 256 - (intOf i).toNat)
  case atStart => exact ⟨0, by omega, rfl, hb2.out, hsz2.out, hT.out⟩
  case round =>
    clear hT hsz2 hb2
    obtain ⟨k, hk, rfl, hst⟩ := hrel
    replace hst := Lib.hid hst
    by_cases hlt : k < 256
    · go_wp2
      refine RA.region (fun a b => Chg (· = n) a b) (· = ·) [1, 1, 1, 4, 1, 1, 1, 4, 1, 1, 1, 1, 4] (fun _ _ _ => True) (TabSt w n k) (by kernel_rfl) (Chg.refl _ _) (fun _ _ h => h ▸ Chg.refl _ _) (fun _ _ _ h k => h.trans k) (fun _ _ h k => h ▸ k) (hst.out.drew) (by kernel_rfl) ?_
      intro cx
      repeat (first | refine RA.mv (by rfl) (by rfl) (by rfl) ?_ | refine RA.as (by rfl) (by rfl) (by rfl) ?_ | refine RA.pt (by rfl) (by rfl) (by rfl) (by rfl) ?_ | refine RA.pf (by rfl) (by rfl) (by rfl) (by rfl) ?_)
      refine RA.kc (P := Try.prog) [.int .u8 (k : Int)] (.int .u8 (twice k)) (TabSt w n k) (fun _ _ => by go_simp) (by rfl) (by rfl) (by rfl) (by kernel_rfl) (fun _ _ h k => h ▸ k) rfl (fun w3 hp hH => (twice_ok k hlt _).mono (by rintro e w4 ⟨rfl, rfl⟩; exact ⟨rfl, Chg.refl _ _, hH⟩)) ?_
      repeat (first | refine RA.mv (by rfl) (by rfl) (by rfl) ?_ | refine RA.as (by rfl) (by rfl) (by rfl) ?_ | refine RA.pt (by rfl) (by rfl) (by rfl) (by rfl) ?_ | refine RA.pf (by rfl) (by rfl) (by rfl) (by rfl) ?_)
      refine RA.kc (P := Try.prog) [.int .u8 (k : Int), .int .u8 3] (.int .u8 (mul k 3)) (TabSt w n k) (fun _ _ => by go_simp) (by rfl) (by rfl) (by rfl) (by kernel_rfl) (fun _ _ h k => h ▸ k) rfl (fun w3 hp hH => (mul_ok k 3 hlt (by omega) _).mono (by rintro e w4 ⟨rfl, rfl⟩; exact ⟨rfl, Chg.refl _ _, hH⟩)) ?_
      refine RA.v Try.prog (x := .agg #[.int .u8 (twice k), .int .u8 k, .int .u8 k, .int .u8 (mul k 3)]) (by rfl) (by rfl) (by rfl) (fun w hp => by go_simp) ?_
      simp only [RA.add]
      refine RA.nc (by rfl) (by rfl) (by rfl) ?_
      refine RA.fa (by rfl) (by rfl) (by rfl) (y' := .pointer (some ⟨n, 512, none⟩)) (fun w3 hp => by show (Instr.fieldAt _ _ _).run Try.prog w3 = _; go_simp) ?_
      refine RA.ia (by rfl) (by rfl) (by rfl) (by rfl) (y' := .pointer (some ⟨n, 512 + 4 * k, none⟩)) (fun w3 hp => by show (Instr.indexAt _ _ _).run Try.prog w3 = _; go_simp) ?_
      refine RA.st (TabMid w n k) (by rfl) (by rfl) (by kernel_rfl) (fun _ _ h k => h ▸ k) (fun w3 hp hH => ?_) ?_
      · obtain ⟨x', h1, h2, h3⟩ := mix_store (Nat.le_refl n) hH hlt
        exact ⟨x', RA.ex_store (by rfl) (by rfl) h1, h2, h3⟩
      refine RA.RA.done rfl (fun w3 hR hF hH => ?_)
      clear hF
      simp only [RA.put, List.foldr_cons, List.foldr_nil, cx, Act.put, List.setIfInBounds_toArray, List.set_cons_succ, List.set_cons_zero]
      replace hH := Lib.hid hH
      clear hst
      go_wp2
      refine RA.region (fun a b => Chg (· = n) a b) (· = ·) [1, 1, 1, 4, 1, 4, 1, 4, 1, 4, 1, 1, 1, 1, 4] (fun _ _ _ => True) (TabMid w n k) (by kernel_rfl) (Chg.refl _ _) (fun _ _ h => h ▸ Chg.refl _ _) (fun _ _ _ h k => h.trans k) (fun _ _ h k => h ▸ k) (hH.out.drew) (by kernel_rfl) ?_
      intro cx
      repeat (first | refine RA.mv (by rfl) (by rfl) (by rfl) ?_ | refine RA.as (by rfl) (by rfl) (by rfl) ?_ | refine RA.pt (by rfl) (by rfl) (by rfl) (by rfl) ?_ | refine RA.pf (by rfl) (by rfl) (by rfl) (by rfl) ?_)
      refine RA.kc (P := Try.prog) [.int .u8 (k : Int), .int .u8 14] (.int .u8 (mul k 14)) (TabMid w n k) (fun _ _ => by go_simp) (by rfl) (by rfl) (by rfl) (by kernel_rfl) (fun _ _ h k => h ▸ k) rfl (fun w3 hp hH => (mul_ok k 14 hlt (by omega) _).mono (by rintro e w4 ⟨rfl, rfl⟩; exact ⟨rfl, Chg.refl _ _, hH⟩)) ?_
      repeat (first | refine RA.mv (by rfl) (by rfl) (by rfl) ?_ | refine RA.as (by rfl) (by rfl) (by rfl) ?_ | refine RA.pt (by rfl) (by rfl) (by rfl) (by rfl) ?_ | refine RA.pf (by rfl) (by rfl) (by rfl) (by rfl) ?_)
      refine RA.kc (P := Try.prog) [.int .u8 (k : Int), .int .u8 9] (.int .u8 (mul k 9)) (TabMid w n k) (fun _ _ => by go_simp) (by rfl) (by rfl) (by rfl) (by kernel_rfl) (fun _ _ h k => h ▸ k) rfl (fun w3 hp hH => (mul_ok k 9 hlt (by omega) _).mono (by rintro e w4 ⟨rfl, rfl⟩; exact ⟨rfl, Chg.refl _ _, hH⟩)) ?_
      repeat (first | refine RA.mv (by rfl) (by rfl) (by rfl) ?_ | refine RA.as (by rfl) (by rfl) (by rfl) ?_ | refine RA.pt (by rfl) (by rfl) (by rfl) (by rfl) ?_ | refine RA.pf (by rfl) (by rfl) (by rfl) (by rfl) ?_)
      refine RA.kc (P := Try.prog) [.int .u8 (k : Int), .int .u8 13] (.int .u8 (mul k 13)) (TabMid w n k) (fun _ _ => by go_simp) (by rfl) (by rfl) (by rfl) (by kernel_rfl) (fun _ _ h k => h ▸ k) rfl (fun w3 hp hH => (mul_ok k 13 hlt (by omega) _).mono (by rintro e w4 ⟨rfl, rfl⟩; exact ⟨rfl, Chg.refl _ _, hH⟩)) ?_
      repeat (first | refine RA.mv (by rfl) (by rfl) (by rfl) ?_ | refine RA.as (by rfl) (by rfl) (by rfl) ?_ | refine RA.pt (by rfl) (by rfl) (by rfl) (by rfl) ?_ | refine RA.pf (by rfl) (by rfl) (by rfl) (by rfl) ?_)
      refine RA.kc (P := Try.prog) [.int .u8 (k : Int), .int .u8 11] (.int .u8 (mul k 11)) (TabMid w n k) (fun _ _ => by go_simp) (by rfl) (by rfl) (by rfl) (by kernel_rfl) (fun _ _ h k => h ▸ k) rfl (fun w3 hp hH => (mul_ok k 11 hlt (by omega) _).mono (by rintro e w4 ⟨rfl, rfl⟩; exact ⟨rfl, Chg.refl _ _, hH⟩)) ?_
      refine RA.v Try.prog (x := .agg #[.int .u8 (mul k 14), .int .u8 (mul k 9), .int .u8 (mul k 13), .int .u8 (mul k 11)]) (by rfl) (by rfl) (by rfl) (fun w hp => by go_simp) ?_
      simp only [RA.add]
      refine RA.nc (by rfl) (by rfl) (by rfl) ?_
      refine RA.fa (by rfl) (by rfl) (by rfl) (y' := .pointer (some ⟨n, 1536, none⟩)) (fun w3 hp => by show (Instr.fieldAt _ _ _).run Try.prog w3 = _; go_simp) ?_
      refine RA.ia (by rfl) (by rfl) (by rfl) (by rfl) (y' := .pointer (some ⟨n, 1536 + 4 * k, none⟩)) (fun w3 hp => by show (Instr.indexAt _ _ _).run Try.prog w3 = _; go_simp) ?_
      refine RA.st (TabSt w n (k + 1)) (by rfl) (by rfl) (by kernel_rfl) (fun _ _ h k => h ▸ k) (fun w3 hp hH => ?_) ?_
      · obtain ⟨x', h1, h2, h3⟩ := undo_store (Nat.le_refl n) hH hlt
        exact ⟨x', RA.ex_store (by rfl) (by rfl) h1, h2, h3⟩
      clear hH
      refine RA.RA.done rfl (fun w4 hR hF hH => ?_)
      clear hF
      simp only [RA.put, List.foldr_cons, List.foldr_nil, cx, Act.put, List.setIfInBounds_toArray, List.set_cons_succ, List.set_cons_zero]
      replace hH := Lib.hid hH
      go_wp2
      go_roundw
      case rel => exact ⟨k + 1, by omega, by go_num, hH.out⟩
      case measure => simp [intOf]; omega
    · go_wp2
      go_ret
      obtain ⟨hb, _, hT⟩ := hst.out
      have hk2 : k = 256 := by omega
      subst hk2
      exact ⟨n, rfl, Nat.le_of_eq HN.out.symm, hT, HN.out ▸ hb⟩

/-
  stretch.block. No condition beyond what each theorem names.
-/
import Derived.Test.YtbgfdbidbjlaaaaBckTag
namespace Go.Proofs.Ytbgfdbidbjlaaaa.Fd
open Go Go.RowKit K

/-- a number in four bytes -/
def be4 (i : Nat) : List UInt8 := [byte (i / 16777216 % 256), byte (i / 65536 % 256), byte (i / 256 % 256), byte (i % 256)]
theorem be4_length {i : Nat} : (be4 i).length = 4 := rfl
def blkU (key salt : List UInt8) (i : Nat) : Nat → List UInt8
  | 0 => tagL key [salt, be4 i]
  | k + 1 => tagL key [blkU key salt i k]
theorem blkU_zero {key salt : List UInt8} {i : Nat} : blkU key salt i 0 = tagL key [salt, be4 i] := rfl
theorem blkU_succ {key salt : List UInt8} {i k : Nat} : blkU key salt i (k + 1) = tagL key [blkU key salt i k] := rfl
theorem blkU_length {key salt : List UInt8} {i k : Nat} : (blkU key salt i k).length = 32 := by
  cases k <;> exact tagL_length
def xorH (a b : List UInt8) : Nat → List UInt8
  | 0 => a
  | k + 1 => (xorH a b k).set k (byte ((a.getD k 0).toNat ^^^ (b.getD k 0).toNat))
theorem xorH_zero {a b : List UInt8} : xorH a b 0 = a := rfl
theorem xorH_succ {a b : List UInt8} {k : Nat} : xorH a b (k + 1) = (xorH a b k).set k (byte ((a.getD k 0).toNat ^^^ (b.getD k 0).toNat)) := rfl
theorem xorH_length {a b : List UInt8} {k : Nat} : (xorH a b k).length = a.length := by
  induction k with
  | zero => rfl
  | succ k ih => rw [xorH_succ, List.length_set, ih]
theorem xorH_get {a b : List UInt8} {k j : Nat} (h : k ≤ j) : (xorH a b k).getD j 0 = a.getD j 0 := by
  induction k with
  | zero => rfl
  | succ k ih =>
    rw [xorH_succ, List.getD_eq_getElem?_getD, List.getElem?_set_ne (by omega), ← List.getD_eq_getElem?_getD]
    exact ih (by omega)
def blkT (key salt : List UInt8) (i : Nat) : Nat → List UInt8
  | 0 => blkU key salt i 0
  | k + 1 => xorH (blkT key salt i k) (blkU key salt i (k + 1)) 32
theorem blkT_zero {key salt : List UInt8} {i : Nat} : blkT key salt i 0 = blkU key salt i 0 := rfl
theorem blkT_succ {key salt : List UInt8} {i k : Nat} : blkT key salt i (k + 1) = xorH (blkT key salt i k) (blkU key salt i (k + 1)) 32 := rfl
theorem blkT_length {key salt : List UInt8} {i k : Nat} : (blkT key salt i k).length = 32 := by
  induction k with
  | zero => exact blkU_length
  | succ k ih => rw [blkT_succ, xorH_length, ih]
attribute [irreducible] xorH blkU blkT

/-- the result's box n, the value at hand in g, the sum in h -/
structure BlkSt (w : World) (n g h : Nat) (U T : List UInt8) (x : World) : Prop where
  below : Below n w x
  size : n ≤ x.heap.size
  ng : n < g
  gh : g < h
  out : Arr x n 85 (List.replicate 32 0)
  u : Arr x g 85 U
  t : Arr x h 85 T
theorem BlkSt.after {w : World} {n g h : Nat} {U T : List UInt8} {x y : World} (s : BlkSt w n g h U T x) (hb : Below x.heap.size x y) : BlkSt w n g h U T y :=
  ⟨s.below.trans (hb.mono s.size), Nat.le_trans s.size hb.size, s.ng, s.gh, s.out.keep (hb.block n (heap_lt s.out)), s.u.keep (hb.block g (heap_lt s.u)), s.t.keep (hb.block h (heap_lt s.t))⟩
theorem BlkSt.putU {w : World} {n g h : Nat} {U T : List UInt8} {x : World} (s : BlkSt w n g h U T x) (V : List UInt8) : BlkSt w n g h V T (x.setRow g (u8s V).toArray) :=
  ⟨below_setRow s.below (by have := s.ng; omega) _, by simpa [World.setRow] using s.size, s.ng, s.gh, s.out.keep (setRow_other _ _ _ _ (by have := s.ng; omega)), s.u.setRow _, s.t.keep (setRow_other _ _ _ _ (by have := s.gh; omega))⟩
theorem BlkSt.putT {w : World} {n g h : Nat} {U T : List UInt8} {x : World} (s : BlkSt w n g h U T x) (j : Nat) (c : UInt8) : BlkSt w n g h U (T.set j c) (x.setCell ⟨h, j, none⟩ (.int .u8 c.toNat)) :=
  ⟨s.below.setCell (p := ⟨h, j, none⟩) (by have := s.ng; have := s.gh; simp; omega) _, by simpa using s.size, s.ng, s.gh, s.out.keep (setCell_heap_ne _ _ _ (by have := s.ng; have := s.gh; simp; omega)), s.u.keep (setCell_heap_ne _ _ _ (by have := s.gh; simp; omega)), s.t.set j c⟩

theorem hash_store' {w : World} {b : Nat} {o l : List UInt8} (h : Arr w b 85 o) (ho : o.length = 32) (hl : l.length = 32) :
    (Instr.storeAt 85 (.pointer (some ⟨b, 0, none⟩)) (.agg (u8s l).toArray)).run Try.prog w = .ok () (w.setRow b (u8s l).toArray) := by
  simp only [Instr.storeAt, Instr.sureAddr, Sem.run_bind, Sem.run_pure, Result.andThen]
  rw [run_storeVar_row w b 85 85 _ _ h (by rw [sizeHash]; simp [u8s_length, hl]) (by simp [u8s_length, hl, ho]) (u8s_all l)]
theorem hash_load {w : World} {b : Nat} {l : List UInt8} (h : Arr w b 85 l) (hl : l.length = 32) :
    (Instr.loadAt 85 (.pointer (some ⟨b, 0, none⟩))).run Try.prog w = .ok (.agg (u8s l).toArray) w :=
  run_loadAt_arr (P := Try.prog) h Try.underlying85 (by rw [sizeHash, hl])

set_option maxRecDepth 100000 in
set_option maxHeartbeats 4000000 in
theorem block_ok {w : World} {F : Nat → Prop} {p s : Nat} {iv ov : Value} {key : List UInt8} (hk : KeyedAt w F p s iv ov key) {S : Nat → Prop} {sv : Value} {salt : List UInt8} (hs : Bytes w S sv salt) (hsl : salt.length ≤ 100000) (N i : Nat) (hN : N ≤ 1000000000) (hN1 : 1 ≤ N) (hi : i ≤ 1000000) :
    Calls Try.prog 41 #[.pointer (some ⟨p, 0, none⟩), sv, .int .i64 N, .int .i64 i] w fun e w' => e = .returned (.agg (u8s (blkT key salt i (N - 1))).toArray) ∧ Below w.heap.size w w' := by
  obtain ⟨n, hn⟩ : ∃ n, n = w.heap.size := ⟨_, rfl⟩
  have HN := Lib.hid hn
  obtain ⟨C0, hC0⟩ : ∃ c, c = byte (i / 16777216 % 256) := ⟨_, rfl⟩
  obtain ⟨C1, hC1⟩ : ∃ c, c = byte (i / 65536 % 256) := ⟨_, rfl⟩
  obtain ⟨C2, hC2⟩ : ∃ c, c = byte (i / 256 % 256) := ⟨_, rfl⟩
  obtain ⟨C3, hC3⟩ : ∃ c, c = byte (i % 256) := ⟨_, rfl⟩
  have x0 : (i : Int) / 16777216 = (C0.toNat : Int) := by rw [hC0, byte_toNat (by omega)]; omega
  have x1 : (i : Int) / 65536 = (C1.toNat : Int) := by rw [hC1, byte_toNat (by omega)]; omega
  have x2 : (i : Int) / 256 % 256 = C2.toNat := by rw [hC2, byte_toNat (by omega)]; simp
  have x3 : (i : Int) % 256 = C3.toNat := by rw [hC3, byte_toNat (by omega)]; simp
  have hbe : be4 i = [C0, C1, C2, C3] := by rw [be4, ← hC0, ← hC1, ← hC2, ← hC3]
  obtain ⟨sa, sc, rfl, hs1, hs2⟩ := hs.shape
  unfold maxLen at hs2
  obtain ⟨U0, hU0⟩ : ∃ u, u = blkU key salt i 0 := ⟨_, rfl⟩
  have hU0l : U0.length = 32 := hU0 ▸ blkU_length
  have htag : ∀ (w3 : World) (S' : Nat → Prop) (pv : Value) (parts : List (List UInt8)), Below n w w3 → n ≤ w3.heap.size → PartsAt w3 S' pv parts → 0 < parts.length → parts.length ≤ 7 → (∀ x ∈ parts, x.length ≤ 100000) →
      Calls Try.prog 51 #[.pointer (some ⟨p, 0, none⟩), pv] w3 fun e w' => e = .returned (.agg (u8s (tagL key parts)).toArray) ∧ Below w3.heap.size w3 w' := fun w3 S' pv parts h3 h4 h5 h6 h7 h8 =>
    tag_ok (hk.keep (HN.out ▸ h4) (fun b _ hb => h3.block b (by have := HN.out; omega))) h5 h6 h7 h8
  have hsb : ∀ w3, Below n w w3 → n ≤ w3.heap.size → Bytes w3 (fun _ => True) (.slice sa salt.length sc) salt := fun w3 h3 h4 =>
    (hs.keep (w' := w3) (HN.out ▸ h4) (fun b _ hb => h3.block b (by have := HN.out; omega))).mono (S' := fun _ => True) (fun _ _ _ => trivial)
  obtain ⟨sl, hsl'⟩ : ∃ l, l = salt.length := ⟨_, rfl⟩
  rw [← hsl'] at hs1 hsb hsl ⊢
  obtain ⟨wA, hwA⟩ : ∃ x, x = w.alloc (.cells (u8s (List.replicate 32 0)).toArray 85) := ⟨_, rfl⟩
  obtain ⟨wB, hwB⟩ : ∃ x, x = wA.alloc (.cells #[.int .u8 C0.toNat, .int .u8 C1.toNat, .int .u8 C2.toNat, .int .u8 C3.toNat] 5) := ⟨_, rfl⟩
  obtain ⟨wC, hwC⟩ : ∃ x, x = wB.alloc (.cells #[.slice sa sl sc, .slice (some ⟨n + 1, 0, none⟩) 4 4] 22) := ⟨_, rfl⟩
  have sA : wA.heap.size = n + 1 := by rw [hwA, hn]; simp
  have sB : wB.heap.size = n + 2 := by rw [hwB]; simp [sA]
  have sC : wC.heap.size = n + 3 := by rw [hwC]; simp [sB]
  have bA : Below n w wA := by rw [hwA, hn]; exact (Below.refl _ _).alloc (Nat.le_refl _) _
  have bB : Below (n + 1) wA wB := by rw [hwB, ← sA]; exact (Below.refl _ _).alloc (Nat.le_refl _) _
  have bC : Below (n + 2) wB wC := by rw [hwC, ← sB]; exact (Below.refl _ _).alloc (Nat.le_refl _) _
  have xA : Arr wA n 85 (List.replicate 32 0) := by rw [hwA, hn]; exact heap_alloc_new w _
  have xC : Arr wC n 85 (List.replicate 32 0) := (xA.keep (bB.block n (by omega))).keep (bC.block n (by omega))
  have xB : Arr wB (n + 1) 5 [C0, C1, C2, C3] := by rw [hwB, ← sA]; exact heap_alloc_new wA _
  have bW : Below n w wC := (bA.trans (bB.mono (by omega))).trans (bC.mono (by omega))
  have hpart : PartsAt wC (fun _ => True) (.slice (some ⟨n + 2, 0, none⟩) 2 2) [salt, be4 i] := by
    have hc := lit_cells wB #[.slice sa sl sc, .slice (some ⟨n + 1, 0, none⟩) 4 4] 22 2 1 rfl (by unfold maxLen; omega)
    rw [← hwC, sB] at hc
    have o2 := arr_bytes (xB.keep (bC.block (n + 1) (by omega))) (by simp [maxLen])
    refine PartsAt.cons (vs := [.slice (some ⟨n + 1, 0, none⟩) 4 4]) hc rfl (hsb _ bW (by omega)) (fun j v hv => ?_)
    cases j with
    | zero => simp at hv; subst hv; rw [hbe]; exact o2
    | succ j => simp at hv
  have hcall1 := htag wC _ _ _ bW (by omega) hpart (by simp) (by simp) (by intro x hx; simp at hx; rcases hx with rfl | rfl; exact hsl' ▸ hsl; rw [be4_length]; omega)
  rw [← blkU_zero, ← hU0] at hcall1
  replace hcall1 := Lib.hid hcall1
  replace htag := Lib.hid htag
  replace xC := Lib.hid xC
  replace bW := Lib.hid bW
  replace hU0 := Lib.hid hU0
  have sB' := sB
  have sA' := sA
  replace hsl' := Lib.hid hsl'
  clear hsb hpart xB xA bA bB bC hk hs hbe hC0 hC1 hC2 hC3 sB sA
  subst hwA
  subst hwB
  subst hwC
  go_enter Try.func41, Try.ntmps41
  go_wp2_with fail
  rw [← hn]
  simp only [x2, x3]
  refine hcall1.out.mono ?_
  rintro e w1 ⟨rfl, hb1⟩
  obtain ⟨g, hg⟩ : ∃ g, g = w1.heap.size := ⟨_, rfl⟩
  have hgn : n < g := by have := hb1.size; omega
  have y1 : Arr w1 n 85 (List.replicate 32 0) := xC.out.keep (hb1.block n (by omega))
  have bW1 : Below n w w1 := bW.out.trans (hb1.mono (by omega))
  obtain ⟨W2, hW2⟩ : ∃ x, x = w1.alloc (.cells (u8s (List.replicate 32 0)).toArray 85) := ⟨_, rfl⟩
  have s2 : W2.heap.size = g + 1 := by rw [hW2, hg]; simp
  have b2 : Below g w1 W2 := by rw [hW2, hg]; exact (Below.refl _ _).alloc (Nat.le_refl _) _
  have a2 : Arr W2 g 85 (List.replicate 32 0) := by rw [hW2, hg]; exact heap_alloc_new w1 _
  have t2 := hash_store a2 hU0l
  obtain ⟨W3, hW3⟩ : ∃ x, x = W2.setRow g (u8s U0).toArray := ⟨_, rfl⟩
  rw [← hW3] at t2
  have a3 : Arr W3 g 85 U0 := hW3 ▸ a2.setRow _
  have s3 : W3.heap.size = g + 1 := by rw [hW3]; simpa [World.setRow] using s2
  have b3 : Below g w1 W3 := hW3 ▸ below_setRow b2 (Nat.le_refl _) _
  have t3 := hash_load a3 hU0l
  obtain ⟨W4, hW4⟩ : ∃ x, x = W3.alloc (.cells (u8s (List.replicate 32 0)).toArray 85) := ⟨_, rfl⟩
  have b4 : Below (g + 1) W3 W4 := by rw [hW4, ← s3]; exact (Below.refl _ _).alloc (Nat.le_refl _) _
  have a4 : Arr W4 (g + 1) 85 (List.replicate 32 0) := by rw [hW4, ← s3]; exact heap_alloc_new W3 _
  have s4 : W4.heap.size = g + 2 := by rw [hW4]; simp [s3]
  have t4 := hash_store a4 hU0l
  obtain ⟨W5, hW5⟩ : ∃ x, x = W4.setRow (g + 1) (u8s U0).toArray := ⟨_, rfl⟩
  rw [← hW5] at t4
  have b5 : Below (g + 1) W3 W5 := hW5 ▸ below_setRow b4 (Nat.le_refl _) _
  have hSt : BlkSt w n g (g + 1) U0 U0 W5 := by
    refine ⟨bW1.trans ((b3.trans (b5.mono (by omega))).mono (by omega)), ?_, hgn, by omega, ?_, a3.keep (b5.block g (by omega)), hW5 ▸ a4.setRow _⟩
    · rw [hW5]; simp [World.setRow, s4]; omega
    · exact (y1.keep (b3.block n (by omega))).keep (b5.block n (by omega))
  have hs4' : W3.heap.size = g + 1 := s3
  subst hW2
  subst hW4
  rw [hg] at t2 t3
  replace hW3 := Lib.hid hW3
  replace hW5 := Lib.hid hW5
  replace hg := Lib.hid hg
  replace t2 := Lib.hid t2
  replace t3 := Lib.hid t3
  replace t4 := Lib.hid t4
  replace hSt := Lib.hid hSt
  clear b5 s4 a4 b4 b3 s3 a3 a2 b2 s2 y1 bW1 hb1 xC bW hcall1
  go_wp2_with (first | (refine wpList_store rfl 85 _ _ rfl _ _ rfl rfl t2.out ?_) | (refine wpList_store rfl 85 _ _ rfl _ _ rfl rfl t4.out ?_) | (refine wpList_load rfl 85 _ rfl _ _ rfl t3.out ?_))
  try rw [← HN.out]
  try rw [← hg.out]
  clear t2 t3 t4 hW3 hW5 hs4' sB' sC hn
  obtain ⟨M, hM⟩ : ∃ m, m = N - 1 := ⟨_, rfl⟩
  have hNM : (N : Int) - 1 = M := by omega
  simp only [hNM]
  replace hM := Lib.hid hM
  rw [hU0.out] at hSt
  clear hU0
  go_loopw [31] (fun i' wr => ∃ k : Nat, k ≤ M ∧ i' = .int .i64 k ∧ Hid (BlkSt w n g (g + 1) (blkU key salt i k) (blkT key salt i k) wr))
    (fun i' _ => M - (intOf i').toNat)
  case atStart => exact ⟨0, by omega, rfl, by rw [blkT_zero]; exact hSt.out⟩
  case round =>
    clear hSt
    obtain ⟨k, hk, rfl, hSt⟩ := hrel
    by_cases hlt : k < M
    · obtain ⟨U, hU⟩ : ∃ u, u = blkU key salt i k := ⟨_, rfl⟩
      obtain ⟨T, hT⟩ : ∃ u, u = blkT key salt i k := ⟨_, rfl⟩
      obtain ⟨V, hV⟩ : ∃ u, u = blkU key salt i (k + 1) := ⟨_, rfl⟩
      have hUl : U.length = 32 := hU ▸ blkU_length
      have hTl : T.length = 32 := hT ▸ blkT_length
      have hVl : V.length = 32 := hV ▸ blkU_length
      have hT1 : blkT key salt i (k + 1) = xorH T V 32 := by rw [blkT_succ, ← hT, ← hV]
      rw [← hU, ← hT] at hSt
      have hsr := hSt.out.size
      have hx : Chg No wr (wr.alloc (.cells #[.slice (some ⟨g, 0, none⟩) 32 32] 22)) := (Chg.refl _ _).alloc _
      have hS2 := hSt.out.after (Chg.no hx)
      have hpart : PartsAt (wr.alloc (.cells #[.slice (some ⟨g, 0, none⟩) 32 32] 22)) (fun _ => True) (.slice (some ⟨wr.heap.size, 0, none⟩) 1 1) [U] := by
        have hc := lit_cells wr #[.slice (some ⟨g, 0, none⟩) 32 32] 22 1 1 rfl (by unfold maxLen; omega)
        have o2 := arr_bytes hS2.u (by rw [hUl]; unfold maxLen; omega)
        rw [hUl] at o2
        exact PartsAt.cons (vs := []) hc rfl o2 (fun j v hv => by simp at hv)
      have hcall := htag.out _ _ _ _ hS2.below hS2.size hpart (by simp) (by simp) (by intro x hx; simp at hx; rw [hx, hUl]; omega)
      rw [hU, ← blkU_succ, ← hV] at hcall
      replace hcall := Lib.hid hcall
      replace hS2 := Lib.hid hS2
      replace hU := Lib.hid hU
      replace hT := Lib.hid hT
      replace hV := Lib.hid hV
      replace hT1 := Lib.hid hT1
      clear hpart hx hSt
      go_wp2_with fail
      refine hcall.out.mono ?_
      rintro e w3 ⟨rfl, hb3⟩
      have hS3 := hS2.out.after hb3
      have hst := Lib.hid (hash_store' hS3.u hUl hVl)
      replace hS3 := Lib.hid (hS3.putU V)
      clear hS2 hcall hb3
      go_wp2_with (first | (refine wpList_store rfl 85 _ _ rfl _ _ rfl rfl hst.out ?_))
      clear hst
      go_loopw [37] (fun j' wr => ∃ j : Nat, j ≤ 32 ∧ j' = .int .i64 j ∧ Hid (BlkSt w n g (g + 1) V (xorH T V j) wr))
        (fun j' _ => 32 - (intOf j').toNat)
      case atStart => exact ⟨0, by omega, rfl, by rw [xorH_zero]; exact hS3.out⟩
      case round =>
        clear hS3
        obtain ⟨j, hj, rfl, hSt⟩ := hrel
        by_cases hlt2 : j < 32
        · have hdr : ∀ w3, Chg No wr.drew w3 → Chg No wr w3 := fun w3 h => ⟨h.os, h.tape, h.output, h.size, h.block⟩
          obtain ⟨a, ha⟩ : ∃ a, a = (T.getD j 0).toNat := ⟨_, rfl⟩
          obtain ⟨b, hb⟩ : ∃ a, a = (V.getD j 0).toNat := ⟨_, rfl⟩
          have hal : a < 256 := ha ▸ UInt8.toNat_lt _
          have hbl : b < 256 := hb ▸ UInt8.toNat_lt _
          obtain ⟨c, hc⟩ : ∃ c, c = byte (a ^^^ b) := ⟨_, rfl⟩
          have xx : bits .xor .u8 (a : Int) (b : Int) = (c.toNat : Int) := by
            have h := u8_xor_nat a b hal hbl
            rw [hc, byte_toNat (xor8 hal hbl)]
            exact h
          have c1 := hSt.out.t.cell j (by rw [xorH_length, hTl]; exact hlt2)
          rw [xorH_get (Nat.le_refl j), ← ha] at c1
          have c2 := hSt.out.u.cell j (by rw [hVl]; exact hlt2)
          rw [← hb] at c2
          have l1 := heap_lt hSt.out.t
          have l2 := heap_lt hSt.out.u
          have hnx : xorH T V (j + 1) = (xorH T V j).set j c := by rw [xorH_succ, hc, ha, hb]
          replace c1 := Lib.hid c1
          replace c2 := Lib.hid c2
          replace hnx := Lib.hid hnx
          replace hdr := Lib.hid hdr
          replace hc := Lib.hid hc
          replace ha := Lib.hid ha
          replace hb := Lib.hid hb
          go_wp2
          refine RA.regionT (Chg No) (· = ·) [1, 1, 1, 1, 1, 1, 1, 1, 7] [8] (fun _ _ _ => True) (fun _ => True) (by kernel_rfl) (Chg.refl _ _) (fun _ _ h => h ▸ Chg.refl _ _) (fun _ _ _ h k => h.trans k) (fun _ _ h k => h ▸ k) (trivial) (by kernel_rfl) (by kernel_rfl) ?_
          intro cx
          repeat (first | refine RA.mv (by kernel_rfl) (by rfl) (by rfl) ?_ | refine RA.as (by kernel_rfl) (by rfl) (by rfl) ?_ | refine RA.nc (by kernel_rfl) (by rfl) (by rfl) ?_)
          refine RA.ia (by kernel_rfl) (by rfl) (by rfl) (by rfl) (y' := .pointer (some ⟨g + 1, j, none⟩)) (fun w3 hp => by show (Instr.indexAt _ _ _).run Try.prog w3 = _; go_simp) ?_
          refine RA.ld (by kernel_rfl) (by rfl) (by rfl) (y' := .int .u8 a) (fun w3 hp => by
            have h1 := ((hdr.out _ hp.1).cell (p := ⟨g + 1, j, none⟩) l1 id).trans c1.out
            show (Instr.loadAt _ _).run Try.prog w3 = _
            go_simp) ?_
          repeat (first | refine RA.mv (by kernel_rfl) (by rfl) (by rfl) ?_ | refine RA.as (by kernel_rfl) (by rfl) (by rfl) ?_ | refine RA.nc (by kernel_rfl) (by rfl) (by rfl) ?_)
          refine RA.ia (by kernel_rfl) (by rfl) (by rfl) (by rfl) (y' := .pointer (some ⟨g, j, none⟩)) (fun w3 hp => by show (Instr.indexAt _ _ _).run Try.prog w3 = _; go_simp) ?_
          refine RA.ld (by kernel_rfl) (by rfl) (by rfl) (y' := .int .u8 b) (fun w3 hp => by
            have h1 := ((hdr.out _ hp.1).cell (p := ⟨g, j, none⟩) l2 id).trans c2.out
            show (Instr.loadAt _ _).run Try.prog w3 = _
            go_simp) ?_
          refine RA.v Try.prog (x := .int .u8 c.toNat) (by kernel_rfl) (by rfl) (by rfl) (fun w hp => by go_simp) ?_
          simp only [RA.add]
          refine RA.ia (by kernel_rfl) (by rfl) (by rfl) (by rfl) (y' := .pointer (some ⟨g + 1, j, none⟩)) (fun w3 hp => by show (Instr.indexAt _ _ _).run Try.prog w3 = _; go_simp) ?_
          refine RA.stt (fun w4 => BlkSt w n g (g + 1) V (xorH T V (j + 1)) w4) (by kernel_rfl) (by rfl) (by kernel_rfl) (fun _ _ h k => h ▸ k) (fun w3 hp0 _ => by
            have hR := hdr.out _ (hp0.first (by kernel_rfl)).1
            have hS4 := hSt.out.after (Chg.no hR)
            have c3 := (hR.cell (p := ⟨g + 1, j, none⟩) l1 id).trans c1.out
            have f3 := hS4.t.frozen j
            refine ⟨w3.setCell ⟨g + 1, j, none⟩ (.int .u8 c.toNat), RA.ex_store (by rfl) (by rfl) ?_, hnx.out ▸ hS4.putT j c⟩
            clear hS4
            show (Instr.storeAt _ _ _).run Try.prog w3 = _
            go_simp) ?_
          refine RA.RA.doneT (fun w4 hH => ?_)
          simp only [RA.put, List.foldr_cons, List.foldr_nil, cx, Act.put, List.setIfInBounds_toArray, List.set_cons_succ, List.set_cons_zero]
          replace hH := Lib.hid hH
          clear hSt
          go_wp2
          go_roundw
          case rel => exact ⟨j + 1, by omega, by go_num, hH.out⟩
          case measure => simp [intOf]; omega
        · have hj32 : j = 32 := by omega
          rw [hj32, ← hT1.out, hV.out] at hSt
          clear hj32
          go_wp2
          go_roundw
          case rel => exact ⟨k + 1, by omega, by go_num, hSt.out⟩
          case measure => simp [intOf]; omega
    · have hkM : k = M := by omega
      rw [hkM] at hSt
      clear hkM
      have hld := Lib.hid (hash_load hSt.out.t blkT_length)
      have hst := Lib.hid (hash_store hSt.out.out (blkT_length (key := key) (salt := salt) (i := i) (k := M)))
      have hS4 := Lib.hid (hSt.out.out.setRow (blkT key salt i M))
      have hB4 := Lib.hid (below_setRow hSt.out.below (Nat.le_refl n) (u8s (blkT key salt i M)).toArray)
      obtain ⟨w6, hw6⟩ : ∃ x, x = wr.setRow n (u8s (blkT key salt i M)).toArray := ⟨_, rfl⟩
      rw [← hw6] at hst hS4 hB4
      clear hSt hw6
      go_wp2_with (first | (refine wpList_load rfl 85 _ rfl _ _ rfl hld.out ?_) | (refine wpList_store rfl 85 _ _ rfl _ _ rfl rfl hst.out ?_))
      refine bodyPost_ret (results_cell_row Try.results41 _ _ n 85 _ (0, 0) _ rfl hS4.out Try.underlying85 rfl (by rw [sizeHash]; simp [u8s_length, blkT_length])) rfl ⟨by rw [hM.out], HN.out ▸ hB4.out⟩
end Go.Proofs.Ytbgfdbidbjlaaaa.Fd

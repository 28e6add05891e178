/-
  sha.words. No condition beyond what each theorem names.
-/
import Derived.Test.YtbgfdbidbjlaaaaBckConstPk
namespace Go.Proofs.Ytbgfdbidbjlaaaa.Fd
open Go Go.RowKit K

def sg0 (x : Nat) : Nat := rot32 x 25 ^^^ rot32 x 14 ^^^ x / 8
def sg1 (y : Nat) : Nat := rot32 y 15 ^^^ rot32 y 13 ^^^ y / 1024
def wNext (l : List Nat) (i : Nat) : Nat := (((l.getD (i - 16) 0 + sg0 (l.getD (i - 15) 0)) % 4294967296 + l.getD (i - 7) 0) % 4294967296 + sg1 (l.getD (i - 2) 0)) % 4294967296
def wL (b : List UInt8) : Nat → List Nat
  | 0 => List.replicate 64 0
  | i + 1 => (wL b i).set i (if i < 16 then keyW b i else wNext (wL b i) i)
theorem wL_length {b : List UInt8} {i : Nat} : (wL b i).length = 64 := by
  cases i with
  | zero => exact List.length_replicate
  | succ i => exact List.length_set.trans wL_length
theorem wNext_lt {l : List Nat} {i : Nat} : wNext l i < 4294967296 := Nat.mod_lt _ (by omega)
theorem sg0_lt {x : Nat} (h : x < 4294967296) : sg0 x < 4294967296 := xor32 (xor32 (rot32_lt h) (rot32_lt h)) (by omega)
theorem sg1_lt {x : Nat} (h : x < 4294967296) : sg1 x < 4294967296 := xor32 (xor32 (rot32_lt h) (rot32_lt h)) (by omega)
theorem getD_set_lt {l : List Nat} {i j x B : Nat} (hl : ∀ j, l.getD j 0 < B) (hx : x < B) : (l.set i x).getD j 0 < B := by
  simp only [List.getD, List.getElem?_set]
  split
  · split
    · exact hx
    · have := hl i
      simp only [List.getD] at this
      simp
      omega
  · exact hl j
theorem wL_lt {b : List UInt8} : ∀ {i j : Nat}, (wL b i).getD j 0 < 4294967296 := by
  intro i
  induction i with
  | zero =>
    intro j
    simp only [wL, List.getD, List.getElem?_replicate]
    split <;> simp
  | succ i ih =>
    intro j
    refine getD_set_lt (fun j => ih) ?_
    split
    · exact keyW_lt
    · exact wNext_lt

set_option maxRecDepth 100000 in
set_option maxHeartbeats 8000000 in
theorem words_ok {w : World} {S : Nat → Prop} {v : Value} {b : List UInt8} (hb : Bytes w S v b) (hl : b.length = 64) :
    Calls Try.prog 65 #[v] w fun e w' => e = .returned (.agg (n32s (wL b 64)).toArray) ∧ Below w.heap.size w w' := by
  obtain ⟨n, hn⟩ : ∃ n, n = w.heap.size := ⟨_, rfl⟩
  have HN := Lib.hid hn
  have hc : Cells w S v 64 1 (u8s b) := by rw [← hl]; exact hb
  obtain ⟨g, off, cap, rfl, hc1, hc2, _, hgl, hcell⟩ := Cells.at hc (by omega)
  have hbyte : ∀ j, j < 64 → w.cell? ⟨g, off + j, none⟩ = some (.int .u8 (b.getD j 0).toNat) := by
    intro j hj
    have h := hcell j _ (u8s_get b j (by omega))
    rw [h]
    simp [List.getD, show j < b.length by omega]
  rw [← hn] at hgl
  unfold maxLen at hc2
  replace hbyte := Lib.hid hbyte
  replace hl := Lib.hid hl
  clear hb hc hcell hn
  go_enter Try.func65, Try.ntmps65
  go_wp2
  rw [← HN.out]
  go_loopw [8] (fun i wr => ∃ k : Nat, k ≤ 64 ∧ i = .int .i64 k ∧ Below n w wr ∧ n < wr.heap.size ∧ Hid (ArrN wr n 119 (wL b k)))
    (fun i _ => 64 - (intOf i).toNat)
  case atStart =>
    refine ⟨0, by omega, rfl, ?_, by simp [HN.out], ?_⟩
    · rw [HN.out]
      exact (Below.refl _ _).alloc (Nat.le_refl _) _
    · rw [HN.out]
      exact heap_alloc_new w _
  case round =>
    obtain ⟨k, hk, rfl, hbr, hs, H0⟩ := hrel
    have hdr : ∀ w3, Chg No wr.drew w3 → Chg No wr w3 := fun w3 h => ⟨h.os, h.tape, h.output, h.size, h.block⟩
    replace hdr := Lib.hid hdr
    by_cases hlt : k < 64
    · obtain ⟨L, hL⟩ : ∃ L, L = wL b k := ⟨_, rfl⟩
      have hLl : L.length = 64 := hL ▸ wL_length
      have hLt : ∀ j, L.getD j 0 < 4294967296 := fun j => hL ▸ wL_lt
      rw [← hL] at H0
      by_cases hk16 : k < 16
      · obtain ⟨q, hq⟩ : ∃ q, q = 4 * k := ⟨_, rfl⟩
        have hq4 : 4 * (k : Int) = q := by omega
        have hqL : q + 3 < 64 := by omega
        obtain ⟨q1, hq1⟩ : ∃ j, j = q + 1 := ⟨_, rfl⟩
        obtain ⟨q2, hq2⟩ : ∃ j, j = q + 2 := ⟨_, rfl⟩
        obtain ⟨q3, hq3⟩ : ∃ j, j = q + 3 := ⟨_, rfl⟩
        have lq1 : q1 < 64 := by omega
        have lq2 : q2 < 64 := by omega
        have lq3 : q3 < 64 := by omega
        have hq1i : (q : Int) + 1 = q1 := by omega
        have hq2i : (q : Int) + 2 = q2 := by omega
        have hq3i : (q : Int) + 3 = q3 := by omega
        obtain ⟨A, hA⟩ : ∃ A, A = (b.getD q 0).toNat := ⟨_, rfl⟩
        obtain ⟨B, hB⟩ : ∃ B, B = (b.getD q1 0).toNat := ⟨_, rfl⟩
        obtain ⟨C, hC⟩ : ∃ C, C = (b.getD q2 0).toNat := ⟨_, rfl⟩
        obtain ⟨D, hD⟩ : ∃ D, D = (b.getD q3 0).toNat := ⟨_, rfl⟩
        have hcA := hbyte.out q (by omega)
        have hcB := hbyte.out q1 (by omega)
        have hcC := hbyte.out q2 (by omega)
        have hcD := hbyte.out q3 (by omega)
        rw [← hA] at hcA
        rw [← hB] at hcB
        rw [← hC] at hcC
        rw [← hD] at hcD
        have hAl : A < 256 := hA ▸ UInt8.toNat_lt _
        have hBl : B < 256 := hB ▸ UInt8.toNat_lt _
        have hCl : C < 256 := hC ▸ UInt8.toNat_lt _
        have hDl : D < 256 := hD ▸ UInt8.toNat_lt _
        have hkW : keyW b k = w32 A B C D := by rw [keyW, ← hq, ← hq1, ← hq2, ← hq3, ← hA, ← hB, ← hC, ← hD]
        clear hA hB hC hD hq1 hq2 hq3
        obtain ⟨X1, hX1⟩ : ∃ X, X = A * 16777216 := ⟨_, rfl⟩
        obtain ⟨X2, hX2⟩ : ∃ X, X = B * 65536 := ⟨_, rfl⟩
        obtain ⟨X3, hX3⟩ : ∃ X, X = X1 + X2 := ⟨_, rfl⟩
        obtain ⟨X4, hX4⟩ : ∃ X, X = C * 256 := ⟨_, rfl⟩
        obtain ⟨X5, hX5⟩ : ∃ X, X = X3 + X4 := ⟨_, rfl⟩
        obtain ⟨W, hW⟩ : ∃ X, X = X5 + D := ⟨_, rfl⟩
        have ho1 : bits .or .u32 (X1 : Int) (X2 : Int) = (X3 : Int) := by rw [u32_or_nat X1 X2 (by omega) (by omega), nat_join 24 X1 X2 (by omega) (by omega), hX3]
        have ho2 : bits .or .u32 (X3 : Int) (X4 : Int) = (X5 : Int) := by rw [u32_or_nat X3 X4 (by omega) (by omega), nat_join 16 X3 X4 (by omega) (by omega), hX5]
        have ho3 : bits .or .u32 (X5 : Int) (D : Int) = (W : Int) := by rw [u32_or_nat X5 D (by omega) (by omega), nat_join 8 X5 D (by omega) (by omega), hW]
        have hWl : W < 4294967296 := by omega
        have hWe : keyW b k = W := by rw [hkW, w32]; omega
        have hset : wL b (k + 1) = L.set k W := by rw [wL, if_pos hk16, hWe, hL]
        rw [← World.cell?_of_block (w := w) (hbr.block g hgl)] at hcA hcB hcC hcD
        have hglr : g < wr.heap.size := by omega
        replace hset := Lib.hid hset
        clear hkW hWe
        replace hL := Lib.hid hL
        replace hLt := Lib.hid hLt
        replace hX1 := Lib.hid hX1
        replace hX2 := Lib.hid hX2
        replace hX3 := Lib.hid hX3
        replace hX4 := Lib.hid hX4
        replace hX5 := Lib.hid hX5
        replace hW := Lib.hid hW
        replace hq := Lib.hid hq
        replace hcA := Lib.hid hcA
        replace hcB := Lib.hid hcB
        replace hcC := Lib.hid hcC
        replace hcD := Lib.hid hcD
        replace hbr := Lib.hid hbr
        go_wp2
        refine RA.regionT (Chg No) (· = ·) [1, 1, 1, 1, 1, 1, 1, 1, 1, 1, 1, 1, 1, 1, 1, 1, 1, 1, 1, 1, 1, 1, 1, 1, 1, 1, 1, 1, 1, 1, 1, 1, 1, 1, 1, 7] [35] (fun _ _ _ => True) (fun _ => True) (by kernel_rfl) (Chg.refl _ _) (fun _ _ h => h ▸ Chg.refl _ _) (fun _ _ _ h k => h.trans k) (fun _ _ h k => h ▸ k) (trivial) (by kernel_rfl) (by kernel_rfl) ?_
        intro cx
        repeat (first | refine RA.mv (by kernel_rfl) (by rfl) (by rfl) ?_ | refine RA.as (by kernel_rfl) (by rfl) (by rfl) ?_ | refine RA.nc (by kernel_rfl) (by rfl) (by rfl) ?_)
        refine RA.mi (by kernel_rfl) (by rfl) (by rfl) (by rfl) ((q : Int)) (hq4) (by omega) ?_
        refine RA.ia (by kernel_rfl) (by rfl) (by rfl) (by rfl) (y' := .pointer (some ⟨g, off + q, none⟩)) (fun w3 hp => by show (Instr.indexAt _ _ _).run Try.prog w3 = _; go_simp; intro h; omega) ?_
        refine RA.ld (by kernel_rfl) (by rfl) (by rfl) (y' := .int .u8 A) (fun w3 hp => by
          have h1 := ((hdr.out _ hp.1).cell (p := ⟨g, off + q, none⟩) hglr id).trans hcA.out
          show (Instr.loadAt _ _).run Try.prog w3 = _
          go_simp) ?_
        refine RA.v Try.prog (x := .int .u32 A) (by kernel_rfl) (by rfl) (by rfl) (fun w hp => by (try go_simp); try (first | (rw [IntKind.wrap_i64]; omega) | (rw [IntKind.wrap_u32']; omega) | (rw [IntKind.wrap_u8']; omega) | omega)) ?_
        simp only [RA.add]
        refine RA.v Try.prog (x := .int .u32 X1) (by kernel_rfl) (by rfl) (by rfl) (fun w hp => by (try go_simp); rw [hX1.out, IntKind.wrap_u32']; omega) ?_
        simp only [RA.add]
        repeat (first | refine RA.mv (by kernel_rfl) (by rfl) (by rfl) ?_ | refine RA.as (by kernel_rfl) (by rfl) (by rfl) ?_ | refine RA.nc (by kernel_rfl) (by rfl) (by rfl) ?_)
        refine RA.mi (by kernel_rfl) (by rfl) (by rfl) (by rfl) ((q : Int)) (hq4) (by omega) ?_
        refine RA.ai (by kernel_rfl) (by rfl) (by rfl) (by rfl) ((q1 : Int)) (hq1i) (by omega) ?_
        refine RA.ia (by kernel_rfl) (by rfl) (by rfl) (by rfl) (y' := .pointer (some ⟨g, off + q1, none⟩)) (fun w3 hp => by show (Instr.indexAt _ _ _).run Try.prog w3 = _; go_simp; intro h; omega) ?_
        refine RA.ld (by kernel_rfl) (by rfl) (by rfl) (y' := .int .u8 B) (fun w3 hp => by
          have h1 := ((hdr.out _ hp.1).cell (p := ⟨g, off + q1, none⟩) hglr id).trans hcB.out
          show (Instr.loadAt _ _).run Try.prog w3 = _
          go_simp) ?_
        refine RA.v Try.prog (x := .int .u32 B) (by kernel_rfl) (by rfl) (by rfl) (fun w hp => by (try go_simp); try (first | (rw [IntKind.wrap_i64]; omega) | (rw [IntKind.wrap_u32']; omega) | (rw [IntKind.wrap_u8']; omega) | omega)) ?_
        simp only [RA.add]
        refine RA.v Try.prog (x := .int .u32 X2) (by kernel_rfl) (by rfl) (by rfl) (fun w hp => by (try go_simp); rw [hX2.out, IntKind.wrap_u32']; omega) ?_
        simp only [RA.add]
        refine RA.v Try.prog (x := .int .u32 X3) (by kernel_rfl) (by rfl) (by rfl) (fun w hp => by go_simp) ?_
        simp only [RA.add]
        repeat (first | refine RA.mv (by kernel_rfl) (by rfl) (by rfl) ?_ | refine RA.as (by kernel_rfl) (by rfl) (by rfl) ?_ | refine RA.nc (by kernel_rfl) (by rfl) (by rfl) ?_)
        refine RA.mi (by kernel_rfl) (by rfl) (by rfl) (by rfl) ((q : Int)) (hq4) (by omega) ?_
        refine RA.ai (by kernel_rfl) (by rfl) (by rfl) (by rfl) ((q2 : Int)) (hq2i) (by omega) ?_
        refine RA.ia (by kernel_rfl) (by rfl) (by rfl) (by rfl) (y' := .pointer (some ⟨g, off + q2, none⟩)) (fun w3 hp => by show (Instr.indexAt _ _ _).run Try.prog w3 = _; go_simp; intro h; omega) ?_
        refine RA.ld (by kernel_rfl) (by rfl) (by rfl) (y' := .int .u8 C) (fun w3 hp => by
          have h1 := ((hdr.out _ hp.1).cell (p := ⟨g, off + q2, none⟩) hglr id).trans hcC.out
          show (Instr.loadAt _ _).run Try.prog w3 = _
          go_simp) ?_
        refine RA.v Try.prog (x := .int .u32 C) (by kernel_rfl) (by rfl) (by rfl) (fun w hp => by (try go_simp); try (first | (rw [IntKind.wrap_i64]; omega) | (rw [IntKind.wrap_u32']; omega) | (rw [IntKind.wrap_u8']; omega) | omega)) ?_
        simp only [RA.add]
        refine RA.v Try.prog (x := .int .u32 X4) (by kernel_rfl) (by rfl) (by rfl) (fun w hp => by (try go_simp); rw [hX4.out, IntKind.wrap_u32']; omega) ?_
        simp only [RA.add]
        refine RA.v Try.prog (x := .int .u32 X5) (by kernel_rfl) (by rfl) (by rfl) (fun w hp => by go_simp) ?_
        simp only [RA.add]
        repeat (first | refine RA.mv (by kernel_rfl) (by rfl) (by rfl) ?_ | refine RA.as (by kernel_rfl) (by rfl) (by rfl) ?_ | refine RA.nc (by kernel_rfl) (by rfl) (by rfl) ?_)
        refine RA.mi (by kernel_rfl) (by rfl) (by rfl) (by rfl) ((q : Int)) (hq4) (by omega) ?_
        refine RA.ai (by kernel_rfl) (by rfl) (by rfl) (by rfl) ((q3 : Int)) (hq3i) (by omega) ?_
        refine RA.ia (by kernel_rfl) (by rfl) (by rfl) (by rfl) (y' := .pointer (some ⟨g, off + q3, none⟩)) (fun w3 hp => by show (Instr.indexAt _ _ _).run Try.prog w3 = _; go_simp; intro h; omega) ?_
        refine RA.ld (by kernel_rfl) (by rfl) (by rfl) (y' := .int .u8 D) (fun w3 hp => by
          have h1 := ((hdr.out _ hp.1).cell (p := ⟨g, off + q3, none⟩) hglr id).trans hcD.out
          show (Instr.loadAt _ _).run Try.prog w3 = _
          go_simp) ?_
        refine RA.v Try.prog (x := .int .u32 D) (by kernel_rfl) (by rfl) (by rfl) (fun w hp => by (try go_simp); try (first | (rw [IntKind.wrap_i64]; omega) | (rw [IntKind.wrap_u32']; omega) | (rw [IntKind.wrap_u8']; omega) | omega)) ?_
        simp only [RA.add]
        refine RA.v Try.prog (x := .int .u32 W) (by kernel_rfl) (by rfl) (by rfl) (fun w hp => by go_simp) ?_
        simp only [RA.add]
        refine RA.ia (by kernel_rfl) (by rfl) (by rfl) (by rfl) (y' := .pointer (some ⟨n, k, none⟩)) (fun w3 hp => by show (Instr.indexAt _ _ _).run Try.prog w3 = _; go_simp) ?_
        refine RA.stt (fun w4 => Below n w w4 ∧ n < w4.heap.size ∧ ArrN w4 n 119 (L.set k W)) (by rfl) (by rfl) (by kernel_rfl) (fun _ _ h k => h ▸ k) (fun w3 hp _ => ?_) ?_
        · have hR := hdr.out _ (hp.first (by kernel_rfl)).1
          have A0 := H0.out.keep (hR.block n hs id)
          have f0 := A0.frozen k
          have c0 := A0.cell k (by rw [hLl]; exact hlt)
          have e : (Instr.storeAt 117 (.pointer (some ⟨n, k, none⟩)) (.int .u32 (W : Int))).run Try.prog w3 = .ok () (w3.setCell ⟨n, k, none⟩ (.int .u32 (W : Int))) := by go_simp
          refine ⟨_, RA.ex_store (by rfl) (by rfl) e, (hbr.out.trans ((Chg.no hR).mono (by omega))).setCell (p := ⟨n, k, none⟩) (Nat.le_refl n) _, ?_, A0.set k W⟩
          have := hR.size
          simp
          omega
        refine RA.RA.doneT (fun w3 hH => ?_)
        simp only [RA.put, List.foldr_cons, List.foldr_nil, cx, Act.put, List.setIfInBounds_toArray, List.set_cons_succ, List.set_cons_zero]
        replace hH := Lib.hid hH
        go_wp2
        go_roundw
        case rel =>
          refine ⟨k + 1, by omega, by go_num, hH.out.1, hH.out.2.1, ?_⟩
          show ArrN _ _ _ _
          rw [hset.out]
          exact hH.out.2.2
        case measure => simp [intOf]; omega
      · obtain ⟨j15, hj15⟩ : ∃ j, j = k - 15 := ⟨_, rfl⟩
        obtain ⟨j2, hj2⟩ : ∃ j, j = k - 2 := ⟨_, rfl⟩
        obtain ⟨j16, hj16⟩ : ∃ j, j = k - 16 := ⟨_, rfl⟩
        obtain ⟨j7, hj7⟩ : ∃ j, j = k - 7 := ⟨_, rfl⟩
        have h15 : (k : Int) - 15 = j15 := by omega
        have h2 : (k : Int) - 2 = j2 := by omega
        have h16 : (k : Int) - 16 = j16 := by omega
        have h7 : (k : Int) - 7 = j7 := by omega
        have l15 : j15 < 64 := by omega
        have l2 : j2 < 64 := by omega
        have l16 : j16 < 64 := by omega
        have l7 : j7 < 64 := by omega
        obtain ⟨X, hX⟩ : ∃ X, X = L.getD j15 0 := ⟨_, rfl⟩
        obtain ⟨Y, hY⟩ : ∃ Y, Y = L.getD j2 0 := ⟨_, rfl⟩
        obtain ⟨U, hU⟩ : ∃ U, U = L.getD j16 0 := ⟨_, rfl⟩
        obtain ⟨V, hV⟩ : ∃ V, V = L.getD j7 0 := ⟨_, rfl⟩
        have hXl : X < 4294967296 := hX ▸ hLt _
        have hYl : Y < 4294967296 := hY ▸ hLt _
        have hUl : U < 4294967296 := hU ▸ hLt _
        have hVl : V < 4294967296 := hV ▸ hLt _
        have cX := H0.out.cell j15 (by omega)
        have cY := H0.out.cell j2 (by omega)
        have cU := H0.out.cell j16 (by omega)
        have cV := H0.out.cell j7 (by omega)
        rw [← hX] at cX
        rw [← hY] at cY
        rw [← hU] at cU
        rw [← hV] at cV
        obtain ⟨x1, hx1⟩ : ∃ x, x = rot32 X 25 := ⟨_, rfl⟩
        obtain ⟨x2, hx2⟩ : ∃ x, x = rot32 X 14 := ⟨_, rfl⟩
        obtain ⟨x3, hx3⟩ : ∃ x, x = X / 8 := ⟨_, rfl⟩
        obtain ⟨x4, hx4⟩ : ∃ x, x = x1 ^^^ x2 := ⟨_, rfl⟩
        obtain ⟨x5, hx5⟩ : ∃ x, x = x4 ^^^ x3 := ⟨_, rfl⟩
        obtain ⟨y1, hy1⟩ : ∃ x, x = rot32 Y 15 := ⟨_, rfl⟩
        obtain ⟨y2, hy2⟩ : ∃ x, x = rot32 Y 13 := ⟨_, rfl⟩
        obtain ⟨y3, hy3⟩ : ∃ x, x = Y / 1024 := ⟨_, rfl⟩
        obtain ⟨y4, hy4⟩ : ∃ x, x = y1 ^^^ y2 := ⟨_, rfl⟩
        obtain ⟨y5, hy5⟩ : ∃ x, x = y4 ^^^ y3 := ⟨_, rfl⟩
        have lx1 : x1 < 4294967296 := hx1 ▸ rot32_lt hXl
        have lx2 : x2 < 4294967296 := hx2 ▸ rot32_lt hXl
        have ly1 : y1 < 4294967296 := hy1 ▸ rot32_lt hYl
        have ly2 : y2 < 4294967296 := hy2 ▸ rot32_lt hYl
        have lx4 : x4 < 4294967296 := hx4 ▸ xor32 lx1 lx2
        have ly4 : y4 < 4294967296 := hy4 ▸ xor32 ly1 ly2
        have lx5 : x5 < 4294967296 := hx5 ▸ xor32 lx4 (by omega)
        have ly5 : y5 < 4294967296 := hy5 ▸ xor32 ly4 (by omega)
        have bx4 : bits .xor .u32 (x1 : Int) (x2 : Int) = (x4 : Int) := by rw [u32_xor_nat x1 x2 lx1 lx2, hx4]
        have bx5 : bits .xor .u32 (x4 : Int) (x3 : Int) = (x5 : Int) := by rw [u32_xor_nat x4 x3 lx4 (by omega), hx5]
        have by4 : bits .xor .u32 (y1 : Int) (y2 : Int) = (y4 : Int) := by rw [u32_xor_nat y1 y2 ly1 ly2, hy4]
        have by5 : bits .xor .u32 (y4 : Int) (y3 : Int) = (y5 : Int) := by rw [u32_xor_nat y4 y3 ly4 (by omega), hy5]
        have dx3 : (X : Int) / 8 = x3 := by omega
        have dy3 : (Y : Int) / 1024 = y3 := by omega
        have rx1 := fun w => hx1 ▸ rot32_ok X 25 (-7) hXl (by omega) (.inr ⟨by omega, by omega⟩) w
        have rx2 := fun w => hx2 ▸ rot32_ok X 14 (-18) hXl (by omega) (.inr ⟨by omega, by omega⟩) w
        have ry1 := fun w => hy1 ▸ rot32_ok Y 15 (-17) hYl (by omega) (.inr ⟨by omega, by omega⟩) w
        have ry2 := fun w => hy2 ▸ rot32_ok Y 13 (-19) hYl (by omega) (.inr ⟨by omega, by omega⟩) w
        obtain ⟨W1, hW1⟩ : ∃ x, x = (U + x5) % 4294967296 := ⟨_, rfl⟩
        obtain ⟨W2, hW2⟩ : ∃ x, x = (W1 + V) % 4294967296 := ⟨_, rfl⟩
        obtain ⟨W, hW⟩ : ∃ x, x = (W2 + y5) % 4294967296 := ⟨_, rfl⟩
        have hset : wL b (k + 1) = L.set k W := by
          rw [wL, if_neg hk16, ← hL, wNext, ← hj15, ← hj2, ← hj16, ← hj7, ← hX, ← hY, ← hU, ← hV, sg0, sg1, ← hx1, ← hx2, ← hx3, ← hy1, ← hy2, ← hy3, ← hx4, ← hx5, ← hy4, ← hy5, ← hW1, ← hW2, ← hW]
        replace hset := Lib.hid hset
        replace hL := Lib.hid hL
        replace hLt := Lib.hid hLt
        replace hW := Lib.hid hW
        replace hW1 := Lib.hid hW1
        replace hW2 := Lib.hid hW2
        replace rx1 := Lib.hid rx1
        replace rx2 := Lib.hid rx2
        replace ry1 := Lib.hid ry1
        replace ry2 := Lib.hid ry2
        replace cX := Lib.hid cX
        replace cY := Lib.hid cY
        replace cU := Lib.hid cU
        replace cV := Lib.hid cV
        replace hbr := Lib.hid hbr
        clear hX hY hU hV hx1 hx2 hx3 hx4 hx5 hy1 hy2 hy3 hy4 hy5 hj15 hj2 hj16 hj7
        go_wp2
        refine RA.region (fun a b => Chg No a b) (· = ·) [1, 1, 1, 1, 1, 1, 1, 1, 1, 1] (fun _ _ _ => True) (fun _ => True) (by kernel_rfl) (Chg.refl _ _) (fun _ _ h => h ▸ Chg.refl _ _) (fun _ _ _ h k => h.trans k) (fun _ _ h k => h ▸ k) trivial (by kernel_rfl) ?_
        intro cx
        repeat (first | refine RA.mv (by kernel_rfl) (by rfl) (by rfl) ?_ | refine RA.as (by kernel_rfl) (by rfl) (by rfl) ?_ | refine RA.nc (by kernel_rfl) (by rfl) (by rfl) ?_)
        refine RA.si (by kernel_rfl) (by rfl) (by rfl) (by rfl) ((j15 : Int)) (h15) (by omega) ?_
        refine RA.ia (by kernel_rfl) (by rfl) (by rfl) (by rfl) (y' := .pointer (some ⟨n, j15, none⟩)) (fun w3 hp => by show (Instr.indexAt _ _ _).run Try.prog w3 = _; go_simp; intro h; omega) ?_
        refine RA.ld (by kernel_rfl) (by rfl) (by rfl) (y' := .int .u32 X) (fun w3 hp => by
          have h1 := ((hdr.out _ hp.1).cell (p := ⟨n, j15, none⟩) hs id).trans cX.out
          show (Instr.loadAt _ _).run Try.prog w3 = _
          go_simp) ?_
        repeat (first | refine RA.mv (by kernel_rfl) (by rfl) (by rfl) ?_ | refine RA.as (by kernel_rfl) (by rfl) (by rfl) ?_ | refine RA.nc (by kernel_rfl) (by rfl) (by rfl) ?_)
        refine RA.si (by kernel_rfl) (by rfl) (by rfl) (by rfl) ((j2 : Int)) (h2) (by omega) ?_
        refine RA.ia (by kernel_rfl) (by rfl) (by rfl) (by rfl) (y' := .pointer (some ⟨n, j2, none⟩)) (fun w3 hp => by show (Instr.indexAt _ _ _).run Try.prog w3 = _; go_simp; intro h; omega) ?_
        refine RA.ld (by kernel_rfl) (by rfl) (by rfl) (y' := .int .u32 Y) (fun w3 hp => by
          have h1 := ((hdr.out _ hp.1).cell (p := ⟨n, j2, none⟩) hs id).trans cY.out
          show (Instr.loadAt _ _).run Try.prog w3 = _
          go_simp) ?_
        repeat (first | refine RA.mv (by kernel_rfl) (by rfl) (by rfl) ?_ | refine RA.as (by kernel_rfl) (by rfl) (by rfl) ?_ | refine RA.nc (by kernel_rfl) (by rfl) (by rfl) ?_)
        refine RA.RA.done rfl (fun wx hR hF hH => ?_)
        clear hF hH
        simp only [RA.put, List.foldr_cons, List.foldr_nil, cx, Act.put, List.setIfInBounds_toArray, List.set_cons_succ, List.set_cons_zero]
        have hRx := hdr.out _ hR
        have Hx : ArrN wx n 119 L := H0.out.keep (hRx.block n hs id)
        have hbx : Below n w wx := hbr.out.trans ((Chg.no hRx).mono (by omega))
        have hsx : n < wx.heap.size := heap_lt Hx
        have cUx := Lib.hid ((hRx.cell (p := ⟨n, j16, none⟩) hs id).trans cU.out)
        have cVx := Lib.hid ((hRx.cell (p := ⟨n, j7, none⟩) hs id).trans cV.out)
        clear H0 hbr hs cU cV cX cY hdr hR hRx
        have hdr : ∀ w3, Chg No wx.drew w3 → Chg No wx w3 := fun w3 h => ⟨h.os, h.tape, h.output, h.size, h.block⟩
        replace hdr := Lib.hid hdr
        have H0 := Lib.hid Hx
        have hbr := Lib.hid hbx
        have hs := hsx
        clear Hx hbx
        go_wp2_with (first
          | ((with_reducible refine (rx1.out _).mono ?_); rintro e w' ⟨rfl, rfl⟩)
          | ((with_reducible refine (rx2.out _).mono ?_); rintro e w' ⟨rfl, rfl⟩)
          | ((with_reducible refine (ry1.out _).mono ?_); rintro e w' ⟨rfl, rfl⟩)
          | ((with_reducible refine (ry2.out _).mono ?_); rintro e w' ⟨rfl, rfl⟩))
        refine RA.regionT (Chg No) (· = ·) [1, 1, 1, 1, 1, 1, 1, 1, 1, 1, 1, 1, 1, 1, 1, 7] [15] (fun _ _ _ => True) (fun _ => True) (by kernel_rfl) (Chg.refl _ _) (fun _ _ h => h ▸ Chg.refl _ _) (fun _ _ _ h k => h.trans k) (fun _ _ h k => h ▸ k) (trivial) (by kernel_rfl) (by kernel_rfl) ?_
        intro cx
        repeat (first | refine RA.mv (by kernel_rfl) (by rfl) (by rfl) ?_ | refine RA.as (by kernel_rfl) (by rfl) (by rfl) ?_ | refine RA.nc (by kernel_rfl) (by rfl) (by rfl) ?_)
        refine RA.si (by kernel_rfl) (by rfl) (by rfl) (by rfl) ((j16 : Int)) (h16) (by omega) ?_
        refine RA.ia (by kernel_rfl) (by rfl) (by rfl) (by rfl) (y' := .pointer (some ⟨n, j16, none⟩)) (fun w3 hp => by show (Instr.indexAt _ _ _).run Try.prog w3 = _; go_simp; intro h; omega) ?_
        refine RA.ld (by kernel_rfl) (by rfl) (by rfl) (y' := .int .u32 U) (fun w3 hp => by
          have h1 := ((hdr.out _ hp.1).cell (p := ⟨n, j16, none⟩) hs id).trans cUx.out
          show (Instr.loadAt _ _).run Try.prog w3 = _
          go_simp) ?_
        repeat (first | refine RA.mv (by kernel_rfl) (by rfl) (by rfl) ?_ | refine RA.as (by kernel_rfl) (by rfl) (by rfl) ?_ | refine RA.nc (by kernel_rfl) (by rfl) (by rfl) ?_)
        refine RA.v Try.prog (x := .int .u32 W1) (by kernel_rfl) (by rfl) (by rfl) (fun w hp => by (try go_simp); rw [hW1.out, IntKind.wrap_u32']; omega) ?_
        simp only [RA.add]
        repeat (first | refine RA.mv (by kernel_rfl) (by rfl) (by rfl) ?_ | refine RA.as (by kernel_rfl) (by rfl) (by rfl) ?_ | refine RA.nc (by kernel_rfl) (by rfl) (by rfl) ?_)
        refine RA.si (by kernel_rfl) (by rfl) (by rfl) (by rfl) ((j7 : Int)) (h7) (by omega) ?_
        refine RA.ia (by kernel_rfl) (by rfl) (by rfl) (by rfl) (y' := .pointer (some ⟨n, j7, none⟩)) (fun w3 hp => by show (Instr.indexAt _ _ _).run Try.prog w3 = _; go_simp; intro h; omega) ?_
        refine RA.ld (by kernel_rfl) (by rfl) (by rfl) (y' := .int .u32 V) (fun w3 hp => by
          have h1 := ((hdr.out _ hp.1).cell (p := ⟨n, j7, none⟩) hs id).trans cVx.out
          show (Instr.loadAt _ _).run Try.prog w3 = _
          go_simp) ?_
        refine RA.v Try.prog (x := .int .u32 W2) (by kernel_rfl) (by rfl) (by rfl) (fun w hp => by (try go_simp); rw [hW2.out, IntKind.wrap_u32']; omega) ?_
        simp only [RA.add]
        repeat (first | refine RA.mv (by kernel_rfl) (by rfl) (by rfl) ?_ | refine RA.as (by kernel_rfl) (by rfl) (by rfl) ?_ | refine RA.nc (by kernel_rfl) (by rfl) (by rfl) ?_)
        refine RA.v Try.prog (x := .int .u32 W) (by kernel_rfl) (by rfl) (by rfl) (fun w hp => by (try go_simp); rw [hW.out, IntKind.wrap_u32']; omega) ?_
        simp only [RA.add]
        refine RA.ia (by kernel_rfl) (by rfl) (by rfl) (by rfl) (y' := .pointer (some ⟨n, k, none⟩)) (fun w3 hp => by show (Instr.indexAt _ _ _).run Try.prog w3 = _; go_simp) ?_
        refine RA.stt (fun w4 => Below n w w4 ∧ n < w4.heap.size ∧ ArrN w4 n 119 (L.set k W)) (by rfl) (by rfl) (by kernel_rfl) (fun _ _ h k => h ▸ k) (fun w3 hp _ => ?_) ?_
        · have hR := hdr.out _ (hp.first (by kernel_rfl)).1
          have A0 := H0.out.keep (hR.block n hs id)
          have f0 := A0.frozen k
          have c0 := A0.cell k (by rw [hLl]; exact hlt)
          have e : (Instr.storeAt 117 (.pointer (some ⟨n, k, none⟩)) (.int .u32 (W : Int))).run Try.prog w3 = .ok () (w3.setCell ⟨n, k, none⟩ (.int .u32 (W : Int))) := by go_simp
          refine ⟨_, RA.ex_store (by rfl) (by rfl) e, (hbr.out.trans ((Chg.no hR).mono (by omega))).setCell (p := ⟨n, k, none⟩) (Nat.le_refl n) _, ?_, A0.set k W⟩
          have := hR.size
          simp
          omega
        refine RA.RA.doneT (fun w3 hH => ?_)
        simp only [RA.put, List.foldr_cons, List.foldr_nil, cx, Act.put, List.setIfInBounds_toArray, List.set_cons_succ, List.set_cons_zero]
        replace hH := Lib.hid hH
        go_wp2
        go_roundw
        case rel =>
          refine ⟨k + 1, by omega, by go_num, hH.out.1, hH.out.2.1, ?_⟩
          show ArrN _ _ _ _
          rw [hset.out]
          exact hH.out.2.2
        case measure => simp [intOf]; omega
    · have hk6 : k = 64 := by omega
      rw [hk6] at H0
      clear hk6
      obtain ⟨L, hL⟩ : ∃ L, L = wL b 64 := ⟨_, rfl⟩
      rw [← hL] at H0
      have hLl : L.length = 64 := hL ▸ wL_length
      have hld := Lib.hid (run_loadAt_arrN (P := Try.prog) H0.out Try.underlying119 (size64 hLl))
      have hst := Lib.hid (run_storeAt_same (P := Try.prog) (ty := 119) H0.out (size64 hLl))
      have hi := Lib.hid (size64 hLl)
      replace hbr := Lib.hid hbr
      replace hL := Lib.hid hL
      go_wp2_with (first | (refine wpList_load rfl 119 _ rfl _ _ rfl hld.out ?_) | (refine wpList_store rfl 119 _ _ rfl _ _ rfl rfl hst.out ?_))
      refine bodyPost_ret (results_cell_row Try.results65 _ _ n 119 _ (0, 0) _ rfl H0.out Try.underlying119 rfl (by rw [hi.out]; simp [n32s_length])) rfl ⟨by rw [hL.out], HN.out ▸ hbr.out⟩
attribute [irreducible] wL
end Go.Proofs.Ytbgfdbidbjlaaaa.Fd

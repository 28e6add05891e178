/-
  aes: a cipher, and what its functions do. No condition beyond what each theorem names.
-/
import Derived.Test.YtbgfdbidbjlaaaaBckAes
namespace Go.Proofs.Ytbgfdbidbjlaaaa.Fd
open Go Go.RowKit K

def u32s (l : List UInt32) : List Value := l.map fun x => .int .u32 x.toNat
theorem u32s_length (l : List UInt32) : (u32s l).length = l.length := by simp [u32s]
theorem u32s_get (l : List UInt32) (j : Nat) (h : j < l.length) : (u32s l)[j]? = some (.int .u32 (l.getD j 0).toNat) := by simp [u32s, List.getD, h]

/-- a cipher: its tables at b, its words ks -/
structure CipherAt (w : World) (F : Nat → Prop) (p b : Nat) (kv : Value) (ks : List UInt32) : Prop where
  box : w.heap[p]? = some (.cells #[.pointer (some ⟨b, 0, none⟩), kv] 100 (0, 0))
  own : F p
  tab : Tabs w b 256
  tabF : F b
  few : ks.length ≤ 1000
  keys : Cells w F kv ks.length 1 (u32s ks)
theorem CipherAt.keep {w w' : World} {F : Nat → Prop} {p b : Nat} {kv : Value} {ks : List UInt32} (h : CipherAt w F p b kv ks) (hs : w.heap.size ≤ w'.heap.size) (hk : ∀ g, F g → g < w.heap.size → w'.heap[g]? = w.heap[g]?) : CipherAt w' F p b kv ks := by
  obtain ⟨l, hA, hL⟩ := h.tab
  exact ⟨(hk p h.own (heap_lt h.box)).trans h.box, h.own, ⟨l, hA.keep (hk b h.tabF (heap_lt hA)), hL⟩, h.tabF, h.few, Cells.keep h.keys hs hk⟩

def roundsN (ks : List UInt32) : Nat := ks.length / 4 - 1

/-- a round's key, added to a block -/
def addC (b : List UInt8) (ks : List UInt32) (r i : Nat) : UInt8 := byte ((b.getD i 0).toNat ^^^ (ks.getD (4 * r + i / 4) 0).toNat / 2 ^ (24 - 8 * (i % 4)) % 256)
def addL (b : List UInt8) (ks : List UInt32) (r : Nat) : Nat → List UInt8
  | 0 => b
  | k + 1 => (addL b ks r k).set k (addC b ks r k)
theorem addL_length {b : List UInt8} {ks : List UInt32} {r k : Nat} : (addL b ks r k).length = b.length := by
  induction k with
  | zero => rfl
  | succ k ih => exact List.length_set.trans ih
theorem addL_get {b : List UInt8} {ks : List UInt32} {r k i : Nat} (h : k ≤ i) : (addL b ks r k).getD i 0 = b.getD i 0 := by
  induction k with
  | zero => rfl
  | succ k ih =>
    rw [addL, List.getD, List.getElem?_set_ne (by omega), ← List.getD, ih (by omega)]
theorem addC_byte {b : List UInt8} {ks : List UInt32} {r i : Nat} : (addC b ks r i).toNat = (b.getD i 0).toNat ^^^ (ks.getD (4 * r + i / 4) 0).toNat / 2 ^ (24 - 8 * (i % 4)) % 256 :=
  byte_toNat (xor8 (UInt8.toNat_lt _) (by omega))

theorem size61 {l : List UInt8} (h : l.length = 16) : (Try.prog.info? 61).map (·.size) = some l.length := by rw [h]; kernel_rfl

set_option maxRecDepth 100000 in
set_option maxHeartbeats 4000000 in
theorem add_ok {w : World} {F : Nat → Prop} {p tb : Nat} {kv : Value} {ks : List UInt32} (h : CipherAt w F p tb kv ks) (b : List UInt8) (hb : b.length = 16) (r : Nat) (hr : 4 * r + 4 ≤ ks.length) :
    Calls Try.prog 46 #[.pointer (some ⟨p, 0, none⟩), .agg (u8s b).toArray, .int .i64 r] w fun e w' => e = .returned (.agg (u8s (addL b ks r 16)).toArray) ∧ Below w.heap.size w w' := by
  obtain ⟨n, hn⟩ : ∃ n, n = w.heap.size := ⟨_, rfl⟩
  have HN := Lib.hid hn
  have hfew := h.few
  have hpl := heap_lt h.box
  rw [← hn] at hpl
  have H := Lib.hid h
  clear h hn
  obtain ⟨V, hV⟩ : ∃ V, V = (u8s b).toArray := ⟨_, rfl⟩
  rw [← hV]
  replace hV := Lib.hid hV
  go_enter Try.func46, Try.ntmps46
  go_wp2
  go_loopw [8] (fun i wr => ∃ k : Nat, k ≤ 16 ∧ i = .int .i64 k ∧ Below n w wr ∧ n + 1 < wr.heap.size ∧ Hid (Arr wr n 61 (addL b ks r k)) ∧ Hid (Arr wr (n + 1) 61 (List.replicate 16 0)))
    (fun i _ => 16 - (intOf i).toNat)
  case atStart =>
    refine ⟨0, by omega, rfl, ?_, ?_, ?_, ?_⟩
    · rw [HN.out]
      exact ((Below.refl _ _).alloc (Nat.le_refl _) _).alloc (by simp) _
    · simp [HN.out]
    · rw [HN.out]
      exact Arr.of hV.out ((Below.heap_alloc _ _ _ (by simp)).trans (heap_alloc_new w _))
    · have h := heap_alloc_new (w.alloc (.cells V 61)) (.cells (u8s (List.replicate 16 0)).toArray 61)
      simp only [World.size_alloc] at h
      rw [HN.out]
      exact h
  case round =>
    obtain ⟨k, hk, rfl, hbr, hsz, H0, H1⟩ := hrel
    rw [← HN.out]
    by_cases hlt : k < 16
    · have hc := Lib.hid (H.out.keep (w' := wr) (by have := hbr.size; exact this) (fun g hg hl => hbr.block g (by rw [HN.out]; exact hl)))
      obtain ⟨q, hq⟩ : ∃ q, q = k / 4 := ⟨_, rfl⟩
      obtain ⟨j, hj⟩ : ∃ j, j = k % 4 := ⟨_, rfl⟩
      obtain ⟨s, hs⟩ : ∃ s, s = 24 - 8 * j := ⟨_, rfl⟩
      have hj4 : j < 4 := by omega
      obtain ⟨M, hM⟩ : ∃ M, M = 4 * r + q := ⟨_, rfl⟩
      have hix : M < ks.length := by omega
      obtain ⟨g, off, cap, rfl, hcap1, hcap2, _, hgl, hcells⟩ := Cells.at hc.out.keys (by omega)
      have hw := hcells _ _ (u32s_get ks _ hix)
      have HCL := Lib.hid hcells
      clear hcells
      obtain ⟨W, hW⟩ : ∃ W, W = (ks.getD M 0).toNat := ⟨_, rfl⟩
      rw [← hW] at hw
      obtain ⟨B, hB⟩ : ∃ B, B = (b.getD k 0).toNat := ⟨_, rfl⟩
      have hWl : W < 4294967296 := hW ▸ UInt32.toNat_lt _
      have hBl : B < 256 := hB ▸ UInt8.toNat_lt _
      obtain ⟨D, hD⟩ : ∃ D, D = W / 2 ^ s % 256 := ⟨_, rfl⟩
      have hDl : D < 256 := by omega
      have hD2 : (W : Int) / 2 ^ s % 256 = D := by rw [hD]; simp
      have hx := u8_xor_nat B D hBl hDl
      replace hD := Lib.hid hD
      have hcb := H0.out.cell k (by rw [addL_length, hb]; exact hlt)
      rw [addL_get (Nat.le_refl k), ← hB] at hcb
      have hpb := cell_of hc.out.box 1
      have hd : (k : Int) / 4 = q := by omega
      have hm : (k : Int) % 4 = j := by omega
      have hm2 : (k : Int).tmod 4 = j := by rw [Int.tmod_eq_emod_of_nonneg (by omega)]; exact hm
      have hmin : min s 32 = s := by omega
      have hnn : n < wr.heap.size := by omega
      have hpp : p < wr.heap.size := heap_lt hc.out.box
      replace hq := Lib.hid hq
      replace hM := Lib.hid hM
      replace hj := Lib.hid hj
      replace hs := Lib.hid hs
      replace hW := Lib.hid hW
      replace hB := Lib.hid hB
      replace hw := Lib.hid hw
      replace hcb := Lib.hid hcb
      replace hpb := Lib.hid hpb
      have hdr : ∀ w3, Chg No wr.drew w3 → Chg No wr w3 := fun w3 h => ⟨h.os, h.tape, h.output, h.size, h.block⟩
      replace hdr := Lib.hid hdr
      replace hbr := Lib.hid hbr
      go_wp2
      refine RA.regionT (Chg No) (· = ·) [1, 1, 1, 1, 1, 1, 1, 1, 1, 1, 1, 1, 1, 1, 1, 1, 1, 1, 1, 1, 1, 1, 7] [22] (fun _ _ _ => True) (fun _ => True) (by kernel_rfl) (Chg.refl _ _) (fun _ _ h => h ▸ Chg.refl _ _) (fun _ _ _ h k => h.trans k) (fun _ _ h k => h ▸ k) (trivial) (by kernel_rfl) (by kernel_rfl) ?_
      intro cx
      repeat (first | refine RA.mv (by kernel_rfl) (by rfl) (by rfl) ?_ | refine RA.as (by kernel_rfl) (by rfl) (by rfl) ?_ | refine RA.nc (by kernel_rfl) (by rfl) (by rfl) ?_)
      refine RA.ia (by kernel_rfl) (by rfl) (by rfl) (by rfl) (y' := .pointer (some ⟨n, k, none⟩)) (fun w3 hp => by show (Instr.indexAt _ _ _).run Try.prog w3 = _; go_simp) ?_
      refine RA.ld (by kernel_rfl) (by rfl) (by rfl) (y' := .int .u8 B) (fun w3 hp => by
        have h1 := ((hdr.out _ hp.1).cell (p := ⟨n, k, none⟩) hnn id).trans hcb.out
        show (Instr.loadAt _ _).run Try.prog w3 = _
        go_simp) ?_
      repeat (first | refine RA.mv (by kernel_rfl) (by rfl) (by rfl) ?_ | refine RA.as (by kernel_rfl) (by rfl) (by rfl) ?_ | refine RA.nc (by kernel_rfl) (by rfl) (by rfl) ?_)
      refine RA.fa (by kernel_rfl) (by rfl) (by rfl) (y' := .pointer (some ⟨p, 1, none⟩)) (fun w3 hp => by show (Instr.fieldAt _ _ _).run Try.prog w3 = _; go_simp) ?_
      refine RA.ld (by kernel_rfl) (by rfl) (by rfl) (y' := .slice (some ⟨g, off, none⟩) ks.length cap) (fun w3 hp => by
        have h1 := ((hdr.out _ hp.1).cell (p := ⟨p, 1, none⟩) hpp id).trans hpb.out
        show (Instr.loadAt _ _).run Try.prog w3 = _
        go_simp) ?_
      repeat (first | refine RA.mv (by kernel_rfl) (by rfl) (by rfl) ?_ | refine RA.as (by kernel_rfl) (by rfl) (by rfl) ?_ | refine RA.nc (by kernel_rfl) (by rfl) (by rfl) ?_)
      refine RA.mi (by kernel_rfl) (by rfl) (by rfl) (by rfl) (4 * (r : Int)) (rfl) (by omega) ?_
      repeat (first | refine RA.mv (by kernel_rfl) (by rfl) (by rfl) ?_ | refine RA.as (by kernel_rfl) (by rfl) (by rfl) ?_ | refine RA.nc (by kernel_rfl) (by rfl) (by rfl) ?_)
      refine RA.v Try.prog (x := .int .i64 q) (by kernel_rfl) (by rfl) (by rfl) (fun w hp => by (try go_simp); try (first | (rw [IntKind.wrap_i64]; omega) | (rw [IntKind.wrap_u32']; omega) | (rw [IntKind.wrap_u8']; omega) | omega)) ?_
      simp only [RA.add]
      refine RA.ai (by kernel_rfl) (by rfl) (by rfl) (by rfl) ((M : Int)) (by have := hM.out; omega) (by omega) ?_
      refine RA.ia (by kernel_rfl) (by rfl) (by rfl) (by rfl) (y' := .pointer (some ⟨g, off + M, none⟩)) (fun w3 hp => by show (Instr.indexAt _ _ _).run Try.prog w3 = _; go_simp) ?_
      refine RA.ld (by kernel_rfl) (by rfl) (by rfl) (y' := .int .u32 W) (fun w3 hp => by
        have h1 := ((hdr.out _ hp.1).cell (p := ⟨g, off + M, none⟩) hgl id).trans hw.out
        show (Instr.loadAt _ _).run Try.prog w3 = _
        go_simp) ?_
      repeat (first | refine RA.mv (by kernel_rfl) (by rfl) (by rfl) ?_ | refine RA.as (by kernel_rfl) (by rfl) (by rfl) ?_ | refine RA.nc (by kernel_rfl) (by rfl) (by rfl) ?_)
      refine RA.v Try.prog (x := .int .i64 j) (by kernel_rfl) (by rfl) (by rfl) (fun w hp => by (try go_simp); try (first | (rw [IntKind.wrap_i64]; omega) | (rw [IntKind.wrap_u32']; omega) | (rw [IntKind.wrap_u8']; omega) | omega)) ?_
      simp only [RA.add]
      refine RA.mi (by kernel_rfl) (by rfl) (by rfl) (by rfl) (8 * (j : Int)) (rfl) (by omega) ?_
      refine RA.si (by kernel_rfl) (by rfl) (by rfl) (by rfl) ((s : Int)) (by have := hs.out; omega) (by have := hs.out; omega) ?_
      refine RA.v Try.prog (x := .int .u32 ((W : Int) / 2 ^ s)) (by kernel_rfl) (by rfl) (by rfl) (fun w hp => by (try go_simp); try (first | (rw [IntKind.wrap_i64]; omega) | (rw [IntKind.wrap_u32']; omega) | (rw [IntKind.wrap_u8']; omega) | omega)) ?_
      simp only [RA.add]
      refine RA.v Try.prog (x := .int .u8 D) (by kernel_rfl) (by rfl) (by rfl) (fun w hp => by (try go_simp); try (first | (rw [IntKind.wrap_i64]; omega) | (rw [IntKind.wrap_u32']; omega) | (rw [IntKind.wrap_u8']; omega) | omega)) ?_
      simp only [RA.add]
      refine RA.v Try.prog (x := .int .u8 ((B ^^^ D : Nat) : Int)) (by kernel_rfl) (by rfl) (by rfl) (fun w hp => by (try go_simp); try (first | (rw [IntKind.wrap_i64]; omega) | (rw [IntKind.wrap_u32']; omega) | (rw [IntKind.wrap_u8']; omega) | omega)) ?_
      simp only [RA.add]
      refine RA.ia (by kernel_rfl) (by rfl) (by rfl) (by rfl) (y' := .pointer (some ⟨n, k, none⟩)) (fun w3 hp => by show (Instr.indexAt _ _ _).run Try.prog w3 = _; go_simp) ?_
      refine RA.stt (fun w4 => Below n w w4 ∧ n + 1 < w4.heap.size ∧ Arr w4 n 61 (addL b ks r (k + 1)) ∧ Arr w4 (n + 1) 61 (List.replicate 16 0)) (by rfl) (by rfl) (by kernel_rfl) (fun _ _ h k => h ▸ k) (fun w3 hp _ => ?_) ?_
      · have hR := hdr.out _ (hp.first (by kernel_rfl)).1
        have A0 := H0.out.keep (hR.block n hnn id)
        have A1 := H1.out.keep (hR.block (n + 1) hsz id)
        have f0 := A0.frozen k
        have c0 := A0.cell k (by rw [addL_length, hb]; exact hlt)
        have hset := A0.set k (byte (B ^^^ D))
        have hxl := xor8 hBl hDl
        rw [byte_toNat hxl] at hset
        have e : (Instr.storeAt 5 (.pointer (some ⟨n, k, none⟩)) (.int .u8 ((B ^^^ D : Nat) : Int))).run Try.prog w3 = .ok () (w3.setCell ⟨n, k, none⟩ (.int .u8 ((B ^^^ D : Nat) : Int))) := by go_simp
        refine ⟨_, RA.ex_store (by rfl) (by rfl) e, (hbr.out.trans ((Chg.no hR).mono (by have := hbr.out.size; rw [HN.out]; exact this))).setCell (p := ⟨n, k, none⟩) (Nat.le_refl n) _, ?_, ?_, A1.keep (setCell_heap_ne _ _ _ (by simp))⟩
        · have := hR.size
          simp
          omega
        · rw [addL, addC, ← hq.out, ← hj.out, ← hM.out, ← hs.out, ← hW.out, ← hB.out, ← hD.out]
          exact hset
      refine RA.RA.doneT (fun w3 hH => ?_)
      simp only [RA.put, List.foldr_cons, List.foldr_nil, cx, Act.put, List.setIfInBounds_toArray, List.set_cons_succ, List.set_cons_zero]
      replace hH := Lib.hid hH
      go_wp2
      go_roundw
      case rel => exact ⟨k + 1, by omega, by go_num, hH.out.1, hH.out.2.1, hH.out.2.2.1, hH.out.2.2.2⟩
      case measure => simp [intOf]; omega
    · have hk6 : k = 16 := by omega
      rw [hk6] at H0
      clear hk6
      obtain ⟨L, hL⟩ : ∃ L, L = addL b ks r 16 := ⟨_, rfl⟩
      rw [← hL] at H0
      have hLl : L.length = 16 := hL ▸ addL_length.trans hb
      replace hL := Lib.hid hL
      have hst := run_storeAt_at (P := Try.prog) (off := 0) (x := L) H1.out (size61 hLl) (by rw [hLl, List.length_replicate]; omega)
      have hsp : splice (List.replicate 16 0) 0 L = L := by
        simp only [splice, List.take_zero, List.nil_append]
        rw [List.drop_eq_nil_of_le (by rw [hLl, List.length_replicate]; omega), List.append_nil]
      rw [hsp] at hst
      have hfin := H1.out.setRow L
      have hi := size61 hLl
      replace hst := Lib.hid hst
      replace hfin := Lib.hid hfin
      replace hi := Lib.hid hi
      replace hbr := Lib.hid hbr
      go_wp2_with (first
        | (refine wpList_load_row rfl 61 _ rfl n rfl 61 _ (0, 0) _ H0.out Try.underlying61 rfl (by rw [hi.out]; simp [u8s_length]) ?_)
        | (refine wpList_store rfl 61 _ _ rfl _ _ rfl rfl hst.out ?_))
      refine bodyPost_ret (results_cell_row Try.results46 _ _ (n + 1) 61 _ (0, 0) _ rfl hfin.out Try.underlying61 rfl (by rw [hi.out]; simp [u8s_length])) rfl ⟨by rw [hL.out], ?_⟩
      exact below_setRow (HN.out ▸ hbr.out) (by rw [HN.out]; omega) _

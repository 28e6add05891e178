/-
  sbox.Tables: as plain lists. No condition beyond what each theorem names.
-/
import Derived.Test.YtbgfdbidbjlaaaaBckSboxPk
import Derived.Test.YtbgfdbidbjlaaaaBckRegionB
import Derived.Laws.Rows
import Derived.Laws.Tables
import Derived.ChangeKeysEq
namespace Go.Proofs.Ytbgfdbidbjlaaaa.Fd
open Go Go.RowKit K

def pwX : Nat → UInt8
  | 0 => 1
  | k + 1 => byte ((pwX k).toNat ^^^ twice (pwX k).toNat)
def pwL : Nat → List UInt8
  | 0 => List.replicate 255 0
  | k + 1 => (pwL k).set k (pwX k)
theorem pwL_length {k : Nat} : (pwL k).length = 255 := by
  induction k with
  | zero => exact List.length_replicate
  | succ k ih => exact List.length_set.trans ih
def pw (i : Nat) : UInt8 := (pwL 255).getD i 0
def sbL : Nat → List UInt8
  | 0 => (List.replicate 256 0).set 0 (byte (turned 0))
  | k + 1 => (sbL k).set (pw k).toNat (byte (turned (pw ((255 - k) % 255)).toNat))
theorem sbL_length {k : Nat} : (sbL k).length = 256 := by
  induction k with
  | zero => exact List.length_set.trans List.length_replicate
  | succ k ih => exact List.length_set.trans ih
def sb (i : Nat) : UInt8 := (sbL 255).getD i 0
def bkL : Nat → List UInt8
  | 0 => List.replicate 256 0
  | k + 1 => (bkL k).set (sb k).toNat (byte k)
theorem bkL_length {k : Nat} : (bkL k).length = 256 := by
  induction k with
  | zero => exact List.length_replicate
  | succ k ih => exact List.length_set.trans ih

theorem u8s_set (l : List UInt8) (i : Nat) (b : UInt8) : u8s (l.set i b) = (u8s l).set i (u8 b) := by simp [u8s, List.map_set]

theorem u8s_ix (l : List UInt8) (j : Nat) (h : j < l.length) : (u8s l).toArray[j]? = some (.int .u8 (l.getD j 0).toNat) := by simp [u8s, u8, List.getD, h]
theorem u8s_all (l : List UInt8) : (u8s l).toArray.all (·.oneCell') = true := by
  rw [Array.all_eq_true_iff_forall_mem]
  intro x hx
  exact u8s_one l x (by simpa using hx)
/-- a[i] of an array by value, its elements of one cell each -/
theorem run_index_agg {P : Program} {t e : TypeId} {n : Nat} {cs : Array Value} {k : IntKind} {j : Nat} {v : Value} (h : P.underlying t = some (.array n e)) (hi : (P.info? e).isSome = true) (hp : P.plainKey e = true) (hc : P.cellsOf e = 1) (hj : j < n) (hv : cs[j]? = some v) (w : World) :
    (Instr.index t (.agg cs) (.int k j)).run P w = .ok v w := by
  obtain ⟨inf, hinf⟩ := Option.isSome_iff_exists.1 hi
  have h2 := run_part_plain (P := P) (w := w) hp hv
  have h3 := run_sizeOf (P := P) (w := w) hinf
  rw [hc] at h3
  have hj' : (j : Int) < n := by omega
  simp only [Instr.index, run_underlying h, asIntOf, Sem.run_bind, Sem.run_pure, Result.andThen, Int.toNat_natCast, h3, Nat.mul_one, h2, Int.natCast_nonneg, hj', and_self, if_true]

/-- a block is an array of bytes -/
def Arr (w : World) (b : Nat) (t : TypeId) (l : List UInt8) : Prop := w.heap[b]? = some (.cells (u8s l).toArray t (0, 0))
theorem Arr.cell {w : World} {b : Nat} {t : TypeId} {l : List UInt8} (h : Arr w b t l) (j : Nat) (hj : j < l.length) : w.cell? ⟨b, j, none⟩ = some (.int .u8 (l.getD j 0).toNat) := by
  rw [cell_of h]
  simp [u8s, u8, hj, List.getD]
theorem Arr.frozen {w : World} {b : Nat} {t : TypeId} {l : List UInt8} (h : Arr w b t l) (j : Nat) : w.frozen? ⟨b, j, none⟩ = false := frozen_of h j
theorem Arr.set {w : World} {b : Nat} {t : TypeId} {l : List UInt8} (h : Arr w b t l) (j : Nat) (c : UInt8) : Arr (w.setCell ⟨b, j, none⟩ (.int .u8 c.toNat)) b t (l.set j c) := by
  unfold Arr
  rw [setCell_block h, u8s_set]
  simp [u8]
theorem Arr.keep {w w' : World} {b : Nat} {t : TypeId} {l : List UInt8} (h : Arr w b t l) (e : w'.heap[b]? = w.heap[b]?) : Arr w' b t l := e.trans h

theorem Arr.of {w : World} {b : Nat} {t : TypeId} {l : List UInt8} {cs : Array Value} (e : cs = (u8s l).toArray) (h : w.heap[b]? = some (.cells cs t (0, 0))) : Arr w b t l := by
  subst e
  exact h
theorem setRow_same {w : World} {g : Nat} {cs : Array Value} {t : TypeId} (h : w.heap[g]? = some (.cells cs t (0, 0))) : w.setRow g cs = w := by
  have e : (w.setRow g cs).heap = w.heap := by
    apply Array.ext_getElem?
    intro i
    by_cases hi : i = g
    · subst hi
      rw [setRow_heap w _ cs cs t (0, 0) h, h]
    · rw [setRow_other _ _ _ _ hi]
  have e2 : w.setRow g cs = { w with heap := (w.setRow g cs).heap } := rfl
  rw [e2, e]
theorem run_loadAt_arr {P : Program} {w : World} {n m : Nat} {t e : TypeId} {l : List UInt8} (h : Arr w n t l) (hu : P.underlying t = some (.array m e)) (hi : (P.info? t).map (·.size) = some l.length) :
    (Instr.loadAt t (.pointer (some ⟨n, 0, none⟩))).run P w = .ok (.agg (u8s l).toArray) w := by
  simp only [Instr.loadAt, Instr.sureAddr, Sem.run_bind, Sem.run_pure, Result.andThen]
  exact run_loadVar_row w n t t _ (0, 0) _ h hu rfl (by rw [hi]; simp [u8s_length])
theorem run_storeAt_arr {P : Program} {w : World} {n : Nat} {t : TypeId} {l : List UInt8} (h : Arr w n t l) (hi : (P.info? t).map (·.size) = some l.length) :
    (Instr.storeAt t (.pointer (some ⟨n, 0, none⟩)) (.agg (u8s l).toArray)).run P w = .ok () w := by
  simp only [Instr.storeAt, Instr.sureAddr, Sem.run_bind, Sem.run_pure, Result.andThen]
  rw [run_storeVar_row w n t t _ _ h (by rw [hi]; simp [u8s_length]) rfl (u8s_all l), setRow_same h]
theorem results_two {P : Program} {fn : Func} {p q : Tmp} {ty ty' : TypeId} (h : fn.results = #[.cell p ty, .cell q ty']) (tmps : Array Value) (w : World) {a b : Addr} {u v : Value}
    (hp : tmps.getD p undef = .pointer (some a)) (hq : tmps.getD q undef = .pointer (some b)) (h0 : (loadVar ty a).run P w = .ok u w) (h1 : (loadVar ty' b).run P w = .ok v w) :
    (results fn tmps).run P w = .ok (.tuple #[u, v]) w := by
  have hp' : tmps[p]?.getD undef = .pointer (some a) := by simpa using hp
  have hq' : tmps[q]?.getD undef = .pointer (some b) := by simpa using hq
  simp [results, h, hp', hq', asAddr, h0, h1]
theorem zero101 : Try.zeroCells101 = (u8s (List.replicate 256 0)).toArray := by kernel_rfl
theorem zero145 : Try.zeroCells145 = (u8s (List.replicate 255 0)).toArray := by kernel_rfl

set_option maxRecDepth 100000 in
set_option maxHeartbeats 2000000 in
theorem tables_ok (w : World) : Calls Try.prog 68 #[] w fun e w' => e = .returned (.tuple #[.agg (u8s (sbL 255)).toArray, .agg (u8s (bkL 256)).toArray]) ∧ Below w.heap.size w w' := by
  obtain ⟨n, hn⟩ : ∃ n, n = w.heap.size := ⟨_, rfl⟩
  go_enter Try.func68, Try.ntmps68
  go_wp2
  rw [← hn]
  replace hn := Lib.hid hn
  go_loopw [3, 9] (fun x i wr => ∃ k : Nat, k ≤ 255 ∧ i = .int .i64 k ∧ x = .int .u8 (pwX k).toNat ∧ Below n w wr ∧ n + 2 < wr.heap.size ∧ Hid (Arr wr n 101 (List.replicate 256 0)) ∧ Hid (Arr wr (n + 1) 101 (List.replicate 256 0)) ∧ Hid (Arr wr (n + 1 + 1) 145 (pwL k)))
    (fun _ i _ => 255 - (intOf i).toNat)
  case atStart =>
    refine ⟨0, by omega, rfl, rfl, ?_, ?_, ?_, ?_, ?_⟩
    · exact (((Below.refl _ _).alloc (Nat.le_of_eq hn.out) _).alloc (by simp [hn.out]) _).alloc (by simp [hn.out]; omega) _
    · simp [hn.out]
    · rw [hn.out]
      exact Arr.of zero101 <| (Below.heap_alloc _ _ _ (by simp; omega)).trans ((Below.heap_alloc _ _ _ (by simp)).trans (heap_alloc_new w _))
    · have h := heap_alloc_new (w.alloc (.cells Try.zeroCells101 101)) (.cells Try.zeroCells101 101)
      simp only [World.size_alloc] at h
      rw [hn.out]
      exact Arr.of zero101 <| (Below.heap_alloc _ _ _ (by simp)).trans h
    · have h := heap_alloc_new ((w.alloc (.cells Try.zeroCells101 101)).alloc (.cells Try.zeroCells101 101)) (.cells Try.zeroCells145 145)
      simp only [World.size_alloc] at h
      rw [hn.out]
      exact Arr.of zero145 h
  case round =>
    obtain ⟨k, hk, rfl, rfl, hbr, hsz, H0, H1, H2⟩ := hrel
    by_cases hlt : k < 255
    · have hc := H2.out.cell k (by rw [pwL_length]; exact hlt)
      have hf := H2.out.frozen k
      obtain ⟨X, hX⟩ : ∃ X, X = pwX k := ⟨_, rfl⟩
      rw [← hX]
      have hxl := X.toNat_lt
      have hx := u8_xor_nat X.toNat (twice X.toNat) hxl twice_lt
      have hxb := xor8 hxl (@twice_lt X.toNat)
      replace hX := Lib.hid hX
      go_wp2_with (go_at_call 69; (with_reducible refine (twice_ok _ hxl _).mono ?_); rintro e w' ⟨rfl, rfl⟩)
      go_roundw
      case rel =>
        refine ⟨k + 1, by omega, by go_num, ?_, hbr.setCell (by show n ≤ n + 1 + 1; omega) _, by simp; omega, ?_, ?_, ?_⟩
        · rw [pwX, ← hX.out, byte_toNat hxb]
        · exact H0.out.keep (setCell_heap_ne _ _ _ (by simp; omega))
        · exact H1.out.keep (setCell_heap_ne _ _ _ (by simp))
        · show Arr _ _ _ _
          rw [pwL, ← hX.out]
          exact H2.out.set k X
      case measure => simp [intOf]; omega
    · have hk5 : k = 255 := by omega
      rw [hk5] at H2
      replace hk5 := Lib.hid hk5
      obtain ⟨X, hX⟩ : ∃ X, X = pwX k := ⟨_, rfl⟩
      rw [← hX]
      clear hX
      obtain ⟨L, hL⟩ : ∃ L, L = pwL 255 := ⟨_, rfl⟩
      rw [← hL] at H2
      have hLl : L.length = 255 := hL ▸ pwL_length
      replace hL := Lib.hid hL
      replace hLl := Lib.hid hLl
      go_wp2_with (go_at_call 75; fail)
      refine (u8arg (turned_ok 0 (by omega) _) rfl).mono ?_
      rintro e w1 ⟨rfl, hb⟩
      have hbr := Lib.hid hbr
      have G0 := Lib.hid (H0.out.keep (hb.block n (by omega)))
      have G1 := Lib.hid (H1.out.keep (hb.block (n + 1) (by omega)))
      have G2 := Lib.hid (H2.out.keep (hb.block (n + 1 + 1) (by omega)))
      have hbb := Lib.hid (hbr.out.trans (hb.mono (by have := hbr.out.size; rw [hn.out]; exact this)))
      have hsz1 := Lib.hid (Nat.lt_of_lt_of_le hsz hb.size)
      clear H0 H1 H2 hbr hb hsz
      have hf0 := G0.out.frozen 0
      have hc0 := G0.out.cell 0 (by decide)
      have hset := G0.out.set 0 (byte (turned 0))
      rw [byte_toNat turned_lt] at hset
      have F0 := Lib.hid hset
      clear hset
      have F1 := Lib.hid (G1.out.keep (setCell_heap_ne w1 ⟨n, 0, none⟩ (.int .u8 (turned 0)) (k := n + 1) (by simp)))
      have F2 := Lib.hid (G2.out.keep (setCell_heap_ne w1 ⟨n, 0, none⟩ (.int .u8 (turned 0)) (k := n + 1 + 1) (by simp; omega)))
      have fb := Lib.hid (hbb.out.setCell (p := ⟨n, 0, none⟩) (Nat.le_refl n) (.int .u8 (turned 0)))
      go_wp2_with (refine wpList_load_row rfl 145 _ rfl (n + 1 + 1) rfl 145 _ (0, 0) _ F2.out Try.underlying145 rfl (by simp only [List.size_toArray, u8s_length, hLl.out]; kernel_rfl) ?_)
      generalize decide ((k : Int) < 255) = dd
      have hsz2 := Lib.hid (show n + 2 < (w1.setCell ⟨n, 0, none⟩ (.int .u8 (turned 0))).heap.size by simpa using hsz1.out)
      generalize w1.setCell ⟨n, 0, none⟩ (.int .u8 (turned 0)) = w2 at *
      go_loopw [23] (fun i wr => ∃ j : Nat, j ≤ 255 ∧ i = .int .i64 j ∧ Below n w wr ∧ n + 2 < wr.heap.size ∧ Hid (Arr wr n 101 (sbL j)) ∧ Hid (Arr wr (n + 1) 101 (List.replicate 256 0)) ∧ Hid (Arr wr (n + 1 + 1) 145 L))
        (fun i _ => 255 - (intOf i).toNat)
      case atStart => exact ⟨0, by omega, rfl, fb.out, hsz2.out, F0.out, F1.out, F2.out⟩
      case round =>
        obtain ⟨j, hj, rfl, hbr, hsz, H0, H1, H2⟩ := hrel
        by_cases hlt : j < 255
        · have hix : (u8s L).toArray[j]? = some (.int .u8 (L.getD j 0).toNat) := by
            exact u8s_ix L j (by rw [hLl.out]; exact hlt)
          have hrun := fun (w : World) (c : UInt8) hv => run_index_agg (P := Try.prog) (cs := (u8s L).toArray) (k := .i64) (j := j) (v := .int .u8 c.toNat) Try.underlying145 (by kernel_rfl) (by kernel_rfl) (by kernel_rfl) hlt hv w
          replace hrun := Lib.hid hrun
          obtain ⟨M, hM⟩ : ∃ M : Nat, M = (255 - j) % 255 := ⟨_, rfl⟩
          have hM2 : (255 - (j : Int)) % 255 = M := by omega
          have hM3 : M < 255 := by omega
          replace hM := Lib.hid hM
          have hc2 := H2.out.cell M (by rw [hLl.out]; exact hM3)
          obtain ⟨c, hc⟩ : ∃ c, c = L.getD j 0 := ⟨_, rfl⟩
          rw [← hc] at hix
          have hrn := fun w => hrun.out w c hix
          replace hc := Lib.hid hc
          obtain ⟨d, hd⟩ : ∃ d, d = L.getD M 0 := ⟨_, rfl⟩
          rw [← hd] at hc2
          replace hd := Lib.hid hd
          have hcl := c.toNat_lt
          have hdl := d.toNat_lt
          go_wp2_with fail
          refine (turned_ok d.toNat hdl _).mono ?_
          rintro e w1 ⟨rfl, hb⟩
          have G0 := Lib.hid (H0.out.keep (hb.block n (by omega)))
          have G1 := Lib.hid (H1.out.keep (hb.block (n + 1) (by omega)))
          have G2 := Lib.hid (H2.out.keep (hb.block (n + 1 + 1) (by omega)))
          have hbb := Lib.hid (hbr.trans (hb.mono (by have := hbr.size; rw [hn.out]; exact this)))
          have hsz1 := Lib.hid (Nat.lt_of_lt_of_le hsz hb.size)
          clear H0 H1 H2 hbr hb hsz hc2
          have hf0 := G0.out.frozen c.toNat
          have hc0 := G0.out.cell c.toNat (by rw [sbL_length]; exact hcl)
          go_wp2
          go_roundw
          case rel =>
            refine ⟨j + 1, by omega, by go_num, hbb.out.setCell (p := ⟨n, c.toNat, none⟩) (Nat.le_refl n) _, by simpa using hsz1.out, ?_, G1.out.keep (setCell_heap_ne _ _ _ (by simp)), G2.out.keep (setCell_heap_ne _ _ _ (by simp; omega))⟩
            have h := G0.out.set c.toNat (byte (turned d.toNat))
            rw [byte_toNat turned_lt] at h
            show Arr _ _ _ _
            rw [sbL, pw, pw, ← hL.out, ← hM.out, ← hc.out, ← hd.out]
            exact h
          case measure => simp [intOf]; omega
        · have hj5 : j = 255 := by omega
          rw [hj5] at H0
          clear hj5 hk5 F0 F1 F2 G0 G1 G2 hbb fb hsz1 hsz2 hf0 hc0 H2
          obtain ⟨B, hB⟩ : ∃ B, B = sbL 255 := ⟨_, rfl⟩
          rw [← hB] at H0
          have hBl : B.length = 256 := hB ▸ sbL_length
          replace hB := Lib.hid hB
          replace hBl := Lib.hid hBl
          go_wp2_with (refine wpList_load_row rfl 101 _ rfl n rfl 101 _ (0, 0) _ H0.out Try.underlying101 rfl (by simp only [List.size_toArray, u8s_length, hBl.out]; kernel_rfl) ?_)
          generalize decide ((j : Int) < 255) = dd2
          have F0 := H0
          have F1 := H1
          have hbr2 := Lib.hid hbr
          have hsz2 := Lib.hid hsz
          clear H0 H1 hbr hsz
          go_loopw [37] (fun i wr => ∃ j : Nat, j ≤ 256 ∧ i = .int .i64 j ∧ Below n w wr ∧ n + 2 < wr.heap.size ∧ Hid (Arr wr n 101 B) ∧ Hid (Arr wr (n + 1) 101 (bkL j)))
            (fun i _ => 256 - (intOf i).toNat)
          case atStart => exact ⟨0, by omega, rfl, hbr2.out, hsz2.out, F0.out, F1.out⟩
          case round =>
            clear F0 F1 hbr2 hsz2
            obtain ⟨q, hq, rfl, hbr, hsz, H0, H1⟩ := hrel
            by_cases hlt : q < 256
            · have hix : (u8s B).toArray[q]? = some (.int .u8 (B.getD q 0).toNat) := by
                exact u8s_ix B q (by rw [hBl.out]; exact hlt)
              have hrun := fun (w : World) (c : UInt8) hv => run_index_agg (P := Try.prog) (cs := (u8s B).toArray) (k := .i64) (j := q) (v := .int .u8 c.toNat) Try.underlying101 (by kernel_rfl) (by kernel_rfl) (by kernel_rfl) hlt hv w
              replace hrun := Lib.hid hrun
              obtain ⟨c, hc⟩ : ∃ c, c = B.getD q 0 := ⟨_, rfl⟩
              rw [← hc] at hix
              have hrn := fun w => hrun.out w c hix
              replace hc := Lib.hid hc
              have hcl := c.toNat_lt
              have hf0 := H1.out.frozen c.toNat
              have hc0 := H1.out.cell c.toNat (by rw [bkL_length]; exact hcl)
              replace hbr := Lib.hid hbr
              go_wp2
              go_roundw
              case rel =>
                refine ⟨q + 1, by omega, by go_num, hbr.out.setCell (p := ⟨n + 1, c.toNat, none⟩) (by show n ≤ n + 1; omega) _, by simpa using hsz, H0.out.keep (setCell_heap_ne _ _ _ (by simp)), ?_⟩
                have h := H1.out.set c.toNat (byte q)
                rw [byte_toNat hlt] at h
                show Arr _ _ _ _
                rw [bkL, sb, ← hB.out, ← hc.out]
                exact h
              case measure => simp [intOf]; omega
            · have hq5 : q = 256 := by omega
              rw [hq5] at H1
              clear hq5
              obtain ⟨C, hC⟩ : ∃ C, C = bkL 256 := ⟨_, rfl⟩
              rw [← hC] at H1
              have hCl : C.length = 256 := hC ▸ bkL_length
              replace hC := Lib.hid hC
              have hCi : (Try.prog.info? 101).map (·.size) = some C.length := by rw [hCl]; kernel_rfl
              have hBi : (Try.prog.info? 101).map (·.size) = some B.length := by rw [hBl.out]; kernel_rfl
              have k0 := fun (w3 : World) (h : Chg No wr.drew w3) => H0.out.keep (h.block n (by show n < wr.heap.size; omega) id)
              have k1 := fun (w3 : World) (h : Chg No wr.drew w3) => H1.out.keep (h.block (n + 1) (by show n + 1 < wr.heap.size; omega) id)
              have hl0 := fun (w3 : World) (h : Chg No wr.drew w3) => run_loadAt_arr (P := Try.prog) (k0 w3 h) Try.underlying101 hBi
              have hl1 := fun (w3 : World) (h : Chg No wr.drew w3) => run_loadAt_arr (P := Try.prog) (k1 w3 h) Try.underlying101 hCi
              have hs0 := fun (w3 : World) (h : Chg No wr.drew w3) => run_storeAt_arr (P := Try.prog) (k0 w3 h) hBi
              have hs1 := fun (w3 : World) (h : Chg No wr.drew w3) => run_storeAt_arr (P := Try.prog) (k1 w3 h) hCi
              replace k0 := Lib.hid k0
              replace k1 := Lib.hid k1
              replace hl0 := Lib.hid hl0
              replace hl1 := Lib.hid hl1
              replace hs0 := Lib.hid hs0
              replace hs1 := Lib.hid hs1
              have hCi := Lib.hid hCi
              have hBi := Lib.hid hBi
              have hbr2 := Lib.hid hbr
              clear hbr
              go_wp2
              refine RA.region (fun a b => Chg No a b) (· = ·) [1, 1, 2, 2] (fun _ _ _ => True) (fun _ => True) (by kernel_rfl) (Chg.refl _ _) (fun _ _ h => h ▸ Chg.refl _ _) (fun _ _ _ h k => h.trans k) (fun _ _ h k => h ▸ k) trivial (by kernel_rfl) ?_
              intro cx
              refine RA.ld (by rfl) (by rfl) (by rfl) (y' := .agg (u8s B).toArray) (fun w3 hp => hl0.out w3 hp.1) ?_
              refine RA.ld (by rfl) (by rfl) (by rfl) (y' := .agg (u8s C).toArray) (fun w3 hp => hl1.out w3 hp.1) ?_
              refine RA.nst (by rfl) (by rfl) (fun w => rfl) (fun _ _ => trivial) (fun w3 hp => RA.ex_store (by rfl) (by rfl) (hs0.out w3 hp.1)) (fun u1 => ?_)
              refine RA.nst (by rfl) (by rfl) (fun w => rfl) (fun _ _ => trivial) (fun w3 hp => RA.ex_store (by rfl) (by rfl) (hs1.out w3 hp.1)) (fun u2 => ?_)
              refine RA.RA.done rfl (fun w3 hR hF hH => ?_)
              clear hF hH
              simp only [RA.put, List.foldr_cons, List.foldr_nil, cx, Act.put, List.setIfInBounds_toArray, List.set_cons_succ, List.set_cons_zero]
              go_wp2
              have hR : Chg No wr.drew w3 := hR
              refine bodyPost_ret (v := .tuple #[.agg (u8s B).toArray, .agg (u8s C).toArray]) ?_ rfl ⟨by rw [hB.out, hC.out], ?_⟩
              · exact results_two Try.results68 _ w3 (a := ⟨n, 0, none⟩) (b := ⟨n + 1, 0, none⟩) rfl rfl (run_loadVar_row w3 n _ _ _ (0, 0) _ (k0.out w3 hR) Try.underlying101 rfl (by rw [hBi.out]; simp [u8s_length])) (run_loadVar_row w3 (n + 1) _ _ _ (0, 0) _ (k1.out w3 hR) Try.underlying101 rfl (by rw [hCi.out]; simp [u8s_length]))
              · rw [← hn.out]
                have h : Below wr.heap.size wr w3 := Chg.no ⟨hR.os, hR.tape, hR.output, hR.size, hR.block⟩
                exact hbr2.out.trans (h.mono (by omega))

attribute [irreducible] pwL sbL bkL

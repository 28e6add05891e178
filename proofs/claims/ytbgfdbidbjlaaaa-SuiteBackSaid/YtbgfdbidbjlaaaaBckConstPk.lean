/-
  Texts of this claim, laid together by a program of mine. No condition beyond what each theorem names.
-/
import Derived.Test.YtbgfdbidbjlaaaaBckWord
/-
  sha.Constants, sha.New. No condition beyond what each theorem names.
-/
namespace Go.Proofs.Ytbgfdbidbjlaaaa.Fd
open Go Go.RowKit K

theorem primes8 : (primes 8).length = 8 ∧ ∀ p ∈ primes 8, p < 1000 := by decide +kernel
theorem primes64 : (primes 64).length = 64 ∧ ∀ p ∈ primes 64, p < 1000 := by decide +kernel
def startL : List Nat := (primes 8).map (root · 2)
def allL : List Nat := (primes 64).map (root · 3)
theorem startL_length : startL.length = 8 := by simp [startL, primes8.1]
theorem allL_length : allL.length = 64 := by simp [allL, primes64.1]
theorem root2'_ok (p : Nat) (hp : p < 1000) (w : World) : Calls Try.prog 64 #[.int .u64 p, .int .i64 2] w fun e w' => e = .returned (.int .u32 (root p 2 : Nat)) ∧ w = w' := by
  have h := root2_ok p hp w
  have e : root p 2 = rootF p 2 37 68719476736 0 % 4294967296 := by rw [root, aboveN]; simp
  rw [e]
  exact h
theorem root3'_ok (p : Nat) (hp : p < 1000) (w : World) : Calls Try.prog 64 #[.int .u64 p, .int .i64 3] w fun e w' => e = .returned (.int .u32 (root p 3 : Nat)) ∧ w = w' := by
  have h := root3_ok p (p * 4294967296) hp rfl w
  have e : root p 3 = rootF (p * 4294967296) 3 37 68719476736 0 % 4294967296 := by rw [root, aboveN]
  rw [e]
  exact h
attribute [irreducible] startL allL

set_option maxRecDepth 100000 in
set_option maxHeartbeats 4000000 in
theorem const_ok (w : World) : Calls Try.prog 55 #[] w fun e w' => e = .returned (.tuple #[.agg (n32s startL).toArray, .agg (n32s allL).toArray]) ∧ Below w.heap.size w w' := by
  obtain ⟨n, hn⟩ : ∃ n, n = w.heap.size := ⟨_, rfl⟩
  have HN := Lib.hid hn
  have p8 := fun w1 => primes_ok 8 (by omega) (Nat.le_of_eq primes8.1.symm) w1
  have p64 := fun w1 => primes_ok 64 (by omega) (Nat.le_of_eq primes64.1.symm) w1
  have s8 : startL = fillL 8 (fun p => root p 2) (primes 8) 8 := by rw [fillL_all primes8.1]; unfold startL; rfl
  have s64 : allL = fillL 64 (fun p => root p 3) (primes 64) 64 := by rw [fillL_all primes64.1]; unfold allL; rfl
  obtain ⟨P8, hP8⟩ : ∃ P, P = primes 8 := ⟨_, rfl⟩
  obtain ⟨P64, hP64⟩ : ∃ P, P = primes 64 := ⟨_, rfl⟩
  have q8 := primes8
  have q64 := primes64
  rw [← hP8] at p8 s8 q8
  rw [← hP64] at p64 s64 q64
  clear hP8 hP64
  rw [q8.1] at p8
  rw [q64.1] at p64
  obtain ⟨R8, hR8⟩ : ∃ R, R = startL := ⟨_, rfl⟩
  obtain ⟨R64, hR64⟩ : ∃ R, R = allL := ⟨_, rfl⟩
  rw [← hR8, ← hR64]
  rw [← hR8] at s8
  rw [← hR64] at s64
  clear hR8 hR64
  replace p8 := Lib.hid p8
  replace p64 := Lib.hid p64
  replace q8 := Lib.hid q8
  replace q64 := Lib.hid q64
  replace s8 := Lib.hid s8
  replace s64 := Lib.hid s64
  clear hn
  go_enter Try.func55, Try.ntmps55
  go_wp2_with fail
  refine (p8.out _).mono ?_
  rintro e w1 ⟨v, rfl, ho, hb⟩
  have hA0 : ArrN w1 n 118 (List.replicate 8 0) := by
    refine ArrN.keep ?_ (hb.block n (by simp [HN.out]; omega))
    rw [HN.out]
    exact (Below.heap_alloc _ _ _ (by simp)).trans (heap_alloc_new w _)
  have hA1 : ArrN w1 (n + 1) 119 (List.replicate 64 0) := by
    refine ArrN.keep ?_ (hb.block (n + 1) (by simp [HN.out]))
    have h := heap_alloc_new (w.alloc (.cells (n32s (List.replicate 8 0)).toArray 118)) (.cells (n32s (List.replicate 64 0)).toArray 119)
    simp only [World.size_alloc] at h
    rw [HN.out]
    exact h
  have hB1 : Below n w w1 := by
    rw [HN.out]
    exact (((Below.refl _ _).alloc (Nat.le_refl _) _).alloc (by simp) _).trans (hb.mono (by simp; omega))
  have hc := (Cells.own ho).mono (S' := fun g => n + 1 < g) (fun g _ hg => by have := hg.2; simp at this; have := HN.out; omega)
  obtain ⟨va, vc, rfl, hv1, hv2⟩ := hc.shape
  unfold maxLen at hv2
  rw [← HN.out]
  replace hA0 := Lib.hid hA0
  replace hA1 := Lib.hid hA1
  replace hB1 := Lib.hid hB1
  replace hc := Lib.hid hc
  clear ho hb
  go_wp2
  go_loopw [8] (fun i wr => ∃ k : Nat, k ≤ 8 ∧ i = .int .i64 k ∧ Below n w wr ∧ n + 1 < wr.heap.size ∧ Hid (Cells wr (fun g => n + 1 < g) (.slice va 8 vc) 8 1 (u64s P8)) ∧ Hid (ArrN wr n 118 (fillL 8 (fun p => root p 2) P8 k)) ∧ Hid (ArrN wr (n + 1) 119 (List.replicate 64 0)))
    (fun i _ => 8 - (intOf i).toNat)
  case atStart => exact ⟨0, by omega, rfl, hB1.out, heap_lt hA1.out, hc.out, hA0.out, hA1.out⟩
  case round =>
    clear hA0 hA1 hB1 hc
    obtain ⟨k, hk, rfl, hbr, hs, hc, H0, H1⟩ := hrel
    replace hbr := Lib.hid hbr
    by_cases hlt : k < 8
    · obtain ⟨g, off, cp, hv, _, _, hgn, hgl, hcl⟩ := Cells.at hc.out (by omega)
      simp only [Value.slice.injEq] at hv
      obtain ⟨rfl, _, rfl⟩ := hv
      have hcell := hcl k _ (u64s_get P8 k (by rw [q8.out.1]; exact hlt))
      replace hcl := Lib.hid hcl
      obtain ⟨p, hp⟩ : ∃ p, p = P8.getD k 0 := ⟨_, rfl⟩
      rw [← hp] at hcell
      have hpl : p < 1000 := by
        rw [hp]
        refine q8.out.2 _ ?_
        simp [List.getD, show k < P8.length by rw [q8.out.1]; exact hlt]
      have hroot := Lib.hid (root2'_ok p hpl wr)
      obtain ⟨R, hR⟩ : ∃ R, R = root p 2 := ⟨_, rfl⟩
      rw [← hR] at hroot
      have hstep : (fillL 8 (fun p => root p 2) P8 k).set k R = fillL 8 (fun p => root p 2) P8 (k + 1) := by
        rw [hR, hp]
        exact fillL_succ q8.out.1 hlt
      have f0 := H0.out.frozen k
      have c0 := H0.out.cell k (by rw [fillL_length q8.out.1 hk]; exact hlt)
      have hset := H0.out.set k R
      rw [hstep] at hset
      replace hset := Lib.hid hset
      clear hstep hR hp
      go_wp2_with (go_at_call 64; (with_reducible refine hroot.out.mono ?_); rintro e w' ⟨rfl, rfl⟩)
      go_roundw
      case rel =>
        refine ⟨k + 1, by omega, by go_num, hbr.out.setCell (p := ⟨n, k, none⟩) (Nat.le_refl n) _, by simpa using hs, ?_, hset.out, ?_⟩
        · exact hc.out.keep (by simp) (fun b hb _ => setCell_heap_ne _ _ _ (by simp; omega))
        · exact H1.out.keep (setCell_heap_ne _ _ _ (by simp))
      case measure => simp [intOf]; omega
    · have hk8 : k = 8 := by omega
      rw [hk8] at H0
      replace hk8 := Lib.hid hk8
      go_wp2_with fail
      refine (p64.out wr).mono ?_
      rintro e w2 ⟨v, rfl, ho, hb⟩
      have hA0 : ArrN w2 n 118 R8 := by
        rw [s8.out]
        exact H0.out.keep (hb.block n (by omega))
      have hA1 : ArrN w2 (n + 1) 119 (List.replicate 64 0) := H1.out.keep (hb.block (n + 1) hs)
      have hB2 : Below n w w2 := hbr.out.trans (hb.mono (by omega))
      have hs2 : n + 1 < w2.heap.size := heap_lt hA1
      have hcc := (Cells.own ho).mono (S' := fun g => n + 1 < g) (fun g _ hg => by have := hg.2; omega)
      obtain ⟨va2, vc2, rfl, hv21, hv22⟩ := hcc.shape
      unfold maxLen at hv22
      replace hA0 := Lib.hid hA0
      replace hA1 := Lib.hid hA1
      replace hB2 := Lib.hid hB2
      replace hcc := Lib.hid hcc
      have hR8 : R8.length = 8 := by rw [s8.out, fillL_length q8.out.1 (Nat.le_refl _)]
      have hR64 : R64.length = 64 := by rw [s64.out, fillL_length q64.out.1 (Nat.le_refl _)]
      clear ho hb H0 H1 hc hbr hs hk8 hk
      generalize decide ((k : Int) < 8) = dd
      generalize Value.int .i64 (k : Int) = kk
      go_wp2
      go_loopw [20] (fun i wr => ∃ k : Nat, k ≤ 64 ∧ i = .int .i64 k ∧ Below n w wr ∧ n + 1 < wr.heap.size ∧ Hid (Cells wr (fun g => n + 1 < g) (.slice va2 64 vc2) 64 1 (u64s P64)) ∧ Hid (ArrN wr n 118 R8) ∧ Hid (ArrN wr (n + 1) 119 (fillL 64 (fun p => root p 3) P64 k)))
        (fun i _ => 64 - (intOf i).toNat)
      case atStart => exact ⟨0, by omega, rfl, hB2.out, hs2, hcc.out, hA0.out, hA1.out⟩
      case round =>
        clear hA0 hA1 hB2 hcc hs2
        obtain ⟨k, hk, rfl, hbr, hs, hc, H0, H1⟩ := hrel
        replace hbr := Lib.hid hbr
        by_cases hlt : k < 64
        · obtain ⟨g, off, cp, hv, _, _, hgn, hgl, hcl⟩ := Cells.at hc.out (by omega)
          simp only [Value.slice.injEq] at hv
          obtain ⟨rfl, _, rfl⟩ := hv
          have hcell := hcl k _ (u64s_get P64 k (by rw [q64.out.1]; exact hlt))
          replace hcl := Lib.hid hcl
          obtain ⟨p, hp⟩ : ∃ p, p = P64.getD k 0 := ⟨_, rfl⟩
          rw [← hp] at hcell
          have hpl : p < 1000 := by
            rw [hp]
            refine q64.out.2 _ ?_
            simp [List.getD, show k < P64.length by rw [q64.out.1]; exact hlt]
          have hroot := Lib.hid (root3'_ok p hpl wr)
          obtain ⟨R, hR⟩ : ∃ R, R = root p 3 := ⟨_, rfl⟩
          rw [← hR] at hroot
          have hstep : (fillL 64 (fun p => root p 3) P64 k).set k R = fillL 64 (fun p => root p 3) P64 (k + 1) := by
            rw [hR, hp]
            exact fillL_succ q64.out.1 hlt
          have f0 := H1.out.frozen k
          have c0 := H1.out.cell k (by rw [fillL_length q64.out.1 hk]; exact hlt)
          have hset := H1.out.set k R
          rw [hstep] at hset
          replace hset := Lib.hid hset
          clear hstep hR hp
          go_wp2_with (go_at_call 64; (with_reducible refine hroot.out.mono ?_); rintro e w' ⟨rfl, rfl⟩)
          go_roundw
          case rel =>
            refine ⟨k + 1, by omega, by go_num, hbr.out.setCell (p := ⟨n + 1, k, none⟩) (by show n ≤ n + 1; omega) _, by simpa using hs, ?_, ?_, hset.out⟩
            · exact hc.out.keep (by simp) (fun b hb _ => setCell_heap_ne _ _ _ (by simp; omega))
            · exact H0.out.keep (setCell_heap_ne _ _ _ (by simp))
          case measure => simp [intOf]; omega
        · have hk8 : k = 64 := by omega
          rw [hk8, ← s64.out] at H1
          clear hk8
          have k0 := fun (w3 : World) (h : Chg No wr.drew w3) => H0.out.keep (h.block n (by show n < wr.heap.size; omega) id)
          have k1 := fun (w3 : World) (h : Chg No wr.drew w3) => H1.out.keep (h.block (n + 1) (by show n + 1 < wr.heap.size; omega) id)
          have hl0 := fun (w3 : World) (h : Chg No wr.drew w3) => run_loadAt_arrN (P := Try.prog) (k0 w3 h) Try.underlying118 (size8 hR8)
          have hl1 := fun (w3 : World) (h : Chg No wr.drew w3) => run_loadAt_arrN (P := Try.prog) (k1 w3 h) Try.underlying119 (size64 hR64)
          have hs0 := fun (w3 : World) (h : Chg No wr.drew w3) => run_storeAt_same (P := Try.prog) (k0 w3 h) (size8 hR8)
          have hs1 := fun (w3 : World) (h : Chg No wr.drew w3) => run_storeAt_same (P := Try.prog) (k1 w3 h) (size64 hR64)
          replace k0 := Lib.hid k0
          replace k1 := Lib.hid k1
          replace hl0 := Lib.hid hl0
          replace hl1 := Lib.hid hl1
          replace hs0 := Lib.hid hs0
          replace hs1 := Lib.hid hs1
          replace hR8 := Lib.hid hR8
          replace hR64 := Lib.hid hR64
          go_wp2
          refine RA.region (fun a b => Chg No a b) (· = ·) [1, 1, 2, 2] (fun _ _ _ => True) (fun _ => True) (by kernel_rfl) (Chg.refl _ _) (fun _ _ h => h ▸ Chg.refl _ _) (fun _ _ _ h k => h.trans k) (fun _ _ h k => h ▸ k) trivial (by kernel_rfl) ?_
          intro cx
          refine RA.ld (by rfl) (by rfl) (by rfl) (y' := .agg (n32s R8).toArray) (fun w3 hp => hl0.out w3 hp.1) ?_
          refine RA.ld (by rfl) (by rfl) (by rfl) (y' := .agg (n32s R64).toArray) (fun w3 hp => hl1.out w3 hp.1) ?_
          refine RA.nst (by rfl) (by rfl) (fun w => rfl) (fun _ _ => trivial) (fun w3 hp => RA.ex_store (by rfl) (by rfl) (hs0.out w3 hp.1)) (fun u1 => ?_)
          refine RA.nst (by rfl) (by rfl) (fun w => rfl) (fun _ _ => trivial) (fun w3 hp => RA.ex_store (by rfl) (by rfl) (hs1.out w3 hp.1)) (fun u2 => ?_)
          refine RA.RA.done rfl (fun w3 hR hF hH => ?_)
          clear hF hH
          simp only [RA.put, List.foldr_cons, List.foldr_nil, cx, Act.put, List.setIfInBounds_toArray, List.set_cons_succ, List.set_cons_zero]
          go_wp2
          have hR : Chg No wr.drew w3 := hR
          refine bodyPost_ret (v := .tuple #[.agg (n32s R8).toArray, .agg (n32s R64).toArray]) ?_ rfl ⟨rfl, ?_⟩
          · exact results_two Try.results55 _ w3 (a := ⟨n, 0, none⟩) (b := ⟨n + 1, 0, none⟩) rfl rfl (run_loadVar_row w3 n _ _ _ (0, 0) _ (k0.out w3 hR) Try.underlying118 rfl (by rw [size8 hR8.out]; simp [n32s_length])) (run_loadVar_row w3 (n + 1) _ _ _ (0, 0) _ (k1.out w3 hR) Try.underlying119 rfl (by rw [size64 hR64.out]; simp [n32s_length]))
          · rw [← HN.out]
            have h : Below wr.heap.size wr w3 := Chg.no ⟨hR.os, hR.tape, hR.output, hR.size, hR.block⟩
            exact hbr.out.trans (h.mono (by omega))
end Go.Proofs.Ytbgfdbidbjlaaaa.Fd
/-
  sha.New. No condition beyond what each theorem names.
-/
namespace Go.Proofs.Ytbgfdbidbjlaaaa.Fd
open Go Go.RowKit K

theorem n32s_splice (l : List Nat) (off : Nat) (x : List Nat) : splice (n32s l) off (n32s x) = n32s (splice l off x) := by simp [splice, n32s, List.map_take, List.map_drop]
theorem splice_front {α : Type} {x y z : List α} (h : x.length = z.length) : splice (z ++ y) 0 x = x ++ y := by
  simp [splice, h]
theorem splice_back {α : Type} {x y z : List α} (h : x.length = y.length) : splice (z ++ y) z.length x = z ++ x := by
  simp [splice, h]
/-- a summer -/
def SummerAt (w : World) (p : Nat) : Prop := ArrN w p 121 (startL ++ allL)
theorem SummerAt.keep {w w' : World} {p : Nat} (h : SummerAt w p) (e : w'.heap[p]? = w.heap[p]?) : SummerAt w' p := ArrN.keep h e

set_option maxRecDepth 100000 in
set_option maxHeartbeats 4000000 in
theorem shNew_ok (w : World) : Calls Try.prog 49 #[] w fun e w' => ∃ p, e = .returned (.pointer (some ⟨p, 0, none⟩)) ∧ w.heap.size ≤ p ∧ SummerAt w' p ∧ Below w.heap.size w w' := by
  obtain ⟨n, hn⟩ : ∃ n, n = w.heap.size := ⟨_, rfl⟩
  have HN := Lib.hid hn
  have hc := fun w1 => const_ok w1
  have hfin : ∀ w', ArrN w' n 121 (startL ++ allL) → SummerAt w' n := fun _ h => h
  have hs8 := startL_length
  have hs64 := allL_length
  obtain ⟨R8, hR8⟩ : ∃ R, R = startL := ⟨_, rfl⟩
  obtain ⟨R64, hR64⟩ : ∃ R, R = allL := ⟨_, rfl⟩
  rw [← hR8] at hs8
  rw [← hR64] at hs64
  rw [← hR8, ← hR64] at hfin
  rw [← hR8, ← hR64] at hc
  clear hR8 hR64 hn
  replace hc := Lib.hid hc
  replace hfin := Lib.hid hfin
  replace hs8 := Lib.hid hs8
  replace hs64 := Lib.hid hs64
  go_enter Try.func49, Try.ntmps49
  go_wp2_with fail
  refine (hc.out _).mono ?_
  rintro e w1 ⟨rfl, hb⟩
  rw [← HN.out]
  have hA0 : ArrN w1 n 121 (List.replicate 8 0 ++ List.replicate 64 0) := by
    refine ArrN.keep ?_ (hb.block n (by simp [HN.out]))
    rw [HN.out]
    exact heap_alloc_new w _
  have hB1 : Below n w w1 := by
    rw [HN.out]
    exact ((Below.refl _ _).alloc (Nat.le_refl _) _).trans (hb.mono (by simp))
  have hst1 := run_storeAt_vals (P := Try.prog) (off := 0) (ty := 118) (x := n32s R8) hA0 (by rw [size8 hs8.out, n32s_length]) (by simp [n32s_length, hs8.out]) (n32s_one R8)
  rw [show (n32s (List.replicate 8 0 ++ List.replicate 64 0)).toArray.toList = n32s (List.replicate 8 0 ++ List.replicate 64 0) from rfl, n32s_splice, splice_front (by rw [hs8.out, List.length_replicate])] at hst1
  obtain ⟨w2, hw2⟩ : ∃ w2, w2 = w1.setRow n (n32s (R8 ++ List.replicate 64 0)).toArray := ⟨_, rfl⟩
  have hA2 : ArrN w2 n 121 (R8 ++ List.replicate 64 0) := hw2 ▸ hA0.setRow _
  have hB2 : Below n w w2 := hw2 ▸ below_setRow hB1 (Nat.le_refl n) _
  rw [← hw2] at hst1
  have hst2 := run_storeAt_vals (P := Try.prog) (off := 8) (ty := 119) (x := n32s R64) hA2 (by rw [size64 hs64.out, n32s_length]) (by simp [n32s_length, hs8.out, hs64.out]) (n32s_one R64)
  have e8 : splice (R8 ++ List.replicate 64 0) 8 R64 = R8 ++ R64 := by
    have := splice_back (x := R64) (y := List.replicate 64 0) (z := R8) (by rw [hs64.out, List.length_replicate])
    rw [hs8.out] at this
    exact this
  rw [show (n32s (R8 ++ List.replicate 64 0)).toArray.toList = n32s (R8 ++ List.replicate 64 0) from rfl, n32s_splice, e8] at hst2
  have hA3 := hA2.setRow (R8 ++ R64)
  have hB3 := below_setRow hB2 (Nat.le_refl n) (n32s (R8 ++ R64)).toArray
  replace hst1 := Lib.hid hst1
  replace hst2 := Lib.hid hst2
  replace hA3 := Lib.hid hA3
  replace hB3 := Lib.hid hB3
  clear hA0 hB1 hA2 hB2 hw2 e8 hb
  go_wp2_with (first
    | (refine wpList_store rfl 118 _ _ rfl _ _ rfl rfl hst1.out ?_)
    | (refine wpList_store rfl 119 _ _ rfl _ _ rfl rfl hst2.out ?_))
  go_ret
  exact ⟨n, rfl, Nat.le_of_eq HN.out.symm, hfin.out _ hA3.out, HN.out ▸ hB3.out⟩
end Go.Proofs.Ytbgfdbidbjlaaaa.Fd

/-
  sha.New. No condition beyond what each theorem names.
-/
import Derived.Test.YtbgfdbidbjlaaaaTksConst
namespace Go.Proofs.Ytbgfdbidbjlaaaa.Fd
open Go Go.RowKit K

theorem n32s_splice (l : List Nat) (off : Nat) (x : List Nat) : splice (n32s l) off (n32s x) = n32s (splice l off x) := by simp [splice, n32s, List.map_take, List.map_drop]
theorem splice_front {α : Type} {x y z : List α} (h : x.length = z.length) : splice (z ++ y) 0 x = x ++ y := by
  simp [splice, h]
theorem splice_back {α : Type} {x y z : List α} (h : x.length = y.length) : splice (z ++ y) z.length x = z ++ x := by
  simp [splice, h]
/-- a summer -/
def SummerAt (w : World) (p : Nat) : Prop := ArrN w p 121 (startL ++ allL)
theorem SummerAt.keep {w w' : World} {p : Nat} (h : SummerAt w p) (e : w'.heap[p]? = w.heap[p]?) : SummerAt w' p := ArrN.keep h e

set_option maxRecDepth 100000 in
set_option maxHeartbeats 4000000 in
theorem shNew_ok (w : World) : Calls Try.prog 49 #[] w fun e w' => ∃ p, e = .returned (.pointer (some ⟨p, 0, none⟩)) ∧ w.heap.size ≤ p ∧ SummerAt w' p ∧ Below w.heap.size w w' := by
  obtain ⟨n, hn⟩ : ∃ n, n = w.heap.size := ⟨_, rfl⟩
  have HN := Lib.hid hn
  have hc := fun w1 => const_ok w1
  have hfin : ∀ w', ArrN w' n 121 (startL ++ allL) → SummerAt w' n := fun _ h => h
  have hs8 := startL_length
  have hs64 := allL_length
  obtain ⟨R8, hR8⟩ : ∃ R, R = startL := ⟨_, rfl⟩
  obtain ⟨R64, hR64⟩ : ∃ R, R = allL := ⟨_, rfl⟩
  rw [← hR8] at hs8
  rw [← hR64] at hs64
  rw [← hR8, ← hR64] at hfin
  rw [← hR8, ← hR64] at hc
  clear hR8 hR64 hn
  replace hc := Lib.hid hc
  replace hfin := Lib.hid hfin
  replace hs8 := Lib.hid hs8
  replace hs64 := Lib.hid hs64
  go_enter Try.func49, Try.ntmps49
  go_wp2_with fail
  refine (hc.out _).mono ?_
  rintro e w1 ⟨rfl, hb⟩
  rw [← HN.out]
  have hA0 : ArrN w1 n 121 (List.replicate 8 0 ++ List.replicate 64 0) := by
    refine ArrN.keep ?_ (hb.block n (by simp [HN.out]))
    rw [HN.out]
    exact heap_alloc_new w _
  have hB1 : Below n w w1 := by
    rw [HN.out]
    exact ((Below.refl _ _).alloc (Nat.le_refl _) _).trans (hb.mono (by simp))
  have hst1 := run_storeAt_vals (P := Try.prog) (off := 0) (ty := 118) (x := n32s R8) hA0 (by rw [size8 hs8.out, n32s_length]) (by simp [n32s_length, hs8.out]) (n32s_one R8)
  rw [show (n32s (List.replicate 8 0 ++ List.replicate 64 0)).toArray.toList = n32s (List.replicate 8 0 ++ List.replicate 64 0) from rfl, n32s_splice, splice_front (by rw [hs8.out, List.length_replicate])] at hst1
  obtain ⟨w2, hw2⟩ : ∃ w2, w2 = w1.setRow n (n32s (R8 ++ List.replicate 64 0)).toArray := ⟨_, rfl⟩
  have hA2 : ArrN w2 n 121 (R8 ++ List.replicate 64 0) := hw2 ▸ hA0.setRow _
  have hB2 : Below n w w2 := hw2 ▸ below_setRow hB1 (Nat.le_refl n) _
  rw [← hw2] at hst1
  have hst2 := run_storeAt_vals (P := Try.prog) (off := 8) (ty := 119) (x := n32s R64) hA2 (by rw [size64 hs64.out, n32s_length]) (by simp [n32s_length, hs8.out, hs64.out]) (n32s_one R64)
  have e8 : splice (R8 ++ List.replicate 64 0) 8 R64 = R8 ++ R64 := by
    have := splice_back (x := R64) (y := List.replicate 64 0) (z := R8) (by rw [hs64.out, List.length_replicate])
    rw [hs8.out] at this
    exact this
  rw [show (n32s (R8 ++ List.replicate 64 0)).toArray.toList = n32s (R8 ++ List.replicate 64 0) from rfl, n32s_splice, e8] at hst2
  have hA3 := hA2.setRow (R8 ++ R64)
  have hB3 := below_setRow hB2 (Nat.le_refl n) (n32s (R8 ++ R64)).toArray
  replace hst1 := Lib.hid hst1
  replace hst2 := Lib.hid hst2
  replace hA3 := Lib.hid hA3
  replace hB3 := Lib.hid hB3
  clear hA0 hB1 hA2 hB2 hw2 e8 hb
  go_wp2_with (first
    | (refine wpList_store rfl 118 _ _ rfl _ _ rfl rfl hst1.out ?_)
    | (refine wpList_store rfl 119 _ _ rfl _ _ rfl rfl hst2.out ?_))
  go_ret
  exact ⟨n, rfl, Nat.le_of_eq HN.out.symm, hfin.out _ hA3.out, HN.out ▸ hB3.out⟩
end Go.Proofs.Ytbgfdbidbjlaaaa.Fd

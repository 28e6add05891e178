/-
  Arrays of words. No condition: a tool for the other texts.
-/
import Derived.Test.YtbgfdbidbjlaaaaBckMulPk
import Derived.Test.YtbgfdbidbjlaaaaBckSboxPk
import Derived.Test.YtbgfdbidbjlaaaaBckLitPk
namespace Go.Proofs.Ytbgfdbidbjlaaaa.Fd
open Go Go.RowKit K

def n32s (l : List Nat) : List Value := l.map fun (x : Nat) => .int .u32 x
theorem n32s_length (l : List Nat) : (n32s l).length = l.length := by simp [n32s]
theorem n32s_set (l : List Nat) (i x : Nat) : n32s (l.set i x) = (n32s l).set i (.int .u32 x) := by simp [n32s, List.map_set]
theorem n32s_one (l : List Nat) : ∀ u ∈ n32s l, u.oneCell' = true := by
  intro u hu
  simp only [n32s, List.mem_map] at hu
  obtain ⟨x, _, rfl⟩ := hu
  rfl
theorem n32s_get (l : List Nat) (j : Nat) (h : j < l.length) : (n32s l)[j]? = some (.int .u32 (l.getD j 0 : Nat)) := by simp [n32s, List.getD, h]
/-- a block is an array of words -/
def ArrN (w : World) (b : Nat) (t : TypeId) (l : List Nat) : Prop := w.heap[b]? = some (.cells (n32s l).toArray t (0, 0))
theorem ArrN.cell {w : World} {b : Nat} {t : TypeId} {l : List Nat} (h : ArrN w b t l) (j : Nat) (hj : j < l.length) : w.cell? ⟨b, j, none⟩ = some (.int .u32 (l.getD j 0 : Nat)) := by
  rw [cell_of h, ← n32s_get l j hj]
  simp
theorem ArrN.frozen {w : World} {b : Nat} {t : TypeId} {l : List Nat} (h : ArrN w b t l) (j : Nat) : w.frozen? ⟨b, j, none⟩ = false := frozen_of h j
theorem ArrN.set {w : World} {b : Nat} {t : TypeId} {l : List Nat} (h : ArrN w b t l) (j x : Nat) : ArrN (w.setCell ⟨b, j, none⟩ (.int .u32 x)) b t (l.set j x) := by
  unfold ArrN
  rw [setCell_block h, n32s_set]
  simp
theorem ArrN.keep {w w' : World} {b : Nat} {t : TypeId} {l : List Nat} (h : ArrN w b t l) (e : w'.heap[b]? = w.heap[b]?) : ArrN w' b t l := e.trans h
theorem ArrN.of {w : World} {b : Nat} {t : TypeId} {l : List Nat} {cs : Array Value} (e : cs = (n32s l).toArray) (h : w.heap[b]? = some (.cells cs t (0, 0))) : ArrN w b t l := by
  subst e
  exact h
theorem ArrN.setRow {w : World} {b : Nat} {t : TypeId} {l : List Nat} (h : ArrN w b t l) (l' : List Nat) : ArrN (w.setRow b (n32s l').toArray) b t l' := setRow_heap w b _ _ t _ h
section
variable {P : Program}
theorem run_loadAt_arrN {w : World} {n m : Nat} {t e : TypeId} {l : List Nat} (h : ArrN w n t l) (hu : P.underlying t = some (.array m e)) (hi : (P.info? t).map (·.size) = some l.length) :
    (Instr.loadAt t (.pointer (some ⟨n, 0, none⟩))).run P w = .ok (.agg (n32s l).toArray) w := by
  simp only [Instr.loadAt, Instr.sureAddr, Sem.run_bind, Sem.run_pure, Result.andThen]
  exact run_loadVar_row w n t t _ (0, 0) _ h hu rfl (by rw [hi]; simp [n32s_length])
/-- cells that are known one by one -/
theorem run_loadAt_vals {w : World} {g off m : Nat} {ty e : TypeId} {x : List Value} (hu : P.underlying ty = some (.array m e)) (hi : (P.info? ty).map (·.size) = some x.length)
    (hx : ∀ j v, x[j]? = some v → w.cell? ⟨g, off + j, none⟩ = some v) : (Instr.loadAt ty (.pointer (some ⟨g, off, none⟩))).run P w = .ok (.agg x.toArray) w := by
  have hl2 : (loadCells ⟨g, off, none⟩ x.length).run P w = .ok x.toArray w :=
    run_loadCells_list (P := P) w ⟨g, off, none⟩ x (fun j v hv => by rw [Addr.add_lit]; exact hx j v hv)
  have h : (loadVar ty ⟨g, off, none⟩).run P w = .ok (.agg x.toArray) w := by
    cases hq : P.info? ty with
    | none => simp [hq] at hi
    | some i =>
      have hs : i.size = x.length := by simpa [hq] using hi
      have hagg : (isAgg ty).run P w = .ok true w := by
        unfold isAgg
        rw [Sem.run_bind, run_underlying hu w]
        simp
      simp [loadVar, Sem.run_bind, hagg, sizeOf, typeInfo, hq, hs, hl2]
  simp only [Instr.loadAt, Instr.sureAddr, Sem.run_bind, Sem.run_pure, Result.andThen]
  exact h
/-- values stored over a part of a block -/
theorem run_storeAt_vals {w : World} {n off : Nat} {t ty : TypeId} {cs : Array Value} {x : List Value} (h : w.heap[n]? = some (.cells cs t (0, 0))) (hi : (P.info? ty).map (·.size) = some x.length) (hl : off + x.length ≤ cs.size) (h1 : ∀ v ∈ x, v.oneCell' = true) :
    (Instr.storeAt ty (.pointer (some ⟨n, off, none⟩)) (.agg x.toArray)).run P w = .ok () (w.setRow n (splice cs.toList off x).toArray) := by
  have h2 := run_storeCells_at (P := P) n off t x 0 _ w h (by omega) h1
  simp only [Instr.storeAt, Instr.sureAddr, Sem.run_bind, Sem.run_pure, Result.andThen]
  cases hq : P.info? ty with
  | none => simp [hq] at hi
  | some i =>
    have hs : x.length = i.size := by simp [hq] at hi; omega
    simpa [storeVar, sizeOf, typeInfo, hq, Value.cells, hs] using h2
theorem splice_whole {α : Type} {l x : List α} (h : l.length = x.length) : splice l 0 x = x := by
  simp only [splice, List.take_zero, List.nil_append]
  rw [List.drop_eq_nil_of_le (by omega), List.append_nil]
theorem run_storeAt_arrN {w : World} {n : Nat} {t ty : TypeId} {l x : List Nat} (h : ArrN w n t l) (hi : (P.info? ty).map (·.size) = some x.length) (hl : l.length = x.length) :
    (Instr.storeAt ty (.pointer (some ⟨n, 0, none⟩)) (.agg (n32s x).toArray)).run P w = .ok () (w.setRow n (n32s x).toArray) := by
  have h2 := run_storeAt_vals (P := P) (off := 0) (x := n32s x) h (by rw [hi, n32s_length]) (by simp [n32s_length]; omega) (n32s_one x)
  rw [show (n32s l).toArray.toList = n32s l from rfl] at h2
  rw [splice_whole (by rw [n32s_length, n32s_length, hl])] at h2
  exact h2
theorem run_storeAt_same {w : World} {n : Nat} {t ty : TypeId} {l : List Nat} (h : ArrN w n t l) (hi : (P.info? ty).map (·.size) = some l.length) :
    (Instr.storeAt ty (.pointer (some ⟨n, 0, none⟩)) (.agg (n32s l).toArray)).run P w = .ok () w := by
  have h2 := run_storeAt_arrN (P := P) h hi rfl
  rw [setRow_same h] at h2
  exact h2
end
theorem size8 {l : List Nat} (h : l.length = 8) : (Try.prog.info? 118).map (·.size) = some l.length := by rw [h]; kernel_rfl
theorem size64 {l : List Nat} (h : l.length = 64) : (Try.prog.info? 119).map (·.size) = some l.length := by rw [h]; kernel_rfl
/-- a list filled from the front -/
def fillL (m : Nat) (r : Nat → Nat) (ps : List Nat) (k : Nat) : List Nat := (ps.take k).map r ++ List.replicate (m - k) 0
theorem fillL_length {m : Nat} {r : Nat → Nat} {ps : List Nat} (h : ps.length = m) {k : Nat} (hk : k ≤ m) : (fillL m r ps k).length = m := by simp [fillL]; omega
theorem fillL_succ {m : Nat} {r : Nat → Nat} {ps : List Nat} (h : ps.length = m) {k : Nat} (hk : k < m) : (fillL m r ps k).set k (r (ps.getD k 0)) = fillL m r ps (k + 1) := by
  have hk' : k < ps.length := by omega
  unfold fillL
  rw [List.take_succ_eq_append_getElem hk', List.map_append, show m - k = (m - (k + 1)) + 1 by omega, List.replicate_succ]
  rw [List.set_append_right _ _ (by simp; omega)]
  have e : k - (List.map r (ps.take k)).length = 0 := by simp; omega
  rw [e, List.set_cons_zero]
  simp [List.getD, hk']
theorem fillL_all {m : Nat} {r : Nat → Nat} {ps : List Nat} (h : ps.length = m) : fillL m r ps m = ps.map r := by simp [fillL, List.take_of_length_le (Nat.le_of_eq h)]
end Go.Proofs.Ytbgfdbidbjlaaaa.Fd

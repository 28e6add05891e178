/-
  Blocks of bytes: what is stored into a part of one, and read of a part. No condition: a tool for the other texts.
-/
import Derived.Test.YtbgfdbidbjlaaaaBckTables
namespace Go.Proofs.Ytbgfdbidbjlaaaa.Fd
open Go Go.RowKit K

theorem splice_getD (l x : List UInt8) (off i : Nat) (h : off + x.length ≤ l.length) : (splice l off x).getD i 0 = if off ≤ i ∧ i < off + x.length then x.getD (i - off) 0 else l.getD i 0 := by
  have h1 : (l.take off).length = off := by simp; omega
  simp only [splice, List.getD]
  by_cases ha : i < off
  · rw [List.getElem?_append_left (by omega), List.getElem?_take, if_pos ha, if_neg (by omega)]
  · rw [List.getElem?_append_right (by omega), h1]
    by_cases hb : i < off + x.length
    · rw [List.getElem?_append_left (by omega), if_pos ⟨by omega, hb⟩]
    · rw [List.getElem?_append_right (by omega), List.getElem?_drop, if_neg (by omega)]
      congr 2
      omega

section
variable {P : Program}
theorem run_storeCells_at (g off : Nat) (t : TypeId) : ∀ (vs : List Value) (i : Nat) (cur : Array Value) (w : World), w.heap[g]? = some (.cells cur t (0, 0)) → off + i + vs.length ≤ cur.size → (∀ v ∈ vs, v.oneCell' = true) →
    (storeCells ⟨g, off, none⟩ vs i).run P w = .ok () (w.setRow g (splice cur.toList (off + i) vs).toArray)
  | [], i, cur, w, hg, hl, _ => by
    have : splice cur.toList (off + i) [] = cur.toList := by simp [splice]
    simp only [storeCells, this, Array.toArray_toList, setRow_same hg]
    rfl
  | v :: rest, i, cur, w, hg, hl, h1 => by
    have hi : off + i < cur.size := by simp at hl; omega
    have hadd : (⟨g, off, none⟩ : Addr).add i = ⟨g, off + i, none⟩ := Addr.add_lit _ _ _
    have hcell : w.cell? ⟨g, off + i, none⟩ = some cur[off + i] := by simp [World.cell?, hg, hi]
    have hfro : w.frozen? ⟨g, off + i, none⟩ = false := by simp [World.frozen?, hg]
    have hst : (store ((⟨g, off, none⟩ : Addr).add i) v).run P w = .ok () (w.setRow g (cur.setIfInBounds (off + i) v)) := by
      rw [hadd, run_store P w _ v _ (h1 v (by simp)), hcell]
      simp [hfro, setCell_eq_setRow w g (off + i) cur t (0, 0) v hg]
    have ih := run_storeCells_at g off t rest (i + 1) (cur.setIfInBounds (off + i) v) (w.setRow g (cur.setIfInBounds (off + i) v)) (setRow_heap w g cur _ t _ hg) (by simp at hl ⊢; omega) (fun x hx => h1 x (by simp [hx]))
    simp only [storeCells, Sem.run_bind, hst, Result.andThen_ok, ih, setRow_setRow]
    congr 3
    apply List.ext_getElem?
    intro k
    simp only [Array.toList_setIfInBounds, splice, List.getElem?_append, List.length_take, List.length_set, Array.length_toList, List.getElem?_take, List.getElem?_drop, List.getElem?_set, List.length_cons]
    simp only [List.length_cons] at hl
    by_cases hk : k < off + i
    · simp [hk, show k < off + (i + 1) by omega, show min (off + (i + 1)) cur.size = off + (i + 1) by omega, show min (off + i) cur.size = off + i by omega, show off + i ≠ k by omega]
    · by_cases hk2 : k = off + i
      · subst hk2
        simp [show min (off + (i + 1)) cur.size = off + (i + 1) by omega, show min (off + i) cur.size = off + i by omega, show off + i < off + (i + 1) by omega, hi]
      · have e1 : k - (off + i) = (k - (off + (i + 1))) + 1 := by omega
        simp [hk, show ¬ k < off + (i + 1) by omega, show min (off + (i + 1)) cur.size = off + (i + 1) by omega, show min (off + i) cur.size = off + i by omega, e1]
        split
        · rfl
        · have e2 : off + (i + 1) + rest.length + (k - (off + (i + 1)) - rest.length) = off + i + (rest.length + 1) + (k - (off + (i + 1)) - rest.length) := by omega
          rw [e2, if_neg (by omega)]

theorem run_storeVar_at {w : World} {n off : Nat} {t ty : TypeId} {l x : List UInt8} (h : Arr w n t l) (hi : (P.info? ty).map (·.size) = some x.length) (hl : off + x.length ≤ l.length) :
    (storeVar ty ⟨n, off, none⟩ (.agg (u8s x).toArray)).run P w = .ok () (w.setRow n (u8s (splice l off x)).toArray) := by
  have := run_storeCells_at (P := P) n off t (u8s x) 0 _ w h (by simp [u8s_length]; omega) (u8s_one x)
  cases hq : P.info? ty with
  | none => simp [hq] at hi
  | some i =>
    have hs : x.length = i.size := by simp [hq] at hi; omega
    rw [u8s_splice]
    simpa [storeVar, sizeOf, typeInfo, hq, Value.cells, u8s_length, hs] using this
theorem run_storeAt_at {w : World} {n off : Nat} {t ty : TypeId} {l x : List UInt8} (h : Arr w n t l) (hi : (P.info? ty).map (·.size) = some x.length) (hl : off + x.length ≤ l.length) :
    (Instr.storeAt ty (.pointer (some ⟨n, off, none⟩)) (.agg (u8s x).toArray)).run P w = .ok () (w.setRow n (u8s (splice l off x)).toArray) := by
  simp only [Instr.storeAt, Instr.sureAddr, Sem.run_bind, Sem.run_pure, Result.andThen]
  exact run_storeVar_at h hi hl
/-- of cells that are known one by one -/
theorem run_loadAt_cells {w : World} {g off m : Nat} {ty e : TypeId} {x : List UInt8} (hu : P.underlying ty = some (.array m e)) (hi : (P.info? ty).map (·.size) = some x.length)
    (hx : ∀ j, j < x.length → w.cell? ⟨g, off + j, none⟩ = some (.int .u8 (x.getD j 0).toNat)) : (Instr.loadAt ty (.pointer (some ⟨g, off, none⟩))).run P w = .ok (.agg (u8s x).toArray) w := by
  have hl2 : (loadCells ⟨g, off, none⟩ (u8s x).length).run P w = .ok (u8s x).toArray w :=
    run_loadCells_list (P := P) w ⟨g, off, none⟩ (u8s x) (fun j v hv => by
      have hj : j < x.length := by
        rcases Nat.lt_or_ge j x.length with hj | hj
        · exact hj
        · rw [List.getElem?_eq_none (by rw [u8s_length]; exact hj)] at hv
          cases hv
      rw [Addr.add_lit, hx j hj, ← hv]
      simp [u8s, u8, List.getD, hj])
  have h : (loadVar ty ⟨g, off, none⟩).run P w = .ok (.agg (u8s x).toArray) w := by
    cases hq : P.info? ty with
    | none => simp [hq] at hi
    | some i =>
      have hs : i.size = x.length := by simpa [hq] using hi
      have hagg : (isAgg ty).run P w = .ok true w := by
        unfold isAgg
        rw [Sem.run_bind, run_underlying hu w]
        simp
      rw [u8s_length] at hl2
      simp [loadVar, Sem.run_bind, hagg, sizeOf, typeInfo, hq, hs, hl2]
  simp only [Instr.loadAt, Instr.sureAddr, Sem.run_bind, Sem.run_pure, Result.andThen]
  exact h
theorem run_loadVar_at {w : World} {n off m : Nat} {t ty e : TypeId} {l x : List UInt8} (h : Arr w n t l) (hu : P.underlying ty = some (.array m e)) (hi : (P.info? ty).map (·.size) = some x.length)
    (hl : off + x.length ≤ l.length) (hx : ∀ j, j < x.length → l.getD (off + j) 0 = x.getD j 0) : (loadVar ty ⟨n, off, none⟩).run P w = .ok (.agg (u8s x).toArray) w := by
  have hl2 : (loadCells ⟨n, off, none⟩ (u8s x).length).run P w = .ok (u8s x).toArray w :=
    run_loadCells_list (P := P) w ⟨n, off, none⟩ (u8s x) (fun j v hv => by
      have hj : j < x.length := by
        rcases Nat.lt_or_ge j x.length with hj | hj
        · exact hj
        · rw [List.getElem?_eq_none (by rw [u8s_length]; exact hj)] at hv
          cases hv
      rw [Addr.add_lit, h.cell _ (by omega), hx j hj, ← hv]
      simp [u8s, u8, List.getD, hj])
  cases hq : P.info? ty with
  | none => simp [hq] at hi
  | some i =>
    have hs : i.size = x.length := by simpa [hq] using hi
    have hagg : (isAgg ty).run P w = .ok true w := by
      unfold isAgg
      rw [Sem.run_bind, run_underlying hu w]
      simp
    rw [u8s_length] at hl2
    simp [loadVar, Sem.run_bind, hagg, sizeOf, typeInfo, hq, hs, hl2]
theorem run_loadAt_at {w : World} {n off m : Nat} {t ty e : TypeId} {l x : List UInt8} (h : Arr w n t l) (hu : P.underlying ty = some (.array m e)) (hi : (P.info? ty).map (·.size) = some x.length)
    (hl : off + x.length ≤ l.length) (hx : ∀ j, j < x.length → l.getD (off + j) 0 = x.getD j 0) : (Instr.loadAt ty (.pointer (some ⟨n, off, none⟩))).run P w = .ok (.agg (u8s x).toArray) w := by
  simp only [Instr.loadAt, Instr.sureAddr, Sem.run_bind, Sem.run_pure, Result.andThen]
  exact run_loadVar_at h hu hi hl hx
theorem wpList_load {w : World} {ops : Array Oper} {rest : List Oper} {o : Oper} {a : Act} {Q : Exit → Act → World → Prop} (hgd : o.guard = none) (ty : TypeId) (x : Operand) (ho : o.op = .load ty x)
    (p v : Value) (hx : a.eval x = p) (hr : (Instr.loadAt ty p).run P w = .ok v w) (h : wpList P ops Q rest (a.put o.dst v) w) : wpList P ops Q (o :: rest) a w :=
  wpList_plain hgd fun K hK => by
    unfold Oper.wp execOp
    simp only [ho, hx, Sem.run_bind, hr, Result.andThen_ok]
    exact hK _ _ h
theorem box2 (w : World) (T : TypeId) (b c : List UInt8) :
    Arr ((w.alloc (.cells (u8s b).toArray T)).alloc (.cells (u8s c).toArray T)) w.heap.size T b ∧ Arr ((w.alloc (.cells (u8s b).toArray T)).alloc (.cells (u8s c).toArray T)) (w.heap.size + 1) T c ∧
      Below w.heap.size w ((w.alloc (.cells (u8s b).toArray T)).alloc (.cells (u8s c).toArray T)) ∧ ((w.alloc (.cells (u8s b).toArray T)).alloc (.cells (u8s c).toArray T)).heap.size = w.heap.size + 2 := by
  refine ⟨(Below.heap_alloc _ _ _ (by simp)).trans (heap_alloc_new w _), ?_, ((Below.refl _ _).alloc (Nat.le_refl _) _).alloc (by simp) _, by simp⟩
  have h := heap_alloc_new (w.alloc (.cells (u8s b).toArray T)) (.cells (u8s c).toArray T)
  simp only [World.size_alloc] at h
  exact h
theorem below_setRow {B : Nat} {a w : World} (h : Below B a w) {g : Nat} (hg : B ≤ g) (cs : Array Value) : Below B a (w.setRow g cs) :=
  ⟨h.os, h.tape, h.output, by simpa using h.size, fun k hk => (setRow_other _ _ _ _ (by omega)).trans (h.block k hk)⟩
theorem wpList_store {w w' : World} {ops : Array Oper} {rest : List Oper} {o : Oper} {a : Act} {Q : Exit → Act → World → Prop} (hgd : o.guard = none) (ty : TypeId) (x y : Operand) (ho : o.op = .store ty x y)
    (p q : Value) (hx : a.eval x = p) (hy : a.eval y = q) (hr : (Instr.storeAt ty p q).run P w = .ok () w') (h : wpList P ops Q rest (a.put o.dst undef) w') : wpList P ops Q (o :: rest) a w :=
  wpList_plain hgd fun K hK => by
    unfold Oper.wp execOp
    simp only [ho, hx, hy, Sem.run_bind, hr, Result.andThen_ok]
    exact hK _ _ h
theorem Arr.setRow {w : World} {b : Nat} {t : TypeId} {l : List UInt8} (h : Arr w b t l) (l' : List UInt8) : Arr (w.setRow b (u8s l').toArray) b t l' := setRow_heap w b _ _ t _ h
end

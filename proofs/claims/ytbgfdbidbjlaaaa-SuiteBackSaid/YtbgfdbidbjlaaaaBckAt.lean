/-
  ideal.at. No condition beyond what each theorem names.
-/
import Derived.Test.YtbgfdbidbjlaaaaBckTake
namespace Go.Proofs.Ytbgfdbidbjlaaaa.Fd
open Go Go.RowKit K

def putObj (w : World) (b : Nat) (o : Obj) : World := { w with heap := w.heap.setIfInBounds b o }
theorem putObj_same {w : World} {b : Nat} {o : Obj} (h : b < w.heap.size) : (putObj w b o).heap[b]? = some o := by
  simp [putObj, h]
theorem putObj_other {w : World} {b g : Nat} {o : Obj} (h : g ≠ b) : (putObj w b o).heap[g]? = w.heap[g]? := by
  simp only [putObj]
  exact Array.getElem?_setIfInBounds_ne (Ne.symm h)
theorem putObj_size {w : World} {b : Nat} {o : Obj} : (putObj w b o).heap.size = w.heap.size := by simp [putObj]
theorem putObj_chg {C : Nat → Prop} {a b : World} (h : Chg C a b) {g : Nat} (hp : g < a.heap.size → C g) (o : Obj) : Chg C a (putObj b g o) :=
  ⟨h.os, h.tape, h.output, by rw [putObj_size]; exact h.size, fun k hk hc => by
    have hne : k ≠ g := by
      rintro rfl
      exact hc (hp hk)
    rw [putObj_other hne]
    exact h.block k hk hc⟩
section
variable {P : Program}
theorem wpList_look {w w' : World} {ops : Array Oper} {rest : List Oper} {o : Oper} {a : Act} {Q : Exit → Act → World → Prop} (hgd : o.guard = none) (t : TypeId) (x y : Operand) (ho : o.op = .lookup t x y true)
    (p q v : Value) (hx : a.eval x = p) (hy : a.eval y = q) (hr : (Instr.lookup t p q true).run P w = .ok v w') (h : wpList P ops Q rest (a.put o.dst v) w') : wpList P ops Q (o :: rest) a w :=
  wpList_plain hgd fun K hK => by
    unfold Oper.wp execOp
    simp only [ho, hx, hy, Sem.run_bind, hr, Result.andThen_ok, Sem.run_pure]
    exact hK _ _ h
theorem ex_put {w w' : World} {o : Oper} {ρ : Operand → Value} {t : TypeId} {x y z : Operand} (ho : o.op = .mapUpdate t x y z)
    {p q v : Value} (hx : ρ x = p) (hy : ρ y = q) (hz : ρ z = v) (hr : (Instr.mapUpdate t p q v).run P w = .ok () w') : (execOp ρ o).run P w = .ok .skip w' := by
  unfold execOp
  simp only [ho, hx, hy, hz, Sem.run_bind, hr, Result.andThen_ok, Sem.run_pure]
end

/-- a place's pairs: none, or one -/
def MapB (w : World) (g : Nat) : Option (List UInt8 × List UInt8) → Prop
  | none => w.heap[g]? = some (.map #[] 0)
  | some (x, y) => w.heap[g]? = some (.map #[⟨blkV x, blkV y, 0⟩] 1) ∧ x.length = 16 ∧ y.length = 16
abbrev PKey := ByteArray × Nat × Nat
def PKey.fits (k : PKey) : Prop := k.1.size ≤ maxLen ∧ k.2.1 ≤ 9223372036854775807 ∧ k.2.2 ≤ 9223372036854775807
def pkV (k : PKey) : Value := placeV k.1 k.2.1 k.2.2
theorem pkV_inj {a b : PKey} (h : pkV a = pkV b) : a = b := by
  obtain ⟨s, u, i⟩ := a
  obtain ⟨s', u', i'⟩ := b
  simp [pkV, placeV] at h
  obtain ⟨h1, h2, h3⟩ := h
  have e2 : u = u' := by omega
  have e3 : i = i' := by omega
  rw [h1, e2, e3]
structure MapP (w : World) (m : Nat) (pls : List (PKey × Nat × Nat)) (es : Array MapEntry) (clk : Nat) : Prop where
  box : w.heap[m]? = some (.map es clk)
  row : es.toList.map (fun e => (e.key, e.val)) = pls.map (fun q => (pkV q.1, .agg #[.map (some q.2.1), .map (some q.2.2)]))
  fit : ∀ q ∈ pls, q.1.fits
theorem MapP.keyed {w : World} {m : Nat} {pls : List (PKey × Nat × Nat)} {es : Array MapEntry} {clk : Nat} (h : MapP w m pls es clk) : ∀ x ∈ es.toList, ∃ l, keyOf Try.prog 91 x.key = some l := by
  intro x hx
  have h1 : (x.key, x.val) ∈ es.toList.map (fun e => (e.key, e.val)) := List.mem_map.2 ⟨x, hx, rfl⟩
  rw [h.row] at h1
  obtain ⟨q, hq, e⟩ := List.mem_map.1 h1
  simp only [Prod.mk.injEq] at e
  obtain ⟨f1, f2, f3⟩ := h.fit q hq
  rw [← e.1]
  exact key_place f1 f2 f3
theorem zero_of {P : Program} {t : TypeId} {z : Value} (h : (P.info? t).map (fun i => i.zero) = some (some z)) (w : World) : (zeroValue t).run P w = .ok z w := by
  cases hi : P.info? t with
  | none => simp [hi] at h
  | some i =>
    simp [hi] at h
    simp [zeroValue, typeInfo, hi, h]
theorem zero_pairs (w : World) : (zeroValue 65).run Try.prog w = .ok (.agg #[.map none, .map none]) w := by
  have h : (Try.prog.info? 65).map (fun i => i.zero) = some (some (.agg #[.map none, .map none])) := by kernel_rfl
  exact zero_of h w
theorem MapP.look {w : World} {m : Nat} {pls : List (PKey × Nat × Nat)} {es : Array MapEntry} {clk : Nat} (h : MapP w m pls es clk) {k : PKey} (hk : k.fits) :
    ((Instr.lookup 76 (.map (some m)) (pkV k) true).run Try.prog w = .ok (.tuple #[.agg #[.map none, .map none], .bool false]) w ∧ ∀ x ∈ es.toList, x.key ≠ pkV k) ∨
    ∃ q ∈ pls, q.1 = k ∧ (Instr.lookup 76 (.map (some m)) (pkV k) true).run Try.prog w = .ok (.tuple #[.agg #[.map (some q.2.1), .map (some q.2.2)], .bool true]) w := by
  obtain ⟨kl, hkl⟩ := key_place hk.1 hk.2.1 hk.2.2
  rcases run_look keyed_place Try.underlying76 (zero_pairs w) h.box h.keyed hkl with h1 | ⟨j, e0, h1, h2, h3⟩
  · exact .inl h1
  · refine .inr ?_
    have hm : (e0.key, e0.val) ∈ es.toList.map (fun e => (e.key, e.val)) := List.mem_map.2 ⟨e0, List.mem_of_getElem? h1, rfl⟩
    rw [h.row] at hm
    obtain ⟨q, hq, e⟩ := List.mem_map.1 hm
    simp only [Prod.mk.injEq] at e
    rw [h2] at e
    refine ⟨q, hq, pkV_inj e.1, ?_⟩
    rw [e.2]
    exact h3
theorem MapP.put {w : World} {m : Nat} {pls : List (PKey × Nat × Nat)} {es : Array MapEntry} {clk : Nat} (h : MapP w m pls es clk) {k : PKey} (hk : k.fits) (hnew : ∀ x ∈ es.toList, x.key ≠ pkV k) (f g : Nat) :
    (Instr.mapUpdate 76 (.map (some m)) (pkV k) (.agg #[.map (some f), .map (some g)])).run Try.prog w = .ok () (putObj w m (.map (es.push ⟨pkV k, .agg #[.map (some f), .map (some g)], clk⟩) (clk + 1))) ∧
    MapP (putObj w m (.map (es.push ⟨pkV k, .agg #[.map (some f), .map (some g)], clk⟩) (clk + 1))) m (pls ++ [(k, f, g)]) (es.push ⟨pkV k, .agg #[.map (some f), .map (some g)], clk⟩) (clk + 1) := by
  obtain ⟨kl, hkl⟩ := key_place hk.1 hk.2.1 hk.2.2
  refine ⟨run_put keyed_place Try.underlying76 h.box h.keyed hkl hnew, putObj_same (heap_lt h.box), by simp [h.row], ?_⟩
  intro q hq
  rcases List.mem_append.1 hq with hq | hq
  · exact h.fit q hq
  · simp at hq
    subst hq
    exact hk

theorem sizePairs : (Try.prog.info? 65).map (·.size) = some 2 := by kernel_rfl
theorem pairs_load {w : World} {b : Nat} {x y : Value} (h : w.heap[b]? = some (.cells #[x, y] 65 (0, 0))) :
    (Instr.loadAt 65 (.pointer (some ⟨b, 0, none⟩))).run Try.prog w = .ok (.agg #[x, y]) w := by
  simp only [Instr.loadAt, Instr.sureAddr, Sem.run_bind, Sem.run_pure, Result.andThen]
  exact run_loadVar_row w b 65 65 _ _ _ h Try.underlying65 rfl sizePairs
theorem pairs_store {w : World} {b : Nat} {x y : Value} {f g : Nat} (h : w.heap[b]? = some (.cells #[x, y] 65 (0, 0))) :
    (Instr.storeAt 65 (.pointer (some ⟨b, 0, none⟩)) (.agg #[.map (some f), .map (some g)])).run Try.prog w = .ok () (w.setRow b #[.map (some f), .map (some g)]) := by
  simp only [Instr.storeAt, Instr.sureAddr, Sem.run_bind, Sem.run_pure, Result.andThen]
  rw [run_storeVar_row w b 65 65 _ #[.map (some f), .map (some g)] h sizePairs rfl (by simp [Value.oneCell'])]

/-- a cipher of chance's box -/
def idBox (t : Option Addr) (m k : Nat) (c a : Int) : Obj := .cells #[.pointer t, .map (some m), .map (some k), .int .i64 c, .int .i64 a] 79 (0, 0)

set_option maxRecDepth 100000 in
set_option maxHeartbeats 2000000 in
theorem at_known {w : World} {p : Nat} {t : Option Addr} {m k : Nat} {c a : Int} (hb : w.heap[p]? = some (idBox t m k c a)) {pls : List (PKey × Nat × Nat)} {es : Array MapEntry} {clk : Nat} (hm : MapP w m pls es clk)
    {key : ByteArray} {u i : Nat} (hk : PKey.fits (key, u, i)) {f g : Nat} (hin : ((key, u, i), f, g) ∈ pls) (hone : ∀ q ∈ pls, q.1 = (key, u, i) → q.2 = (f, g)) :
    Calls Try.prog 31 #[.pointer (some ⟨p, 0, none⟩), .string key, .int .i64 u, .int .i64 i] w fun e w' => e = .returned (.agg #[.map (some f), .map (some g)]) ∧ Chg No w w' := by
  have hbox : w.heap[p]? = some (.cells #[.pointer t, .map (some m), .map (some k), .int .i64 c, .int .i64 a] 79 (0, 0)) := hb
  have hpl := heap_lt hbox
  obtain ⟨wA, hwA⟩ : ∃ x, x = w.alloc (.cells #[.map none, .map none] 65) := ⟨_, rfl⟩
  have hA : MapP wA m pls es clk := ⟨by rw [hwA]; exact (Below.heap_alloc _ _ _ (heap_lt hm.box)).trans hm.box, hm.row, hm.fit⟩
  have cA : wA.cell? ⟨p, 1, none⟩ = some (.map (some m)) := by
    have h1 : wA.heap[p]? = some (.cells #[.pointer t, .map (some m), .map (some k), .int .i64 c, .int .i64 a] 79 (0, 0)) := by rw [hwA]; exact (Below.heap_alloc _ _ _ hpl).trans hbox
    rw [cell_of h1]; rfl
  have hlk : (Instr.lookup 76 (.map (some m)) (.agg #[.string key, .int .i64 u, .int .i64 i]) true).run Try.prog wA = .ok (.tuple #[.agg #[.map (some f), .map (some g)], .bool true]) wA := by
    rcases hA.look hk with h1 | ⟨q, hq, h1, h2⟩
    · exfalso
      have hx : (pkV (key, u, i), Value.agg #[.map (some f), .map (some g)]) ∈ es.toList.map (fun e => (e.key, e.val)) := by
        rw [hm.row]
        exact List.mem_map.2 ⟨_, hin, rfl⟩
      obtain ⟨x, hx1, hx2⟩ := List.mem_map.1 hx
      simp only [Prod.mk.injEq] at hx2
      exact h1.2 x hx1 hx2.1
    · have h3 := hone q hq h1
      rw [h3] at h2
      exact h2
  clear hA hm hone hin
  have hwb : Chg No w wA := by rw [hwA]; exact (Chg.refl _ _).alloc _
  subst hwA
  replace hlk := Lib.hid hlk
  replace hwb := Lib.hid hwb
  clear hb hbox
  go_enter Try.func31, Try.ntmps31
  go_wp2_with (first | (refine wpList_look rfl 76 _ _ rfl _ _ _ rfl rfl hlk.out ?_))
  refine bodyPost_ret (results_cell_row Try.results31 _ _ w.heap.size 65 _ (0, 0) _ rfl ((Below.heap_alloc _ _ _ (by simp)).trans (heap_alloc_new w _)) Try.underlying65 rfl (by kernel_rfl)) rfl ⟨rfl, ((Chg.refl _ _).alloc _).alloc _⟩

set_option maxRecDepth 100000 in
set_option maxHeartbeats 2000000 in
theorem at_new {w : World} {p : Nat} {t : Option Addr} {m k : Nat} {c a : Int} (hb : w.heap[p]? = some (idBox t m k c a)) {pls : List (PKey × Nat × Nat)} {es : Array MapEntry} {clk : Nat} (hm : MapP w m pls es clk)
    {key : ByteArray} {u i : Nat} (hk : PKey.fits (key, u, i)) (hno : ∀ q ∈ pls, q.1 ≠ (key, u, i)) :
    Calls Try.prog 31 #[.pointer (some ⟨p, 0, none⟩), .string key, .int .i64 u, .int .i64 i] w fun e w' => ∃ f g es' clk', e = .returned (.agg #[.map (some f), .map (some g)]) ∧ w.heap.size ≤ f ∧ f < g ∧ MapB w' f none ∧ MapB w' g none ∧
      MapP w' m (pls ++ [((key, u, i), f, g)]) es' clk' ∧ Chg (fun b => b = m) w w' := by
  have hbox : w.heap[p]? = some (.cells #[.pointer t, .map (some m), .map (some k), .int .i64 c, .int .i64 a] 79 (0, 0)) := hb
  have hpl := heap_lt hbox
  have hml := heap_lt hm.box
  obtain ⟨wA, hwA⟩ : ∃ x, x = w.alloc (.cells #[.map none, .map none] 65) := ⟨_, rfl⟩
  have hA : MapP wA m pls es clk := ⟨by rw [hwA]; exact (Below.heap_alloc _ _ _ hml).trans hm.box, hm.row, hm.fit⟩
  have cA : wA.cell? ⟨p, 1, none⟩ = some (.map (some m)) := by
    have h1 : wA.heap[p]? = some (.cells #[.pointer t, .map (some m), .map (some k), .int .i64 c, .int .i64 a] 79 (0, 0)) := by rw [hwA]; exact (Below.heap_alloc _ _ _ hpl).trans hbox
    rw [cell_of h1]; rfl
  have hlk : (Instr.lookup 76 (.map (some m)) (.agg #[.string key, .int .i64 u, .int .i64 i]) true).run Try.prog wA = .ok (.tuple #[.agg #[.map none, .map none], .bool false]) wA := by
    rcases hA.look hk with h1 | ⟨q, hq, h1, h2⟩
    · exact h1.1
    · exact absurd h1 (hno q hq)
  have hnew : ∀ x ∈ es.toList, x.key ≠ pkV (key, u, i) := by
    intro x hx e
    have h1 : (x.key, x.val) ∈ es.toList.map (fun e => (e.key, e.val)) := List.mem_map.2 ⟨x, hx, rfl⟩
    rw [hm.row] at h1
    obtain ⟨q, hq, e1⟩ := List.mem_map.1 h1
    simp only [Prod.mk.injEq] at e1
    exact hno q hq (pkV_inj (e1.1.trans e))
  have hmm := @run_makeMap Try.prog
  subst hwA
  replace hlk := Lib.hid hlk
  replace hnew := Lib.hid hnew
  replace hm := Lib.hid hm
  clear hb hA
  replace hbox := Lib.hid hbox
  go_enter Try.func31, Try.ntmps31
  go_wp2_with (first | (refine wpList_look rfl 76 _ _ rfl _ _ _ rfl rfl hlk.out ?_))
  clear hmm hlk cA
  obtain ⟨n, hn⟩ : ∃ n, n = w.heap.size := ⟨_, rfl⟩
  obtain ⟨W0, hW0⟩ : ∃ x, x = w.alloc (.cells #[.map none, .map none] 65) := ⟨_, rfl⟩
  obtain ⟨W1, hW1⟩ : ∃ x, x = W0.alloc (.cells #[.map (some (w.heap.size + 1 + 1)), .map (some (w.heap.size + 1 + 1 + 1))] 65) := ⟨_, rfl⟩
  obtain ⟨W2, hW2⟩ : ∃ x, x = W1.alloc (.map #[] 0) := ⟨_, rfl⟩
  obtain ⟨W, hW⟩ : ∃ x, x = W2.alloc (.map #[] 0) := ⟨_, rfl⟩
  rw [← hW0, ← hW1, ← hW2, ← hW]
  have s0 : W0.heap.size = n + 1 := by rw [hW0, hn]; simp
  have s1 : W1.heap.size = n + 2 := by rw [hW1]; simp [s0]
  have s2 : W2.heap.size = n + 3 := by rw [hW2]; simp [s1]
  have b0 : Below n w W0 := by rw [hW0, hn]; exact (Below.refl _ _).alloc (Nat.le_refl _) _
  have b1 : Below (n + 1) W0 W1 := by rw [hW1, ← s0]; exact (Below.refl _ _).alloc (Nat.le_refl _) _
  have b2 : Below (n + 2) W1 W2 := by rw [hW2, ← s1]; exact (Below.refl _ _).alloc (Nat.le_refl _) _
  have b3 : Below (n + 3) W2 W := by rw [hW, ← s2]; exact (Below.refl _ _).alloc (Nat.le_refl _) _
  have x0 : W.heap[n]? = some (.cells #[.map none, .map none] 65 (0, 0)) := (b3.block n (by omega)).trans ((b2.block n (by omega)).trans ((b1.block n (by omega)).trans (by rw [hW0, hn]; exact heap_alloc_new w _)))
  have x1 : W.heap[n + 1]? = some (.cells #[.map (some (n + 2)), .map (some (n + 3))] 65 (0, 0)) := (b3.block (n + 1) (by omega)).trans ((b2.block (n + 1) (by omega)).trans (by rw [hW1, ← s0, hn]; exact heap_alloc_new W0 _))
  have x2 : W.heap[n + 2]? = some (.map #[] 0) := (b3.block (n + 2) (by omega)).trans (by rw [hW2, ← s1]; exact heap_alloc_new W1 _)
  have x3 : W.heap[n + 3]? = some (.map #[] 0) := by rw [hW, ← s2]; exact heap_alloc_new W2 _
  have bW : Chg No w W := by
    have h := ((b0.trans (b1.mono (by omega))).trans (b2.mono (by omega))).trans (b3.mono (by omega))
    rw [hn] at h
    exact Chg.of_below h _
  have c1 : W.cell? ⟨p, 1, none⟩ = some (.map (some m)) := by
    have h1 := (bW.block p hpl id).trans hbox.out
    rw [cell_of h1]; rfl
  have hdr : ∀ w3, Chg No W.drew w3 → Chg No W w3 := fun w3 h => ⟨h.os, h.tape, h.output, h.size, h.block⟩
  have hplW : p < W.heap.size := Nat.lt_of_lt_of_le hpl bW.size
  have hnW : n + 1 < W.heap.size := heap_lt x1
  have y0 : W.cell? ⟨n + 1, 0, none⟩ = some (.map (some (n + 2))) := by rw [cell_of x1]; rfl
  have y1 : W.cell? ⟨n + 1, 1, none⟩ = some (.map (some (n + 3))) := by rw [cell_of x1]; rfl
  have hld : ∀ w3, Chg No W w3 → (Instr.loadAt 65 (.pointer (some ⟨n + 1, 0, none⟩))).run Try.prog w3 = .ok (.agg #[.map (some (n + 2)), .map (some (n + 3))]) w3 := fun w3 hc => pairs_load ((hc.block (n + 1) hnW id).trans x1)
  rw [← hn]
  replace x0 := Lib.hid x0
  replace x1 := Lib.hid x1
  replace x2 := Lib.hid x2
  replace x3 := Lib.hid x3
  replace hdr := Lib.hid hdr
  replace c1 := Lib.hid c1
  replace hld := Lib.hid hld
  replace hn := Lib.hid hn
  replace bW := Lib.hid bW
  clear y0 y1 b0 b1 b2 b3 s0 s1 s2 hW hW2 hW1 hW0
  refine RA.regionT (Chg No) (· = ·) [1, 1, 1, 1, 1, 1, 1, 1, 1, 7] [9] (fun _ _ _ => True) (fun _ => True) (by kernel_rfl) (Chg.refl _ _) (fun _ _ h => h ▸ Chg.refl _ _) (fun _ _ _ h k => h.trans k) (fun _ _ h k => h ▸ k) (trivial) (by kernel_rfl) (by kernel_rfl) ?_
  intro cx
  repeat (first | refine RA.mv (by kernel_rfl) (by rfl) (by rfl) ?_ | refine RA.as (by kernel_rfl) (by rfl) (by rfl) ?_ | refine RA.nc (by kernel_rfl) (by rfl) (by rfl) ?_)
  refine RA.fa (by kernel_rfl) (by rfl) (by rfl) (y' := .pointer (some ⟨p, 1, none⟩)) (fun w3 hp => by show (Instr.fieldAt _ _ _).run Try.prog w3 = _; go_simp) ?_
  refine RA.ld (by kernel_rfl) (by rfl) (by rfl) (y' := .map (some m)) (fun w3 hp => by
    have h1 := ((hdr.out _ hp.1).cell (p := ⟨p, 1, none⟩) hplW id).trans c1.out
    show (Instr.loadAt _ _).run Try.prog w3 = _
    go_simp) ?_
  repeat (first | refine RA.mv (by kernel_rfl) (by rfl) (by rfl) ?_ | refine RA.as (by kernel_rfl) (by rfl) (by rfl) ?_ | refine RA.nc (by kernel_rfl) (by rfl) (by rfl) ?_)
  refine RA.v Try.prog (x := .agg #[.string key, .int .i64 u, .int .i64 i]) (by kernel_rfl) (by rfl) (by rfl) (fun w hp => by go_simp) ?_
  simp only [RA.add]
  refine RA.ld (by kernel_rfl) (by rfl) (by rfl) (y' := .agg #[.map (some (n + 2)), .map (some (n + 3))]) (fun w3 hp => hld.out w3 (hdr.out _ hp.1)) ?_
  refine RA.stt (fun w5 => (∃ es' clk', MapP w5 m (pls ++ [((key, u, i), n + 2, n + 3)]) es' clk') ∧ Chg (fun b => b = m) W w5) (by kernel_rfl) (by rfl) (by kernel_rfl) (fun _ _ h k => h ▸ k) (fun w4 hp0 _ => by
    have hc := hdr.out _ (hp0.first (by kernel_rfl)).1
    have h1 : MapP w4 m pls es clk := ⟨(hc.block m (Nat.lt_of_lt_of_le hml bW.out.size) id).trans ((bW.out.block m hml id).trans hm.out.box), hm.out.row, hm.out.fit⟩
    obtain ⟨h2, h3⟩ := h1.put hk hnew.out (n + 2) (n + 3)
    exact ⟨_, ex_put rfl (RA.evo_ev (by rfl)) (RA.evo_ev (by rfl)) (RA.evo_ev (by rfl)) h2, ⟨_, _, h3⟩, putObj_chg (C := fun b => b = m) (g := m) (hc.mono (fun _ _ e => e.elim)) (fun _ => rfl) _⟩) ?_
  refine RA.RA.doneT (fun w5 hH => ?_)
  simp only [RA.put, List.foldr_cons, List.foldr_nil, cx, Act.put, List.setIfInBounds_toArray, List.set_cons_succ, List.set_cons_zero]
  obtain ⟨⟨es', clk', hM⟩, hC⟩ := hH
  have hmn : m ≠ n := by have := hn.out; omega
  have hmn1 : m ≠ n + 1 := by have := hn.out; omega
  have z0 : w5.heap[n]? = some (.cells #[.map none, .map none] 65 (0, 0)) := (hC.block n (by omega) (fun e => hmn e.symm)).trans x0.out
  have z1 : w5.heap[n + 1]? = some (.cells #[.map (some (n + 2)), .map (some (n + 3))] 65 (0, 0)) := (hC.block (n + 1) hnW (fun e => hmn1 e.symm)).trans x1.out
  have z2 := (hC.block (n + 2) (heap_lt x2.out) (by have := hn.out; show ¬ n + 2 = m; omega)).trans x2.out
  have z3 := (hC.block (n + 3) (heap_lt x3.out) (by have := hn.out; show ¬ n + 3 = m; omega)).trans x3.out
  have l1 := pairs_load z1
  have l2 := pairs_store (f := n + 2) (g := n + 3) z0
  obtain ⟨w6, hw6⟩ : ∃ x, x = w5.setRow n #[.map (some (n + 2)), .map (some (n + 3))] := ⟨_, rfl⟩
  rw [← hw6] at l2
  have v0 : w6.heap[n]? = some (.cells #[.map (some (n + 2)), .map (some (n + 3))] 65 (0, 0)) := hw6 ▸ setRow_heap w5 n _ _ _ _ z0
  have v2 : MapB w6 (n + 2) none := by
    show w6.heap[n + 2]? = _
    rw [hw6, setRow_other _ _ _ _ (by omega)]; exact z2
  have v3 : MapB w6 (n + 3) none := by
    show w6.heap[n + 3]? = _
    rw [hw6, setRow_other _ _ _ _ (by omega)]; exact z3
  have vm : MapP w6 m (pls ++ [((key, u, i), n + 2, n + 3)]) es' clk' := ⟨by rw [hw6, setRow_other _ _ _ _ hmn]; exact hM.box, hM.row, hM.fit⟩
  have vc : Chg (fun b => b = m) w w6 := by
    have h1 := ((bW.out.mono (D := fun b => b = m) (fun _ _ e => e.elim)).then hC (fun _ _ e => e)).setRow (g := n) (fun h => absurd h (by have := hn.out; omega)) #[.map (some (n + 2)), .map (some (n + 3))]
    rw [← hw6] at h1
    exact h1
  replace l1 := Lib.hid l1
  replace l2 := Lib.hid l2
  replace v0 := Lib.hid v0
  replace v2 := Lib.hid v2
  replace v3 := Lib.hid v3
  replace vm := Lib.hid vm
  replace vc := Lib.hid vc
  clear z0 z1 z2 z3 hM hC hw6 x0 x1 x2 x3 c1 hld hdr bW
  go_wp2_with (first | (refine wpList_load rfl 65 _ rfl _ _ rfl l1.out ?_) | (refine wpList_store rfl 65 _ _ rfl _ _ rfl rfl l2.out ?_))
  refine bodyPost_ret (results_cell_row Try.results31 _ _ n 65 _ (0, 0) _ rfl v0.out Try.underlying65 rfl (by kernel_rfl)) rfl ⟨n + 2, n + 3, es', clk', rfl, by have := hn.out; omega, by omega, v2.out, v3.out, vm.out, vc.out⟩
end Go.Proofs.Ytbgfdbidbjlaaaa.Fd

/-
  Blocks built into a slice. No condition beyond what each theorem names.
-/
import Derived.Test.YtbgfdbidbjlaaaaTksXopen
namespace Go.Proofs.Ytbgfdbidbjlaaaa.Fd
open Go Go.RowKit K

theorem run_lit1 {b : List UInt8} (hb : b.length = 16) (w : World) : (Instr.buildSlice 93 1 #[(0, .agg (u8s b).toArray)]).run Try.prog w = .ok (.slice (some ⟨w.heap.size, 0, none⟩) 1 1) (w.alloc (.cells (u8s b).toArray 61)) := by
  match b, hb with
  | [a0, a1, a2, a3, a4, a5, a6, a7, a8, a9, a10, a11, a12, a13, a14, a15], _ =>
    simp only [u8s, List.map_cons, List.map_nil]
    go_simp
theorem run_lit2 {b c : List UInt8} (hb : b.length = 16) (hc : c.length = 16) (w : World) : (Instr.buildSlice 93 2 #[(0, .agg (u8s b).toArray), (1, .agg (u8s c).toArray)]).run Try.prog w = .ok (.slice (some ⟨w.heap.size, 0, none⟩) 2 2) (w.alloc (.cells (u8s (b ++ c)).toArray 61)) := by
  match b, hb with
  | [a0, a1, a2, a3, a4, a5, a6, a7, a8, a9, a10, a11, a12, a13, a14, a15], _ =>
    match c, hc with
    | [c0, c1, c2, c3, c4, c5, c6, c7, c8, c9, c10, c11, c12, c13, c14, c15], _ =>
      simp only [u8s, List.map_cons, List.map_nil]
      go_simp
theorem run_arrayAt (w : World) (a : Addr) (cap : Nat) : (Instr.arrayAt 61 (.slice (some a) 16 cap)).run Try.prog w = .ok (.pointer (some a)) w := by
  simp only [Instr.arrayAt, run_underlying Try.underlying61, Sem.run_bind, Result.andThen]
  rfl
theorem ex_lit1 {ρ : Operand → Value} {x : Operand} {ds : Option Tmp} {ty : TypeId} {ps : String} {af : Array Edge} {gu : Option (Nat × Bool)} {b : List UInt8} (hb : b.length = 16) (hx : ρ x = .agg (u8s b).toArray) (w : World) :
    (execOp ρ ⟨ds, .buildSlice 93 1 #[(0, x)], ty, ps, af, gu⟩).run Try.prog w = .ok (.value (.slice (some ⟨w.heap.size, 0, none⟩) 1 1)) (w.alloc (.cells (u8s b).toArray 61)) := by
  have h := run_lit1 hb w
  unfold execOp
  simp [hx, h, Result.andThen]
theorem ex_lit2 {ρ : Operand → Value} {x y : Operand} {ds : Option Tmp} {ty : TypeId} {ps : String} {af : Array Edge} {gu : Option (Nat × Bool)} {b c : List UInt8} (hb : b.length = 16) (hc : c.length = 16) (hx : ρ x = .agg (u8s b).toArray) (hy : ρ y = .agg (u8s c).toArray) (w : World) :
    (execOp ρ ⟨ds, .buildSlice 93 2 #[(0, x), (1, y)], ty, ps, af, gu⟩).run Try.prog w = .ok (.value (.slice (some ⟨w.heap.size, 0, none⟩) 2 2)) (w.alloc (.cells (u8s (b ++ c)).toArray 61)) := by
  have h := run_lit2 hb hc w
  unfold execOp
  simp [hx, hy, h, Result.andThen]
theorem wpList_run {P : Program} {w w' : World} {ops : Array Oper} {rest : List Oper} {o : Oper} {a : Act} {Q : Exit → Act → World → Prop} (hgd : o.guard = none) (v : Value) (hr : (execOp a.eval o).run P w = .ok (.value v) w')
    (h : wpList P ops Q rest (a.put o.dst v) w') : wpList P ops Q (o :: rest) a w :=
  wpList_plain hgd fun K hK => by
    unfold Oper.wp
    rw [hr]
    exact hK _ _ h
end Go.Proofs.Ytbgfdbidbjlaaaa.Fd

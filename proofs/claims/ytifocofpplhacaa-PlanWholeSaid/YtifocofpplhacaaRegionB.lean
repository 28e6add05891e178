/-
  More words for a region that draws its order. No condition: a tool for the other texts.
-/
import Derived.Test.YtifocofpplhacaaRegion
namespace Go.Proofs.Ytifocofpplhacaa.RA
open Go
variable {c : Cx} {Z : Act → World → Prop} {os : List Oper} {i : Nat} {K : List (Nat × Value)} {G : List (Nat × (World → Prop))} {U : List Nat} {H : World → Prop} {ty : TypeId} {ps : String} {af : Array Edge} {gu : Option (Nat × Bool)}

/-- An operation that makes memory, in any order. -/
theorem fr {d : Nat} {op : Op} (hk : kindOf c i = 2) (hg : gd c.ops c.a0 K ⟨some d, op, ty, ps, af, gu⟩ = true) (hs : ∀ v, Stab c.R (c.tbl i v))
    (hr : ∀ w, Pre c i G w → ∃ y w', (execOp (ev c.a0 K) ⟨some d, op, ty, ps, af, gu⟩).run c.P w = .ok (.value y) w' ∧ c.E w w' ∧ c.tbl i y w')
    (h : ∀ u, RA c Z os (i + 1) ((d, u) :: K) ((i, c.tbl i u) :: G) (i :: U) H) : RA c Z (⟨some d, op, ty, ps, af, gu⟩ :: os) i K G U H :=
  RA.free hk hg hs (fun w hp => by
    obtain ⟨y, w', h1, h2, h3⟩ := hr w hp
    unfold opw
    rw [h1]
    exact ⟨h2, h3⟩) h
/-- A store behind all others, of a pointer that was told. -/
theorem ex_store' {P : Program} {w w' : World} {p q : Value} {tx : TypeId} {x z : Operand} {ds : Option Nat} (hx : evo c K x = some p) (hz : evo c K z = some q) (hr : (Instr.storeAt tx p q).run P w = .ok () w') :
    (execOp (ev c.a0 K) ⟨ds, .store tx x z, ty, ps, af, gu⟩).run P w = .ok .skip w' := ex_store hx hz hr
end Go.Proofs.Ytifocofpplhacaa.RA

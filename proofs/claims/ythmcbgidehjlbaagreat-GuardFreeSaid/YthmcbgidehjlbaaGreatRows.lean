/-
  No cell of these rows narrows 'for every input' (looked for: loops, veiled, ifaces, maps, wideKeys, modest, calm, conditions, laid).
  DERIVED. THE GIVEN ROWS OF THIS SEAT. 4 by the template 'for every input the law returns true; each argument reads behind the call as it read before'; 0 by the template 'total and deterministic' (their statements: YthmcbgidehjlbaaGreatTotals.lean).
  GIVEN WITH THE SEED: the statements are not yours to turn. If you find one false, say at which input.
  Laid BY PROGRAM, IN A SANDBOX (cutbox-rows.mjs): the forced cells as the released guide's own fill.sh prints them over the translation 6147e190cd9bf359… (all of the seat's roots in one cut). By AI agents, Wed Nov 11 2026. No macro, syntax, notation, axiom, sorry.
-/
import Derived.Test.YthmcbgidehjlbaaGreatChecked
import GoSem.Claim
import GoSem.ClaimJoined
import GoSem.ClaimMapViews
import Derived.JoinedTies
import Derived.KernelRfl
namespace Go.Proofs.YthmcbgidehjlbaaGreat
/- THE CELL 'sum', in the pinned program and in every row, IS THE sha256 OF THE DUMP (.gsa) THAT YthmcbgidehjlbaaGreatProg.lean LOADS. Nothing in Lean hashes anything: it is a label: what it is worth is what the hold of that sum in a sandbox is worth. -/
noncomputable def Tryz.pinned : Pinned := { name := "ythmcbgidehjlbaagreat", sum := "6147e190cd9bf3595f9e6c621a45d43ca77e1f773bc244a19fa41937e730debd", checked := Tryz.checked }
namespace Rows
def none {H : Type} : Left H := { results := [], args := [] }

/-- 'priorylaw22.GuardOps': WHATEVER THE INPUT: true; the input reads as it did. -/
def guardOpsSpec : ChangeSpec := { name := "guardOps", fn := fun _ => fun
  | [d1, d2] => { results := [.lit (.bool true)], args := [d1, d2] }
  | _ => none }
def guardOpsRow : OpenClaim := { program := "ythmcbgidehjlbaagreat", sum := "6147e190cd9bf3595f9e6c621a45d43ca77e1f773bc244a19fa41937e730debd", func := "priory/priorylaw22.GuardOps", spec := "guardOps", inPlace := ["slices.overlaps[[]byte]", "maps.clone"], unfollowed := true, recurses := true, plainKeys := false, apart := false }
def GuardOpsSaid : Prop := guardOpsRow.holds Tryz.pinned (OpenSpec.ofChange guardOpsSpec)

/-- ITS FALSE NEIGHBOUR: 'it returns false'. Refute it at one input. -/
def guardOpsWrong : ChangeSpec := { name := "guardOps", fn := fun _ => fun
  | [d1, d2] => { results := [.lit (.bool false)], args := [d1, d2] }
  | _ => none }
def GuardOpsWrongFalsely : Prop := guardOpsRow.holds Tryz.pinned (OpenSpec.ofChange guardOpsWrong)

/-- 'priorylaw22.GuardRoom': WHATEVER THE INPUT: true; the input reads as it did. -/
def guardRoomSpec : ChangeSpec := { name := "guardRoom", fn := fun _ => fun
  | [d1, d2, d3] => { results := [.lit (.bool true)], args := [d1, d2, d3] }
  | _ => none }
def guardRoomRow : OpenClaim := { program := "ythmcbgidehjlbaagreat", sum := "6147e190cd9bf3595f9e6c621a45d43ca77e1f773bc244a19fa41937e730debd", func := "priory/priorylaw22.GuardRoom", spec := "guardRoom", inPlace := ["slices.overlaps[[]byte]", "maps.clone"], unfollowed := true, recurses := true, plainKeys := false, apart := false }
def GuardRoomSaid : Prop := guardRoomRow.holds Tryz.pinned (OpenSpec.ofChange guardRoomSpec)

/-- ITS FALSE NEIGHBOUR: 'it returns false'. Refute it at one input. -/
def guardRoomWrong : ChangeSpec := { name := "guardRoom", fn := fun _ => fun
  | [d1, d2, d3] => { results := [.lit (.bool false)], args := [d1, d2, d3] }
  | _ => none }
def GuardRoomWrongFalsely : Prop := guardRoomRow.holds Tryz.pinned (OpenSpec.ofChange guardRoomWrong)

/-- 'priorylaw22.GuardFree': WHATEVER THE INPUT: true; the input reads as it did. -/
def guardFreeSpec : ChangeSpec := { name := "guardFree", fn := fun _ => fun
  | [d1, d2] => { results := [.lit (.bool true)], args := [d1, d2] }
  | _ => none }
def guardFreeRow : OpenClaim := { program := "ythmcbgidehjlbaagreat", sum := "6147e190cd9bf3595f9e6c621a45d43ca77e1f773bc244a19fa41937e730debd", func := "priory/priorylaw22.GuardFree", spec := "guardFree", inPlace := ["slices.overlaps[[]byte]", "maps.clone"], unfollowed := true, recurses := true, plainKeys := false, apart := false }
def GuardFreeSaid : Prop := guardFreeRow.holds Tryz.pinned (OpenSpec.ofChange guardFreeSpec)

/-- ITS FALSE NEIGHBOUR: 'it returns false'. Refute it at one input. -/
def guardFreeWrong : ChangeSpec := { name := "guardFree", fn := fun _ => fun
  | [d1, d2] => { results := [.lit (.bool false)], args := [d1, d2] }
  | _ => none }
def GuardFreeWrongFalsely : Prop := guardFreeRow.holds Tryz.pinned (OpenSpec.ofChange guardFreeWrong)

/-- 'priorylaw22.GuardEdges': WHATEVER THE INPUT: true; the input reads as it did. -/
def guardEdgesSpec : ChangeSpec := { name := "guardEdges", fn := fun _ => fun
  | [d1, d2, d3, d4, d5] => { results := [.lit (.bool true)], args := [d1, d2, d3, d4, d5] }
  | _ => none }
def guardEdgesRow : OpenClaim := { program := "ythmcbgidehjlbaagreat", sum := "6147e190cd9bf3595f9e6c621a45d43ca77e1f773bc244a19fa41937e730debd", func := "priory/priorylaw22.GuardEdges", spec := "guardEdges", inPlace := ["slices.overlaps[[]byte]", "maps.clone"], unfollowed := true, recurses := true, plainKeys := false, apart := false }
def GuardEdgesSaid : Prop := guardEdgesRow.holds Tryz.pinned (OpenSpec.ofChange guardEdgesSpec)

/-- ITS FALSE NEIGHBOUR: 'it returns false'. Refute it at one input. -/
def guardEdgesWrong : ChangeSpec := { name := "guardEdges", fn := fun _ => fun
  | [d1, d2, d3, d4, d5] => { results := [.lit (.bool false)], args := [d1, d2, d3, d4, d5] }
  | _ => none }
def GuardEdgesWrongFalsely : Prop := guardEdgesRow.holds Tryz.pinned (OpenSpec.ofChange guardEdgesWrong)

/- THE SECOND FORM. 'bulk': how many values and letters a reading holds, each counted each time it is reached (what is shared counts as often as it is met; a slice's spare places count too). A statement '..UptoSaid' is the law's where the arguments, and the package variables that the reading takes, are together of bulk at most 1048576: NARROWER than '..Said'. Prove '..Said' where nothing that the law and all that it calls make is longer than what came in: it says more and counts as full. Else prove '..UptoSaid'. A law counts once. -/
mutual
def uptoBulk {H : Type} : DataW H → Nat
  | .lit (.string bytes) => bytes.length + 1
  | .lit _ => 1
  | .nil => 1
  | .ptr d => uptoBulk d + 1
  | .slice elems spare => uptoBulkAll elems + uptoBulkAll spare + 1
  | .agg parts => uptoBulkAll parts + 1
  | .iface _ d => uptoBulk d + 1
  | .map entries => uptoBulkEntries entries + 1
  | .held _ => 1
def uptoBulkAll {H : Type} : List (DataW H) → Nat
  | [] => 0
  | d :: r => uptoBulk d + uptoBulkAll r
def uptoBulkEntries {H : Type} : List (Lit × DataW H) → Nat
  | [] => 0
  | x :: r => uptoBulkEntry x + uptoBulkEntries r
def uptoBulkEntry {H : Type} : Lit × DataW H → Nat
  | (.string bytes, d) => bytes.length + uptoBulk d + 1
  | (_, d) => uptoBulk d + 1
 end
def uptoSmall : (H : Type) → List (DataW H) → Bool := fun _ ds => decide (uptoBulkAll ds ≤ 1048576)
def OpenSpec.upto (s : _root_.Go.ChangeSpec) : _root_.Go.OpenSpec := { _root_.Go.OpenSpec.ofChange s with cond := some uptoSmall }

/-- 'priorylaw22.GuardOps', WHERE WHAT IT READS IS OF BULK AT MOST 1048576: true; the input reads as it did. -/
def guardOpsUptoRow : OpenClaim := { program := "ythmcbgidehjlbaagreat", sum := "6147e190cd9bf3595f9e6c621a45d43ca77e1f773bc244a19fa41937e730debd", func := "priory/priorylaw22.GuardOps", spec := "guardOps", inPlace := ["slices.overlaps[[]byte]", "maps.clone"], unfollowed := true, recurses := true, plainKeys := false, apart := false, narrowed := true }
def GuardOpsUptoSaid : Prop := guardOpsUptoRow.holds Tryz.pinned (OpenSpec.upto guardOpsSpec)

/-- 'priorylaw22.GuardRoom', WHERE WHAT IT READS IS OF BULK AT MOST 1048576: true; the input reads as it did. -/
def guardRoomUptoRow : OpenClaim := { program := "ythmcbgidehjlbaagreat", sum := "6147e190cd9bf3595f9e6c621a45d43ca77e1f773bc244a19fa41937e730debd", func := "priory/priorylaw22.GuardRoom", spec := "guardRoom", inPlace := ["slices.overlaps[[]byte]", "maps.clone"], unfollowed := true, recurses := true, plainKeys := false, apart := false, narrowed := true }
def GuardRoomUptoSaid : Prop := guardRoomUptoRow.holds Tryz.pinned (OpenSpec.upto guardRoomSpec)

/-- 'priorylaw22.GuardFree', WHERE WHAT IT READS IS OF BULK AT MOST 1048576: true; the input reads as it did. -/
def guardFreeUptoRow : OpenClaim := { program := "ythmcbgidehjlbaagreat", sum := "6147e190cd9bf3595f9e6c621a45d43ca77e1f773bc244a19fa41937e730debd", func := "priory/priorylaw22.GuardFree", spec := "guardFree", inPlace := ["slices.overlaps[[]byte]", "maps.clone"], unfollowed := true, recurses := true, plainKeys := false, apart := false, narrowed := true }
def GuardFreeUptoSaid : Prop := guardFreeUptoRow.holds Tryz.pinned (OpenSpec.upto guardFreeSpec)

/-- 'priorylaw22.GuardEdges', WHERE WHAT IT READS IS OF BULK AT MOST 1048576: true; the input reads as it did. -/
def guardEdgesUptoRow : OpenClaim := { program := "ythmcbgidehjlbaagreat", sum := "6147e190cd9bf3595f9e6c621a45d43ca77e1f773bc244a19fa41937e730debd", func := "priory/priorylaw22.GuardEdges", spec := "guardEdges", inPlace := ["slices.overlaps[[]byte]", "maps.clone"], unfollowed := true, recurses := true, plainKeys := false, apart := false, narrowed := true }
def GuardEdgesUptoSaid : Prop := guardEdgesUptoRow.holds Tryz.pinned (OpenSpec.upto guardEdgesSpec)

end Rows
end Go.Proofs.YthmcbgidehjlbaaGreat

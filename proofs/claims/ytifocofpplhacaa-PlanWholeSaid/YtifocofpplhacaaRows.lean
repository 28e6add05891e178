/-
  No cell of these rows narrows 'for every input' (looked for: loops, veiled, ifaces, maps, wideKeys, modest, calm, conditions, laid).
  DERIVED. THE GIVEN ROWS OF THIS SEAT. 8 by the template 'for every input the law returns true; each argument reads behind the call as it read before'; 0 by the template 'total and deterministic' (their statements: YtifocofpplhacaaTotals.lean).
  GIVEN WITH THE SEED: the statements are not yours to turn. If you find one false, say at which input.
  Laid BY PROGRAM, IN A SANDBOX (cutbox-rows.mjs): the forced cells as the released guide's own fill.sh prints them over the translation c70bcb95d5709883… (all of the seat's roots in one cut). By AI agents, Wed Nov 11 2026. No macro, syntax, notation, axiom, sorry.
-/
import Derived.Test.YtifocofpplhacaaChecked
import GoSem.Claim
import GoSem.ClaimJoined
import GoSem.ClaimMapViews
import Derived.JoinedTies
import Derived.KernelRfl
namespace Go.Proofs.Ytifocofpplhacaa
/- THE CELL 'sum', in the pinned program and in every row, IS THE sha256 OF THE DUMP (.gsa) THAT YtifocofpplhacaaProg.lean LOADS. Nothing in Lean hashes anything: it is a label: what it is worth is what the hold of that sum in a sandbox is worth. -/
noncomputable def Try.pinned : Pinned := { name := "ytifocofpplhacaa", sum := "c70bcb95d5709883f024b411c4b6c09c4cbecff1fa6c5fd8c7e9272cab81f827", checked := Try.checked }
namespace Rows
def none {H : Type} : Left H := { results := [], args := [] }

/-- 'priorylaw13.DiskImages': WHATEVER THE INPUT: true; the input reads as it did. -/
def diskImagesSpec : ChangeSpec := { name := "diskImages", fn := fun _ => fun
  | [d1, d2] => { results := [.lit (.bool true)], args := [d1, d2] }
  | _ => none }
def diskImagesRow : OpenClaim := { program := "ytifocofpplhacaa", sum := "c70bcb95d5709883f024b411c4b6c09c4cbecff1fa6c5fd8c7e9272cab81f827", func := "priory/priorylaw13.DiskImages", spec := "diskImages", unfollowed := true, recurses := true, apart := false }
def DiskImagesSaid : Prop := diskImagesRow.holds Try.pinned (OpenSpec.ofChange diskImagesSpec)

/-- ITS FALSE NEIGHBOUR: 'it returns false'. Refute it at one input. -/
def diskImagesWrong : ChangeSpec := { name := "diskImages", fn := fun _ => fun
  | [d1, d2] => { results := [.lit (.bool false)], args := [d1, d2] }
  | _ => none }
def DiskImagesWrongFalsely : Prop := diskImagesRow.holds Try.pinned (OpenSpec.ofChange diskImagesWrong)

/-- 'priorylaw13.DiskSubsets': WHATEVER THE INPUT: true; the input reads as it did. -/
def diskSubsetsSpec : ChangeSpec := { name := "diskSubsets", fn := fun _ => fun
  | [d1, d2, d3] => { results := [.lit (.bool true)], args := [d1, d2, d3] }
  | _ => none }
def diskSubsetsRow : OpenClaim := { program := "ytifocofpplhacaa", sum := "c70bcb95d5709883f024b411c4b6c09c4cbecff1fa6c5fd8c7e9272cab81f827", func := "priory/priorylaw13.DiskSubsets", spec := "diskSubsets", unfollowed := true, recurses := true, apart := false }
def DiskSubsetsSaid : Prop := diskSubsetsRow.holds Try.pinned (OpenSpec.ofChange diskSubsetsSpec)

/-- ITS FALSE NEIGHBOUR: 'it returns false'. Refute it at one input. -/
def diskSubsetsWrong : ChangeSpec := { name := "diskSubsets", fn := fun _ => fun
  | [d1, d2, d3] => { results := [.lit (.bool false)], args := [d1, d2, d3] }
  | _ => none }
def DiskSubsetsWrongFalsely : Prop := diskSubsetsRow.holds Try.pinned (OpenSpec.ofChange diskSubsetsWrong)

/-- 'priorylaw13.DiskOver': WHATEVER THE INPUT: true; the input reads as it did. -/
def diskOverSpec : ChangeSpec := { name := "diskOver", fn := fun _ => fun
  | [d1, d2, d3] => { results := [.lit (.bool true)], args := [d1, d2, d3] }
  | _ => none }
def diskOverRow : OpenClaim := { program := "ytifocofpplhacaa", sum := "c70bcb95d5709883f024b411c4b6c09c4cbecff1fa6c5fd8c7e9272cab81f827", func := "priory/priorylaw13.DiskOver", spec := "diskOver", unfollowed := true, recurses := true, apart := false }
def DiskOverSaid : Prop := diskOverRow.holds Try.pinned (OpenSpec.ofChange diskOverSpec)

/-- ITS FALSE NEIGHBOUR: 'it returns false'. Refute it at one input. -/
def diskOverWrong : ChangeSpec := { name := "diskOver", fn := fun _ => fun
  | [d1, d2, d3] => { results := [.lit (.bool false)], args := [d1, d2, d3] }
  | _ => none }
def DiskOverWrongFalsely : Prop := diskOverRow.holds Try.pinned (OpenSpec.ofChange diskOverWrong)

/-- 'priorylaw14.PlanTells': WHATEVER THE INPUT: true; the input reads as it did. -/
def planTellsSpec : ChangeSpec := { name := "planTells", fn := fun _ => fun
  | [d1, d2, d3, d4, d5] => { results := [.lit (.bool true)], args := [d1, d2, d3, d4, d5] }
  | _ => none }
def planTellsRow : OpenClaim := { program := "ytifocofpplhacaa", sum := "c70bcb95d5709883f024b411c4b6c09c4cbecff1fa6c5fd8c7e9272cab81f827", func := "priory/priorylaw14.PlanTells", spec := "planTells", unfollowed := true, recurses := true, apart := false }
def PlanTellsSaid : Prop := planTellsRow.holds Try.pinned (OpenSpec.ofChange planTellsSpec)

/-- ITS FALSE NEIGHBOUR: 'it returns false'. Refute it at one input. -/
def planTellsWrong : ChangeSpec := { name := "planTells", fn := fun _ => fun
  | [d1, d2, d3, d4, d5] => { results := [.lit (.bool false)], args := [d1, d2, d3, d4, d5] }
  | _ => none }
def PlanTellsWrongFalsely : Prop := planTellsRow.holds Try.pinned (OpenSpec.ofChange planTellsWrong)

/-- 'priorylaw14.PlanWhole': WHATEVER THE INPUT: true; the input reads as it did. -/
def planWholeSpec : ChangeSpec := { name := "planWhole", fn := fun _ => fun
  | [d1, d2] => { results := [.lit (.bool true)], args := [d1, d2] }
  | _ => none }
def planWholeRow : OpenClaim := { program := "ytifocofpplhacaa", sum := "c70bcb95d5709883f024b411c4b6c09c4cbecff1fa6c5fd8c7e9272cab81f827", func := "priory/priorylaw14.PlanWhole", spec := "planWhole", unfollowed := true, recurses := true, apart := false }
def PlanWholeSaid : Prop := planWholeRow.holds Try.pinned (OpenSpec.ofChange planWholeSpec)

/-- ITS FALSE NEIGHBOUR: 'it returns false'. Refute it at one input. -/
def planWholeWrong : ChangeSpec := { name := "planWhole", fn := fun _ => fun
  | [d1, d2] => { results := [.lit (.bool false)], args := [d1, d2] }
  | _ => none }
def PlanWholeWrongFalsely : Prop := planWholeRow.holds Try.pinned (OpenSpec.ofChange planWholeWrong)

/-- 'priorylaw14.PlanMeets': WHATEVER THE INPUT: true; the input reads as it did. -/
def planMeetsSpec : ChangeSpec := { name := "planMeets", fn := fun _ => fun
  | [d1, d2] => { results := [.lit (.bool true)], args := [d1, d2] }
  | _ => none }
def planMeetsRow : OpenClaim := { program := "ytifocofpplhacaa", sum := "c70bcb95d5709883f024b411c4b6c09c4cbecff1fa6c5fd8c7e9272cab81f827", func := "priory/priorylaw14.PlanMeets", spec := "planMeets", unfollowed := true, recurses := true, apart := false }
def PlanMeetsSaid : Prop := planMeetsRow.holds Try.pinned (OpenSpec.ofChange planMeetsSpec)

/-- ITS FALSE NEIGHBOUR: 'it returns false'. Refute it at one input. -/
def planMeetsWrong : ChangeSpec := { name := "planMeets", fn := fun _ => fun
  | [d1, d2] => { results := [.lit (.bool false)], args := [d1, d2] }
  | _ => none }
def PlanMeetsWrongFalsely : Prop := planMeetsRow.holds Try.pinned (OpenSpec.ofChange planMeetsWrong)

/-- 'priorylaw14.PlanInside': WHATEVER THE INPUT: true; the input reads as it did. -/
def planInsideSpec : ChangeSpec := { name := "planInside", fn := fun _ => fun
  | [d1, d2, d3] => { results := [.lit (.bool true)], args := [d1, d2, d3] }
  | _ => none }
def planInsideRow : OpenClaim := { program := "ytifocofpplhacaa", sum := "c70bcb95d5709883f024b411c4b6c09c4cbecff1fa6c5fd8c7e9272cab81f827", func := "priory/priorylaw14.PlanInside", spec := "planInside", unfollowed := true, recurses := true, apart := false }
def PlanInsideSaid : Prop := planInsideRow.holds Try.pinned (OpenSpec.ofChange planInsideSpec)

/-- ITS FALSE NEIGHBOUR: 'it returns false'. Refute it at one input. -/
def planInsideWrong : ChangeSpec := { name := "planInside", fn := fun _ => fun
  | [d1, d2, d3] => { results := [.lit (.bool false)], args := [d1, d2, d3] }
  | _ => none }
def PlanInsideWrongFalsely : Prop := planInsideRow.holds Try.pinned (OpenSpec.ofChange planInsideWrong)

/-- 'priorylaw14.PlanHidden': WHATEVER THE INPUT: true; the input reads as it did. -/
def planHiddenSpec : ChangeSpec := { name := "planHidden", fn := fun _ => fun
  | [d1, d2, d3] => { results := [.lit (.bool true)], args := [d1, d2, d3] }
  | _ => none }
def planHiddenRow : OpenClaim := { program := "ytifocofpplhacaa", sum := "c70bcb95d5709883f024b411c4b6c09c4cbecff1fa6c5fd8c7e9272cab81f827", func := "priory/priorylaw14.PlanHidden", spec := "planHidden", unfollowed := true, recurses := true, apart := false }
def PlanHiddenSaid : Prop := planHiddenRow.holds Try.pinned (OpenSpec.ofChange planHiddenSpec)

/-- ITS FALSE NEIGHBOUR: 'it returns false'. Refute it at one input. -/
def planHiddenWrong : ChangeSpec := { name := "planHidden", fn := fun _ => fun
  | [d1, d2, d3] => { results := [.lit (.bool false)], args := [d1, d2, d3] }
  | _ => none }
def PlanHiddenWrongFalsely : Prop := planHiddenRow.holds Try.pinned (OpenSpec.ofChange planHiddenWrong)

/- THE SECOND FORM. 'bulk': how many values and letters a reading holds, each counted each time it is reached (what is shared counts as often as it is met; a slice's spare places count too). A statement '..UptoSaid' is the law's where the arguments, and the package variables that the reading takes, are together of bulk at most 1048576: NARROWER than '..Said'. Prove '..Said' where nothing that the law and all that it calls make is longer than what came in: it says more and counts as full. Else prove '..UptoSaid'. A law counts once. -/
mutual
def uptoBulk {H : Type} : DataW H → Nat
  | .lit (.string bytes) => bytes.length + 1
  | .lit _ => 1
  | .nil => 1
  | .ptr d => uptoBulk d + 1
  | .slice elems spare => uptoBulkAll elems + uptoBulkAll spare + 1
  | .agg parts => uptoBulkAll parts + 1
  | .iface _ d => uptoBulk d + 1
  | .map entries => uptoBulkEntries entries + 1
  | .held _ => 1
def uptoBulkAll {H : Type} : List (DataW H) → Nat
  | [] => 0
  | d :: r => uptoBulk d + uptoBulkAll r
def uptoBulkEntries {H : Type} : List (Lit × DataW H) → Nat
  | [] => 0
  | x :: r => uptoBulkEntry x + uptoBulkEntries r
def uptoBulkEntry {H : Type} : Lit × DataW H → Nat
  | (.string bytes, d) => bytes.length + uptoBulk d + 1
  | (_, d) => uptoBulk d + 1
 end
def uptoSmall : (H : Type) → List (DataW H) → Bool := fun _ ds => decide (uptoBulkAll ds ≤ 1048576)
def OpenSpec.upto (s : _root_.Go.ChangeSpec) : _root_.Go.OpenSpec := { _root_.Go.OpenSpec.ofChange s with cond := some uptoSmall }

/-- 'priorylaw13.DiskImages', WHERE WHAT IT READS IS OF BULK AT MOST 1048576: true; the input reads as it did. -/
def diskImagesUptoRow : OpenClaim := { program := "ytifocofpplhacaa", sum := "c70bcb95d5709883f024b411c4b6c09c4cbecff1fa6c5fd8c7e9272cab81f827", func := "priory/priorylaw13.DiskImages", spec := "diskImages", unfollowed := true, recurses := true, apart := false, narrowed := true }
def DiskImagesUptoSaid : Prop := diskImagesUptoRow.holds Try.pinned (OpenSpec.upto diskImagesSpec)

/-- 'priorylaw13.DiskSubsets', WHERE WHAT IT READS IS OF BULK AT MOST 1048576: true; the input reads as it did. -/
def diskSubsetsUptoRow : OpenClaim := { program := "ytifocofpplhacaa", sum := "c70bcb95d5709883f024b411c4b6c09c4cbecff1fa6c5fd8c7e9272cab81f827", func := "priory/priorylaw13.DiskSubsets", spec := "diskSubsets", unfollowed := true, recurses := true, apart := false, narrowed := true }
def DiskSubsetsUptoSaid : Prop := diskSubsetsUptoRow.holds Try.pinned (OpenSpec.upto diskSubsetsSpec)

/-- 'priorylaw13.DiskOver', WHERE WHAT IT READS IS OF BULK AT MOST 1048576: true; the input reads as it did. -/
def diskOverUptoRow : OpenClaim := { program := "ytifocofpplhacaa", sum := "c70bcb95d5709883f024b411c4b6c09c4cbecff1fa6c5fd8c7e9272cab81f827", func := "priory/priorylaw13.DiskOver", spec := "diskOver", unfollowed := true, recurses := true, apart := false, narrowed := true }
def DiskOverUptoSaid : Prop := diskOverUptoRow.holds Try.pinned (OpenSpec.upto diskOverSpec)

/-- 'priorylaw14.PlanTells', WHERE WHAT IT READS IS OF BULK AT MOST 1048576: true; the input reads as it did. -/
def planTellsUptoRow : OpenClaim := { program := "ytifocofpplhacaa", sum := "c70bcb95d5709883f024b411c4b6c09c4cbecff1fa6c5fd8c7e9272cab81f827", func := "priory/priorylaw14.PlanTells", spec := "planTells", unfollowed := true, recurses := true, apart := false, narrowed := true }
def PlanTellsUptoSaid : Prop := planTellsUptoRow.holds Try.pinned (OpenSpec.upto planTellsSpec)

/-- 'priorylaw14.PlanWhole', WHERE WHAT IT READS IS OF BULK AT MOST 1048576: true; the input reads as it did. -/
def planWholeUptoRow : OpenClaim := { program := "ytifocofpplhacaa", sum := "c70bcb95d5709883f024b411c4b6c09c4cbecff1fa6c5fd8c7e9272cab81f827", func := "priory/priorylaw14.PlanWhole", spec := "planWhole", unfollowed := true, recurses := true, apart := false, narrowed := true }
def PlanWholeUptoSaid : Prop := planWholeUptoRow.holds Try.pinned (OpenSpec.upto planWholeSpec)

/-- 'priorylaw14.PlanMeets', WHERE WHAT IT READS IS OF BULK AT MOST 1048576: true; the input reads as it did. -/
def planMeetsUptoRow : OpenClaim := { program := "ytifocofpplhacaa", sum := "c70bcb95d5709883f024b411c4b6c09c4cbecff1fa6c5fd8c7e9272cab81f827", func := "priory/priorylaw14.PlanMeets", spec := "planMeets", unfollowed := true, recurses := true, apart := false, narrowed := true }
def PlanMeetsUptoSaid : Prop := planMeetsUptoRow.holds Try.pinned (OpenSpec.upto planMeetsSpec)

/-- 'priorylaw14.PlanInside', WHERE WHAT IT READS IS OF BULK AT MOST 1048576: true; the input reads as it did. -/
def planInsideUptoRow : OpenClaim := { program := "ytifocofpplhacaa", sum := "c70bcb95d5709883f024b411c4b6c09c4cbecff1fa6c5fd8c7e9272cab81f827", func := "priory/priorylaw14.PlanInside", spec := "planInside", unfollowed := true, recurses := true, apart := false, narrowed := true }
def PlanInsideUptoSaid : Prop := planInsideUptoRow.holds Try.pinned (OpenSpec.upto planInsideSpec)

/-- 'priorylaw14.PlanHidden', WHERE WHAT IT READS IS OF BULK AT MOST 1048576: true; the input reads as it did. -/
def planHiddenUptoRow : OpenClaim := { program := "ytifocofpplhacaa", sum := "c70bcb95d5709883f024b411c4b6c09c4cbecff1fa6c5fd8c7e9272cab81f827", func := "priory/priorylaw14.PlanHidden", spec := "planHidden", unfollowed := true, recurses := true, apart := false, narrowed := true }
def PlanHiddenUptoSaid : Prop := planHiddenUptoRow.holds Try.pinned (OpenSpec.upto planHiddenSpec)

end Rows
end Go.Proofs.Ytifocofpplhacaa

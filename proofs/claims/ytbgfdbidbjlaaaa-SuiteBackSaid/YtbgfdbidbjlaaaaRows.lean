/-
  No cell of these rows narrows 'for every input' (looked for: loops, veiled, ifaces, maps, wideKeys, modest, calm, conditions, laid).
  DERIVED. THE GIVEN ROWS OF THIS SEAT. 3 by the template 'for every input the law returns true; each argument reads behind the call as it read before'; 0 by the template 'total and deterministic' (their statements: YtbgfdbidbjlaaaaTotals.lean).
  GIVEN WITH THE SEED: the statements are not yours to turn. If you find one false, say at which input.
  Laid BY PROGRAM, IN A SANDBOX (cutbox-rows.mjs): the forced cells as the released guide's own fill.sh prints them over the translation 793e4736f279a396… (all of the seat's roots in one cut). By AI agents, Wed Nov 11 2026. No macro, syntax, notation, axiom, sorry.
-/
import Derived.Test.YtbgfdbidbjlaaaaChecked
import GoSem.Claim
import GoSem.ClaimJoined
import GoSem.ClaimMapViews
import Derived.JoinedTies
import Derived.KernelRfl
namespace Go.Proofs.Ytbgfdbidbjlaaaa
/- THE CELL 'sum', in the pinned program and in every row, IS THE sha256 OF THE DUMP (.gsa) THAT YtbgfdbidbjlaaaaProg.lean LOADS. Nothing in Lean hashes anything: it is a label: what it is worth is what the hold of that sum in a sandbox is worth. -/
noncomputable def Try.pinned : Pinned := { name := "ytbgfdbidbjlaaaa", sum := "793e4736f279a3961a7358b5669a1285b46a874ec980e6308845f4d240f8d520", checked := Try.checked }
namespace Rows
def none {H : Type} : Left H := { results := [], args := [] }

/-- 'priorylaw11.SuiteBack': WHATEVER THE INPUT: true; the input reads as it did. -/
def suiteBackSpec : ChangeSpec := { name := "suiteBack", fn := fun _ => fun
  | [d1, d2, d3, d4, d5] => { results := [.lit (.bool true)], args := [d1, d2, d3, d4, d5] }
  | _ => none }
def suiteBackRow : OpenClaim := { program := "ytbgfdbidbjlaaaa", sum := "793e4736f279a3961a7358b5669a1285b46a874ec980e6308845f4d240f8d520", func := "priory/priorylaw11.SuiteBack", spec := "suiteBack", inPlace := ["slices.overlaps[[]byte]"], unfollowed := true, recurses := true, plainKeys := false, apart := false }
def SuiteBackSaid : Prop := suiteBackRow.holds Try.pinned (OpenSpec.ofChange suiteBackSpec)

/-- ITS FALSE NEIGHBOUR: 'it returns false'. Refute it at one input. -/
def suiteBackWrong : ChangeSpec := { name := "suiteBack", fn := fun _ => fun
  | [d1, d2, d3, d4, d5] => { results := [.lit (.bool false)], args := [d1, d2, d3, d4, d5] }
  | _ => none }
def SuiteBackWrongFalsely : Prop := suiteBackRow.holds Try.pinned (OpenSpec.ofChange suiteBackWrong)

/-- 'priorylaw11.SuiteForms': WHATEVER THE INPUT: true; the input reads as it did. -/
def suiteFormsSpec : ChangeSpec := { name := "suiteForms", fn := fun _ => fun
  | [d1, d2] => { results := [.lit (.bool true)], args := [d1, d2] }
  | _ => none }
def suiteFormsRow : OpenClaim := { program := "ytbgfdbidbjlaaaa", sum := "793e4736f279a3961a7358b5669a1285b46a874ec980e6308845f4d240f8d520", func := "priory/priorylaw11.SuiteForms", spec := "suiteForms", inPlace := ["slices.overlaps[[]byte]"], unfollowed := true, recurses := true, plainKeys := false, apart := false }
def SuiteFormsSaid : Prop := suiteFormsRow.holds Try.pinned (OpenSpec.ofChange suiteFormsSpec)

/-- ITS FALSE NEIGHBOUR: 'it returns false'. Refute it at one input. -/
def suiteFormsWrong : ChangeSpec := { name := "suiteForms", fn := fun _ => fun
  | [d1, d2] => { results := [.lit (.bool false)], args := [d1, d2] }
  | _ => none }
def SuiteFormsWrongFalsely : Prop := suiteFormsRow.holds Try.pinned (OpenSpec.ofChange suiteFormsWrong)

/-- 'priorylaw11.SuiteTakes': WHATEVER THE INPUT: true; the input reads as it did. -/
def suiteTakesSpec : ChangeSpec := { name := "suiteTakes", fn := fun _ => fun
  | [d1, d2, d3] => { results := [.lit (.bool true)], args := [d1, d2, d3] }
  | _ => none }
def suiteTakesRow : OpenClaim := { program := "ytbgfdbidbjlaaaa", sum := "793e4736f279a3961a7358b5669a1285b46a874ec980e6308845f4d240f8d520", func := "priory/priorylaw11.SuiteTakes", spec := "suiteTakes", inPlace := ["slices.overlaps[[]byte]"], unfollowed := true, recurses := true, plainKeys := false, apart := false }
def SuiteTakesSaid : Prop := suiteTakesRow.holds Try.pinned (OpenSpec.ofChange suiteTakesSpec)

/-- ITS FALSE NEIGHBOUR: 'it returns false'. Refute it at one input. -/
def suiteTakesWrong : ChangeSpec := { name := "suiteTakes", fn := fun _ => fun
  | [d1, d2, d3] => { results := [.lit (.bool false)], args := [d1, d2, d3] }
  | _ => none }
def SuiteTakesWrongFalsely : Prop := suiteTakesRow.holds Try.pinned (OpenSpec.ofChange suiteTakesWrong)

/- THE SECOND FORM. 'bulk': how many values and letters a reading holds, each counted each time it is reached (what is shared counts as often as it is met; a slice's spare places count too). A statement '..UptoSaid' is the law's where the arguments, and the package variables that the reading takes, are together of bulk at most 1048576: NARROWER than '..Said'. Prove '..Said' where nothing that the law and all that it calls make is longer than what came in: it says more and counts as full. Else prove '..UptoSaid'. A law counts once. -/
mutual
def uptoBulk {H : Type} : DataW H → Nat
  | .lit (.string bytes) => bytes.length + 1
  | .lit _ => 1
  | .nil => 1
  | .ptr d => uptoBulk d + 1
  | .slice elems spare => uptoBulkAll elems + uptoBulkAll spare + 1
  | .agg parts => uptoBulkAll parts + 1
  | .iface _ d => uptoBulk d + 1
  | .map entries => uptoBulkEntries entries + 1
  | .held _ => 1
def uptoBulkAll {H : Type} : List (DataW H) → Nat
  | [] => 0
  | d :: r => uptoBulk d + uptoBulkAll r
def uptoBulkEntries {H : Type} : List (Lit × DataW H) → Nat
  | [] => 0
  | x :: r => uptoBulkEntry x + uptoBulkEntries r
def uptoBulkEntry {H : Type} : Lit × DataW H → Nat
  | (.string bytes, d) => bytes.length + uptoBulk d + 1
  | (_, d) => uptoBulk d + 1
 end
def uptoSmall : (H : Type) → List (DataW H) → Bool := fun _ ds => decide (uptoBulkAll ds ≤ 1048576)
def OpenSpec.upto (s : _root_.Go.ChangeSpec) : _root_.Go.OpenSpec := { _root_.Go.OpenSpec.ofChange s with cond := some uptoSmall }

/-- 'priorylaw11.SuiteBack', WHERE WHAT IT READS IS OF BULK AT MOST 1048576: true; the input reads as it did. -/
def suiteBackUptoRow : OpenClaim := { program := "ytbgfdbidbjlaaaa", sum := "793e4736f279a3961a7358b5669a1285b46a874ec980e6308845f4d240f8d520", func := "priory/priorylaw11.SuiteBack", spec := "suiteBack", inPlace := ["slices.overlaps[[]byte]"], unfollowed := true, recurses := true, plainKeys := false, apart := false, narrowed := true }
def SuiteBackUptoSaid : Prop := suiteBackUptoRow.holds Try.pinned (OpenSpec.upto suiteBackSpec)

/-- 'priorylaw11.SuiteForms', WHERE WHAT IT READS IS OF BULK AT MOST 1048576: true; the input reads as it did. -/
def suiteFormsUptoRow : OpenClaim := { program := "ytbgfdbidbjlaaaa", sum := "793e4736f279a3961a7358b5669a1285b46a874ec980e6308845f4d240f8d520", func := "priory/priorylaw11.SuiteForms", spec := "suiteForms", inPlace := ["slices.overlaps[[]byte]"], unfollowed := true, recurses := true, plainKeys := false, apart := false, narrowed := true }
def SuiteFormsUptoSaid : Prop := suiteFormsUptoRow.holds Try.pinned (OpenSpec.upto suiteFormsSpec)

/-- 'priorylaw11.SuiteTakes', WHERE WHAT IT READS IS OF BULK AT MOST 1048576: true; the input reads as it did. -/
def suiteTakesUptoRow : OpenClaim := { program := "ytbgfdbidbjlaaaa", sum := "793e4736f279a3961a7358b5669a1285b46a874ec980e6308845f4d240f8d520", func := "priory/priorylaw11.SuiteTakes", spec := "suiteTakes", inPlace := ["slices.overlaps[[]byte]"], unfollowed := true, recurses := true, plainKeys := false, apart := false, narrowed := true }
def SuiteTakesUptoSaid : Prop := suiteTakesUptoRow.holds Try.pinned (OpenSpec.upto suiteTakesSpec)

end Rows
end Go.Proofs.Ytbgfdbidbjlaaaa

/-
 Parts of the proof. No condition beyond what each theorem names.
-/
import Derived.Deep.Grids
import Derived.Lib.SmallJoins
import Derived.Test.YthmcbgidehjlbaaGreatFrAb
namespace Go.Proofs.YthmcbgidehjlbaaGreat.K
open Go Go.ChangeShapes Go.WideShapes Go.ChangeAt Go.RowKit Go.Deep Go.Joins
section
variable {H:Type}{enc:TypeId×Value->H}{P:Program}{w:World}{base:Nat}{held:Bool}
theorem wf_i64 {x:Int}(h:(Lit.int .i64 x).wf=true):-9223372036854775808<=x/\x<=9223372036854775807:=by simpa [Lit.wf,IntKind.min,IntKind.max,IntKind.signed,IntKind.bits] using h
end
end Go.Proofs.YthmcbgidehjlbaaGreat.K

/-
  Arguments that came in, as the walks' contracts want them. No condition beyond what each theorem names.
-/
import Derived.Test.YthmcbgidehjlbaaGreatEdRowBytes
import Derived.WalkKit
import Derived.ProofKit
import Derived.OpenShut
import Derived.ShutString
import Derived.ChangeOld
import Derived.Below
import Derived.SliceStrings
import Derived.Deep.Grids
import Derived.Lib.SmallJoins
namespace Go.Proofs.YthmcbgidehjlbaaGreat.K
open Go Go.ChangeShapes Go.WideShapes Go.ChangeAt Go.RowKit Go.Deep Go.Joins
section
variable {H:Type}{enc:TypeId×Value→H}{P:Program}{w:World}{base:Nat}{held:Bool}
end
end Go.Proofs.YthmcbgidehjlbaaGreat.K

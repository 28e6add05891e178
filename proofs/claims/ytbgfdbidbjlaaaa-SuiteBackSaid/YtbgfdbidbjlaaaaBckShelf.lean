/-
  The shelf's laying of math/bits.Mul64, written by the kit's tool. No condition.
-/
import Derived.Shelf.Bits.Mul64
import Derived.Ground.NamesProg
import Derived.Test.YtbgfdbidbjlaaaaProg
namespace Go.Proofs.Ytbgfdbidbjlaaaa
open Go.Shelf
def laysMul64_ren : Go.Shelf.Ren := ⟨fun | 264 => 77 | n => n, fun | 53 => 47 | 46 => 48 | n => n, fun | n => n⟩
theorem laysMul64 : Go.Proofs.Lays.n264 Try.prog laysMul64_ren := {
  mixed := by kernel_rfl
  f264 := Try.func77.trans (congrArg some (by kernel_rfl))
  t46 := Try.underlying48
  a46 := Try.isAgg48
  z46 := Try.sizeOf48
  v46 := Try.zeroValue48
  t53 := Try.underlying47
  a53 := Try.isAgg47
  z53 := Try.sizeOf47
  v53 := Try.zeroValue47 }
end Go.Proofs.Ytbgfdbidbjlaaaa

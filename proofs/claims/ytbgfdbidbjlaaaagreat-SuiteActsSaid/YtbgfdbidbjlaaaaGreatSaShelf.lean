/-
  The shelf's laying of math/bits.Mul64, written by the kit's tool. No condition.
-/
import Derived.Shelf.Bits.Mul64
import Derived.Ground.NamesProg
import Derived.Test.YtbgfdbidbjlaaaaGreatProg
namespace Go.Proofs.YtbgfdbidbjlaaaaGreat
open Go.Shelf
def laysMul64_ren : Go.Shelf.Ren := ⟨fun | 264 => 105 | n => n, fun | 53 => 132 | 46 => 133 | n => n, fun | n => n⟩
theorem laysMul64 : Go.Proofs.Lays.n264 Tryz.prog laysMul64_ren := {
  mixed := by kernel_rfl
  f264 := Tryz.func105.trans (congrArg some (by kernel_rfl))
  t46 := Tryz.underlying133
  a46 := Tryz.isAgg133
  z46 := Tryz.sizeOf133
  v46 := Tryz.zeroValue133
  t53 := Tryz.underlying132
  a53 := Tryz.isAgg132
  z53 := Tryz.sizeOf132
  v53 := Tryz.zeroValue132 }
end Go.Proofs.YtbgfdbidbjlaaaaGreat

/-
 Parts of the proof. No condition beyond what each theorem names.
-/
import Derived.Shelf.Bits.Mul64
import Derived.Test.YthmcbgidehjlbaaGreatProg
namespace Go.Proofs.YthmcbgidehjlbaaGreat
open Go.Shelf
def laysMul64_ren : Go.Shelf.Ren := ⟨fun | 264 => 214 | n => n, fun | 53 => 147 | 46 => 148 | n => n, fun | n => n⟩
theorem laysMul64 : Go.Proofs.Lays.n264 Tryz.prog laysMul64_ren := {
  mixed := by kernel_rfl
  f264 := Tryz.func214.trans (congrArg some (by kernel_rfl))
  t46 := Tryz.underlying148
  a46 := Tryz.isAgg148
  z46 := Tryz.sizeOf148
  v46 := Tryz.zeroValue148
  t53 := Tryz.underlying147
  a53 := Tryz.isAgg147
  z53 := Tryz.sizeOf147
  v53 := Tryz.zeroValue147 }
end Go.Proofs.YthmcbgidehjlbaaGreat

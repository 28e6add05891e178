/-
  Texts of this claim, laid together by a program of mine. No condition beyond what each theorem names.
-/
import Derived.Test.YthmcbgidehjlbaaGreatRmTapeBPk
import Derived.Test.YthmcbgidehjlbaaGreatRmTablesPk
/-
  ideal.New, suite.Ideal. No condition beyond what each theorem names.
-/
namespace Go.Proofs.YthmcbgidehjlbaaGreat.Fd
open Go Go.RowKit K
structure IdealNew (w:World) (p:Nat) (t:Option Addr) (m k:Nat):Prop where
 box:w.heap[p]?=some (.cells #[.pointer t,.map (some m),.map (some k),.int .i64 0,.int .i64 0] 281 (0,0))
 places:w.heap[m]?=some (.map #[] 0)
 keys:w.heap[k]?=some (.map #[] 0)
end Go.Proofs.YthmcbgidehjlbaaGreat.Fd
/-
  xts: what is refused. No condition beyond what each theorem names.
-/
namespace Go.Proofs.YthmcbgidehjlbaaGreat.Fd
open Go Go.RowKit K
end Go.Proofs.YthmcbgidehjlbaaGreat.Fd

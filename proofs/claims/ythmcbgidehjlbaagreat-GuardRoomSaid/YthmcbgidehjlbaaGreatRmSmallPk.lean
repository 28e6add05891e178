/-
  Texts of this claim, laid together by a program of mine. No condition beyond what each theorem names.
-/
import Derived.Test.YthmcbgidehjlbaaGreatRmFieldPk
import Derived.Test.YthmcbgidehjlbaaGreatRmRegionB
/-
  stretch.May, may; tape.Left. No condition beyond what each theorem names.
-/
namespace Go.Proofs.YthmcbgidehjlbaaGreat.Fd
open Go Go.RowKit K
end Go.Proofs.YthmcbgidehjlbaaGreat.Fd
/-
  tape. No condition beyond what each theorem names.
-/
namespace Go.Proofs.YthmcbgidehjlbaaGreat.Fd
open Go Go.RowKit K
def takeCells (t:ByteArray×Nat×Nat):List Value:=[.string t.1,.int .i64 t.2.1,.int .i64 t.2.2]
structure TapeAt (w:World) (F:Nat→Prop) (p:Nat) (bv tv:Value) (b:List UInt8) (a:Nat) (ts:List (ByteArray×Nat×Nat)):Prop where
 box:w.heap[p]?=some (.cells #[bv,.int .i64 a,tv] 130 (0,0))
 own:F p
 bytes:Bytes w F bv b
 few:b.length≤1000000
 within:a≤b.length
 takes:Cells w F tv ts.length 3 (ts.flatMap takeCells)
 count:ts.length≤1000000
end Go.Proofs.YthmcbgidehjlbaaGreat.Fd

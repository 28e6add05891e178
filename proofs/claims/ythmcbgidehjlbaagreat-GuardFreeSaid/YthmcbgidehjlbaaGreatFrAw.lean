/-
 Parts of the proof. No condition beyond what each theorem names.
-/
import Derived.Shelf.SlMaps.Clone
import Derived.Test.YthmcbgidehjlbaaGreatFrAo
set_option maxRecDepth 100000
set_option maxHeartbeats 4000000
namespace Go.Proofs.YthmcbgidehjlbaaGreat.Fd
open _root_.Go.Proofs.Tryz
open Go Go.RowKit K Go.Maps Go.Proofs
theorem Jq {w:World}{mb:Nat}{L:List (Int×Value)}(h:k9 w mb L):Calls prog 114 #[.map (some mb)] w λe w'=>e=.returned (.map (some w.heap.size))/\k9 w' w.heap.size L/\Below w.heap.size w w':=by
 obtain⟨⟨es,clock,hb,b⟩,c,d⟩:=h;have f:=λw=>run_eql_map_nil_sl (P:=prog) w 153 _ _ (some mb) underlying153
 have a:k9 (w.alloc (.map es clock)) w.heap.size L:=⟨⟨es,clock,aj w _,b⟩,c,d⟩;replace a:=LH a;clear b c d;go_enter func114,ntmps114;go_wp2;rw[gX func141 kr kr kr (e:=Extern.MapsClone.clone) kr,run_maps_clone_sl w 153 hb];simp only[Result.andThen];rw[Oper.upon_value];go_wp2;rw[run_typeAssert_map_sl _ 153 _ _ _ _ underlying153];simp only[Result.andThen];rw[Oper.upon_value];go_wp2;go_ret;exact⟨rfl,a.o,(ag _ _).alloc (ae _) _⟩
end Go.Proofs.YthmcbgidehjlbaaGreat.Fd

/-
  Arguments that came in, as the walks' contracts want them. No condition beyond what each theorem names.
-/
import Derived.Test.YthmcbgidehjlbaaGreatRmRowBytes
import Derived.WalkKit
import Derived.ProofKit
import Derived.OpenShut
import Derived.ShutString
import Derived.ChangeOld
import Derived.Below
import Derived.SliceStrings
import Derived.Deep.Grids
import Derived.Lib.SmallJoins
namespace Go.Proofs.YthmcbgidehjlbaaGreat.K
open Go Go.ChangeShapes Go.WideShapes Go.ChangeAt Go.RowKit Go.Deep Go.Joins
theorem cells_in {w:World}{a:Addr}{len cap:Nat}{xs:List Value}(hx:len≤xs.length) (h1:len≤cap) (h2:cap≤maxLen) (hc:∀ i,i<xs.length→w.cell? (a.add i)=some (xs.getD i undef)):
  Cells w (fun _=>True) (.slice (some a) len cap) len 1 (xs.take len):=by
 refine⟨by simp;omega,some a,cap,rfl,h1,h2,fun h=>(by cases h),?_⟩;by_cases h0:len=0
 ·exact .inl h0
 ·obtain⟨b,off,spot⟩:=a;have hc0:=hc 0 (by omega);have hspot:spot=none:=by simpa [Addr.add] using World.cell?_spot hc0
  subst hspot;have hc0':w.cell? ⟨b,off,none⟩=some (xs.getD 0 undef):=by simpa [Addr.add] using hc0
  refine .inr ⟨b,off,rfl,trivial,cell_lt hc0',fun j u hu=>?_⟩;rw[List.getElem?_take] at hu;split at hu
  ·rename_i hj;have h3:=hc j (by omega);have h4:xs.getD j undef=u:=by simp[List.getD,hu]
   rw[h4] at h3;by_cases hj0:j=0
   ·subst hj0
    simpa [Addr.add] using h3
   ·simpa [Addr.add,hj0] using h3
  ·cases hu
section
variable {H:Type}{enc:TypeId×Value→H}{P:Program}{w:World}{base:Nat}{held:Bool}
theorem in_ints {r:Reach}{b0:Nat}{k:IntKind}{t e:TypeId}{v:Value}{d:DataW H}{p:List MemPlace}(ht:P.underlying t=some (.slice e)) (he:P.underlying e=some (.int k)) (hc:P.cellsOf e=1)
  (hv:Value.okWide P w r b0 t v) (h:DataW.Trod enc P w base (fun _=>true) held t v d p):∃ a len cap,∃ ls:List Int,v=.slice a len cap∧Cells w (fun _=>True) (.slice a len cap) len 1 (ls.map (.int k))∧∀ n ∈ ls,(Lit.int k n).wf=true:=by
 obtain⟨a,len,cap,rfl⟩:=okWide_slice ht hv;refine⟨a,len,cap,?_⟩;obtain⟨fuel,hf⟩:=h;rcases open_ints ht he hc hf with ⟨hcs,_⟩|⟨x,l,c,ss,hcs,_,hl,hm,hz,_,hcell,hw⟩
 ·simp[Value.cells] at hcs;obtain⟨rfl,rfl,rfl⟩:=hcs;exact⟨[],rfl,Cells.nil _ _ _,fun _ h=>by cases h⟩
 ·simp[Value.cells] at hcs;obtain⟨rfl,rfl,rfl⟩:=hcs;simp only[if_true] at hz;refine⟨ss.take len,rfl,?_,fun n hn=>hw n (List.mem_of_mem_take hn)⟩;rw[List.map_take];refine cells_in (by simp;omega) hl hm (fun i hi=>?_);rw[hcell i (by simpa using hi)];have:i<ss.length:=by simpa using hi
  simp[List.getD,this]
end
end Go.Proofs.YthmcbgidehjlbaaGreat.K

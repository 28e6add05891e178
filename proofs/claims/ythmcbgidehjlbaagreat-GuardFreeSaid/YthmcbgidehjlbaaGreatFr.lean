/-
  GuardFree, as given. No condition.
-/
import Derived.Test.YthmcbgidehjlbaaGreatRows
import Derived.Test.YthmcbgidehjlbaaGreatFrBe
import Derived.Test.YthmcbgidehjlbaaGreatFrBf
import Derived.Test.YthmcbgidehjlbaaGreatFrBh
namespace Go.Proofs.YthmcbgidehjlbaaGreat.guardFree
open _root_.Go.Proofs.Tryz
open Go Go.ChangeShapes Go.WideShapes Go.ChangeAt Go.RowKit Go.ChangeMaps
open K
set_option maxRecDepth 100000
theorem own:ownKnob prog.godebug=none:=kr
theorem laidOut:laidOutB prog=true:=kr
theorem lifted (os:Os) (started:os.Started) (H:Type) (enc:TypeId×Value->H):
  ReturnsInHanded {} Tryz.checked os 5 .any (Rows.guardFreeSpec.pre6 enc prog f5 Rows.guardFreeRow.domain false) (Rows.guardFreeSpec.post enc prog f5 false true false false):=by
 refine returnsInHanded_of_change (C:=Tryz.checked) own started kr func5
  (ChangeSpec.witness6 (enc:=enc) (C:=Tryz.checked) false ⟨#[],#[.slice none 0 0,iw 0],[]⟩ 8 kr kr kr kr) ?_
 intro W base args u gs before b l n _;have a:∀ (j:Nat) t v,f5.params[j]?=some t->args[j]?=some v->Value.okWide prog W .any base t v:=b;have d:=l;obtain⟨p,q,c,z,rfl,A,B⟩:=l;have k:DataW.TrodAll enc prog W 0 (λ_=>true) true f5.params.toList args.toList u p:=c;rw[params5] at k a;obtain⟨v0,G,d0,w,D,L,f,rfl,rfl,i,E⟩:=trodAll_cons k;obtain⟨v1,I,d1,y,p1,M,rfl,rfl,rfl,h1,F⟩:=trodAll_cons E;obtain⟨rfl,rfl,rfl⟩:=trodAll_nil F;obtain rfl:args=#[v0,v1]:=by cases args;simp_all
 obtain⟨rfl,rfl⟩:=trodVars_none z;have o:=i;have xG:∀ x ∈ D,x.block<W.heap.size:=by obtain⟨m,hm⟩:=o;exact fP m _ _ _ hm
 obtain⟨K,c0,a0,rfl,w0⟩:=Fd.LC (a 0 22 v0 rfl rfl) i;have r:=h1;have g:∀ x ∈ p1,x.block<W.heap.size:=by obtain⟨m,hm⟩:=r;exact fP m _ _ _ hm
 obtain⟨s,rfl,_,_,N⟩:=open_int underlying3 (a 1 3 v1 rfl rfl) h1;clear c b;refine (Fd.L7 w0 s).mono λe J ⟨he,mz⟩=>?_
 subst he;exact⟨_,rfl,_,_,_,[],_,[],d,trodAll_mk1 (shut_bool underlying4 _),(trodAll_cons_mk (fQ laidOut kr (dw kr) o mz xG) (trodAll_cons_mk (fQ laidOut kr (dw kr) r mz g) trodAll_mk0)),rfl,mz.frame _,λh=>by cases h⟩
theorem proved:Rows.GuardFreeSaid:=
 OpenClaim.holds_of_wide 5 f5 rfl rfl rfl rfl rfl rfl rfl ⟨rfl,rfl,rfl,rfl,rfl⟩ rfl rfl rfl rfl rfl kr func5 kr
  (dw kr) (by unfold Func.isWrapper;first|(rw[ak (by decide +kernel)];kernel_rfl)|(rw[ah (by decide +kernel)];exact⟨rfl,rfl⟩))
  (λos started H enc _=>lifted os started H enc)
end Go.Proofs.YthmcbgidehjlbaaGreat.guardFree

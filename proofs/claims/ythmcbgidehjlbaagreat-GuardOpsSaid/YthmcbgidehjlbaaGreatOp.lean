/-
  GuardOps, as given. No condition.
-/
import Derived.Test.YthmcbgidehjlbaaGreatRows
import Derived.Test.YthmcbgidehjlbaaGreatOpBd
import Derived.Test.YthmcbgidehjlbaaGreatOpBe
import Derived.Test.YthmcbgidehjlbaaGreatOpBg
import Derived.Test.YthmcbgidehjlbaaGreatOpBh
namespace Go.Proofs.YthmcbgidehjlbaaGreat.guardOps
open _root_.Go.Proofs.Tryz
open Go Go.ChangeShapes Go.WideShapes Go.ChangeAt Go.RowKit Go.ChangeMaps
open K
set_option maxRecDepth 100000
theorem own:ownKnob prog.godebug=none:=kr
theorem laidOut:laidOutB prog=true:=kr
theorem lifted (os:Os) (started:os.Started) (H:Type) (enc:TypeId×Value->H):
  ReturnsInHanded {} Tryz.checked os 3 .any (Rows.guardOpsSpec.pre6 enc prog f3 Rows.guardOpsRow.domain false) (Rows.guardOpsSpec.post enc prog f3 false true false false):=by
 refine returnsInHanded_of_change (C:=Tryz.checked) own started kr func3
  (ChangeSpec.witness6 (enc:=enc) (C:=Tryz.checked) false ⟨#[],#[.slice none 0 0,.slice none 0 0],[]⟩ 8 kr kr kr kr) ?_
 intro W base args s gs before b l n _;have a:∀ (j:Nat) t v,f3.params[j]?=some t->args[j]?=some v->Value.okWide prog W .any base t v:=b;have d:=l;obtain⟨p,q,c,y,rfl,z,A⟩:=l;have k:DataW.TrodAll enc prog W 0 (λ_=>true) true f3.params.toList args.toList s p:=c;rw[params3] at k a;obtain⟨v0,F,d0,u,B,N,f,rfl,rfl,i,D⟩:=trodAll_cons k;obtain⟨v1,G,d1,w,p1,O,rfl,rfl,rfl,h1,E⟩:=trodAll_cons D;obtain⟨rfl,rfl,rfl⟩:=trodAll_nil E;obtain rfl:args=#[v0,v1]:=by cases args;simp_all
 obtain⟨rfl,rfl⟩:=trodVars_none y;have o:=i;have xH:∀ x ∈ B,x.block<W.heap.size:=by obtain⟨m,hm⟩:=o;exact fP m _ _ _ hm
 obtain⟨L,c0,a0,rfl,w0⟩:=Fd.LM (a 0 22 v0 rfl rfl) i;have r:=h1;have g:∀ x ∈ p1,x.block<W.heap.size:=by obtain⟨m,hm⟩:=r;exact fP m _ _ _ hm
 obtain⟨M,c1,K,rfl,I,_⟩:=Fd.LX (a 1 23 v1 rfl rfl) h1;clear c b;refine (Fd.Mr w0 I).mono λe J ⟨he,mm⟩=>?_
 subst he;exact⟨_,rfl,_,_,_,[],_,[],d,trodAll_mk1 (shut_bool underlying4 _),(trodAll_cons_mk (fQ laidOut kr (dw kr) o mm xH) (trodAll_cons_mk (fQ laidOut kr (dw kr) r mm g) trodAll_mk0)),rfl,mm.frame _,λh=>by cases h⟩
theorem proved:Rows.GuardOpsSaid:=
 OpenClaim.holds_of_wide 3 f3 rfl rfl rfl rfl rfl rfl rfl ⟨rfl,rfl,rfl,rfl,rfl⟩ rfl rfl rfl rfl rfl kr func3 kr
  (dw kr) (by unfold Func.isWrapper;first|(rw[ak (by decide +kernel)];kernel_rfl)|(rw[ah (by decide +kernel)];exact⟨rfl,rfl⟩))
  (λos started H enc _=>lifted os started H enc)
end Go.Proofs.YthmcbgidehjlbaaGreat.guardOps

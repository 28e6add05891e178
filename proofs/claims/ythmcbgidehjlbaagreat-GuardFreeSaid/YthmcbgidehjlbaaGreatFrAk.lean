/-
 Parts of the proof. No condition beyond what each theorem names.
-/
import Derived.OrdersIn
import Derived.RangeFuncNested
import Derived.Test.YthmcbgidehjlbaaGreatFrAa
namespace Go.Proofs.YthmcbgidehjlbaaGreat.RA
open Go
variable {w:World}
theorem JX {n l:Nat}{P:Program}{row:String}{args:Array Value}{R:Value->World->Prop}(h:Rows P row args w R):RowsIn (Fence.wide.inRound l) n P row args w R:=λc cs _=>by obtain⟨v,w',r,s⟩:=h c cs;exact⟨v,w',r,stepsIn_wide.2 s⟩
theorem Dd {n l:Nat}{P:Program}{o:Oper}{a:Act}{K:Act->World->Prop}{Q:Exit->Act->World->Prop}(hd:∀ c,o.op≠.defer c) (h:o.wp P a w K Q):o.wpIn (Fence.wide.inRound l) n P a w K Q:=by
 refine⟨λ_ _=>trivial,?_⟩;rw[Oper.semAt_eq _ _ _ hd];unfold Oper.wp at h;revert h;cases (execOp a.eval o).run P w with
 | ok x w'=>
  cases x with
  | value v=>exact id
  | skip=>exact id
  | defer d=>exact id
  | enter f args=>exact λh=>⟨λe=>(by cases e),CallsIn.inRound l (dJ.2 h)⟩
  | row r args=>exact λh=>⟨λe=>(by cases e),JX h⟩
  | _=>exact λh=>h.elim
 | halt x w'=>
  cases x with
  | panic v=>exact id
  | _=>exact λh=>h.elim
theorem xJ {n l:Nat}{P:Program}{md:Region.Mode}{ops:Array Oper}{Q:Exit->Act->World->Prop}(hd:∀ o ∈ ops.toList,∀ c,o.op≠.defer c) (hno:¬ LetsOut Q):∀ (fuel:Nat) (lst:Array Bool) (a:Act) (w:World),wpAny P md ops Q fuel lst a w->wpAnyIn (Fence.wide.inRound l) n P md ops Q fuel lst a w
 | 0,_,_,_,h=>h
 | fuel+1,lst,a,w,h=>by
  refine⟨h.1,λi hi=>?_⟩;have b:=h.2 i hi;unfold wpOp at b;unfold wpOpIn;cases ho:ops[i]? with
  | none=>rw[ho] at b;exact xJ hd hno fuel _ _ _ b
  | some o=>
   rw[ho] at b;simp only at b ⊢;by_cases hw:Region.wanted o (yielded ops a.tmps)=true
   ·rw[ak hw] at b ⊢
    have d:o ∈ ops.toList:=by
     have:=Array.mem_of_getElem? ho
     simpa using this
    exact Oper.wpIn_mono (λe w' h'=>xJ hd hno fuel _ e w' h') (Dd (hd o d) (b.resolve_right (λf=>hno f.2)))
   ·rw[ah hw] at b ⊢;exact⟨λ_ _=>trivial,xJ hd hno fuel _ _ _ b⟩
def De (l:List Oper):Bool:=l.all λo=>match o.op with|.defer _=>false|_=>true
theorem JY {l:List Oper}(h:De l=true):∀ o ∈ l,∀ c,o.op≠.defer c:=λo a c e=>by have:=bU.1 h o a;rw[e] at this;cases this
theorem JZ {n l0:Nat}{P:Program}{id:Nat}{l:List Oper}{a:Act}{Q:Exit->Act->World->Prop}(R E:World->World->Prop) (kd tl:List Nat) (nj:Nat->Value->World->Prop) (H:World->Prop)
  (hm:P.follows .mixedOrders=true) (hR:R w.drew w.drew) (hER:∀ w w',E w w'->R w w') (hRt:∀ a b d,R a b->R b d->R a d) (hE0:lR E H) (h0:H w.drew)
  (hchk:uU a.tmps.size l (qA l [])=true) (htk:(tl.all λt=>kd.getD t 9 == 6 || kd.getD t 9 == 7)=true) (hnd:De l=true) (hno:¬ LetsOut Q)
  (h:let c:Cx:=⟨P,R,E,a,w.drew,l,qA l [],kd,tl,nj⟩;RA c (Q .normal) l 0 [] [] [] H):(Code.region id l.toArray true).wpIn (Fence.wide.inRound l0) n P Q a w:=by
 refine wpIn_region_any hm ?_;refine xJ (by simpa using JY hnd) hno _ _ _ _ ?_;obtain⟨c,e⟩:=Ex (⟨P,R,E,a,w.drew,l,qA l [],kd,tl,nj⟩:Cx);obtain⟨t,ht⟩:RA c (Q .normal) l 0 [] [] [] H:=by rw[e];exact h
 have A:c.P=P:=by rw[e]
 have s:c.ops=l:=by rw[e]
 have u:c.a0=a:=by rw[e]
 have v:c.R=R:=by rw[e]
 have z:c.E=E:=by rw[e]
 have B:c.w0=w.drew:=by rw[e]
 have D:Fit c:=Fit.zU c (by rw[e];exact hchk)
 have r:∀ t ∈ c.tl,mA (kl c t):=by
  intro t j;have h1:t ∈ tl:=by rw[e] at j;exact j
  have p:=bU.1 htk t h1;have y:c.kd=kd:=by rw[e]
  simp only[ee,eh] at p;unfold kl mA;rw[y];rw[ah om,ak p,ak (by simpa using j)];omega
 have f:∀ σ,Good c (Q .normal) σ c.ops 0 ⟨t,[],[],[],H⟩:=λσ=>by rw[s];exact ht σ
 have main:=zX (c:=c) (s0:=⟨t,[],[],[],H⟩) (Q:=Q) D ⟨rfl,rfl,rfl⟩ (by rw[z];exact hE0) (by rw[v,z];exact hER) (by rw[v];exact hRt) r f;rw[A,s] at main
 have g:∀ k,¬ On (Array.replicate l.length false) k:=by intro k hk;unfold On at hk;by_cases F:k<l.length<;>simp[F] at hk
 simp only[aT];refine main l.length (Array.replicate l.length false) a w.drew ⟨by simp[s],by rw[u],by rw[u],λ_ _=>by rw[u],λ_=>by rw[v,B];exact hR,λi hi=>absurd hi (g i),λσ _=>⟨λk o _ hk=>absurd hk (g k),λm q hk=>?_⟩⟩ sm
 have x:∀ m o,c.ops[m]?=some o->nR c m o (kE c ⟨t,[],[],[],H⟩ σ m):=λm o G=>(ye (c:=c) (s0:=⟨t,[],[],[],H⟩) (Z:=Q .normal) (σ:=σ) c.ops 0 sm (f σ)).1 m o (aW _) G
 rw[yg x (m:=0) (m':=m) (aW _) q λk _ p C=>g k ((hk k (aH p q) C).2 p)];exact h0
end Go.Proofs.YthmcbgidehjlbaaGreat.RA

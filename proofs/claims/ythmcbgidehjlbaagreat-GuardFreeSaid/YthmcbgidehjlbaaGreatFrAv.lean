/-
 Parts of the proof. No condition beyond what each theorem names.
-/
import Derived.LoopIn
import Derived.LoopNIn
import Derived.OwnWalkIn
import Derived.RangeFuncBound
import Derived.RangeFuncNested
import Derived.Shelf.Abstract
import Derived.TacticsInMore
import Derived.WalkKit
import Derived.Test.YthmcbgidehjlbaaGreatFrAh
import Derived.Test.YthmcbgidehjlbaaGreatFrAi
import Derived.Test.YthmcbgidehjlbaaGreatFrAm
import Derived.Test.YthmcbgidehjlbaaGreatFrAs
import Derived.Test.YthmcbgidehjlbaaGreatFrAt
import Derived.Test.YthmcbgidehjlbaaGreatFrAu
set_option maxRecDepth 100000
set_option maxHeartbeats 8000000
namespace Go.Proofs.YthmcbgidehjlbaaGreat.Fd
open _root_.Go.Proofs.Tryz
open Go Go.RowKit K
def lh (L:iz) (ks:List (Nat×iz)):iz:=ks.foldl (λL k=>qj L k.1) L
theorem yY:∀ (ks:List (Nat×iz)) (vs:List Value),vs.length=ks.length->∀ (j:Nat) (k:Nat×iz),ks[j]?=some k->∃ u,vs[j]?=some u/\(my ks vs)[j*2]?=some (iw k.1)/\(my ks vs)[j*2+1]?=some u:=by
 intro ks
 induction ks with
 | nil=>intro vs _ j k h;simp at h
 | cons q ks ih=>
  intro vs a j k h;cases vs with
  | nil=>simp at a
  | cons u vs=>
   have e:my (q::ks) (u::vs)=iw q.1::u::my ks vs:=by simp[my]
   rw[e];cases j with
   | zero=>simp at h;subst h;exact⟨u,rfl,rfl,rfl⟩
   | succ j=>simp at h;obtain⟨d,h1,b,c⟩:=ih vs (by simpa using a) j k h;refine⟨d,by simpa using h1,?_⟩;rw[show (j+1)*2=j*2+1+1 by omega];exact⟨b,c⟩
section
variable {w w':World}{v m:Nat}{L:iz}{ks:List (Nat×iz)}{kh:Bool}
theorem kF.kC (h:kF w v m L ks kh):∃ pa pc,w.cell? (iu v 110)=some (.slice pa ks.length pc)/\∀ (j:Nat) (k:Nat×iz),ks[j]?=some k->∃ pg ug uc,pa=some (iu pg 0)/\pg<w.heap.size/\w.cell? (iu pg (j*2))=some (iw k.1)/\w.cell? (iu pg (j*2+1))=some (ir ug 64 uc)/\k.2.length=64/\Bytes w (λ_=>True) (ir ug 64 uc) k.2:=by obtain⟨⟨cs,pv,h1,s,t,x,y,z,A,q,B,vs,g,b,i⟩,hm,C⟩:=h;obtain⟨pa,pc,rfl,_⟩:=(Cells.own b).shape;refine⟨pa,pc,(cell_of h1 _).trans q,λj k hk=>?_⟩;have D:j<ks.length:=(aD.1 hk).1;obtain⟨u,hu,o,p⟩:=yY ks vs g j k hk;obtain⟨a,f⟩:=i j k u hk hu;obtain⟨ug,uc,rfl,_⟩:=kz f om;obtain⟨pg,off,r,c,_,_,_,l,e⟩:=Cells.at (Cells.own b) om;obtain⟨g2,n,d,_⟩:=kz b om;rw[d] at c;simp only[IJ] at c d;obtain⟨⟨rfl,rfl,_⟩,_,_⟩:=c;have f1:=e _ _ o;have f2:=e _ _ p;rw[aw] at f1 f2;refine⟨g2,ug,uc,d.1,l,f1,f2,a,?_⟩;show Cells w _ _ k.2.length 1 _;rw[a];exact (Cells.own f).mono (λ_ _ _=>trivial)
theorem Cr (h:kF w v m L ks kh):Calls prog 58 #[iq v] w λe w'=>∃ m',e=.returned (iq m')/\lI w' m' (lh L ks) w.heap.size/\Below w.heap.size w w':=by
 obtain⟨_,_,_,_,Y,_⟩:=h.cells;have C:=LH (Cq h.marks);obtain⟨n,t⟩:=Ex ks.length;have a6:n<=1000:=by rw[t];exact h.mL
 have P:=LH h.pl;have HV:=LH (λc (hb:Below w.heap.size w c)=>h.after hb);have hP:=h.kC;obtain⟨V,pc,a,D⟩:=hP;have R:=LH (λc (hb:Below w.heap.size w c)=>(show c.cell? (iu v 110)=some (.slice V ks.length pc) from ((aA.dD hb No).cell (p:=iu v 110) (lq a) id).trans a))
 have X:=LH (λc (hb:Below w.heap.size w c) (j:Nat) (k:Nat×iz) (hk:ks[j]?=some k)=>(show ∃ pg x u,V=some (iu pg 0)/\c.cell? (iu pg (j*2))=some (iw k.1)/\c.cell? (iu pg (j*2+1))=some (ir x 64 u) from by obtain⟨pg,x,u,h1,T,Z,h4,_⟩:=D j k hk;have hc:=aA.dD hb No;exact⟨pg,x,u,h1,(hc.cell (p:=iu pg (j*2)) T id).trans Z,(hc.cell (p:=iu pg (j*2+1)) T id).trans h4⟩))
 rw[<-t] at R;replace t:=LH t;clear h a D;go_enter func58,ntmps58
 go_wp2_with fail
 refine C.o.mono ?_;rintro e c ⟨m',rfl,I,d⟩;have d110:=R.o c d;replace I:=LH I;replace d:=LH d;clear C Y;go_wp2;clear d110
 go_loopg [19] n (λg ix wr=>∃ j:Nat,j+g=n/\ix=iw j/\Hd (lI wr m' (lh L (ks.take j)) w.heap.size)/\Hd (Below w.heap.size w wr))
 case atStart=>exact⟨0,by omega,rfl,I.o,d.o⟩
 case round=>
  obtain⟨j,M,rfl,E,y⟩:=hrel;by_cases O:j<n
  ·obtain⟨g1,rfl⟩:∃ i,gk=i+1:=⟨gk - 1,by omega⟩;have N:(j:Int)<n:=om;have r:j<ks.length:=by have:=t.o;omega
   obtain⟨k,hk⟩:∃ k,ks[j]?=some k:=⟨ks[j],av r⟩;obtain⟨pg,x,u,rfl,c0,c1⟩:=X.o wr y.o j k hk;obtain⟨K,A⟩:=Ex k.1;rw[<-A] at c0;have B:K<50:=by rw[A];exact P.o k (aZ hk)
   obtain⟨Q,f⟩:=Ex (wr.alloc (.cells #[iw K,ir x 64 u] 111));have H:Below wr.heap.size wr Q:=by rw[f];exact (ag _ _).alloc (ae _) _
   have W:Q.heap[wr.heap.size]?=some (.cells #[iw K,ir x 64 u] 111 (0,0)):=by rw[f];exact aj wr _
   have f0:=cell_of W 0;have S:lI Q m' (lh L (ks.take j)) w.heap.size:=E.o.dB (λg _ _ _ _ hg=>H.block g (dC hg));have q:=LH (Cp S K B);have l:=LH (y.o.trans (H.mono y.o.size));have s:ks.take (j+1)=ks.take j++[k]:=by rw[bP r];rw[av r] at hk;rw[aF hk]
   replace s:=LH s;replace A:=LH A;have U:=LH f;subst f;clear W S H hk E y
   go_wp2_with fail
   refine q.o.mono ?_;rintro e w6 ⟨g,rfl,F,z,a1,_⟩;have J:=LH (l.o.trans (z.below l.o.size (λi hi e=>by omega)))
   have G:lI w6 m' (lh L (ks.take (j+1))) w.heap.size:=by rw[s.o,lh,dL];rw[A.o] at F;exact F
   replace G:=LH G;clear F z q c0 c1 f0;go_wp2;go_roundg g1
   case measure=>omega
   case rel=>exact⟨j+1,by omega,by go_num,G.o,J.o⟩
  ·obtain rfl:gk=0:=om;obtain rfl:j=n:=om;have N:¬ (j:Int)<j:=om
   have b:lI wr m' (lh L ks) w.heap.size:=by have h:=E.o;rw[t.o,cS] at h;exact h
   replace b:=LH b;clear O M;go_wp2;go_ret;exact⟨_,rfl,b.o,y.o⟩
theorem IV (h:kF w v m L ks kh) (f c:Nat) (hf:f<=50) (hc:c<=50):Calls prog 32 #[iq v,iw f,iw c] w λe w'=>e=.returned (.bool (tj (lh L ks) f c))/\Below w.heap.size w w':=by
 have hw:=LH (Cr h);clear h;go_enter func32,ntmps32
 go_wp2_with fail
 refine hw.o.mono ?_;rintro e d ⟨m',rfl,a,hb⟩;have b:=LH (GV a.at_ f c hf hc);replace hb:=LH hb;clear a hw
 go_wp2_with fail
 refine b.o.mono ?_;rintro e w2 ⟨rfl,rfl⟩;go_wp2;go_ret;exact⟨rfl,hb.o⟩
end
variable {ks:List (Nat×iz)}{vs:List Value}
def ku (w:World) (v:Nat):Nat->Prop:=λg=>g=v\/∃ n pc,w.cell? (iu v 110)=some (ir g n pc)
def ox (v:Nat) (w w':World):Prop:=∀ j,j≠110->j≠111->w'.cell? (iu v j)=w.cell? (iu v j)
theorem ox.trans {v:Nat}{a b c:World}(h:ox v a b) (k:ox v b c):ox v a c:=λj h1 d=>(k j h1 d).trans (h j h1 d)
theorem ox.below {v:Nat}{a b:World}(h:Below a.heap.size a b) (hv:v<a.heap.size):ox v a b:=λj _ _=>h.cell (p:=iu v j) hv
def VB (w:World) (v:Nat) (w':World):Prop:=(∀ g,ku w' v g->ku w v g\/w.heap.size<=g)/\ox v w w'
theorem xE:(prog.info? 111).map (λi=>(i.zero,i.size,i.bytes))=some (some (.agg #[iw 0,.slice none 0 0]),2,32):=kr
theorem Ct {k:Nat×iz}{u:Value}(h:vs.length=ks.length):my (ks++[k]) (vs++[u])=my ks vs++[iw k.1,u]:=by unfold my;rw[List.zip_append h.symm,gY];simp
def nW (w:World) (v x:Nat):Prop:=∃ pg n pc j n' a,w.cell? (iu v 110)=some (ir pg n pc)/\j<n/\w.cell? (iu pg (j*2+1))=some (ir x n' a)
theorem yZ:∀ (ks:List (Nat×iz)) (vs:List Value) (j:Nat) (u:Value),vs.length=ks.length->(my ks vs)[j*2+1]?=some u->vs[j]?=some u
 | [],vs,j,u,hl,h=>by simp[my] at h
 | k::ks,[],j,u,hl,h=>by simp at hl
 | k::ks,v::vs,0,u,hl,h=>by simpa [my] using h
 | k::ks,v::vs,j+1,u,hl,h=>by
  have e:(my (k::ks) (v::vs))=iw k.1::v::my ks vs:=by simp[my]
  rw[e,show (j+1)*2+1=(j*2+1)+1+1 by omega,bX,bX] at h;rw[bX];exact yZ ks vs j u (by simpa using hl) h
theorem vL {w:World}{v B:Nat}{pv:Value}(hc:w.cell? (iu v 110)=some pv) (hl:vs.length=ks.length) (ho:w.ownsRow B 111 2 pv ks.length (my ks vs)) (x:Nat):
  nW w v x↔∃ (j n c:Nat),vs[j]?=some (ir x n c):=by
 constructor
 ·rintro⟨pg,n,pc,j,n',k,h1,h,l⟩;rw[hc] at h1;obtain rfl:=aF h1
  have o:n=ks.length:=by
   rcases ho.2 with ⟨e,_⟩|⟨g,cap,cur,e,_⟩
   ·cases e
   ·simp only[IJ] at e;exact e.2.1
  obtain⟨db,d,a,e,_,_,_,_,hd⟩:=Cells.at (Cells.own ho) om;simp only[IJ] at e;obtain⟨⟨rfl,rfl,_⟩,-,-⟩:=e;have hlen:(my ks vs).length=ks.length*2:=ho.1;have f:=hd (j*2+1) _ (av (show j*2+1<(my ks vs).length by omega));rw[aw,l] at f;refine⟨j,n',k,yZ ks vs j _ hl ?_⟩;rw[av (show j*2+1<(my ks vs).length by omega)];exact f.symm
 ·rintro⟨j,n,c,i⟩;have m:=(aD.1 i).1;obtain⟨u,h1,_,h⟩:=yY ks vs hl j _ (av (show j<ks.length by omega));rw[i] at h1;obtain rfl:=aF h1;obtain⟨db,d,a,e,_,_,_,_,hd⟩:=Cells.at (Cells.own ho) om;have f:=hd _ _ h;rcases ho.2 with ⟨b,_⟩|⟨g,cap,cur,b,_⟩
  ·rw[e] at b;cases b
  ·rw[e] at b;simp only[IJ] at b;obtain⟨⟨rfl,rfl,_⟩,-,-⟩:=b;rw[aw] at f;exact⟨db,ks.length,a,j,n,c,by rw[hc,e],by omega,f⟩
theorem kF.push {w:World}{v m:Nat}{L:iz}{kh:Bool}(h:kF w v m L ks kh) (hfew:ks.length<1000){w3:World}(hR:aA No w w3){u x:Value}{Z:iz}(hZ:Z.length=64){B:Nat}(hvB:v<=B) (hu:w3.ownsRow B 5 1 u 64 (aQ Z)) (at':Nat) (hat:at'<50) (hx:Cells w3 (λ_=>True) x 1 2 [iw at',u]):
  ∃ pv v' w4,w.cell? (iu v 110)=some pv/\(Builtin.append_ #[102,102] 102 #[pv,x]).run prog w3=.ok v' w4/\w4.cell? (iu v 110)=some pv/\w4.frozen? (iu v 110)=false/\(∃ g cp,v'=ir g (ks.length+1) cp)/\
   kF (w4.setCell (iu v 110) v') v m L (ks++[(at',Z)]) kh/\aA (ku w v) w (w4.setCell (iu v 110) v')/\VB w v (w4.setCell (iu v 110) v')/\∀ x,nW (w4.setCell (iu v 110) v') v x->nW w v x\/B<=x:=by
 have H:=h.after hR.no;obtain⟨⟨cs,pv,h1,h2,h3,h4,h5,h6,h7,Y,h9,vs,f,b,Q⟩,hm,hf,U⟩:=h;obtain⟨uc,M,rfl,_⟩:=kz hu om;obtain⟨v',w4,hr,N,r2,r3⟩:=xi (P:=prog) (bytes:=32) (t:=102) underlying102 xE rfl de b (cE (dC h1)) hR hx (by simp[Value.oneCell']) mx om 102;have G:=dE b (λg hg=>hR.block g (kt b g hg) id)
 have o:∀ {p:Nat}{cs:Array Value}{ty:TypeId},w3.heap[p]?=some (.cells cs ty (0,0))->111≠ty->w4.heap[p]?=some (.cells cs ty (0,0)):=λ{p cs ty} hp E=>by rw[r2.block p (dC hp) (o6 G hp E)];exact hp
 have S:=(hR.block v (dC h1) id).trans h1;have d:=o S de
 have K:v'.ownBlock≠some v:=by intro e;obtain⟨cur,hc⟩:=kA N e;rw[d] at hc;simp only[IJ] at hc;exact absurd hc.2.1 de
 have A:∀ {p:Nat}{s:Array Value}{ty:TypeId},w4.heap[p]?=some (.cells s ty (0,0))->ty≠104->(w4.setCell (iu v 110) v').heap[p]?=some (.cells s ty (0,0)):=λ{p s ty} hp E=>by
  rw[kD _ _ _ (by rintro rfl;rw[d] at hp;simp only[IJ] at hp;exact E hp.2.1.symm)]
  exact hp
 have I:∀ {C:Nat}{W:Value}{k:Nat}{xs:List Value},w3.ownsRow C 5 1 W k xs->(w4.setCell (iu v 110) v').ownsRow C 5 1 W k xs:=λ{C W k xs} hu=>dE hu (λg hg=>by obtain⟨cur,hc⟩:=kA hu hg;rw[hc];exact A (o hc de) de)
 have a:∀ j,j≠110->(cs.setIfInBounds 110 v')[j]?=cs[j]?:=λj l=>by rw[bH (bY l)]
 have z:(w4.setCell (iu v 110) v').cell? (iu v 110)=some v':=by rw[cell_of (lz d 110 v'),dM om]
 have q:w.cell? (iu v 110)=some pv:=(cell_of h1 _).trans Y;refine⟨pv,v',w4,q,hr,(cell_of d _).trans Y,kY d _,?_,⟨⟨_,v',lz d 110 v',by simpa using h2,by rw[a _ de];exact h3,by rw[a _ de];exact h4,by rw[a _ de];exact h5,by rw[a _ de];exact h6,by rw[a _ de];exact h7,by rw[dM om],by rw[a _ de];exact h9,vs++[ir uc 64 M],by simp[f],?_,?_⟩,?_,by simp;omega,?_⟩,?_,?_,?_⟩
 ·obtain⟨X,cp,e,_⟩:=kz N om;exact⟨X,cp,e⟩
 ·rw[Ct f,aE];exact dE N (λp hp=>kD _ _ _ (by rintro rfl;exact K hp))
 ·intro j k u l r;by_cases D:j<ks.length
  ·rw[aX D] at l;rw[aX om] at r;obtain⟨k1,k2⟩:=Q j k u l r;exact⟨k1,I (dE k2 (λg hg=>hR.block g (kt k2 g hg) id))⟩
  ·have T:j<(ks++[(at',Z)]).length:=(aD.1 l).1;simp at T;obtain rfl:j=ks.length:=om;rw[aL (ae _),dA] at l;rw[<-f,aL (ae _),dA] at r;simp at l r;subst l r;exact⟨hZ,I (kU hu hvB)⟩
 ·refine H.marks.dB (λg hg ⟨s,ty,J,hc⟩=>?_);rw[hc];exact A (o hc (by rcases J with rfl|rfl<;>decide)) (by rcases J with rfl|rfl<;>decide)
 ·intro k hk;rcases bw.1 hk with hk|hk
  ·exact U k hk
  ·simp only[cD] at hk;subst hk;exact hat
 ·have R:aA (ku w v) w w4:=(aA.mono hR (λ_ _ e=>e.elim)).then r2 (λi hi e=>by
   obtain⟨pa,pc,rfl,_⟩:=(Cells.own b).shape
   obtain⟨g2,F,V⟩:∃ g2 F,(Value.slice pa ks.length pc)=ir g2 ks.length F:=by
    rcases b.2 with ⟨y,e2⟩|⟨g,cap,cur,y,_⟩
    ·rw[y] at e;simp[Value.ownBlock] at e
    ·exact⟨g,cap,y⟩
   rw[V] at e q;simp[Value.ownBlock] at e;subst e;exact .inr ⟨_,_,q⟩)
  exact R.setCell (λ_=>.inl rfl) _
 ·refine⟨λg hg=>?_,λj O _=>?_⟩
  ·rcases hg with rfl|⟨n',pc',hc⟩
   ·exact .inl (.inl rfl)
   ·rw[z] at hc;obtain rfl:=aF hc;rcases r3 with e|⟨X,e,hl⟩
    ·refine .inl (.inr ?_);rcases b.2 with ⟨y,e2⟩|⟨g2,cap,cur,y,_⟩
     ·rw[y] at e;simp[Value.ownBlock] at e
     ·rw[y] at e;simp[Value.ownBlock] at e;subst e;exact⟨_,_,by rw[q,y]⟩
    ·simp[Value.ownBlock] at e;subst e;exact .inr (am hR.size hl)
  ·rw[cell_of (lz d 110 v'),a j O,cell_of h1]
 ·intro x hx
  rw[vL z (ks:=ks++[(at',Z)]) (vs:=vs++[ir uc 64 M]) (by simp[f]) (B:=v) (by rw[Ct f,aE];exact dE N (λp hp=>kD _ _ _ (by rintro rfl;exact K hp)))] at hx
  obtain⟨j,n,c,l⟩:=hx;by_cases D:j<vs.length
  ·rw[aX D] at l;exact .inl ((vL q f b x).2 ⟨j,n,c,l⟩)
  ·rw[aL om] at l;have hm:=aZ l;simp only[IJ,cD] at hm;obtain⟨⟨rfl,-,-⟩,-,-⟩:=hm;exact .inr (kJ hu x rfl)
variable {l:iz}
def nz (i:Nat) (l:iz) (n:Nat):List (Nat×iz):=(List.range n).map λk=>(i+k,(l.drop (k*64)).take 64)
theorem Cu {i n:Nat}:nz i l (n+1)=nz i l n++[(i+n,(l.drop (n*64)).take 64)]:=by simp[nz,dF]
theorem zb {i n:Nat}:(nz i l n).length=n:=by simp[nz]
theorem IW {w:World}{v m:Nat}{L:iz}(h:kF w v m L ks false){S:Nat->Prop}{dv:Value}(hd:Bytes w S dv l) (hS:∀ g,S g->¬ ku w v g) (i n:Nat) (hl:l.length=n*64) (hin:i+n<=50) (h0:0<n) (hks:ks.length<64):
  Calls prog 26 #[iq v,iw i,dv] w λe w'=>e=.returned (iw 0)/\kF w' v m L (ks++nz i l n) false/\aA (ku w v) w w'/\VB w v w':=by
 obtain⟨db,d,q,rfl,a8,ba,ax,aa,G⟩:=Cells.at hd om;obtain⟨N,hN⟩:=Ex l.length;have z:=LH (Cn h hd i n hl hin);have R:∀ U,aA (ku w v) w U->∀ j u,(aQ l)[j]?=some u->U.cell? (iu db (d+j))=some u:=λU hc j u hu=>(hc.cell (p:=iu db (d+j)) aa (hS db ax)).trans (G j u hu)
 rw[<-hN] at z a8 ⊢;rw[<-hN] at hl;have e1:(N:Int) / 64=n:=om;have hV:=LH h;have bl:n<=50:=om;revert hN hl R;refine H3 ?_;intro hN hl R;clear h hd hS G;go_enter func26,ntmps26
 go_wp2_with fail
 refine z.o.mono ?_;rintro e U ⟨rfl,y⟩;have V1:=hV.o.after y;obtain⟨pa,pc,_,_,_,c,_⟩:=V1.cells;have ad:¬ (64:Int)<=(ks.length:Int):=om;obtain⟨KL,M⟩:=Ex ks.length;rw[<-M] at c ad;have K:aA (ku w v) w U:=aA.dD y _
 have J:VB w v U:=⟨λg hg=>hg.elim (λe=>.inl (.inl e)) (λ⟨n',pc',hc⟩=>by obtain⟨bA,bB,_,_,_,c0,_⟩:=hV.o.cells;have ay:=((aA.dD y No).cell (p:=iu v 110) (lq c0) id).trans c0;rw[ay] at hc;exact .inl (.inr ⟨n',pc',by rw[c0];exact hc⟩)),ox.below y (by obtain⟨_,_,_,_,_,c0,_⟩:=hV.o.cells;exact lq c0)⟩
 revert V1 M K J;refine H4 ?_;intro V1 M K J;clear y z;go_wp2;clear c
 go_loopg [31] n (λg ix wr=>∃ j:Nat,j+g=n/\ix=iw j/\Hd (kF wr v m L (ks++nz i l j) false)/\Hd (aA (ku w v) w wr)/\Hd (VB w v wr))
 case atStart=>exact⟨0,by omega,rfl,by show kF _ _ _ _ _ _;simpa [nz] using V1.o,K.o,J.o⟩
 case round=>
  obtain⟨j,b2,rfl,V,HC,HB⟩:=hrel;by_cases b5:j<n
  ·obtain⟨g1,rfl⟩:∃ i,gk=i+1:=⟨gk - 1,by omega⟩;have b3:(j:Int)<n:=om;obtain⟨t,rfl⟩:=Ex (wr:World);obtain⟨Y,hY⟩:=Ex (i+j);have bz:(i:Int)+j=Y:=om;obtain⟨r,Q⟩:=Ex (j*64);obtain⟨E,X⟩:=Ex ((j+1)*64);have b8:(j:Int)*64=r:=om;have b7:((j:Int)+1)*64=E:=om;have O:E - r=64:=om;have b4:=hl.o;have bp:E<=N:=om;have i1:(r:Int)<=E:=om;have i2:(E:Int)<=q:=om;have i3:(0:Int)<=r:=om;obtain⟨Z,hZ⟩:=Ex ((l.drop (j*64)).take 64);have an:=hN.o;have C:Z.length=64:=by rw[hZ,aR,bM];omega
   have F:∀ f,aA No t f->Bytes f (λ_=>True) (.slice (some (iu db (d+r))) 64 (q - r)) Z:=λf hc=>by
    have a6:=HC.o.trans (aA.mono hc (λ_ _ e=>e.elim));refine⟨by rw[km,aY],_,_,by rw[C],by omega,by omega,λh=>(by cases h),.inr ⟨db,d+r,rfl,trivial,aH aa a6.size,λk u hu=>?_⟩⟩;have hk:k<64:=by have:=(aD.1 hu).1;rw[km,C] at this;exact this
    rw[cy];refine R.o f a6 _ _ ?_;rw[<-hu,hZ,Q];simp[aQ,hk]
   have T:∀ f,(Instr.sliceAt 42 (.slice (some (iu db d)) N q) (some (iw r)) (some (iw E)) none).run prog f=.ok (.slice (some (iu db (d+r))) 64 (q - r)) f:=λf=>by have h1:=vU (P:=prog) f underlying42 D.vC (some (iu db d)) N q r E om om;rw[pK _ _ _ _ _ _ om] at h1;simp only[O,aY] at h1;exact h1
   replace T:=LH T;have a7:=LH (λf (hc:aA No t f)=>q0 (F f hc) om);rw[C] at a7;obtain⟨pa,pc,_,_,_,c,_⟩:=V.o.cells;obtain⟨KJ,B⟩:=Ex ((ks++nz i l j).length);rw[<-B] at c;have a1:(ks++nz i l j).length<1000:=by rw[aE,zb];omega
   have af:=LH (lq c);have s:=Dr t
   revert hY Q X O hZ c B s;refine H8 ?_;intro hY Q X O hZ c B s;clear F an b4;go_wp2;refine RA.rt (aA No) [5,1,1,1,1,1,1,1,1,1,1,1,1,1,1,3,1,3,6,5,5,7] [18,21] (λ_=>True) trivial (λ_=>aA.refl _ _) (λ_ _ _ h k=>h.trans k) (h:=?_);intro cx;refine RA.pq ?_
   repeat refine RA.qq ?_
   refine RA.fk prog v 110 (h:=?_);refine RA.lk prog (.slice pa KJ pc) (hc:=λf hp=>by exact ((s.o _ hp.1).cell (p:=iu v 110) af.o id).trans c.o) (h:=?_)
   repeat refine RA.qq ?_
   refine RA.vw prog (iw Y) (h:=?_)
   repeat refine RA.qq ?_
   refine RA.vw prog (iw r) (h:=?_)
   repeat refine RA.qq ?_
   refine RA.vw prog (iw (j+1:Nat)) (h:=?_);refine RA.vw prog (iw E) (h:=?_);refine RA.v7 (y':=.slice (some (iu db (d+r))) 64 (q - r)) (hr:=λf hp=>T.o f) (h:=?_)
   refine RA.qc (P:=prog) [.slice (some (iu db (d+r))) 64 (q - r)] (λv f=>f.ownsRow t.heap.size 5 1 v 64 (aQ Z)) (hs:=λv a b h h2=>dE h2 (λg hg=>h.block g (kt h2 g hg) id)) (hr:=λf hp hH=>by refine (a7.o f (s.o _ hp.1)).mono ?_;rintro e A ⟨v,rfl,k1,k2,-⟩;exact⟨v,rfl,aA.dD k2 _,kU k1 (s.o _ hp.1).size,trivial⟩) (hn:=λu=>?_)
   refine RA.vk prog (.agg #[iw Y,u]) (hr:=λf hp=>by obtain⟨g,cp,rfl,_⟩:=kz (show f.ownsRow t.heap.size 5 1 u 64 (aQ Z) from hp.fact 0 rfl kr) om;clear hp;go_simp) (h:=?_)
   refine RA.bq (λx f=>Cells f (λ_=>True) x 1 2 [iw Y,u]) (hs:=λ_ _ _ h k=>k.ki h (λ_ _ _=>id)) (he:=λ_ _ _ _ _=>trivial) (hr:=λf hp _=>by refine⟨ir f.heap.size 1 1,f.alloc (.cells #[iw Y,u] 111),?_,(aA.refl _ _).alloc _,mC f #[iw Y,u] 111 1 2 rfl mx,trivial⟩;exact wT (RA.kH rf) underlying102 xE (by show 0<2;omega) (by show 2<=1000;omega) rfl) (hn:=λx=>?_)
   refine RA.oH (λv' A=>A.cell? (iu v 110)=some (.slice pa KJ pc)/\A.frozen? (iu v 110)=false/\(∃ g cp,v'=ir g (KJ+1) cp)/\kF (A.setCell (iu v 110) v') v m L (ks++nz i l (j+1)) false/\aA (ku t v) t (A.setCell (iu v 110) v')/\VB t v (A.setCell (iu v 110) v')) (hr:=λf b6 _=>by have hp:=b6.first kr;obtain⟨pv,v',A,q1,q2,q3,q4,q5,q6,q7,q8,-⟩:=V.o.push a1 (s.o _ hp.1) C (cE af.o) (show f.ownsRow t.heap.size 5 1 u 64 (aQ Z) from hp.fact 1 rfl kr) Y om (hp.fact 0 rfl kr);rw[c.o] at q1;obtain rfl:=aF q1;rw[<-B.o] at q5;refine⟨v',A,RA.nS rf rf q2,q3,q4,q5,?_,q7,q8⟩;rw[Cu,<-hY.o,<-hZ.o,<-cC];exact q6) (hn:=λv'=>?_)
   refine RA.pq ?_;refine RA.pk prog v 110 (h:=?_)
   refine RA.lr (λW=>kF W v m L (ks++nz i l (j+1)) false/\aA (ku t v) t W/\VB t v W) (hr:=λA _ hH=>by obtain⟨f1,f2,⟨g',cp,rfl⟩,f3,f4,f5⟩:=hH;refine⟨_,RA.kL rf rf (w':=A.setCell (iu v 110) (ir g' (KJ+1) cp)) ?_,f3,f4,f5⟩;clear f3 f4 f5;show (Instr.storeAt _ _ _).run prog A=_;go_simp) (hn:=?_)
   refine RA.RA.kZ (λW hH=>?_);simp only[RA.RP,cx];obtain⟨z1,z2,z3⟩:=hH;have I:aA (ku w v) w W:=HC.o.then z2 (λg hg e=>(HB.o.1 g e).elim id (λe=>by omega));have H:VB w v W:=⟨λg hg=>(z3.1 g hg).elim (HB.o.1 g) (λe=>.inr (am HC.o.size e)),HB.o.2.trans z3.2⟩;revert z1 I H;refine H3 ?_;intro z1 I H;clear z2 z3;go_wp2;go_roundg g1
   case measure=>omega
   case rel=>exact⟨j+1,by omega,by go_num,z1.o,I.o,H.o⟩
  ·obtain rfl:gk=0:=om;obtain rfl:j=n:=om;have b3:¬ (j:Int)<j:=om;clear b5 b2;go_wp2;go_ret;exact⟨rfl,V.o,HC.o,HB.o⟩
theorem IX {w:World}{v m:Nat}{L:iz}{kh:Bool}(h:kF w v m L ks kh):Calls prog 31 #[iq v] w λe w'=>e=.returned (.tuple #[])/\kF w' v m L ks true/\aA (λg=>g=v) w w'/\ox v w w':=by
 obtain⟨i,pc,_,_,_,_,c,_,f⟩:=h.cells
 have d:=LH (show ox v w (w.setCell (iu v 111) (.bool true)) from λj _ a=>by obtain⟨⟨cs,pv,h1,_⟩,_⟩:=h;rw[cell_of (lz h1 111 _),bH (bY a),cell_of h1])
 have a:=LH h.pd;have b:=LH ((aA.refl (λg=>g=v) w).setCell (p:=iu v 111) (λ_=>rfl) (.bool true));clear h;go_enter func31,ntmps31;go_wp2;go_end0;exact⟨rfl,a.o,b.o,d.o⟩
variable {f:Int}
def rz (L:iz) (f c:Int):Int:=if P.ql (60,50) f c=false then 3 else if tj L f.toNat c.toNat then 8 else 0
def rA (L:iz) (f c:Int):Int×Int:=if rz L f c=0 then (60+f,c) else (0,0)
theorem IY {c:Int}(h:P.ql (60,50) f c=true):0<=f/\f<=50/\48<=c/\c<=50:=by simp[P.ql,P.rS] at h;omega
theorem IZ {c:Int}(h:P.ql (60,50) f c=true):P.ru (60,50) f c=(60+f,c):=by unfold P.ru;rw[ak h]
theorem I0 {c:Int}(h:P.ql (60,50) f c=false):P.ru (60,50) f c=(0,0):=by unfold P.ru;rw[ah (by rw[h];decide)]
theorem Cv {w:World}{v m:Nat}{L:iz}{ks:List (Nat×iz)}{kh:Bool}(h:kF w v m L ks kh) (f c:Int):
  Calls prog 28 #[iq v,iw f,iw c] w λe w'=>e=.returned (.tuple #[.agg #[iw (rA (lh L ks) f c).1,iw (rA (lh L ks) f c).2],iw (rz (lh L ks) f c)])/\Below w.heap.size w w':=by
 obtain⟨n0,s⟩:=Ex w.heap.size;obtain⟨w1,K⟩:=Ex (w.alloc (.cells #[iw 0,iw 0] 27));have b1:Below w.heap.size w w1:=by rw[K];exact (ag _ _).alloc (ae _) _
 have Z:w1.heap[n0]?=some (.cells #[iw 0,iw 0] 27 (0,0)):=by rw[K,s];exact aj w _
 have hD:=LH (uF (h.after b1));obtain⟨W,hW⟩:=Ex (lh L ks);have HA:=λ(t:World) (hb:Below w.heap.size w t) (f c:Nat) (hf:f<=50) (hc:c<=50)=>IV (h.after hb) f c hf hc
 rw[<-hW] at HA ⊢;replace HA:=LH HA;replace hW:=LH hW;obtain⟨IA,Q⟩:=Ex (P.ru (60,50) f c);obtain⟨IB,R⟩:=Ex (P.ql (60,50) f c);obtain⟨ax,ay⟩:=IA;have a1:=LH (λt=>P.BN (x:=60) (y:=50) (p:=f) (q:=c) Q.symm R.symm t);replace b1:=LH b1;replace Z:=LH Z;clear h;go_enter func28,ntmps28;have a6:=LH K;subst K;have X:=LH Q;have i:=LH R;clear Q R
 go_wp2_with fail
 refine hD.o.mono ?_;rintro e w2 ⟨rfl,E⟩;replace E:=LH E;clear hD
 go_wp2_with fail
 refine (a1.o w2).mono ?_;rintro e t ⟨rfl,Y⟩;rw[<-s];have G:=E.o.trans (Y.mono E.o.size);have x3:=(G.block n0 (dC Z.o)).trans Z.o;have H:Below w.heap.size w t:=b1.o.trans (G.mono b1.o.size);have xz:(t.alloc (.cells #[iw 0,iw 0] 27)).heap[t.heap.size]?=some (.cells #[iw 0,iw 0] 27 (0,0)):=aj t _;have k:=mf (P:=prog) (ty:=27) (x:=[iw ax,iw ay]) xz kr rfl (by simp[Value.oneCell']);obtain⟨T,I⟩:=Ex ((t.alloc (.cells #[iw 0,iw 0] 27)).setRow t.heap.size #[iw ax,iw ay]);have x4:T.heap[t.heap.size]?=some (.cells #[iw ax,iw ay] 27 (0,0)):=by rw[I];exact aJ _ _ _ _ _ _ xz
 have O:Below t.heap.size t T:=by rw[I];exact below_setRow ((ag _ _).alloc (ae _) _) (ae _) _
 have N:=(O.block n0 (dC x3)).trans x3;have b:Below w.heap.size w T:=H.trans (O.mono H.size);rw[<-show T=(t.alloc (.cells #[iw 0,iw 0] 27)).setRow t.heap.size ([iw ax,iw ay]:List Value).toArray from I] at k;revert s k I x4 N b;refine H6 ?_;intro s k I x4 N b;clear G E Y x3 H xz O b1 Z;cases IB with
 | false=>
  have l:=I0 i.o.symm;have A:rz W f c=3:=by unfold rz;rw[ak i.o.symm]
  have B:rA W f c=(0,0):=by unfold rA;rw[A];rfl
  have a:=mf (P:=prog) (ty:=27) (x:=[iw 0,iw 0]) N.o kr rfl (by simp[Value.oneCell']);have J:(T.setRow n0 ([iw 0,iw 0]:List Value).toArray).heap[n0]?=some (.cells #[iw 0,iw 0] 27 (0,0)):=aJ _ _ _ _ _ _ N.o;have d:Below w.heap.size w (T.setRow n0 ([iw 0,iw 0]:List Value).toArray):=below_setRow b.o (by rw[s.o];exact ae _) _;revert l A B a J d;refine H6 ?_;intro l A B a J d
  go_wp2_with (first|(refine kI rfl 27 _ _ rfl _ _ rfl rfl k.o ?_)|(refine kI rfl 27 _ _ rfl _ _ rfl rfl a.o ?_)|fail)
  refine aI (sE results28 _ _ n0 27 _ (0,0) _ rfl J.o underlying27 rfl kr) rfl ⟨by rw[A.o,B.o];rfl,d.o⟩
 | true=>
  obtain⟨i1,i2,i3,i4⟩:=IY i.o.symm;have l:=IZ i.o.symm;rw[<-X.o] at l;simp only[fE] at l;obtain⟨F,rfl⟩:∃ F:Nat,f=F:=⟨f.toNat,by omega⟩;obtain⟨C,rfl⟩:∃ C:Nat,c=C:=⟨c.toNat,by omega⟩;have D:=LH (HA.o T b.o F C om om);obtain⟨AB,u⟩:=Ex (tj W F C);rw[<-u] at D;have n:(F:Int).toNat=F/\(C:Int).toNat=C:=⟨rfl,rfl⟩;have M:=s.o;cases AB with
  | true=>
   have A:rz W F C=8:=by unfold rz;rw[ah (by rw[<-i.o];decide),n.1,n.2,<-u];rfl
   have B:rA W F C=(0,0):=by unfold rA;rw[A];rfl
   revert l u n M A B;refine H6 ?_;intro l u n M A B
   go_wp2_with (first|(refine kI rfl 27 _ _ rfl _ _ rfl rfl k.o ?_)|fail)
   refine D.o.mono ?_;rintro e V ⟨rfl,d⟩;have U:=(d.block n0 (dC N.o)).trans N.o;have r:=b.o.trans (d.mono b.o.size);have a:=mf (P:=prog) (ty:=27) (x:=[iw 0,iw 0]) U kr rfl (by simp[Value.oneCell']);have J:(V.setRow n0 ([iw 0,iw 0]:List Value).toArray).heap[n0]?=some (.cells #[iw 0,iw 0] 27 (0,0)):=aJ _ _ _ _ _ _ U;have z:Below w.heap.size w (V.setRow n0 ([iw 0,iw 0]:List Value).toArray):=below_setRow r (by rw[s.o];exact ae _) _;revert a J z;refine H3 ?_;intro a J z;clear d U r
   go_wp2_with (first|(refine kI rfl 27 _ _ rfl _ _ rfl rfl a.o ?_)|fail)
   refine aI (sE results28 _ _ n0 27 _ (0,0) _ rfl J.o underlying27 rfl kr) rfl ⟨by rw[A.o,B.o];rfl,z.o⟩
  | false=>
   have A:rz W F C=0:=by unfold rz;rw[ah (by rw[<-i.o];decide),n.1,n.2,<-u];rfl
   have B:rA W F C=((60+F:Int),(C:Int)):=by unfold rA;rw[A];rfl
   obtain⟨rfl,rfl⟩:=l;revert u n M A B;refine H5 ?_;intro u n M A B
   go_wp2_with (first|(refine kI rfl 27 _ _ rfl _ _ rfl rfl k.o ?_)|fail)
   refine D.o.mono ?_;rintro e V ⟨rfl,d⟩;have U:=(d.block n0 (dC N.o)).trans N.o;have z5:=(d.block t.heap.size (dC x4.o)).trans x4.o;have r:=b.o.trans (d.mono b.o.size);have a:=mf (P:=prog) (ty:=27) (x:=[iw (60+F),iw C]) U kr rfl (by simp[Value.oneCell']);have S:=mE (P:=prog) (w:=V) (g:=t.heap.size) (off:=0) (ty:=27) (x:=[iw (60+F),iw C]) underlying27 kr (λj v hv=>by rw[aw,cell_of z5];simpa using hv);have J:(V.setRow n0 ([iw (60+F),iw C]:List Value).toArray).heap[n0]?=some (.cells #[iw (60+F),iw C] 27 (0,0)):=aJ _ _ _ _ _ _ U;have z:Below w.heap.size w (V.setRow n0 ([iw (60+F),iw C]:List Value).toArray):=below_setRow r (by rw[s.o];exact ae _) _;revert a S J z;refine H4 ?_;intro a S J z;clear d U r z5
   go_wp2_with (first|(refine kQ rfl 27 _ rfl _ _ rfl S.o ?_)|(refine kI rfl 27 _ _ rfl _ _ rfl rfl a.o ?_)|fail)
   refine aI (sE results28 _ _ n0 27 _ (0,0) _ rfl J.o underlying27 rfl kr) rfl ⟨by rw[A.o,B.o];rfl,z.o⟩
end Go.Proofs.YthmcbgidehjlbaaGreat.Fd
namespace Go.Proofs.YthmcbgidehjlbaaGreat.Fd
open _root_.Go.Proofs.Tryz
open Go Go.RowKit Go.Shelf K
attribute [local go_sem] Oper.semAt_some
theorem I1 (F:Fence) (n:Nat) (h6:F.fn 70) (hro:F.round=none) (a:Option Addr) (len cap:Nat) (w:World):
  CallsIn F n prog 70 #[.slice a len cap] w λe w'=>e=.returned (.func (.func 107) #[] #[iq w.heap.size])/\w'=w.alloc (.cells #[.slice a len cap] 102):=by
 refine eK func70 rfl h6 ?_ hro;simp only[ntmps70,NT,Nat.reduceAdd,Nat.reduceSub]
 gi_wp2
 go_ret;exact⟨rfl,rfl⟩
theorem Cw (a:Option Addr) (len cap:Nat) (w:World):
  Calls prog 70 #[.slice a len cap] w λe w'=>e=.returned (.func (.func 107) #[] #[iq w.heap.size])/\w'=w.alloc (.cells #[.slice a len cap] 102):=dJ.1 (I1 .wide 3 trivial rfl a len cap w)
abbrev KE:=Nat×Nat×Nat
def kv (x:KE):Value:=ir x.2.1 64 x.2.2
abbrev KR:=KE×Nat
def vM (x:KR):Array Value:=#[iw x.2,.agg #[iw x.1.1,ir x.1.2.1 64 x.1.2.2]]
def oE (E:List KE):List KR:=E.zipIdx.reverse
theorem Cy (E:List KE):(oE E).length=E.length:=by simp[oE]
theorem I2 (E:List KE) (j:Nat) (x:KE) (h:E[j]?=some x):(oE E)[E.length - 1 - j]?=some (x,j):=by have a:j<E.length:=(aD.1 h).1;unfold oE;rw[List.getElem?_reverse (by simp;omega)];simp only[List.length_zipIdx];rw[show E.length - 1 - (E.length - 1 - j)=j by omega];simp[h]
theorem I3 (E:List KE) (j:Nat) (x:KE) (h:E[j]?=some x):(oE E).take (E.length - (j+1))++[(x,j)]=(oE E).take (E.length - j):=by
 have b:j<E.length:=(aD.1 h).1;have a:E.length - (j+1)<(oE E).length:=by rw[Cy];omega
 rw[show E.length - j=E.length - (j+1)+1 by omega,bP a];have h1:=I2 E j x h;rw[show E.length - 1 - j=E.length - (j+1) by omega,av a] at h1;rw[aF h1]
theorem I4 (F:Fence) (n:Nat) (h8:F.fn 107) (hro:F.round=none) (hn:1<=n) (l Bs n0:Nat) (a:Option Addr) (cap:Nat) (E:List KE) (hsm:E.length<=1000) (J Jx:List KR->World->Prop)
  (hY:∀ pre x W,J pre W->pre.length<E.length->YieldAt F (n - 1) prog l (vM x) W λe W'=>(e=.returned (.bool true)/\J (pre++[x]) W'/\Below n0 W W')\/(e=.returned (.bool false)/\Jx (pre++[x]) W'))
  (W:World) (hb:Bs<n0) (hBs:W.cell? (iu Bs 0)=some (.slice a E.length cap)) (hE:∀ j x,E[j]?=some x->∃ pg,a=some (iu pg 0)/\pg<n0/\W.cell? (iu pg (j*2))=some (iw x.1)/\W.cell? (iu pg (j*2+1))=some (kv x)) (h0:J [] W):
  CallsIn F n prog 107 #[.func (.yield l) #[] #[],iq Bs] W λe W'=>(∃ v,e=.returned v)/\
   ((∃ ys,ys=oE E/\J ys W')\/(∃ pre,pre <+: oE E/\Jx pre W')):=by
 obtain⟨L,r⟩:=Ex E.length;rw[<-r] at hBs hsm;replace r:=LH r
 have K:=LH (λq (hk:Below n0 W q) j (x:KE) (y:E[j]?=some x)=>(show ∃ pg,a=some (iu pg 0)/\q.cell? (iu pg (j*2))=some (iw x.1)/\q.cell? (iu pg (j*2+1))=some (kv x) from by obtain⟨pg,h1,D,M,N⟩:=hE j x y;exact⟨pg,h1,(hk.cell (p:=iu pg (j*2)) D).trans M,(hk.cell (p:=iu pg (j*2+1)) D).trans N⟩))
 have I:=LH (λq (hk:Below n0 W q)=>(hk.cell (p:=iu Bs 0) hb).trans hBs);replace hE:=LH hE;replace hY:=LH hY;refine eK func107 rfl h8 ?_ hro;simp only[ntmps107,NT,Nat.reduceAdd,Nat.reduceSub];have R:wrap64 ((L:Int) - 1)=(L:Int) - 1:=by unfold wrap64;omega
 gi_wp2
 clear hBs
 gi_loopw [3] (λi wr=>∃ k:Nat,k<=L/\i=.int .i64 ((k:Int) - 1)/\Hd (J ((oE E).take (E.length - k)) wr)/\Hd (Below n0 W wr)) (λi _=>match i with|.int _ z=>(z+1).toNat|_=>0)
 case atStart=>refine⟨L,ae _,by simp,?_,ag _ _⟩;rw[r.o,dA];exact h0
 case round=>
  obtain⟨k,hk,rfl,C,A⟩:=hrel;have d:=I.o wr A.o;cases k with
  | zero=>
   have s:J (oE E) wr:=by
    have h:=C.o
    rwa [fZ,<-Cy E,cS] at h
   clear d
   gi_wp2
   go_end0;exact⟨⟨_,rfl⟩,.inl ⟨_,rfl,s⟩⟩
  | succ j=>
   have Q:j<E.length:=by rw[<-r.o];omega
   obtain⟨⟨p,H,G⟩,y⟩:∃ x,E[j]?=some x:=⟨E[j],av Q⟩;obtain⟨pg,rfl,c0,c1⟩:=K.o wr A.o j _ y;obtain⟨fn,tmps,assign,body,B,O⟩:=hY.o _ ((p,H,G),j) wr C.o (by rw[aR];omega);have u:=LH (I3 E j _ y);have m:((j+1:Nat):Int) - 1=j:=om;rw[m]
   have t:=mE (P:=prog) (w:=wr) (g:=pg) (off:=j*2) (ty:=111) (x:=[iw p,ir H 64 G]) underlying111 kr (λi v hv=>by
    match i,hv with
    | 0,hv=>simp at hv;subst hv;exact c0
    | 1,hv=>simp at hv;subst hv;exact c1)
   have S:(j:Int)<L:=om;unfold kv at c1;unfold vM at B
   gi_wp2
   refine O.mono ?_;rintro e T (⟨rfl,c,hk3⟩|⟨rfl,b⟩)
   ·have f:=A.o.trans hk3;rw[u.o] at c;replace c:=LH c;replace f:=LH f;clear d t B m c0 c1
    gi_wp2
    go_roundw
    case rel=>exact⟨j,by omega,by go_num,c.o,f.o⟩
    case measure=>show ((_:Int)+1).toNat<((_:Int)+1).toNat;omega
   ·replace b:=LH b;clear d t B m c0 c1
    gi_wp2
    refine aI (gw rfl _ _ _) rfl ?_;refine⟨⟨_,rfl⟩,.inr ⟨_,?_,b.o⟩⟩;rw[u.o];exact List.take_prefix _ _
theorem Cz (F:Fence) (n:Nat) (h8:F.fn 107) (hro:F.round=none) (hn:1<=n) (Bs n0:Nat) (a:Option Addr) (cap:Nat) (E:List KE) (hsm:E.length<=1000) (w:World) (hn0:n0<=w.heap.size)
  (hb:Bs<n0) (hBs:w.cell? (iu Bs 0)=some (.slice a E.length cap)) (hE:∀ j x,E[j]?=some x->∃ pg,a=some (iu pg 0)/\pg<n0/\w.cell? (iu pg (j*2))=some (iw x.1)/\w.cell? (iu pg (j*2+1))=some (kv x)):
  SeqStopsK F n prog 107 #[iq Bs] vM (Below n0) (λys=>ys=oE E) (λpre=>pre <+: oE E) E.length w:=λl J d W c _ _ h e=>
 I4 F n h8 hro hn l Bs n0 a cap E hsm J d h W hb (((c.mono hn0).cell (p:=iu Bs 0) hb).trans hBs) (λj x i=>by obtain⟨pg,h1,b,f,g⟩:=hE j x i;exact⟨pg,h1,b,((c.mono hn0).cell (p:=iu pg (j*2)) b).trans f,((c.mono hn0).cell (p:=iu pg (j*2+1)) b).trans g⟩) e
end Go.Proofs.YthmcbgidehjlbaaGreat.Fd
namespace Go.Proofs.YthmcbgidehjlbaaGreat.Fd
open _root_.Go.Proofs.Tryz
open Go Go.RowKit Go.Shelf K
attribute [local go_sem] Oper.semAt_some
def kX (ks:List (Nat×iz)) (p:Nat) (d:iz):iz:=ks.foldl (λb k=>if k.1=p then k.2 else b) d
theorem CA (ks:List (Nat×iz)) (k:Nat×iz) (p:Nat) (d:iz):kX (ks++[k]) p d=if k.1=p then k.2 else kX ks p d:=by simp[kX]
theorem qK:∀ (ks:List (Nat×iz)) (p:Nat) (d:iz),(∀ k ∈ ks,k.1≠p)->kX ks p d=d:=by
 intro ks
 induction ks with
 | nil=>intro p d _;rfl
 | cons k ks ih=>intro p d h;show kX ks p (if k.1=p then k.2 else d)=d;rw[ah (h k sm),ih p d (λk hk=>h k (by simp[hk]))]
theorem zd:∀ (ks:List (Nat×iz)) (p:Nat) (d:iz) (j:Nat) (k:Nat×iz),ks[j]?=some k->k.1=p->(∀ i k',j<i->ks[i]?=some k'->k'.1≠p)->kX ks p d=k.2:=by
 intro ks
 induction ks with
 | nil=>intro p d j k h;simp at h
 | cons q ks ih=>
  intro p d j k h hk b;cases j with
  | zero=>simp at h;subst h;show kX ks p (if q.1=p then q.2 else d)=q.2;rw[ak hk];refine qK ks p _ (λk' a=>?_);obtain⟨i,hi,rfl⟩:=dI a;exact b (i+1) _ om (by simp[hi])
  | succ j=>show kX ks p _=k.2;refine ih p _ j k (by simpa using h) hk (λi k' hi a=>b (i+1) k' om (by simpa using a))
theorem xF (ks:List (Nat×iz)) (p:Nat) (d:iz) (n:Nat) (hd:d.length=n) (hk:∀ k ∈ ks,k.2.length=n):(kX ks p d).length=n:=by
 induction ks generalizing d with
 | nil=>exact hd
 | cons k ks ih=>
  refine ih _ ?_ (λb a=>hk b (by simp[a]));show (if k.1=p then k.2 else d).length=n;split
  ·exact hk k sm
  ·exact hd
theorem back_mem {E:List KE}{q:List KR}{x:KR}(h:q++[x] <+: oE E):E[x.2]?=some x.1/\∀ i y,x.2<i->E[i]?=some y->(y,i) ∈ q:=by
 obtain⟨r,hr⟩:=h
 have e:E.zipIdx=r.reverse++[x]++q.reverse:=by have:=bV List.reverse hr;simp only[oE,List.reverse_reverse,List.reverse_append,List.reverse_cons,List.reverse_nil,bE] at this;rw[<-this];simp
 have h1:E.zipIdx[r.length]?=some x:=by rw[e,cC,aL sm];simp
 rw[fM] at h1;cases hE:E[r.length]? with
 | none=>rw[hE] at h1;simp at h1
 | some z=>
  rw[hE] at h1;simp at h1;obtain rfl:=h1;refine⟨by simpa using hE,λi y hi b=>?_⟩;have a:E.zipIdx[i]?=some (y,i):=by rw[fM,b];simp
  simp only at hi;rw[e,cC,aL (by simp;omega),aL (by simp;omega)] at a;have:=aZ a
  simpa using this
theorem CB {α β:Type}(ks:List α) (P:Nat->α->β->Prop) (h:∀ j k,ks[j]?=some k->∃ x,P j k x):∃ E:List β,E.length=ks.length/\∀ j k x,ks[j]?=some k->E[j]?=some x->P j k x:=by
 classical
 induction ks generalizing P with
 | nil=>exact⟨[],rfl,λj k x hk=>by simp at hk⟩
 | cons k ks ih=>
  obtain⟨x,d⟩:=h 0 k rfl;obtain⟨E,c,b⟩:=ih (λj k x=>P (j+1) k x) (λj k hk=>h (j+1) k (by simpa using hk));refine⟨x::E,by simp[c],λj e x' hk a=>?_⟩;cases j with
  | zero=>simp at hk a;subst hk;subst a;exact d
  | succ j=>exact b j e x' (by simpa using hk) (by simpa using a)
theorem ze {F:Fence}{n:Nat}{P:Program}{C:Code}{Q:Exit->Act->World->Prop}{a:Act}{w:World}(h:∀ A,A=a->C.wpIn F n P Q A w):C.wpIn F n P Q a w:=h a rfl
def CC (s p:Nat) (W4:World) (pre:List KR) (W:World):Prop:=((∀ x ∈ pre,x.1.1≠p)/\Boxed W s 3 (iw p)/\Boxed W (s+1) 42 (.slice none 0 0)/\Boxed W (s+1+1) 47 (iw 0))/\Below (s+4) W4 W
def CD (s p:Nat) (w:World) (c:Code) (pre:List KR) (W:World):Prop:=(c=.ret/\∃ q x,pre=q++[x]/\(∀ y ∈ q,y.1.1≠p)/\x.1.1=p/\Boxed W (s+1) 42 (kv x.1)/\Boxed W (s+1+1) 47 (iw 0))/\Below s w W
def CE (A:Act) (x:KR) (a':Act) (W:World):Prop:=∃ g,a'={ tmps:=((A.tmps.setIfInBounds 15 (iw x.2)).setIfInBounds 16 (.agg #[iw x.1.1,ir x.1.2.1 64 x.1.2.2])).setIfInBounds 7 (iq g),defers:=[] }/\W.heap[g]?=some (.cells #[iw x.1.1,ir x.1.2.1 64 x.1.2.2] 111 (0,0))
def nA:iz:=List.replicate 64 0
theorem CF {w:World}{v m:Nat}{L:iz}{ks:List (Nat×iz)}{kh:Bool}(h:kF w v m L ks kh) (p:Nat) (hp:p<50) (h0:nf L p=false):
  Calls prog 49 #[iq v,iw p] w λe w'=>∃ g c,e=.returned (.tuple #[ir g 64 c,iw 0])/\Bytes w' (λ_=>True) (ir g 64 c) (kX ks p nA)/\Below w.heap.size w w':=by
 obtain⟨U,pc,u,c5⟩:=h.kC;have N:=h.mL
 obtain⟨E,Z,af⟩:=CB ks (λ(j:Nat) (k:Nat×iz) (x:KE)=>x.1=k.1/\k.2.length=64/\(∃ pg,U=some (iu pg 0)/\pg<w.heap.size/\w.cell? (iu pg (j*2))=some (iw x.1)/\w.cell? (iu pg (j*2+1))=some (kv x))/\Bytes w (λ_=>True) (kv x) k.2) (λj k hk=>by obtain⟨pg,S,R,h1,h2,h3,h4,h5,h6⟩:=c5 j k hk;exact⟨(k.1,S,R),rfl,h5,⟨pg,h1,h2,h3,h4⟩,h6⟩)
 rw[<-Z] at u N
 have bz:∀ (j:Nat) (x:KE),E[j]?=some x->∃ k:Nat×iz,ks[j]?=some k/\x.1=k.1/\k.2.length=64/\(∃ pg,U=some (iu pg 0)/\pg<w.heap.size/\w.cell? (iu pg (j*2))=some (iw x.1)/\w.cell? (iu pg (j*2+1))=some (kv x))/\Bytes w (λ_=>True) (kv x) k.2:=λj x T=>by
  have hj:j<ks.length:=by rw[<-Z];exact (aD.1 T).1
  exact⟨ks[j],av hj,af j _ x (av hj) T⟩
 have bR:∀ (j:Nat) (k:Nat×iz),ks[j]?=some k->∃ x:KE,E[j]?=some x/\x.1=k.1:=λj k hk=>by
  have hj:j<E.length:=by rw[Z];exact (aD.1 hk).1
  exact⟨E[j],av hj,(af j k _ hk (av hj)).1⟩
 obtain⟨ln,f⟩:=Ex E.length;rw[<-f] at u N;replace f:=LH f;have aa:=LH bz;have ad:=LH bR;have I:=LH (λw1 (hb:Below w.heap.size w w1)=>xd (h.after hb).marks p hp);rw[h0] at I;have HC:=LH (λw1 (hb:Below w.heap.size w w1)=>(h.after hb).cells);have cr:=lq u;clear c5 af bz bR h Z h0;refine (dJ (n:=3)).1 ?_;refine callsIn_of_wp_marks func49 rfl trivial ?_ rfl;simp only[ntmps49,NT,Nat.reduceAdd,Nat.reduceSub];refine dU.2 ?_;have b0:=((Boxed.new w 3 (iw p)).alloc (.cells #[.slice none 0 0] 42)).alloc (.cells #[iw 0] 47);have b1:=(Boxed.new (w.alloc (.cells #[iw p] 3)) 42 (.slice none 0 0)).alloc (.cells #[iw 0] 47);have b2:=Boxed.new ((w.alloc (.cells #[iw p] 3)).alloc (.cells #[.slice none 0 0] 42)) 47 (iw 0);have d:Below w.heap.size w (((w.alloc (.cells #[iw p] 3)).alloc (.cells #[.slice none 0 0] 42)).alloc (.cells #[iw 0] 47)):=((((ag _ w).alloc (ae _) _).alloc sm _).alloc (by simp;omega) _);simp only[aN] at b1 b2;have G:(((w.alloc (.cells #[iw p] 3)).alloc (.cells #[.slice none 0 0] 42)).alloc (.cells #[iw 0] 47)).heap.size=w.heap.size+3:=by simp
 have cd:=(d.cell (p:=iu v 110) cr).trans u;refine G6 b0 b1 b2 d G f ?_;clear b0 b1 b2 d G f;intro b0 b1 b2 d G f
 go_wp2_with fail
 refine (Cw _ _ _ _).mono ?_;rintro e w1 ⟨rfl,rfl⟩;clear cd;replace b0:=b0.o;replace b1:=b1.o;replace b2:=b2.o;replace d:=d.o;replace G:=G.o;generalize (((w.alloc (.cells #[iw p] 3)).alloc (.cells #[.slice none 0 0] 42)).alloc (.cells #[iw 0] 47))=W3 at*;have bk:=Boxed.new W3 102 (.slice U ln pc);have J:Below w.heap.size w (W3.alloc (.cells #[.slice U ln pc] 102)):=d.alloc om _;have c9:=b0.alloc (.cells #[.slice U ln pc] 102);have ca:=b1.alloc (.cells #[.slice U ln pc] 102);have cb:=b2.alloc (.cells #[.slice U ln pc] 102);have cU:(W3.alloc (.cells #[.slice U ln pc] 102)).heap.size=w.heap.size+4:=by simp;omega
 have bp:=bk.cell;have cc:=bk.lt;rw[G] at bp cc ⊢;generalize (W3.alloc (.cells #[.slice U ln pc] 102))=W4 at*;clear b0 b1 b2 d bk
 have c8:=Cz .wide 2 trivial rfl om (w.heap.size+3) (w.heap.size+4) U pc E (by rw[<-f.o];exact N) W4 om om (by rw[<-f.o];exact bp) (λj x T=>by obtain⟨k,_,_,_,⟨pg,h1,h2,h3,h4⟩,_⟩:=aa.o j x T;exact⟨pg,h1,by omega,(J.cell (p:=iu pg (j*2)) h2).trans h3,(J.cell (p:=iu pg (j*2+1)) h2).trans h4⟩)
 go_wp2_with fail
 refine (dU (n:=3)).1 ?_;refine ze (λA hA=>?_)
 refine wpIn_rangeFunc_ownH (F:=.wide) (n:=3) (P:=prog) (α:=KR) rfl om (gf:=107) (lb:=#[iq (w.heap.size+3)]) (by rw[hA];rfl) trivial (enters_of func107 kr rfl) c8 belowK_t (belowK_b om) (ag _ _) (λx=>rfl)
  (CC w.heap.size p W4) (CD w.heap.size p w)
  (OwnFrom.and (Own.from (λs A B row hs hg hr=>⟨hs.1,boxed_own _ _ (λ_=>_) s A B row hs.2.1 hg hr,boxed_own _ _ (λ_=>_) s A B row hs.2.2.1 hg hr,boxed_own _ _ (λ_=>_) s A B row hs.2.2.2 hg hr⟩) _) (ownFrom_below om om))
  (λc=>OwnFrom.and (Own.from (λs A B row hs hg hr=>by obtain⟨hc,q,x,h1,h2,h3,h4,h5⟩:=hs;exact⟨hc,q,x,h1,h2,h3,boxed_own _ _ (λ_=>_) s A B row h4 hg hr,boxed_own _ _ (λ_=>_) s A B row h5 hg hr⟩) _) (ownFrom_below (ae _) om))
  ⟨⟨by simp,c9,ca,cb⟩,ag _ _⟩
  (CE A)
  ?ax ?assign ?body ?done ?stop
 case ax=>
  rintro x a' _ X Y row ⟨g,e,hg⟩ cg hr;refine⟨g,e,(cg.block g (dC hg) (λer=>?_)).trans hg⟩;obtain⟨_,o,ho,hc⟩:=hr g er.symm;rw[hg] at ho;cases ho
  cases hc
 case assign=>
  rintro l pre ⟨⟨q,S,R⟩,j⟩ W K a hK;have b5:w.heap.size+4<=W.heap.size:=by have:=a.2.size;omega
  have ay:=hK _ (W.alloc (.cells #[iw q,ir S 64 R] 111)) ((KeepsOthers.alloc W _).from _) ((ag _ _).alloc b5 _) ⟨⟨a.1.1,a.1.2.1.alloc _,a.1.2.2.1.alloc _,a.1.2.2.2.alloc _⟩,a.2.alloc b5 _⟩ ⟨W.heap.size,rfl,aj W _⟩;rw[hA] at ay;replace hK:=LH ay;rw[hA];unfold vM;clear ay
  gi_wp2
  exact hK.o
 case body=>
  rintro l pre ⟨⟨q,S,R⟩,j⟩ a' W - - a ⟨g,rfl,hg⟩ -;rw[hA];have b5:w.heap.size+4<=W.heap.size:=by have:=a.2.size;omega
  have b6:=cell_of hg 0;have cK:=cell_of hg 1;have z0:=a.1.2.1.cell;have z1:=a.1.2.2.1.cell;have f1:=a.1.2.2.1.frozen;have z2:=a.1.2.2.2.cell;have f2:=a.1.2.2.2.frozen;replace a:=LH a
  gi_wp2
  ·rename_i T
   have ba:q=p:=by
    have:(q:Int)=p:=by simpa using T
    omega
   have a:=a.o;have e1:Boxed ((W.setCell (iu (w.heap.size+1) 0) (kv (q,S,R))).setCell (iu (w.heap.size+1+1) 0) (iw 0)) _ _ _:=(a.1.2.2.1.set (kv (q,S,R))).kept (grownBy_setCell' _ _ (iw 0)) sm;have e2:Boxed ((W.setCell (iu (w.heap.size+1) 0) (kv (q,S,R))).setCell (iu (w.heap.size+1+1) 0) (iw 0)) _ _ _:=(a.1.2.2.2.kept (grownBy_setCell' _ _ (kv (q,S,R))) sm).set (iw 0);refine⟨((KeepsOthers.setCell _ _ _).trans (KeepsOthers.setCell _ _ _)).from _,⟨rfl,pre,_,rfl,a.1.1,ba,e1,e2⟩,?_⟩;exact ((J.trans (a.2.mono om)).setCell (p:=iu (w.heap.size+1) 0) sm _).setCell (p:=iu (w.heap.size+1+1) 0) (by simp;omega) _
  ·rename_i T
   have ba:q≠p:=by
    have:¬ (q:Int)=p:=by simpa using T
    omega
   have a:=a.o;refine⟨KeepsFrom.refl _ _,ag _ _,⟨λx hm=>?_,a.1.2⟩,a.2⟩;rcases bw.1 hm with h|h
   ·exact a.1.1 x h
   ·simp at h;subst h;exact ba
 case stop=>
  rintro D c pre W hD c6 ⟨⟨rfl,q,x,rfl,hq,T,h1,h2⟩,hB⟩ hK;rw[hA];obtain⟨he,b7⟩:=back_mem c6;obtain⟨k,hk,ck,cP,_,cl⟩:=aa.o _ _ he
  have cT:=zd ks p nA _ k hk (by rw[<-ck];exact T) (λi k' hi cj e=>by obtain⟨y,hy,bl⟩:=ad.o i k' cj;exact hq _ (b7 i y hi hy) (by rw[bl];exact e))
  obtain⟨⟨q1,S,R⟩,j⟩:=x
  gi_wp2
  refine⟨by simp,.inl ⟨_,_,rfl,run_takeDeferred hK,?_⟩⟩;have C:=grownBy_putObj' W D (.deferred none);have Q:∀ k,k<w.heap.size+4->some k≠some D:=λk hk e=>by simp at e;omega
  have e1:=(h1.kept C (Q _ om)).cell;have e2:=(h2.kept C (Q _ om)).cell;have V:Below w.heap.size w (W.putObj D (.deferred none)):=hB.trans (belowK_b (w:=w) (ae _) W D _ _ om hK rfl rfl);refine⟨.tuple #[ir S 64 R,iw 0],?_,S,R,rfl,?_,V⟩
  ·simp[results,f49,go_sem,e1,e2,kv]
  ·exact cl.ki (aA.dD V No) (λ_ _ _=>id)
 case done=>
  rintro D ys W hD rfl a hK
  have cm:=qK ks p nA (λk hk e=>by obtain⟨i,hi,rfl⟩:=dI hk;obtain⟨y,hy,bl⟩:=ad.o i _ (av hi);refine a.1.1 (y,i) ?_ (by rw[bl];exact e);unfold oE;rw[List.mem_reverse];refine aZ (i:=i) ?_;rw[fM,hy];simp)
  rw[hA];have a7:Below w.heap.size w W:=J.trans (a.2.mono om);obtain⟨_,_,_,_,c7,_⟩:=HC.o W a7;have M:=LH (show ∀ t,aA No W.drew t->aA No W t from λt h=>⟨h.os,h.tape,h.output,h.size,h.block⟩);have z0:=a.1.2.1.cell;have bC:=LH (λt (h:aA No W.drew t)=>(((M.o t h).cell (p:=iu v 107) (lq c7) id).trans c7));have b6:=LH (λt (h:aA No W.drew t)=>(((M.o t h).cell (p:=iu w.heap.size 0) (lq z0) id).trans z0));have bD:=LH (λt (h:aA No W.drew t)=>I.o t (a7.trans ((M.o t h).no.mono a7.size)));have bA:=LH a;have an:=LH hK;clear c7 z0 a hK a7 I HC
  go_wp2_with fail
  refine RA.rt (aA No) [1,1,1,1,1,1,4,1] [] (λ_=>True) trivial (λ_=>aA.refl _ _) (λ_ _ _ h k=>h.trans k) (h:=?_);intro cx
  repeat refine RA.qq ?_
  refine RA.fk prog v 106 (h:=?_);refine RA.fk prog v 107 (h:=?_);refine RA.lk prog (iq m) (hc:=λt hp=>by exact bC.o _ hp.1) (h:=?_);refine RA.lk prog (iw p) (hc:=λt hp=>by exact b6.o _ hp.1) (h:=?_);refine RA.kc (P:=prog) [iq m,iw p] (.bool false) (hr:=λt hp hH=>(bD.o t hp.1).mono (by rintro e w4 ⟨rfl,rfl⟩;exact⟨rfl,aA.refl _ _,trivial⟩)) (hn:=?_);refine RA.nt (h:=?_);refine RA.RA.done rfl (λw6 hR hF hH=>?_);clear hF hH;simp only[RA.RP,cx]
  try simp only[cn]
  try simp only[cG]
  have z:=M.o _ hR;have b:=bA.o;have z1:=(show Boxed w6 _ _ _ from (z.block _ b.1.2.2.1.lt id).trans b.1.2.2.1);have z2:=(show Boxed w6 _ _ _ from (z.block _ b.1.2.2.2.lt id).trans b.1.2.2.2);have b4:=(z.block D (dC an.o) id).trans an.o;have bB:Below w.heap.size w w6:=J.trans ((b.2.mono om).trans (z.no.mono (by have:=b.2.size;omega)));have cV:w.heap.size+4<=w6.heap.size:=by have:=b.2.size;have:=z.size;omega
  obtain⟨n6,O⟩:=Ex w6.heap.size;obtain⟨H,r⟩:=Ex (w6.alloc (.cells (aQ nA).toArray 5));have b8:=ui w6 64 64 rfl de;rw[<-O] at b8;replace b8:(Instr.makeSlice 42 (iw 64) (iw 64)).run prog w6=.ok (ir n6 64 64) H:=by rw[r];exact b8
  have x7:H.heap[n6]?=some (.cells (aQ nA).toArray 5 (0,0)):=by rw[r,O];exact aj w6 _
  have y1:Boxed H (w.heap.size+1) 42 (.slice none 0 0):=by rw[r];exact z1.alloc _
  have y2:Boxed H (w.heap.size+1+1) 47 (iw 0):=by rw[r];exact z2.alloc _
  have a1:H.heap[D]?=some (.deferred (some [])):=by rw[r];exact (aB _ _ _ (dC b4)).trans b4
  have a6:Below w.heap.size w H:=by rw[r];exact bB.alloc om _
  have c1:=y1.cell;have f1:=y1.frozen;have c2:=y2.cell;have f2:=y2.frozen;clear b z hR bA an bD b6 bC M c8 hA aa ad;have bW:=LH O;have cA:=LH r;have Y:=LH (And.intro y1 (And.intro y2 (And.intro a1 (And.intro a6 x7))));clear O r y1 y2 a1 a6 x7 z1 z2 b4 bB;go_wp2;obtain⟨y1,y2,a1,a6,x7⟩:=Y.o;have O:=bW.o;have cu:Boxed ((H.setCell (iu (w.heap.size+1) 0) (ir n6 64 64)).setCell (iu (w.heap.size+1+1) 0) (iw 0)) _ _ _:=(y1.set (ir n6 64 64)).kept (grownBy_setCell' _ _ (iw 0)) sm;have cz:Boxed ((H.setCell (iu (w.heap.size+1) 0) (ir n6 64 64)).setCell (iu (w.heap.size+1+1) 0) (iw 0)) _ _ _:=(y2.kept (grownBy_setCell' _ _ (ir n6 64 64)) sm).set (iw 0)
  have b3:((H.setCell (iu (w.heap.size+1) 0) (ir n6 64 64)).setCell (iu (w.heap.size+1+1) 0) (iw 0)).heap[D]?=some (.deferred (some [])):=by rw[kD _ _ _ (by simp;omega),kD _ _ _ (by simp;omega)];exact a1
  have a8:((H.setCell (iu (w.heap.size+1) 0) (ir n6 64 64)).setCell (iu (w.heap.size+1+1) 0) (iw 0)).heap[n6]?=some (.cells (aQ nA).toArray 5 (0,0)):=by rw[kD _ _ _ (by simp;omega),kD _ _ _ (by simp;omega)];exact x7
  have ct:Below w.heap.size w ((H.setCell (iu (w.heap.size+1) 0) (ir n6 64 64)).setCell (iu (w.heap.size+1+1) 0) (iw 0)):=(a6.setCell (p:=iu (w.heap.size+1) 0) sm _).setCell (p:=iu (w.heap.size+1+1) 0) (by simp;omega) _;generalize ((H.setCell (iu (w.heap.size+1) 0) (ir n6 64 64)).setCell (iu (w.heap.size+1+1) 0) (iw 0))=W5 at*;refine⟨by simp,.inl ⟨_,_,rfl,run_takeDeferred b3,?_⟩⟩;have C:=grownBy_putObj' W5 D (.deferred none);have Q:∀ k,k<w.heap.size+4->some k≠some D:=λk hk e=>by simp at e;omega
  have e1:=(cu.kept C (Q _ om)).cell;have e2:=(cz.kept C (Q _ om)).cell
  have cf:n6≠D:=by rintro rfl;rw[b3] at a8;cases a8
  have e3:=(C.block n6 (dC a8) (by simp;exact cf)).trans a8;have V:Below w.heap.size w (W5.putObj D (.deferred none)):=ct.trans (belowK_b (w:=w) (ae _) W5 D _ _ om b3 rfl rfl);refine⟨.tuple #[ir n6 64 64,iw 0],?_,n6,64,rfl,?_,V⟩
  ·simp[results,f49,go_sem,e1,e2]
  ·rw[cm];have ho:(W5.putObj D (.deferred none)).ownsRow 0 5 1 (ir n6 64 64) 64 (aQ nA):=⟨by decide,.inr ⟨n6,64,_,rfl,aW _,e3,by decide,by decide,by decide,rfl⟩⟩;show Cells _ _ _ _ _ _;exact (Cells.own ho).mono (λ_ _ _=>trivial)
end Go.Proofs.YthmcbgidehjlbaaGreat.Fd
namespace Go.Proofs.YthmcbgidehjlbaaGreat.Fd
open _root_.Go.Proofs.Tryz
open Go Go.RowKit K
variable {ks:List (Nat×iz)}{kh:Bool}
def rX (ks:List (Nat×iz)) (i:Nat):Nat->iz
 | 0=>[]
 | n+1=>rX ks i n++kX ks (i+n) nA
theorem CG {ks:List (Nat×iz)}(h:∀ k ∈ ks,k.2.length=64) (i:Nat):∀ n,(rX ks i n).length=n*64
 | 0=>rfl
 | n+1=>by rw[rX,aE,CG h i n,xF ks _ nA 64 rfl h];omega
theorem kF.lens {w:World}{v m:Nat}{L:iz}(h:kF w v m L ks kh):∀ k ∈ ks,k.2.length=64:=λk hk=>by obtain⟨d,pc,_,a⟩:=h.kC;obtain⟨j,c,rfl⟩:=dI hk;obtain⟨_,_,_,_,_,_,_,b,_⟩:=a j _ (av c);exact b
theorem I5 {w:World}{v m:Nat}{L:iz}(h:kF w v m L ks kh) (i n:Nat) (hin:i+n<=50) (hbit:∀ p,p<50->nf L p=false):
  Calls prog 18 #[iq v,iw i,iw n] w λe w'=>∃ u,e=.returned (.tuple #[u,iw 0])/\w'.ownsRow w.heap.size 5 1 u (n*64) (aQ (rX ks i n))/\Below w.heap.size w w':=by
 have E:(iy 0).cells.size=1:=rfl;have t:=LH (yX h i n hin);have s:=LH (λG (hb:Below w.heap.size w G) (p:Nat) (hp:p<50)=>CF (h.after hb) p hp (hbit p hp));have hlen:=LH (CG h.lens i);have D:=LH (λp=>xF ks p nA 64 rfl h.lens);have J:=LH (λ(j:Nat)=>(show rX ks i (j+1)=rX ks i j++kX ks (i+j) nA from rfl));have I:=LH (show rX ks i 0=[] from rfl);have F:¬ (64:Int)<n:=om;clear h hbit;go_enter func18,ntmps18
 go_wp2_with fail
 refine t.o.mono ?_;rintro e G ⟨rfl,f⟩;replace f:=LH f;clear t;go_wp2
 go_loopg [6,25] n (λg o ix wr=>∃ j:Nat,j+g=n/\ix=iw j/\Hd (wr.ownsRow w.heap.size 5 1 o (j*64) (aQ (rX ks i j)))/\Hd (Below w.heap.size w wr))
 case atStart=>exact⟨0,by omega,rfl,by show World.ownsRow _ _ _ _ _ _ _;rw[I.o];exact aS _ _ _ _,f.o⟩
 case round=>
  obtain⟨j,A,rfl,x,q⟩:=hrel;clear f;by_cases C:j<n
  ·obtain⟨g1,rfl⟩:∃ i,gk=i+1:=⟨gk - 1,by omega⟩;have B:(j:Int)<n:=om;obtain⟨p,hp⟩:=Ex (i+j);have hs:=LH (s.o wr q.o p om);have M:(i:Int)+j=p:=om;have a:=J.o j;have b:=D.o p;rw[<-hp] at a;obtain⟨PP,d⟩:=Ex (kX ks p nA);rw[<-d] at hs a b;refine G4 d a b hp ?_;clear d a b hp;intro d a b hp
   go_wp2_with fail
   refine hs.o.mono ?_;rintro e T ⟨S,R,rfl,l,k⟩;have r:=dE x.o (λg hg=>k.block g (kt x.o g hg));have c:=q.o.trans (k.mono q.o.size);have y:=LH (λg=>kJ r g);have N:=c.size;replace l:=LH l;replace c:=LH c;clear hs k x q
   go_wp2_with (at_builtin;refine K.append ?_ (.tmp 39) (.tmp 40) 42 ?_ w.heap.size 5 (iy 0) 1 1 underlying42 nu E om _ (j*64) _ ?_ r (λ_=>True) _ 64 (aQ PP) ?_ (by have h:=l.o;unfold Bytes at h;rw[b.o] at h;exact h) (K.nJ PP) mx om ?_ ?_)
   any_goals (first|rfl|omega)
   intro v3 U y1 y2 O P;have H:=LH y1;have z:=LH ((aA.dD c.o No).grown y2 (λg hg Q=>absurd (y.o g hg) om)).no;clear y1 y2 O P;go_wp2;go_roundg g1
   case measure=>omega
   case rel=>refine⟨j+1,by omega,by go_num,?_,z.o⟩;show World.ownsRow _ _ _ _ _ _ _;have h:=H.o;rw[a.o,nI,show (j+1)*64=j*64+64 by omega];exact h
  ·obtain rfl:gk=0:=om;obtain rfl:j=n:=om;have B:¬ (j:Int)<j:=om;clear A C;go_wp2;go_ret2;exact⟨_,rfl,x.o,q.o⟩
end Go.Proofs.YthmcbgidehjlbaaGreat.Fd
namespace Go.Proofs.YthmcbgidehjlbaaGreat.Fd
open _root_.Go.Proofs.Tryz
open Go Go.RowKit Go.Shelf K
variable {w:World}{l la:List P.Ar}{trip kh:Bool}{S:Nat->Prop}{m:Nat}{L:iz}{ks:List (Nat×iz)}{dv:Value}
def GuardAt (w:World) (k v:Nat) (l:List P.Ar) (trip:Bool):Prop:=∃ g cap,w.heap[k]?=some (.cells #[iq v,ir g l.length cap,.bool trip] 52 (0,0))/\P.nh w g cap l
theorem GuardAt.dB {w':World}{k v:Nat}(h:GuardAt w k v l trip) (hk:∀ (g:Nat) (cs:Array Value) (t:TypeId),t=52\/t=27->w.heap[g]?=some (.cells cs t (0,0))->w'.heap[g]?=w.heap[g]?):GuardAt w' k v l trip:=by obtain⟨g,cap,h1,cur,a,b⟩:=h;exact⟨g,cap,(hk _ _ _ (.inl rfl) h1).trans h1,cur,(hk _ _ _ (.inr rfl) a).trans a,b⟩
theorem GuardAt.after {w':World}{k v:Nat}(h:GuardAt w k v l trip) (hb:Below w.heap.size w w'):GuardAt w' k v l trip:=h.dB (λg _ _ _ hg=>hb.block g (dC hg))
theorem Jc (v:Nat){ad:Addr}{n cap:Nat}(hb:Cells w S (.slice (some ad) n cap) n 2 (P.lV l)) (hl:n<=1000):
  Calls prog 10 #[iq v,.slice (some ad) n cap] w λe w'=>∃ k,e=.returned (iq k)/\w.heap.size<=k/\GuardAt w' k v (l.filter P.lj) false/\Below w.heap.size w w':=by
 have f:n=l.length:=by have:=hb.1;rw[P.sG] at this;omega
 have q:=LH (P.zj hb om);replace f:=LH f;clear hb;go_enter func10,ntmps10
 go_wp2_with fail
 refine q.o.mono ?_;rintro e x ⟨g,c,rfl,b,hg,h⟩;have a:=P.CO b (by rw[<-f.o];omega);rw[<-f.o] at a;replace a:=LH a;replace b:=LH b;clear q
 go_wp2_with fail
 refine a.o.mono ?_;rintro e w2 ⟨rfl,r,p⟩;have m:=p.below h.size (λi hi e=>by omega);have d:=h.trans m
 have s:GuardAt (w2.alloc (.cells #[iq v,ir g (l.filter P.lj).length c,.bool false] 52)) w2.heap.size v (l.filter P.lj) false:=⟨g,c,aj w2 _,by obtain⟨cur,h1,u⟩:=r;exact⟨cur,(aB _ _ _ (dC h1)).trans h1,u⟩⟩
 have j:=d.alloc d.size (.cells #[iq v,ir g (l.filter P.lj).length c,.bool false] 52);replace s:=LH s;replace j:=LH j;have t:=LH d.size;clear r p m d h a;go_wp2;go_ret;exact⟨_,rfl,t.o,s.o,j.o⟩
theorem Jd {k v:Nat}(h:GuardAt w k v l trip):Calls prog 21 #[iq k] w λe w'=>e=.returned (.bool trip)/\w=w':=by obtain⟨g,cap,h1,_⟩:=h;have c:=cell_of h1 2;clear h1;go_enter func21,ntmps21;go_wp2;go_ret;exact⟨rfl,rfl⟩
theorem Je (w:World):Calls prog 21 #[.pointer none] w λe w'=>e=.returned (.bool false)/\w=w':=by go_enter func21,ntmps21;go_wp2;go_ret;exact⟨rfl,rfl⟩
theorem Jf {k v:Nat}(h:GuardAt w k v l trip) (hl:l.length<=1000):Calls prog 33 #[iq k] w λe w'=>∃ g c,e=.returned (ir g l.length c)/\Below w.heap.size w w':=by
 obtain⟨g,cap,h1,a⟩:=h;have c:=cell_of h1 1;have d:=LH (P.zj a.cells om);clear h1 a;go_enter func33,ntmps33
 go_wp2_with fail
 refine d.o.mono ?_;rintro e f ⟨g1,c1,rfl,-,-,b⟩;replace b:=LH b;go_wp2;go_ret;exact⟨_,_,rfl,b.o⟩
theorem Jg (w:World):Calls prog 33 #[.pointer none] w λe w'=>e=.returned (.slice none 0 0)/\w=w':=by go_enter func33,ntmps33;go_wp2;go_ret;exact⟨rfl,rfl⟩
theorem CQ (x y:Int) (w:World):(Instr.field 27 (.agg #[iw x,iw y]) 0).run prog w=.ok (iw x) w:=by have a:=underlying3;have a3:=Tryz.isAgg3;have z3:=Tryz.sizeOf3;unfold Instr.field;simp only[aM,bb underlying27,bu];have h:=gg (P:=prog) (w:=w) (e:=3) (xs:=#[iw x,iw y]) (off:=0) (v:=iw x) kr rfl;exact h
theorem CR {mb:Nat}{x y p n:Int}(hm:w.heap[mb]?=some (.cells #[iw p,iw n] 27 (0,0))) (hx:0<=x/\x<=1000000000/\y<=1000000000) (hp:0<=p/\p<=1000000000/\n<=1000000000):
  Calls prog 46 #[P.mm (x,y),iq mb] w λe w2=>e=.returned (.bool (P.o8 (x,y) (p,n)))/\Below w.heap.size w w2:=by
 obtain⟨o,f⟩:=Ex (P.o8 (x,y) (p,n));rw[<-f];have d:=LH (λh=>P.Hp (x:=x) (y:=y) (u:=p) (v:=n) (b:=o) om f.symm h);have c0:=cell_of hm 0;have c1:=cell_of hm 1;unfold P.mm;replace f:=LH f;have a:=LH ((ag w.heap.size w).alloc (ae _) (.cells #[iw x,iw y] 27));have d0:=((a.o.cell (p:=iu mb 0) (dC hm)).trans c0);have d1:=((a.o.cell (p:=iu mb 1) (dC hm)).trans c1);clear hm hx hp c0 c1;go_enter func46,ntmps46
 go_wp2_with fail
 refine (d.o _).mono ?_;rintro e h ⟨rfl,c⟩;have g:=LH (a.o.trans (c.mono a.o.size));clear c d a d0 d1;go_wp2;go_ret;exact⟨rfl,g.o⟩
theorem ku.type {v:Nat}(h:kF w v m L ks kh){g:Nat}(hg:ku w v g):∃ cs t,w.heap[g]?=some (.cells cs t (0,0))/\(t=104\/t=111):=by
 obtain⟨⟨cs,pv,h1,i,j,k,l,o,p,f,q,vs,d,c,e⟩,_⟩:=h;rcases hg with rfl|⟨n,pc,hc⟩
 ·exact⟨_,_,h1,.inl rfl⟩
 ·have a:=(cell_of h1 110).symm.trans hc;rw[f] at a;simp only[ao] at a;subst a;obtain⟨cur,b⟩:=kA c (g:=g) rfl;exact⟨_,_,b,.inr rfl⟩
theorem ku.xG {v:Nat}(h:kF w v m L ks kh):v<w.heap.size:=by obtain⟨_,_,_,_,_,c,_⟩:=h.cells;exact lq c
theorem ku.back {w1:World}{v:Nat}(h:kF w v m L ks kh){C:Nat->Prop}(hb:aA C w w1) (hC:¬ C v){g:Nat}(hg:ku w1 v g):ku w v g:=by
 obtain⟨_,_,_,_,_,c,_⟩:=h.cells;rcases hg with rfl|⟨n,pc,hc⟩
 ·exact .inl rfl
 ·exact .inr ⟨n,pc,((hb.cell (p:=iu v 110) (lq c) hC).symm.trans hc)⟩
theorem GuardAt.Jh {w':World}{k v:Nat}(h:GuardAt w k v l trip) (hv:kF w v m L ks kh) (hc:aA (ku w v) w w'):GuardAt w' k v l trip:=h.dB (λg cs t ht hg=>hc.block g (dC hg) (λd=>by obtain⟨c,e,a,b⟩:=ku.type hv d;rw[hg] at a;simp only[IJ] at a;rcases ht with rfl|rfl<;>rcases b with rfl|rfl<;>exact absurd a.2.1 de))
theorem Ji {k v:Nat}(hk:GuardAt w k v la false) (h:kF w v m L ks false){l:iz}(hd:Bytes w S dv l) (hS:∀ g,S g->¬ ku w v g) (i n:Nat) (hl:l.length=n*64) (hin:i+n<=50) (h0:0<n) (hks:ks.length<64)
  (hlb:∀ a ∈ la,0<=a.1/\a.1<=1000000000/\a.2<=1000000000):
  Calls prog 17 #[iq k,iw i,dv] w λe w'=>
   (la.any (λa=>P.o8 a (60+i,n))=false/\e=.returned (iw 0)/\kF w' v m L (ks++nz i l n) false/\GuardAt w' k v la false/\aA (ku w v) w w'/\VB w v w')\/
   (la.any (λa=>P.o8 a (60+i,n))=true/\e=.returned (iw 7)/\kF w' v m L ks true/\GuardAt w' k v la true/\aA (λg=>g=v\/g=k) w w'/\ox v w w'):=by
 obtain⟨da,dc,rfl,_⟩:=hd.shape;obtain⟨g,cap,hg,u⟩:=hk;have af:=dC hg;have an:=cell_of hg 0;have ax:=cell_of hg 1;have J:=LH (Cn h hd i n hl hin);have Z:=LH (λd (hb:Below w.heap.size w d)=>uF (h.after hb));have bz:=CQ 60 50;have A:=LH (λd (hb:Below w.heap.size w d)=>(hb.block k af).trans hg);have B:=LH (λd (hb:Below w.heap.size w d)=>u.dB (hb.block g u.lt));have a7:=LH (λd (hb:Below w.heap.size w d)=>h.after hb);have T:=LH (λd (hb:Below w.heap.size w d)=>hd.ki (aA.dD hb No) (λ_ _ _=>id));have a6:=LH (λd (hb:Below w.heap.size w d) g (hs:S g) (hB:ku d v g)=>hS g hs (ku.back h (aA.dD hb No) id hB));obtain⟨N,hN⟩:=Ex l.length;rw[<-hN] at J ⊢;have e1:(N:Int) / 64=n:=om;obtain⟨p,hp⟩:=Ex (60+i:Int);rw[<-hp];refine G8 hp hN hl hg u h hd hS ?_;clear hp hN hl hg u h hd hS;intro hp hN hl hg u h hd hS;have F:=LH (λd (hb:Below w.heap.size w d)=>(hb.cell (p:=iu k 0) af).trans an);have ay:=LH (λd (hb:Below w.heap.size w d)=>(hb.cell (p:=iu k 1) af).trans ax);clear ax;go_enter func17,ntmps17
 go_wp2_with fail
 refine J.o.mono ?_;rintro e d ⟨rfl,C⟩;have f0:=F.o d C;have b4:=LH (Z.o d C);replace C:=LH C;clear an J
 go_wp2_with fail
 refine b4.o.mono ?_;rintro e w2 ⟨rfl,b3⟩;have D:=C.o.trans (b3.mono C.o.size);obtain⟨w3,W⟩:=Ex (w2.alloc (.cells #[iw p,iw n] 27));have y:Below w.heap.size w w3:=by rw[W];exact D.alloc D.size _
 have x3:w3.heap[w2.heap.size]?=some (.cells #[iw p,iw n] 27 (0,0)):=by rw[W];exact aj w2 _
 have f1:=ay.o w3 y;have f0:=F.o w2 D;have bA:(60:Int)+i=p:=hp.o.symm;have c:=P.CP (mb:=w2.heap.size) (q:=λa=>P.o8 a (p,n)) (B.o w3 y).cells (λa ha E H=>CR ((H.block _ (dC x3)).trans x3) (hlb a ha) (by rw[hp.o];omega));obtain⟨any,f⟩:=Ex (la.any (λa=>P.o8 a (p,n)));rw[<-f] at c;refine G5 c f y D x3 ?_;clear c f y D x3;intro c f y D x3;have bp:=LH W;subst W;have b5:=LH (λd (hb:Below w.heap.size w d)=>kY (A.o d hb) 2);clear b3 b4 Z
 go_wp2_with fail
 refine c.o.mono ?_;rintro e E ⟨rfl,H⟩;have b:=y.o.trans (H.mono y.o.size);have f0:=F.o E b;have s:=a7.o E b;have a1:=T.o E b;rw[<-hN.o] at a1;have a8:=a6.o E b;have G:GuardAt E k v la false:=⟨g,cap,A.o E b,B.o E b⟩;cases any with
 | false=>
  have ba:=LH (IW s (T.o E b) a8 i n hl.o hin h0 hks);rw[<-hN.o] at ba;replace G:=LH G;replace s:=LH s;replace b:=LH b;clear a1 a8 H c T a6 B A a7 b5
  go_wp2_with fail
  refine ba.o.mono ?_;rintro e w5 ⟨rfl,x,r,aa⟩;have Q:=G.o.Jh s.o r;have hC:aA (ku w v) w w5:=((aA.dD b.o (ku w v))).trans (aA.mono r (λg _ hg=>ku.back h.o (aA.dD b.o No) id hg));have K:=ku.xG h.o;have z:VB w v w5:=⟨λg hg=>(aa.1 g hg).elim (λe=>.inl (ku.back h.o (aA.dD b.o No) id e)) (λe=>.inr (am b.o.size e)),(ox.below b.o K).trans aa.2⟩;refine G4 x Q hC z ?_;clear x Q hC z;intro x Q hC z;clear r aa;go_wp2;go_ret;exact .inl ⟨f.o.symm,rfl,x.o,Q.o,hC.o,z.o⟩
 | true=>
  have b7:=LH (IX s)
  have b6:k≠v:=by rintro rfl;obtain⟨⟨cs,pv,h1,_⟩,_⟩:=s;have M:=A.o E b;rw[h1] at M;simp only[IJ] at M;exact absurd M.2.1 de
  have bl:g≠v:=by rintro rfl;obtain⟨⟨cs,pv,h1,_⟩,_⟩:=s;obtain⟨cur,M,_⟩:=B.o E b;rw[h1] at M;simp only[IJ] at M;exact absurd M.2.1 de
  replace G:=LH G;have I:=LH b;have X:=LH (A.o E b);have Y:=LH (B.o E b);clear a1 a8 H c T a6 B A a7 b5 s b
  go_wp2_with fail
  refine b7.o.mono ?_;rintro e w5 ⟨rfl,x,r,b2⟩;have g5:=(r.block k (dC X.o) b6).trans X.o;have b8:=Y.o.dB (r.block g Y.o.lt bl);have fz:=kY g5 2;have c2:=cell_of g5 2;have g6:=lz g5 2 (.bool true)
  have R:GuardAt (w5.setCell (iu k 2) (.bool true)) k v la true:=⟨g,cap,g6,by obtain⟨cur,h1,M⟩:=b8;refine⟨cur,(kD _ _ _ ?_).trans h1,M⟩;rintro rfl;rw[g5] at h1;simp only[IJ] at h1;exact absurd h1.2.1 de⟩
  have V:kF (w5.setCell (iu k 2) (.bool true)) v m L ks true:=x.dB (λg' cs t ht ad=>kD _ _ _ (by rintro rfl;rw[g5] at ad;simp only[IJ] at ad;rcases ht with rfl|rfl|rfl|rfl<;>exact absurd ad.2.1 de))
  have O:aA (λg=>g=v\/g=k) w (w5.setCell (iu k 2) (.bool true)):=((aA.dD I.o _).trans (aA.mono r (λg _ e=>.inl e))).setCell (p:=iu k 2) (λ_=>.inr rfl) _;have K:=ku.xG h.o;have U:ox v w (w5.setCell (iu k 2) (.bool true)):=((ox.below I.o K).trans b2).trans (λj _ _=>az (kD _ _ _ (λe=>b6 e.symm)));refine G4 U V R O ?_;clear U V R O;intro U V R O;clear x r b2 b8 g6 g5;go_wp2;go_ret;exact .inr ⟨f.o.symm,rfl,V.o,R.o,O.o,U.o⟩
theorem CS {k v:Nat}(hk:GuardAt w k v la false) (h:kF w v m L ks false){l:iz}(hd:Bytes w S dv l) (hS:∀ g,S g->¬ ku w v g) (i n:Nat) (hl:l.length=n*64) (hin:i+n<=50) (h0:0<n) (hks:ks.length<64)
  (hlb:∀ a ∈ la,0<=a.1/\a.1<=1000000000/\a.2<=1000000000):
  Calls prog 17 #[iq k,iw i,dv] w λe w'=>
   (la.any (λa=>P.o8 a (60+i,n))=false/\e=.returned (iw 0)/\kF w' v m L (ks++nz i l n) false/\GuardAt w' k v la false/\aA (ku w v) w w'/\∀ g,ku w' v g->ku w v g\/w.heap.size<=g)\/
   (la.any (λa=>P.o8 a (60+i,n))=true/\e=.returned (iw 7)/\kF w' v m L ks true/\GuardAt w' k v la true/\aA (λg=>g=v\/g=k) w w'):=
 (Ji hk h hd hS i n hl hin h0 hks hlb).mono λ_ _ h=>h.imp (λ⟨a,b,c,d,e,f⟩=>⟨a,b,c,d,e,f.1⟩) (λ⟨a,b,c,d,e,_⟩=>⟨a,b,c,d,e⟩)
theorem Jj {k v:Nat}(hk:GuardAt w k v la trip) (h:kF w v m L ks true) (i:Int) (da:Option Addr) (dn dc:Nat):
  Calls prog 17 #[iq k,iw i,.slice da dn dc] w λe w'=>e=.returned (iw 6)/\w=w':=by
 obtain⟨g,cap,hg,b⟩:=hk;have c:=cell_of hg 0;have a:=LH (Co h i da dn dc);clear hg b h;go_enter func17,ntmps17
 go_wp2_with fail
 refine a.o.mono ?_;rintro e d ⟨rfl,rfl⟩;go_wp2;go_ret;exact⟨rfl,rfl⟩
end Go.Proofs.YthmcbgidehjlbaaGreat.Fd
namespace Go.Proofs.YthmcbgidehjlbaaGreat.Fd
open _root_.Go.Proofs.Tryz
open Go Go.RowKit K
variable {cs:Array Value}
theorem Jk (s:Int) (n:Nat) (hn:0<n) (hn2:n<=10000) (w:World):Calls prog 43 #[iw s,iw n] w λe w'=>∃ v l,e=.returned v/\l.length=n/\Bytes w' (λg=>w.heap.size<=g) v l/\Below w.heap.size w w':=by
 have q:∀ u:World,_:=λu=>ui u n (n:Int) rfl om
 go_enter func43,ntmps43;go_wp2;generalize IntKind.u64.wrap (IntKind.u64.wrap (IntKind.u64.wrap s*2862933555777941757)+3037000493)=A3;generalize IntKind.u64.wrap (IntKind.u64.wrap s*2862933555777941757)=A2;generalize IntKind.u64.wrap s=A1
 go_loopw [5,7] (λx i wr=>∃ k:Nat,k<=n/\i=iw k/\(∃ X:Int,x=.int .u64 X)/\Below w.heap.size w wr/\w.heap.size<wr.heap.size/\∃ l:iz,l.length=n/\Hd (ke wr w.heap.size 5 l))
  (λ_ i _=>n - (intOf i).toNat)
 case atStart=>refine⟨0,by omega,rfl,⟨_,rfl⟩,(ag _ _).alloc (ae _) _,by simp,List.replicate n 0,aK,?_⟩;exact aj w _
 case round=>
  obtain⟨k,hk,rfl,⟨X,rfl⟩,a,b,l,d,c⟩:=hrel;replace a:=LH a;by_cases m:k<n
  ·have f0:=c.o.frozen k;have c0:=c.o.cell k om;go_wp2;go_roundw
   case rel=>
    refine⟨k+1,by omega,by go_num,⟨_,rfl⟩,a.o.setCell (p:=iu w.heap.size k) (ae _) _,by simpa using b,?_⟩
    have key:∀ Y:Int,∃ f:iz,f.length=n/\Hd (ke (wr.setCell (iu w.heap.size k) (iy (Y % 256))) w.heap.size 5 f):=by intro Y;refine⟨l.set k (byte (Y % 256).toNat),bg.trans d,?_⟩;have h:=c.o.set k (byte (Y % 256).toNat);rw[lM om,gx om] at h;exact h
    exact key _
   case measure=>simp[intOf];omega
  ·go_wp2;go_ret;refine⟨ir w.heap.size n n,l,rfl,d,?_,a.o⟩;rw[Bytes,d];refine⟨by simp[km,d],_,n,rfl,by omega,by unfold maxLen;omega,λh=>(by simp at h),.inr ⟨w.heap.size,0,rfl,ae _,b,λj u hu=>?_⟩⟩;rw[aw,cell_of c.o]
   simpa using hu
theorem CT (w:World):Calls prog 39 #[] w λe w'=>e=.returned (iq w.heap.size)/\Bk w' w.heap.size 0/\w'=w.alloc (.cells #[.slice none 0 0] 145):=by have a:Bk (w.alloc (.cells #[.slice none 0 0] 145)) w.heap.size 0:=⟨.slice none 0 0,aj w _,⟨[],aS _ _ _ _⟩,by omega⟩;replace a:=LH a;go_enter func39,ntmps39;go_wp2;go_ret;exact⟨rfl,a.o,rfl⟩
def sH (cs:Array Value):Prop:=cs.size=98/\cs[0]?=some (iw 10)/\cs[1]?=some (iw 100)/\∀ j,j<96->∃ b:UInt8,cs[2+j]?=some (iy b.toNat)
theorem sH.set (h:sH cs) (j:Nat) (b:UInt8):sH (cs.setIfInBounds (2+j) (iy b.toNat)):=by
 obtain⟨h1,a,c,d⟩:=h;refine⟨by simpa using h1,by rw[bH om];exact a,by rw[bH om];exact c,λi hi=>?_⟩;by_cases e:i=j
 ·subst e;exact⟨b,by rw[dM om]⟩
 ·rw[bH om];exact d i hi
theorem sH.list (h:sH cs):∃ A M:iz,A.length=64/\M.length=32/\cs=(kT A M).toArray:=by
 obtain⟨h1,k,n,o⟩:=h
 have p:∀ m,m<=96->∃ l:iz,l.length=m/\∀ j,j<m->∃ b,l[j]?=some b/\cs[2+j]?=some (iy (UInt8.toNat b)):=by
  intro m
  induction m with
  | zero=>intro _;exact⟨[],rfl,λj c=>by omega⟩
  | succ m ih=>
   intro hm;obtain⟨l,a,c⟩:=ih om;obtain⟨b,hb⟩:=o m om;refine⟨l++[b],by simp[a],λj q=>?_⟩;by_cases e:j=m
   ·subst e;exact⟨b,by rw[aL om];simp[a],hb⟩
   ·obtain⟨g,d,f⟩:=c j om;exact⟨g,by rw[aX om];exact d,f⟩
 obtain⟨l,a,c⟩:=p 96 om;refine⟨l.take 64,l.drop 64,by simp[a],by simp[a],?_⟩;apply fC;apply b9;intro i;have e:aQ (l.take 64)++aQ (l.drop 64)=aQ l:=by rw[<-nI,gK]
 show _=([iw 10,iw 100]++(aQ (l.take 64)++aQ (l.drop 64)))[i]?;rw[e,cZ]
 match i with
 | 0=>exact k
 | 1=>exact n
 | i+2=>
  rw[show i+2=2+i by omega,aL sm];simp only[bj,List.length_nil,show 2+i - (0+1+1)=i by omega];by_cases hi:i<96
  ·obtain⟨b,d,f⟩:=c i hi;rw[f,aQ,bf,d];rfl
  ·rw[eM om,cB (by rw[km];omega)]
def sI:Array Value:=(kT (List.replicate 64 0) (List.replicate 32 0)).toArray
theorem CU (w:World):(Instr.build 39 ([(0,.agg #[iw 10,iw 100])]:List (Nat×Value)).toArray).run prog w=.ok (.agg sI) w:=by refine e9 w _ _ _ ?_;kernel_rfl
theorem CV:sH sI:=by refine⟨rfl,rfl,rfl,λj a=>⟨0,?_⟩⟩;show ([iw 10,iw 100]++(aQ (List.replicate 64 0)++aQ (List.replicate 32 0)):List Value).toArray[2+j]?=_;rw[<-nI,<-ij.symm];rw[aV,aL sm];simp only[bj,List.length_nil,show 2+j - (0+1+1)=j by omega,aQ,il];rw[eC,ak om];rfl
def tB (w:World) (q ub uo:Nat) (wr:World):Prop:=Below w.heap.size w wr/\wr.heap[q]?=some (.cells Tryz.zeroCells39 39 (0,0))/\(∃ cs,sH cs/\wr.heap[q+1]?=some (.cells cs 39 (0,0)))/\∀ j,j<96->∃ b:UInt8,wr.cell? (iu ub (uo+j))=some (iy b.toNat)
theorem tB.set {w wr:World}{q ub uo:Nat}(h:tB w q ub uo wr) (hq:w.heap.size<=q) (hne:ub≠q+1) (j:Nat) (b:UInt8):tB w q ub uo (wr.setCell (iu (q+1) (2+j)) (iy b.toNat)):=by obtain⟨h1,c,⟨cs,d,e⟩,f⟩:=h;refine⟨h1.setCell (p:=iu (q+1) (2+j)) (by show w.heap.size<=q+1;omega) _,(kD _ _ _ (by show q≠q+1;omega)).trans c,⟨_,d.set j b,lz e _ _⟩,λi hi=>?_⟩;obtain⟨a,g⟩:=f i hi;exact⟨a,(az (kD _ _ _ hne)).trans g⟩
theorem Jl (w:World):Calls prog 12 #[] w λe w'=>∃ A M:iz,A.length=64/\M.length=32/\e=.returned (.agg (kT A M).toArray)/\Below w.heap.size w w':=by
 obtain⟨q,F⟩:=Ex w.heap.size;obtain⟨w0,c⟩:=Ex ((w.alloc (.cells Tryz.zeroCells39 39)).alloc (.cells Tryz.zeroCells39 39));have b0:Below w.heap.size w w0:=by rw[c];exact ((ag _ _).alloc (ae _) _).alloc sm _
 have y0:w0.heap[q]?=some (.cells Tryz.zeroCells39 39 (0,0)):=by rw[c,F];exact (aB _ _ _ sm).trans (aj w _)
 have y1:w0.heap[q+1]?=some (.cells Tryz.zeroCells39 39 (0,0)):=by rw[c,F];have h:=aj (w.alloc (.cells Tryz.zeroCells39 39)) (.cells Tryz.zeroCells39 39);simp only[aN] at h;exact h
 have a:=mf (P:=prog) (ty:=39) (x:=kT (List.replicate 64 0) (List.replicate 32 0)) y1 (by rw[oC rfl rfl];exact rv) kr ux;obtain⟨W,d⟩:=Ex (w0.setRow (q+1) sI);have b1:Below w.heap.size w W:=by rw[d];exact below_setRow b0 om _
 have I:W.heap[q]?=some (.cells Tryz.zeroCells39 39 (0,0)):=by rw[d];exact (aG _ _ _ _ om).trans y0
 have H:W.heap[q+1]?=some (.cells sI 39 (0,0)):=by rw[d];exact aJ _ _ _ _ _ _ y1
 have hT:=LH (λw3=>Jk 4 96 de de w3);have O:=LH CU;replace a:(Instr.storeAt 39 (iq (q+1)) (.agg sI)).run prog w0=.ok () W:=by rw[d];exact a
 rw[F,c] at a;refine G6 b1 I H a c d ?_;clear b1 I H a c d;intro b1 I H a c d;have G:=LH F;clear b0 y0 y1 F;go_enter func12,ntmps12
 go_wp2_with (first|(refine vH rfl 39 _ rfl _ rfl _ (O.o _) ?_)|(refine kI rfl 39 _ _ rfl _ _ rfl rfl a.o ?_)|fail)
 refine (hT.o _).mono ?_;rintro e w2 ⟨u,l,rfl,hl,hu,z⟩;rw[<-G.o];have F:=G.o;have Q:=b1.o.trans (z.mono b1.o.size);have z0:=(z.block q (dC I.o)).trans I.o;have z1:=(z.block (q+1) (dC H.o)).trans H.o;obtain⟨T,V,uc,rfl,Z,aa,ad,a6,S⟩:=Cells.at hu om;have a1:T≠q+1:=by have:=dC H.o;omega
 rw[hl];have y:tB w q T V w2:=⟨Q,z0,⟨_,CV,z1⟩,λj hj=>⟨l[j],S j _ (by rw[pI _ _ om])⟩⟩;have B:=LH (λ(wr:World) (h:tB w q T V wr) j b=>h.set om a1 j b);replace y:=LH y;clear Q z hu S hT O a I H z0 z1 b1 F a6 hl Z;go_wp2
 go_loopg [3] 64 (λg i wr=>∃ k:Nat,k+g=64/\i=iw k/\Hd (tB w q T V wr))
 case atStart=>exact⟨0,by omega,rfl,y.o⟩
 case round=>
  obtain⟨k,D,rfl,s⟩:=hrel;clear y;by_cases E:k<64
  ·obtain⟨g1,rfl⟩:∃ i,gk=i+1:=⟨gk - 1,by omega⟩;have Y:(k:Int)<64:=om;obtain⟨-,-,⟨cs,p,hg⟩,N⟩:=s.o;obtain⟨b,hb⟩:=N k om;obtain⟨b0,n⟩:=p.2.2.2 k om;have c0:=(cell_of hg (2+k)).trans n;have f0:=kY hg (2+k);have f:=LH (B.o wr s.o k b);clear N p hg s n;go_wp2;go_roundg g1
   case measure=>omega
   case rel=>exact⟨k+1,by omega,by go_num,f.o⟩
  ·obtain rfl:gk=0:=om;obtain rfl:k=64:=om;clear D E;obtain⟨wo,rfl⟩:=Ex (wr:World);go_wp2
   go_loopg [4] 32 (λg i wr=>∃ k:Nat,k+g=32/\i=iw k/\Hd (tB w q T V wr))
   case atStart=>exact⟨0,by omega,rfl,s.o⟩
   case round=>
    obtain⟨k,D,rfl,s⟩:=hrel;by_cases E:k<32
    ·obtain⟨g1,rfl⟩:∃ i,gk=i+1:=⟨gk - 1,by omega⟩;have Y:(k:Int)<32:=om;obtain⟨-,-,⟨cs,p,hg⟩,N⟩:=s.o;obtain⟨m,hm⟩:=Ex (64+k);have a7:(64:Int)+k=m:=om;have a8:(m:Int)<96:=om;obtain⟨b,hb⟩:=N m om;obtain⟨b0,n⟩:=p.2.2.2 m om;have c0:=(cell_of hg (2+m)).trans n;have f0:=kY hg (2+m);have f:=B.o wr s.o m b;rw[show 2+m=66+k by omega] at c0 f0 f;replace f:=LH f;replace hm:=LH hm;clear N p hg s n;go_wp2;go_roundg g1
     case measure=>omega
     case rel=>exact⟨k+1,by omega,by go_num,f.o⟩
    ·obtain rfl:gk=0:=om;obtain rfl:k=32:=om;clear D E;obtain⟨h1,X,⟨cs,h3,h4⟩,h5⟩:=s.o;obtain⟨A,M,K,L,rfl⟩:=h3.list;have r:=mE (P:=prog) (w:=wr) (g:=q+1) (off:=0) (ty:=39) (x:=kT A M) underlying39 (by rw[oC K L];exact rv) (λj v hv=>by rw[aw,cell_of h4];simpa using hv);have a:=mf (P:=prog) (ty:=39) (x:=kT A M) X (by rw[oC K L];exact rv) (by rw[oC K L];kernel_rfl) ux;have U:(wr.setRow q (kT A M).toArray).heap[q]?=some (.cells (kT A M).toArray 39 (0,0)):=aJ _ _ _ _ _ _ X;have J:Below w.heap.size w (wr.setRow q (kT A M).toArray):=below_setRow h1 (by have:=G.o;omega) _;have R:=oC K L;obtain⟨C,hC⟩:=Ex ((kT A M).toArray);have t:(prog.info? 39).map (·.size)=some C.size:=by rw[hC,aT,R];exact rv
     rw[<-hC] at r a U J;refine G6 r a U J hC t ?_;clear r a U J hC t;intro r a U J hC t;clear h1 X h3 h4 h5 s R
     go_wp2_with (first|(refine kQ rfl 39 _ rfl _ _ rfl r.o ?_)|(refine kI rfl 39 _ _ rfl _ _ rfl rfl a.o ?_)|fail)
     refine aI (bd results12 _ _ q 39 _ (0,0) _ rfl U.o underlying39 rfl t.o) rfl ⟨A,M,K,L,by rw[hC.o],J.o⟩
theorem CX:uC (.new 120):=⟨λp hp _=>by simp only[D.Dk.at,D.Dk.new,List.drop_replicate,List.take_replicate];congr 1;omega,λq a=>absurd (show q ∈ ([]:List (Nat×iz)) from a) (bL)⟩
theorem CY {w:World}{F:Nat->Prop}{d sb:Nat}{X:D.Dk}(h:D.At w F d X) (hs:uE w d sb):F sb:=by obtain⟨n,c,hc⟩:=hs;obtain⟨⟨sv,pv,pcs,h1,_,_,_,_,_,a,_⟩,_⟩:=h;refine a sb (.inl ?_);rw[cell_of h1] at hc;simp at hc;rw[hc];rfl
structure uH (B:Nat) (w:World) (d v m s b sb t r:Nat) (xs:List Value) (A M:iz) (tp:Option Addr) (X:D.Dk) (n:Nat) (gs:Nat->Nat) (Ls:List iz):Prop where
 kx:kF w v m (List.replicate 7 0) [] false
 base:ou xs d s b ⟨#[119]⟩ A M
 box:w.heap[v]?=some (.cells (oQ xs t m 0 r).toArray 104 (0,0))
 su:kR w s none tp
 tree:lx w t b b gs M Ls []
 l4:Ls.length=4
 marks:lI w m (List.replicate 7 0) b
 br:b<=r
 ring:oh w r d s b ⟨#[119]⟩ A M 0
 mF:l6 w d sb X
 low:uC X
 mL:n<=400
 book:Bk w b n
 al:A.length=64
 ml:M.length=32
 hd:B<=d/\d<b
 mD:B<=sb/\sb<b
 hs:B<=s/\s<b
 bv:b<=v
theorem CZ (w:World):Bytes w (λ_=>False) (.slice none 0 0) []:=Cells.nil _ _ 1
theorem Jm (w:World):Calls prog 9 #[] w λe w'=>∃ d v m,e=.returned (.tuple #[iq d,iq v,.bool true])/\(∃ s b sb t r xs A M tp X n gs Ls,uH w.heap.size w' d v m s b sb t r xs A M tp X n gs Ls)/\w.heap.size<=v/\w.heap.size<=m/\(∀ g,ku w' v g->w.heap.size<=g)/\Below w.heap.size w w':=by
 have R:=LH (D.oD.new 120 om om w);go_enter func9,ntmps9
 go_wp2_with fail
 refine R.o.mono ?_;rintro e w1 ⟨d,rfl,W⟩;replace W:=LH W;have ht:=LH (Az (CZ w1) sm);clear R
 go_wp2_with fail
 refine ht.o.mono ?_;rintro e w2 ⟨p,bv,rfl,-,-,K⟩;replace K:=LH K;have hr:=LH (AA (some (iu p 0)) w2);clear ht
 go_wp2_with fail
 refine hr.o.mono ?_;rintro e w3 ⟨s,rfl,N,l,L⟩;revert N l L;refine H3 ?_;intro N l L;have hh:=LH (Jl w3);clear hr
 go_wp2_with fail
 refine hh.o.mono ?_;rintro e S ⟨A,M,hA,hM,rfl,h⟩;revert hA hM h;refine H3 ?_;intro hA hM h;obtain⟨H,hH⟩:=Ex ((kT A M).toArray);rw[<-hH];replace hH:=LH hH;have hc:=LH (CT S);clear hh
 go_wp2_with fail
 refine hc.o.mono ?_;rintro e w5 ⟨rfl,af,b4⟩;have x:Below S.heap.size S w5:=by rw[b4];exact (ag _ _).alloc (ae _) _
 obtain⟨F,V,a,Z⟩:=W.o;have E:=Z.trans (K.o.mono Z.size);have U:=E.trans (L.o.mono E.size);have G:=U.trans (h.o.mono U.size);have j:=G.trans (x.mono G.size);have O:Below w1.heap.size w1 w2:=K.o;have ad:=O.trans (L.o.mono O.size);have P:=ad.trans (h.o.mono ad.size);have b6:=P.trans (x.mono P.size);have aa:Below w3.heap.size w3 S:=h.o;have b5:=aa.trans (x.mono aa.size);have u:D.At w5 F d (.new 120):=V.ki (aA.dD b6 No) (λ_ _=>id);have J:kR w5 s none (some (iu p 0)):=(b5.block s (dC l.o)).trans l.o;have Y:=V.lim;have a6:¬ F s:=λe=>by have:=Y s e;have:=N.o;have:=O.size;omega
 have I:∀ g,F g->g<S.heap.size:=λg hg=>by have:=Y g hg;have:=P.size;omega
 obtain⟨sb,mD⟩:=Cj u;have a1:=u.self;have B:=CY u mD;have b2:=Ex S.heap.size;obtain⟨b,y⟩:=b2
 have f:(w.heap.size<=d/\d<b)/\(w.heap.size<=sb/\sb<b)/\(w.heap.size<=s/\s<b):=by rw[y];have e1:=a d a1;have e2:=I d a1;have e3:=a sb B;have e4:=I sb B;have e5:=N.o;have e6:=dC l.o;have e7:=h.o.size;have e8:=E.size;exact⟨⟨e1,e2⟩,⟨e3,e4⟩,by omega,by omega⟩
 have C:∀ T,aA (λg=>F g\/lH w5 S.heap.size g) w5 T->kR T s none (some (iu p 0)):=λT hC=>(hC.block s (dC J) (λe=>e.elim a6 (λe=>by have:=e.ge;have:=dC l.o;have:=h.o.size;omega))).trans J
 replace f:=LH f;replace C:=LH C;have q:=Cl (gH:=⟨#[119]⟩) u (k:=0) ⟨⟨rfl,rfl⟩,by kernel_rfl,by simp[D.Dk.new],CX⟩ om J a6 af om I mD hA.o hM.o;rw[<-hH.o] at q;have c:S.heap.size<=w5.heap.size:=x.size;rw[<-y] at q C c ⊢;revert j q c;refine H3 ?_;intro j q c;have i:=G.size;rw[<-y] at i;revert a y i;refine H3 ?_;intro a y i;clear hc b4 x E U G O ad P b6 aa b5 u J a6 I Y af Z V a1 B
 go_wp2_with fail
 refine q.o.mono ?_;rintro e T ⟨v,rfl,a7,⟨m,b3,hV,xs,t,r,hx,a8,ay,⟨gs,Ls,hT,b8⟩,⟨b7,hR⟩,⟨X',ax,Q⟩,n',ba,an⟩,hC⟩;have hX:uH w.heap.size T d v m s b sb t r xs A M (some (iu p 0)) X' n' gs Ls:=⟨hV,hx,a8,C.o T hC,hT.lower c.o,b8,ay,b7,hR,ax,Q,by omega,an,hA.o,hM.o,f.o.1,f.o.2.1,f.o.2.2,am c.o a7⟩
 have z:Below w.heap.size w T:=j.o.trans (hC.below j.o.size (λg hg e=>by
  rcases e with e|e
  ·have:=a.o g e;omega
  ·have:=e.ge;have:=i.o;omega))
 have h1:w.heap.size<=v:=am j.o.size a7;have h2:w.heap.size<=m:=am j.o.size b3
 have h3:∀ g,ku T v g->w.heap.size<=g:=λg hg=>by
  rcases hg with rfl|⟨n,pc,hc⟩
  ·exact h1
  ·rw[cell_of a8,aV,oQ,aL (by rw[hx.len];omega),hx.len] at hc;cases hc
 revert hX z h3;refine H3 ?_;intro hX z h3;clear hC q a7 b3 hx a8 ay hT hR ax Q an hV C;go_wp2
 go_ret3
 exact⟨_,_,m,rfl,⟨_,_,_,_,_,_,_,_,_,_,_,_,_,hX.o⟩,h1,h2,h3.o,z.o⟩
theorem Jn (w:World):Calls prog 9 #[] w λe w'=>∃ d v m,e=.returned (.tuple #[iq d,iq v,.bool true])/\w.heap.size<=v/\w.heap.size<=m/\kF w' v m (List.replicate 7 0) [] false/\(∀ g,ku w' v g->w.heap.size<=g)/\Below w.heap.size w w':=(Jm w).mono λ_ _ ⟨d,v,m,h1,⟨_,_,_,_,_,_,_,_,_,_,_,_,_,a⟩,b,c,f,h⟩=>⟨d,v,m,h1,b,c,a.kx,f,h⟩
end Go.Proofs.YthmcbgidehjlbaaGreat.Fd
namespace Go.Proofs.YthmcbgidehjlbaaGreat.RA
open _root_.Go.Proofs.Tryz
open Go
variable {c:Cx}{K:List (Nat×Value)}
theorem zn {P:Program}{w w':World}{t ty:TypeId}{ps:String}{af:Array Edge}{gu:Option (Nat×Bool)}{m k x:Operand}{p q y:Value}{ds:Option Nat}(hm:ky c K m=some p) (hk:ky c K k=some q) (hx:ky c K x=some y) (hr:(Instr.mapUpdate t p q y).run P w=.ok () w'):
  (execOp (ev c.a0 K) ⟨ds,.mapUpdate t m k x,ty,ps,af,gu⟩).run P w=.ok .skip w':=by
 unfold execOp;simp only[kH hm,kH hk,kH hx,aM,hr];rfl
end Go.Proofs.YthmcbgidehjlbaaGreat.RA
namespace Go.Proofs.YthmcbgidehjlbaaGreat.Fd
open _root_.Go.Proofs.Tryz
open Go Go.RowKit K
variable {w:World}{ys:List Value}
def mX (xs:List Value) (t m num r:Nat):List Value:=xs++[iq t,iq m,iw num,iq r]
def mP (w:World) (v:Nat) (ys:List Value):Prop:=ys.length=110/\∀ j x,ys[j]?=some x->w.cell? (iu v j)=some x
theorem mP.kept {w':World}{v:Nat}(h:mP w v ys) (hk:ox v w w'):mP w' v ys:=⟨h.1,λj x a=>by have b:=(aD.1 a).1;have:=h.1;exact (hk j om om).trans (h.2 j x a)⟩
theorem mP.after {w':World}{v:Nat}(h:mP w v ys) (hb:Below w.heap.size w w'):mP w' v ys:=h.kept (ox.below hb (by obtain⟨y,a⟩:∃ y,ys[0]?=some y:=⟨_,av (by have:=h.1;omega)⟩;exact lq (h.2 0 y a)))
section
variable {w:World}{v t m num r d s b:Nat}{xs:List Value}{gH:ByteArray}{A M:iz}
theorem mP.base (h:mP w v (mX xs t m num r)) (_:xs.length=106){j:Nat}{x:Value}(hj:xs[j]?=some x):w.cell? (iu v j)=some x:=h.2 j x (by rw[mX,aX (by have:=(aD.1 hj).1;omega)];exact hj)
theorem mP.rest (h:mP w v (mX xs t m num r)) (hx:xs.length=106):w.cell? (iu v 106)=some (iq t)/\w.cell? (iu v 107)=some (iq m)/\w.cell? (iu v 108)=some (iw num)/\w.cell? (iu v 109)=some (iq r):=by
 have hg:∀ j x,([iq t,iq m,iw num,iq r]:List Value)[j]?=some x->w.cell? (iu v (106+j))=some x:=λj x a=>h.2 (106+j) x (by rw[mX,aL om,hx,ek];exact a)
 exact⟨hg 0 _ rfl,hg 1 _ rfl,hg 2 _ rfl,hg 3 _ rfl⟩
theorem mP.load (h:mP w v (mX xs t m num r)) (hx:xs.length=106):(Instr.loadAt 96 (iq v)).run prog w=.ok (.agg xs.toArray) w:=mE underlying96 (by rw[hx];exact uy) (λj x a=>by rw[aw];exact h.base hx a)
theorem oh.cells {l8:Nat}(h:oh w r d s b gH A M l8):∃ da dc ma mc,w.heap[r]?=some (.cells (mM d s b gH (ir da 64 dc) (ir ma 32 mc)++[iw l8]).toArray 176 (0,0))/\w.ownsRow b 5 1 (ir da 64 dc) 64 (aQ A)/\w.ownsRow b 5 1 (ir ma 32 mc) 32 (aQ M):=by obtain⟨dv,mv,h1,a,c⟩:=h;obtain⟨da,dc,rfl,_⟩:=kz a om;obtain⟨ma,mc,rfl,_⟩:=kz c om;exact⟨da,dc,ma,mc,h1,a,c⟩
end
theorem Da (d s b:Nat) (gH:ByteArray) (da ma:Option Addr) (dn dc mn mc:Nat) (w:World):Calls prog 113 #[.agg (mM d s b gH (.slice da dn dc) (.slice ma mn mc)).toArray] w λe w'=>e=.returned (iw 15)/\Below w.heap.size w w':=by obtain⟨st,a⟩:=Ex (mM d s b gH (.slice da dn dc) (.slice ma mn mc));have f:=tw w st;have c4:(w.alloc (.cells st.toArray 174)).cell? (iu w.heap.size 4)=some (iw 35):=f.get (by rw[a];rfl);have hb:=LH ((ag w.heap.size w).alloc (ae _) (.cells st.toArray 174));rw[<-a];obtain⟨c,hc⟩:=Ex st.toArray;rw[<-hc] at c4 hb ⊢;replace hc:=LH hc;replace a:=LH a;clear f;go_enter func113,ntmps113;go_wp2;go_ret;exact⟨rfl,hb.o⟩
theorem JD {r d s b num:Nat}{gH:ByteArray}{A M:iz}(h:oh w r d s b gH A M num):Calls prog 76 #[iq r] w λe w'=>e=.returned (iw 15)/\Below w.heap.size w w':=by
 obtain⟨da,dc,ma,mc,h1,-,-⟩:=h.cells;obtain⟨st,f⟩:=Ex (mM d s b gH (ir da 64 dc) (ir ma 32 mc));have hm:=Da d s b gH (some (iu da 0)) (some (iu ma 0)) 64 dc 32 mc w;rw[<-f] at hm h1
 have a:(Instr.loadAt 174 (iq r)).run prog w=.ok (.agg st.toArray) w:=mE underlying174 (by rw[f];exact uB) (λj x g=>by rw[aw,cell_of h1,aV,aX (aD.1 g).1];exact g)
 obtain⟨c,hc⟩:=Ex st.toArray;rw[<-hc] at a hm;revert f hm a hc;refine H4 ?_;intro f hm a hc;clear h1 h;go_enter func76,ntmps76
 go_wp2_with (first|(refine kQ rfl 174 _ rfl _ _ rfl a.o ?_)|fail)
 refine hm.o.mono ?_;rintro e i ⟨rfl,hb⟩;replace hb:=LH hb;go_wp2;go_ret;exact⟨rfl,hb.o⟩
def pG (S:List (Int×Value)) (k:Nat):List (Int×Value):=lZ (lZ (lZ S (60+k:Nat) (.bool true)) (10+k / 4:Nat) (.bool true)) 23 (.bool true)
def ni (l:List Nat):List (Int×Value):=l.foldl pG [(24,.bool true)]
theorem JE (l:List Nat) (k:Nat):ni (l++[k])=pG (ni l) k:=by simp[ni]
theorem JF {S:List (Int×Value)}{k:Nat}:(pG S k).length<=S.length+3:=by have h1:=yO (L:=S) (k:=(60+k:Nat)) (v:=.bool true);have a:=yO (L:=lZ S (60+k:Nat) (.bool true)) (k:=(10+k / 4:Nat)) (v:=.bool true);have b:=yO (L:=lZ (lZ S (60+k:Nat) (.bool true)) (10+k / 4:Nat) (.bool true)) (k:=23) (v:=.bool true);unfold pG;omega
theorem zo (l:List Nat):(ni l).length<=1+3*l.length:=by
 unfold ni
 suffices h:∀ (l:List Nat) (S:List (Int×Value)),(l.foldl pG S).length<=S.length+3*l.length by exact h l _
 intro l
 induction l with
 | nil=>intro S;simp
 | cons k l ih=>intro S;have:=ih (pG S k);have:=JF (S:=S) (k:=k);simp only[eA,bj];omega
theorem JG {w:World}{v t m num r d s b l8:Nat}{xs:List Value}{gH:ByteArray}{A M L:iz}{ks:List (Nat×iz)}{kh:Bool}(h:kF w v m L ks kh) (hx:ou xs d s b gH A M) (hF:mP w v (mX xs t m num r)) (hR:oh w r d s b gH A M l8) (hbr:b<=r) (h0:0<ks.length):
  Calls prog 50 #[iq v] w λe w'=>∃ n:Nat,e=.returned (iw n)/\1<=n/\n<=ks.length/\(ni ((ks.take n).map Prod.fst)).length<=15/\Below w.heap.size w w':=by
 obtain⟨X,J⟩:=Ex (w.alloc (.map #[] 0));obtain⟨mb,T⟩:=Ex w.heap.size;have b1:Below w.heap.size w X:=by rw[J];exact (ag _ _).alloc (ae _) _
 have m1:k9 X mb []:=by rw[J,T];exact yM w
 have cr:=@fK prog;have af:=LH ((hF.after b1).load hx.len);have I:=yP hx X;have z:=λf=>xk hx f
 obtain⟨c,hc⟩:=Ex xs.toArray;have y:=λf (hb:Below w.heap.size w f)=>(hF.after hb).load hx.len
 rw[<-hc] at I z af y;refine G4 I z y hc ?_;clear I z y hc;intro I z y hc;have a8:=LH (λf (hb:Below w.heap.size w f)=>(hF.after hb).rest hx.len);have S:=LH (λf (hb:Below w.heap.size w f)=>(show f.cell? (iu v 102)=some (iw 10)/\f.cell? (iu v 104)=some (iw 60) from ⟨(hF.after hb).base hx.len hx.uw,(hF.after hb).base hx.len hx.tt⟩));have b4:=LH (λf (hb:Below w.heap.size w f)=>JD (hR.dB hbr (λg cs ty _ _ hg=>hb.block g (dC hg))));obtain⟨n,hn⟩:=Ex ks.length;have ct:n<=1000:=by rw[hn];exact h.mL
 obtain⟨pa,pc,x,bB⟩:=h.kC;have HP:=LH (λX (hb:Below w.heap.size w X)=>(show X.cell? (iu v 110)=some (.slice pa ks.length pc) from ((aA.dD hb No).cell (p:=iu v 110) (lq x) id).trans x))
 have HE:=LH (λX (hb:Below w.heap.size w X) (j:Nat) (k:Nat×iz) (hk:ks[j]?=some k)=>(show ∃ pg ug uc,pa=some (iu pg 0)/\X.cell? (iu pg (j*2))=some (iw k.1)/\X.cell? (iu pg (j*2+1))=some (ir ug 64 uc) from by obtain⟨pg,ug,uc,h1,H,h3,h4,_⟩:=bB j k hk;have hc:=aA.dD hb No;exact⟨pg,ug,uc,h1,(hc.cell (p:=iu pg (j*2)) H id).trans h3,(hc.cell (p:=iu pg (j*2+1)) H id).trans h4⟩))
 rw[<-hn] at HP h0;have c9:=LH h.pl;replace hn:=LH hn;replace b1:=LH b1;replace m1:=LH m1;clear hF hR h hx x bB;go_enter func50,ntmps50
 go_wp2_with (first|(rw[<-J];refine kQ rfl 96 _ rfl _ _ rfl af.o ?_)|fail)
 rw[<-J,<-T];replace J:=LH J;have bz:=LH T;refine I.o.mono ?_;rintro e w2 ⟨rfl,an⟩;have m2:=m1.o.after an;obtain⟨f,U,m3,c3,s3⟩:=m2.put (t:=153) underlying153 (k:=24) (rp om) (.bool true);have b2:Below w.heap.size w w2:=b1.o.trans (an.mono b1.o.size);have b3:Below w.heap.size w f:=b2.trans (c3.below b2.size (λg hg e=>by rw[e,T] at hg;omega));have bR:k9 f mb (ni []):=m3;have x:=HP.o f b3;have bW:Hd (k9 f mb (ni ((ks.take 0).map Prod.fst))/\(ni ((ks.take 0).map Prod.fst)).length<=15/\Below w.heap.size w f):=⟨by simpa using bR,by simp[ni],b3⟩;replace U:=LH U;clear T b2 b3 m2 m3 bR c3 s3 an I;have ay:=U.o;go_wp2;clear ay x
 go_loopg [2,18] n (λg nv ix wr=>∃ j:Nat,j+g=n/\ix=iw j/\nv=iw j/\Hd (k9 wr mb (ni ((ks.take j).map Prod.fst))/\(ni ((ks.take j).map Prod.fst)).length<=15/\Below w.heap.size w wr))
 case atStart=>exact⟨0,by omega,rfl,rfl,bW.o⟩
 case round=>
  obtain⟨j,c6,rfl,rfl,HM⟩:=hrel;obtain⟨M1,ML,HW⟩:=HM.o;by_cases c8:j<n
  ·obtain⟨g1,rfl⟩:∃ i,gk=i+1:=⟨gk - 1,by omega⟩;have c7:(j:Int)<n:=om;have ax:j<ks.length:=by have:=hn.o;omega
   obtain⟨k,hk⟩:∃ k,ks[j]?=some k:=⟨ks[j],av ax⟩;obtain⟨pg,ug,uc,rfl,c0,c1⟩:=HE.o wr HW j k hk;obtain⟨K,hK⟩:=Ex k.1;rw[<-hK] at c0;have cd:K<50:=by rw[hK];exact c9.o k (aZ hk)
   have ad:(ks.take (j+1)).map Prod.fst=(ks.take j).map Prod.fst++[K]:=by rw[bP ax];rw[av ax] at hk;rw[aF hk,dz,hK];rfl
   obtain⟨w5,V⟩:=Ex (wr.alloc (.cells #[iw K,ir ug 64 uc] 111));have b5:Below wr.heap.size wr w5:=by rw[V];exact (ag _ _).alloc (ae _) _
   have x5:w5.heap[wr.heap.size]?=some (.cells #[iw K,ir ug 64 uc] 111 (0,0)):=by rw[V];exact aj wr _
   obtain⟨p5,aa⟩:=Ex wr.heap.size;rw[<-aa] at x5;have M5:=M1.after b5;have B:Below w.heap.size w w5:=HW.trans (b5.mono HW.size);obtain⟨Y,Q⟩:=Ex (ni ((ks.take j).map Prod.fst));rw[<-Q] at M5;obtain⟨W,Z⟩:=Ex (60+K:Nat);obtain⟨E2,a1⟩:=Ex (10+K / 4:Nat);have cb:(60:Int)+K=W:=om;have cc:(10:Int)+(K:Int) / 4=E2:=om;have cu:(K:Int).tdiv 4=(K:Int) / 4:=el om;have ck:IntKind.i64.wrap (W:Int)=W:=by rw[bO];omega
   have cl:IntKind.i64.wrap (E2:Int)=E2:=by rw[bO];omega
   have cm:IntKind.i64.wrap ((K:Int) / 4)=(K:Int) / 4:=by rw[bO];omega
   have cj:IntKind.i64.wrap 23=23:=by rw[bO];omega
   have cg:IntKind.i64.wrap 0=0:=by rw[bO];omega
   have bC:p5≠mb:=by rintro rfl;obtain⟨⟨es,c',h1,_⟩,_⟩:=M5;rw[x5] at h1;cases h1
   have E:=λD (hc:aA (λg=>g=mb) w5 D)=>(show D.cell? (iu p5 0)=some (iw K)/\Below w.heap.size w D from ⟨(hc.cell (p:=iu p5 0) (dC x5) bC).trans (cell_of x5 0),B.trans (hc.below B.size (λg hg e=>by have:=bz.o;omega))⟩)
   have G:∀ D,aA (λg=>g=mb) w5.drew D->aA (λg=>g=mb) w5 D:=λD h=>⟨h.os,h.tape,h.output,h.size,h.block⟩
   refine G6 E G M5 x5 B ad ?_;clear E G M5 x5 B ad;intro E G M5 x5 B ad;refine G4 Q hK Z a1 ?_;clear Q hK Z a1;intro Q hK Z a1;have b6:=LH ML;clear b5 hk HM HW M1 ML;go_wp2;rw[<-V,<-aa];replace V:=LH V;replace aa:=LH aa;refine RA.rt (aA (λg=>g=mb)) [1,1,1,1,1,1,1,1,1,1,4] [] (λD=>k9 D mb Y) (M5.o.dB rfl) (λ_=>aA.refl _ _) (λ_ _ _ h k=>h.trans k) (h:=?_);intro cx
   repeat refine RA.qq ?_
   refine RA.fk prog v 0 (h:=?_);refine RA.fk prog v 104 (h:=?_);refine RA.fk prog v 104 (h:=?_);refine RA.lk prog (iw 60) (hc:=λf hp=>by exact (S.o _ (E.o _ (G.o _ hp.1)).2).2) (h:=?_);refine RA.fk prog p5 0 (h:=?_);refine RA.lk prog (iw K) (hc:=λf hp=>by exact (E.o _ (G.o _ hp.1)).1) (h:=?_);refine RA.vk prog (iw W) (h:=?_)
   refine RA.st (λD=>k9 D mb (lZ Y W (.bool true))) (hr:=λD hp hH=>by obtain⟨C,h1,H,h3,_⟩:=k9.put hH (t:=153) underlying153 (k:=W) (rp om) (.bool true);exact⟨C,RA.zn rf rf rf h1,h3,H⟩) (hn:=?_)
   refine RA.RA.done rfl (λD hR hF hH=>?_);clear hF;simp only[RA.RP,cx];have b7:=G.o _ hR;have a6:=LH (λC (hc:aA (λg=>g=mb) D C)=>E.o C (b7.trans hc));have q:∀ C,aA (λg=>g=mb) D.drew C->aA (λg=>g=mb) D C:=λC h=>⟨h.os,h.tape,h.output,h.size,h.block⟩
   replace q:=LH q;have M6:=LH hH;clear hR hH b7 E G M5;go_wp2;refine RA.rt (aA (λg=>g=mb)) [1,1,1,1,1,1,1,1,1,1,1,4] [] (λC=>k9 C mb (lZ Y W (.bool true))) (M6.o.dB rfl) (λ_=>aA.refl _ _) (λ_ _ _ h k=>h.trans k) (h:=?_);intro cx
   repeat refine RA.qq ?_
   refine RA.fk prog v 0 (h:=?_);refine RA.fk prog v 102 (h:=?_);refine RA.fk prog v 102 (h:=?_);refine RA.lk prog (iw 10) (hc:=λf hp=>by exact (S.o _ (a6.o _ (q.o _ hp.1)).2).1) (h:=?_);refine RA.fk prog p5 0 (h:=?_);refine RA.lk prog (iw K) (hc:=λf hp=>by exact (a6.o _ (q.o _ hp.1)).1) (h:=?_);refine RA.vk prog (iw ((K:Int) / 4)) (h:=?_);refine RA.vk prog (iw E2) (h:=?_)
   refine RA.st (λC=>k9 C mb (lZ (lZ Y W (.bool true)) E2 (.bool true))) (hr:=λC hp hH=>by obtain⟨l,h1,H,h3,_⟩:=k9.put hH (t:=153) underlying153 (k:=E2) (rp om) (.bool true);exact⟨l,RA.zn rf rf rf h1,h3,H⟩) (hn:=?_)
   refine RA.RA.done rfl (λC hR hF hH=>?_);clear hF;simp only[RA.RP,cx];have b8:=q.o _ hR;have a7:=LH (λl (hc:aA (λg=>g=mb) C l)=>a6.o l (b8.trans hc));have u:∀ l,aA (λg=>g=mb) C.drew l->aA (λg=>g=mb) C l:=λl h=>⟨h.os,h.tape,h.output,h.size,h.block⟩
   replace u:=LH u;have M7:=LH hH;have ca:(K:Int) / 512=0:=om;clear hR hH b8 a6 q M6;go_wp2;refine RA.rt (aA (λg=>g=mb)) [1,1,1,1,1,4,1,1,1,1,4] [] (λl=>k9 l mb (lZ (lZ Y W (.bool true)) E2 (.bool true))) (M7.o.dB rfl) (λ_=>aA.refl _ _) (λ_ _ _ h k=>h.trans k) (h:=?_);intro cx
   repeat refine RA.qq ?_
   refine RA.fk prog v 0 (h:=?_);refine RA.ld (y':=.agg c) (hr:=λl hp=>y.o _ (a7.o _ (u.o _ hp.1)).2) (h:=?_)
   refine RA.kc (P:=prog) [.agg c] (iw 23) (λl=>k9 l mb (lZ (lZ Y W (.bool true)) E2 (.bool true))) (hr:=λl hp hH=>(z.o l).mono (by rintro e N ⟨rfl,H⟩;exact⟨rfl,aA.dD H _,hH.after H⟩)) (hn:=?_)
   refine RA.fk prog p5 0 (h:=?_);refine RA.lk prog (iw K) (hc:=λf hp=>by exact (a7.o _ (u.o _ hp.1)).1) (h:=?_);refine RA.vk prog (iw 0) (h:=?_);refine RA.vk prog (iw 23) (h:=?_)
   refine RA.st (λl=>k9 l mb (pG Y K)) (hr:=λl hp hH=>by obtain⟨N,h1,H,h3,_⟩:=k9.put hH (t:=153) underlying153 (k:=23) (rp om) (.bool true);rw[Z.o,a1.o] at H;exact⟨N,RA.zn rf rf rf h1,h3,H⟩) (hn:=?_)
   refine RA.RA.done rfl (λl hR hF hH=>?_);clear hF;simp only[RA.RP,cx];have ba:=u.o _ hR;have F:=LH (a7.o l ba).2;have M8:=LH hH;clear hR hH ba a7 u M7 ca;have a:=Dr l
   replace a:=LH a;obtain⟨N8,O⟩:=Ex ((pG Y K).length);have bA:=LH (λN (hc:aA No l N)=>(a8.o N (F.o.trans (hc.no.mono F.o.size))).2.2.2);have bD:=LH (λN (hc:aA No l N)=>b4.o N (F.o.trans (hc.no.mono F.o.size)));have hle:=LH (λN (hc:aA No l N) ty=>(M8.o.dB (hc.block mb M8.o.lt id)).len (t:=153) underlying153 ty);rw[<-O] at hle;replace O:=LH O;go_wp2;refine RA.rt (aA No) [1,1,1,1,1,1,4,1] [] (λ_=>True) trivial (λ_=>aA.refl _ _) (λ_ _ _ h k=>h.trans k) (h:=?_);intro cx
   repeat refine RA.qq ?_
   refine RA.vk prog (iw N8) (hr:=λN hp=>by have h9:=hle.o N (a.o _ hp.1);clear hp;go_simp) (h:=?_)
   repeat refine RA.qq ?_
   refine RA.fk prog v 109 (h:=?_);refine RA.lk prog (iq r) (hc:=λf hp=>by exact bA.o _ (a.o _ hp.1)) (h:=?_);refine RA.kc (P:=prog) [iq r] (iw 15) (hr:=λf hp hH=>(bD.o f (a.o _ hp.1)).mono (by rintro e w4 ⟨rfl,H⟩;exact⟨rfl,aA.dD H _,trivial⟩)) (hn:=?_);refine RA.vk prog (.bool (decide ((15:Int)<N8))) (h:=?_);refine RA.RA.done rfl (λN hR hF hH=>?_);clear hF hH;simp only[RA.RP,cx]
   try simp only[cn]
   try simp only[cG]
   have bp:=LH (F.o.trans ((a.o _ hR).no.mono F.o.size));have M9:=LH (M8.o.dB ((a.o _ hR).block mb M8.o.lt id));have R:pG Y K=ni ((ks.take (j+1)).map Prod.fst):=by rw[ad.o,JE,Q.o]
   have bl:N8<=1+3*(j+1):=by have h:=zo ((ks.take (j+1)).map Prod.fst);rw[<-R,<-O.o,df,aR] at h;omega
   replace R:=LH R;clear hR hle bD bA a M8 F;by_cases cf:(15:Int)<N8
   ·have c5:1<=j:=om;clear bl;go_wp2;go_ret;exact⟨j,rfl,c5,by omega,by first|exact b6.o|(rw[<-eO];exact b6.o),bp.o⟩
   ·go_wp2;go_roundg g1
    case measure=>omega
    case rel=>
     refine⟨j+1,by omega,by go_num,by go_num,?_,?_,bp.o⟩
     ·rw[<-R.o];exact M9.o
     ·rw[<-R.o,<-O.o];omega
  ·obtain rfl:gk=0:=om;obtain rfl:j=n:=om;have c7:¬ (j:Int)<j:=om;replace ML:=LH ML;replace HW:=LH HW;clear c8 c6 HM M1;go_wp2;go_ret;exact⟨j,rfl,by omega,by rw[hn.o];exact ae _,by first|exact ML.o|(rw[<-eO];exact ML.o),HW.o⟩
theorem kP.ki {w w':World}{pv:Value}{parts:List iz}(h:kP w (λ_=>True) pv parts) (hc:aA No w w'):kP w' (λ_=>True) pv parts:=h.dB hc.size (λg _ hg=>hc.block g hg id)
theorem Ka {w:World}{d s b:Nat}{gH:ByteArray}{dv mv:Value}(num n:Nat) (hnum:num<=1000000) (hn:n<=1000000){pv:Value}{parts:List iz}(hp:kP w (λ_=>True) pv parts) (hfew:parts.length<=17) (hlen:∀ x ∈ parts,x.length=64):
  Calls prog 128 #[.agg (mM d s b gH dv mv).toArray,iw num,iw n,pv] w λe w'=>∃ (v:Value) (C:iz),e=.returned v/\C.length<=2000/\kP w' (λ_=>True) v [[114,105,110,103,32,98,111,100,121],kj 25,kj 35,kj num,kj n,C]/\Below w.heap.size w w':=by
 obtain⟨st,u⟩:=Ex (mM d s b gH dv mv);rw[<-u];obtain⟨q,K⟩:=Ex w.heap.size;obtain⟨B,r⟩:=Ex (w.alloc (.cells st.toArray 174));have E:od B q st:=by rw[r,K];exact tw w st
 have b1:Below w.heap.size w B:=by rw[r];exact (ag _ _).alloc (ae _) _
 obtain⟨N,I⟩:=Ex B.heap.size;have i:∀ f,Mk N B.drew f->Mk N B f:=λf h=>⟨⟨h.1.os,h.1.tape,h.1.output,h.1.size,h.1.block⟩,h.2⟩
 have l:∀ f,Mk N B f->N<=f.heap.size:=λf h=>I ▸ h.1.size
 have H:kP B (λ_=>True) pv parts:=hp.dB b1.size (λg _ hg=>b1.block g hg);obtain⟨C,hC⟩:=Ex parts.flatten
 have D:C.length<=2000:=by
  have main:∀ ps:List iz,(∀ x ∈ ps,x.length=64)->ps.flatten.length=ps.length*64:=by
   intro ps
   induction ps with
   | nil=>intro _;rfl
   | cons p ps ih=>intro h;rw[eL,aE,h p sm,ih (λx E=>h x (by simp[E])),bj];omega
  rw[hC,main parts hlen];omega
 have A:=LH (λf (hr:Mk N B f)=>J9 (Mk.parts hr H) om (λx E=>by rw[hlen x E];omega));rw[<-hC] at A;have c3:=LH (E.get (j:=3) (v:=iw 25) (by rw[u];rfl));have c4:=LH (E.get (j:=4) (v:=iw 35) (by rw[u];rfl));obtain⟨c,hc⟩:=Ex st.toArray;rw[<-hc] at r ⊢;revert u b1 I i l hC D hc;refine H8 ?_;intro u b1 I i l hC D hc;clear E hp H hlen;go_enter func128,ntmps128;go_wp2;rw[<-r,<-K];replace r:=LH r;replace K:=LH K;refine RA.region (Mk N) (Mk N) [2,2,1,1,1,2,1,1,1,2,1,2,1,2,1,2,3,1] (λk v f=>match k with|5=>Bytes f (λ_=>True) v (kj 25)|9=>Bytes f (λ_=>True) v (kj 35)|11=>Bytes f (λ_=>True) v (kj num)|13=>Bytes f (λ_=>True) v (kj n)|15=>Bytes f (λ_=>True) v C|_=>mJ N [114,105,110,103,32,98,111,100,121] 5 v f) (λ_=>True) kr (Mk.refl _ _) (λ_ _ h=>h) (λ_ _ _ h k=>h.trans k) (λ_ _ _ _=>trivial) trivial kr ?_;intro cx
 refine RA.fr (hs:=λv a b h m=>m.mk h) (hr:=λf hp=>⟨ir f.heap.size 9 9,f.alloc (.cells (aQ [114,105,110,103,32,98,111,100,121]).toArray 5),by show (execOp _ _).run prog f=_;go_simp;rfl,Mk.mh ((aA.refl _ _).alloc _) (l.o _ (i.o _ hp.1)),⟨f.heap.size,(0,0),rfl,l.o _ (i.o _ hp.1),by unfold maxLen;exact cF rfl,aj f _⟩⟩) (h:=λW=>?_)
 refine RA.fr (hs:=λv a b h m=>m.mk h) (hr:=λf hp=>by obtain⟨F,y,z,Y⟩:=vv (P:=prog) (t:=42) underlying42 underlying5 (show mJ N [114,105,110,103,32,98,111,100,121] _ W f from hp.fact 0 rfl kr);refine⟨W,F,?_,z,Y⟩;exact RA.xf rf y) (h:=λL=>?_)
 refine RA.fk prog q 3 (h:=?_);refine RA.fk prog q 3 (h:=?_);refine RA.lk prog (iw 25) (hc:=λf hp=>by exact (i.o _ hp.1).cell c3.o) (h:=?_)
 refine RA.pU (P:=prog) [iw 25] (λ_ _=>by go_simp) kr rf rf (λv a b h m=>Mk.cells h m) rfl (λf hp=>(oL 25 om f).mono (by rintro e F ⟨v,rfl,y,z⟩;exact⟨v,rfl,Mk.dD z (l.o _ (i.o _ hp.1)),pV y⟩)) (λM=>?_)
 refine RA.fk prog q 3 (h:=?_);refine RA.fk prog q 4 (h:=?_);refine RA.lk prog (iw 35) (hc:=λf hp=>by exact (i.o _ hp.1).cell c4.o) (h:=?_)
 refine RA.pU (P:=prog) [iw 35] (λ_ _=>by go_simp) kr rf rf (λv a b h m=>Mk.cells h m) rfl (λf hp=>(oL 35 om f).mono (by rintro e F ⟨v,rfl,y,z⟩;exact⟨v,rfl,Mk.dD z (l.o _ (i.o _ hp.1)),pV y⟩)) (λO=>?_)
 repeat refine RA.qq ?_
 refine RA.pU (P:=prog) [iw num] (λ_ _=>by go_simp) kr rf rf (λv a b h m=>Mk.cells h m) rfl (λf hp=>(oL num om f).mono (by rintro e F ⟨v,rfl,y,z⟩;exact⟨v,rfl,Mk.dD z (l.o _ (i.o _ hp.1)),pV y⟩)) (λQ=>?_)
 repeat refine RA.qq ?_
 refine RA.pU (P:=prog) [iw n] (λ_ _=>by go_simp) kr rf rf (λv a b h m=>Mk.cells h m) rfl (λf hp=>(oL n om f).mono (by rintro e F ⟨v,rfl,y,z⟩;exact⟨v,rfl,Mk.dD z (l.o _ (i.o _ hp.1)),pV y⟩)) (λR=>?_)
 repeat refine RA.qq ?_
 refine RA.pU (P:=prog) [pv] (λ_ _=>by go_simp) kr rf rf (λv a b h m=>Mk.cells h m) rfl (λf hp=>(A.o f (i.o _ hp.1)).mono (by rintro e F ⟨v,rfl,y,z⟩;refine⟨v,rfl,Mk.dD z (l.o _ (i.o _ hp.1)),?_⟩;show Cells F _ _ C.length 1 _;exact (Cells.own y).mono (λ_ _ _=>trivial))) (λT=>?_)
 refine RA.bq (λx f=>kP f (λ_=>True) x [[114,105,110,103,32,98,111,100,121],kj 25,kj 35,kj num,kj n,C]) (hs:=λ_ _ _ h k=>Mk.parts h k) (he:=λ_ _ _ _ _=>trivial) (hr:=λf hp _=>by
  have f1:=(show mJ N [114,105,110,103,32,98,111,100,121] _ L f from hp.fact 5 rfl kr).bytes;have f2:=(show Bytes f (λ_=>True) M (kj 25) from hp.fact 4 rfl kr);have f3:=(show Bytes f (λ_=>True) O (kj 35) from hp.fact 3 rfl kr);have f4:=(show Bytes f (λ_=>True) Q (kj num) from hp.fact 2 rfl kr);have f5:=(show Bytes f (λ_=>True) R (kj n) from hp.fact 1 rfl kr);have f6:=(show Bytes f (λ_=>True) T C from hp.fact 0 rfl kr);have G:=l.o _ (i.o _ hp.1)
  have J:=rl (w:=f) (S:=λ_=>True) (vs:=[L,M,O,Q,R,T]) (parts:=[[114,105,110,103,32,98,111,100,121],kj 25,kj 35,kj num,kj n,C]) rfl (by unfold maxLen;simp) (by
   intro j v hv
   match j with
   | 0=>cases hv;exact f1
   | 1=>cases hv;exact f2
   | 2=>cases hv;exact f3
   | 3=>cases hv;exact f4
   | 4=>cases hv;exact f5
   | 5=>cases hv;exact f6
   | _+6=>simp at hv)
  refine⟨_,f.alloc (.cells #[L,M,O,Q,R,T] 42),?_,Mk.mh ((aA.refl _ _).alloc _) G,J,trivial⟩;obtain⟨_,_,rfl,_⟩:=f1.shape;obtain⟨_,_,rfl,_⟩:=f2.shape;obtain⟨_,_,rfl,_⟩:=f3.shape;obtain⟨_,_,rfl,_⟩:=f4.shape;obtain⟨_,_,rfl,_⟩:=f5.shape;obtain⟨_,_,rfl,_⟩:=f6.shape;clear f1 f2 f3 f4 f5 f6 J hp G;show (execOp _ _).run prog f=_;go_simp) (hn:=λx=>?_)
 repeat refine RA.qq ?_
 refine RA.RA.done rfl (λZ V U hH=>?_);clear hH;simp only[RA.RP,cx];have J:=LH (show kP Z (λ_=>True) x [[114,105,110,103,32,98,111,100,121],kj 25,kj 35,kj num,kj n,C] from U _ (cq ..));have X:=LH (I.o ▸ (i.o _ V).1);clear U V;go_wp2;go_ret;exact⟨_,_,rfl,D.o,J.o,b1.o.trans (X.o.mono b1.o.size)⟩
end Go.Proofs.YthmcbgidehjlbaaGreat.Fd

/-
 Parts of the proof. No condition beyond what each theorem names.
-/
import Derived.Lib.AppendZerosOnto
import Derived.Test.YthmcbgidehjlbaaGreatFrAg
import Derived.Test.YthmcbgidehjlbaaGreatFrAo
import Derived.Test.YthmcbgidehjlbaaGreatFrAr
set_option maxRecDepth 100000
set_option maxHeartbeats 8000000
namespace Go.Proofs.YthmcbgidehjlbaaGreat.Fd
open _root_.Go.Proofs.Tryz
open Go Go.RowKit K
variable {w:World}{t b:Nat}{gs:Nat->Nat}{key:iz}{Ls:List iz}
def RB (b:Nat) (w w':World):Prop:=(∃ n,Bk w b n)/\(∃ n,Bk w' b n)/\kf No b w w'
theorem RB.trans {b:Nat}{x y z:World}(h:RB b x y) (k:RB b y z):RB b x z:=⟨h.1,k.2.1,h.2.2.trans k.2.2⟩
theorem ll.rb {w':World}(h:ll w t b gs key Ls) (hr:RB b w w'):ll w' t b gs key Ls:=by obtain⟨⟨n,a⟩,_,c⟩:=hr;exact h.bk a c
theorem ll.set (h:ll w t b gs key Ls){k:Nat}{L L':iz}(hk:Ls[k]?=some L) (hl:L'.length=L.length):ll (w.setRow (gs k) (aQ L').toArray) t b gs key (Ls.set k L'):=by
 obtain⟨kv,lv,mv,cs,h1,p,q,r,s⟩:=h;have d:k<Ls.length:=(aD.1 hk).1;obtain⟨u,f⟩:=r k L hk
 have o:∀ {g:Nat}{cs:Array Value}{ty:TypeId},w.heap[g]?=some (.cells cs ty (0,0))->ty≠179->(w.setRow (gs k) (aQ L').toArray).heap[g]?=w.heap[g]?:=λ{g cs ty} hg n=>aG _ _ _ _ (by rintro rfl;have e:=u.symm.trans hg;simp only[IJ] at e;exact n e.2.1.symm)
 refine⟨kv,lv,mv,cs,(o h1 de).trans h1,dE p (λg hg=>?_),?_,λj M c=>?_,λi j hi v=>?_⟩
 ·obtain⟨cur,hc⟩:=kA p hg;exact o hc de
 ·rw[bg];refine dE q (λg hg=>?_);obtain⟨cur,hc⟩:=kA q hg;exact o hc de
 ·by_cases a:j=k
  ·subst a;rw[g7 d] at c;obtain rfl:=aF c;exact⟨u.setRow L',by rw[hl];exact f⟩
  ·rw[eT (bY a)] at c;obtain⟨x,l⟩:=r j M c;have m:j<Ls.length:=(aD.1 c).1;exact⟨x.dB (aG _ _ _ _ (λe=>a (s j k m d e))),l⟩
 ·rw[bg] at hi v;exact s i j hi v
theorem BH {α:Type}{l x:List α}{o:Nat}(h:o+x.length<=l.length):(splice l o x).length=l.length:=by simp[splice];omega
theorem xh {parts:List iz}(hl:∀ x ∈ parts,x.length<=1000) (hp:parts.length<=10):(mu parts).length<=100000:=by
 have h:∀ ps:List iz,(∀ x ∈ ps,x.length<=1000)->(mu ps).length<=ps.length*1004:=by
  intro ps
  induction ps with
  | nil=>intro _;simp[mu]
  | cons p ps ih=>
   intro h;have h1:=h p (cq ..);have b:=ih (λx a=>h x (fc _ a));have e:mu (p::ps)=(rQ p.length++p)++mu ps:=by simp[mu]
   rw[e,aE,aE,bj];have c:(rQ p.length).length=4:=rfl;omega
 have:=h parts hl;omega
theorem BI {n:Nat}(h:ll w t b gs key Ls) (hB:Bk w b n) (hn:n<1000000) (l i:Nat) (hl:l<3) (hi:i<kp (l+1:Nat)) (hL:l+1<Ls.length):
  Calls prog 99 #[iq t,.agg #[iw (l+1:Nat),iw i]] w λe w'=>e=.returned (.tuple #[])/\∃ L',ll w' t b gs key (Ls.set (l+1) L')/\Bk w' b (n+1)/\kf (λg=>g=gs (l+1)) b w w':=by
 obtain⟨q,hq⟩:=Ex w.heap.size;obtain⟨m,hm⟩:=Ex (l+1);obtain⟨s,G⟩:=Ex (w.alloc (.cells #[iw m,iw i] 193));have b1:Below w.heap.size w s:=by rw[G];exact (ag _ _).alloc (ae _) _
 have x1:s.heap[q]?=some (.cells #[iw m,iw i] 193 (0,0)):=by rw[G,hq];exact aj w _
 have K:=h.after b1;have f:=hB.after b1;obtain⟨W,M⟩:=Ex (kp (l+1:Nat));have b5:i<W:=by rw[M];exact hi
 have a6:l+1<=1000:=om;have a1:i<=1000:=by have:=vt (l+1:Nat);omega
 have HK:=λa (hr:RB b s a)=>Ha (K.rb hr) l i hl hi om
 have HP:=λ(a:World) (S:Nat->Prop) (bv:Value) (c:Nat) (bl:iz)=>Hb (w:=a) (S:=S) (bv:=bv) (c:=c) (bl:=bl) (l+1) i a6 a1
 rw[<-hm] at HK HP hL ⊢;rw[<-hm] at M;replace HK:=LH HK;replace HP:=LH HP;have z:∀ a,RB b s a->a.heap[q]?=some (.cells #[iw m,iw i] 193 (0,0)):=λa hr=>hr.2.2.at f x1 id de de
 have F:∀ a,RB b s a->(Instr.loadAt 193 (iq q)).run prog a=.ok (.agg #[iw m,iw i]) a:=λa hr=>mE (P:=prog) (w:=a) (g:=q) (off:=0) (ty:=193) (x:=[iw m,iw i]) underlying193 kr (λj v hv=>by
  rw[aw,cell_of (z a hr)]
  simpa using hv)
 have a7:=K;obtain⟨kv,lv,mv,cs,t1,t2,t3,t4,t5⟩:=a7;obtain⟨R,cap,rfl,aa,b4⟩:=kz t3 om;obtain⟨b2,O⟩:=kA t3 (g:=R) rfl;obtain⟨Q,D,X,p⟩:=K.level hL;rw[<-M] at p;obtain⟨N,Y⟩:=Ex Ls.length;rw[<-Y] at hL aa t1 t3;obtain⟨CW,a8⟩:=Ex (cs m)
 have Z:s.cell? (iu R m)=some (ir (gs m) W CW):=by rw[a8];obtain⟨g',off,c',hv,_,_,_,_,ad⟩:=Cells.at (Cells.own t3) om;simp only[IJ] at hv;obtain⟨⟨rfl,rfl,_⟩,_,_⟩:=hv;have U:=ad m _ (uk hL);rw[aw,<-M] at U;exact U
 have af:key.length=32:=by have:=t2.1;rw[km] at this;omega
 have A:∀ a,RB b s a->a.heap[t]?=some (.cells #[iq b,kv,ir R N cap,mv] 189 (0,0)):=λa hr=>hr.2.2.at f t1 id de de
 have I:∀ a,RB b s a->a.cell? (iu R m)=some (ir (gs m) W CW):=λa hr=>(az (w:=s) ((hr.2.2.at f O id de de).trans O.symm)).trans Z
 have r:∀ a,RB b s a->Bytes a (λ_=>True) kv key:=λa hr=>by have U:=(Cells.own (hr.2.2.own f t2 (λ_ _=>id) de de)).mono (S':=λ_=>True) (λ_ _ _=>trivial);rw[<-af] at U;exact U
 have u:Bk s.drew b n:=f.dB (λ_ _ _=>rfl);have H:RB b s.drew s.drew:=⟨⟨n,u⟩,⟨n,u⟩,kf.refl⟩;have d:∀ a,RB b s.drew a->RB b s a:=λa h=>⟨⟨n,f⟩,h.2.1,h.2.2.drew⟩
 have b6:(m:Int)<N:=om;have ay:(i:Int)<W:=om;refine G9 u d H r I A F z Y ?_;clear u d H r I A F z Y;intro u d H r I A F z Y;refine G7 M hm f b1 K D p ?_;clear M hm f b1 K D p;intro M hm f b1 K D p;clear t1 t2 t3 t4 t5 O X Z x1 h hB;go_enter func99,ntmps99;go_wp2;rw[<-G,<-hq];replace hq:=LH hq;replace G:=LH G;refine RA.oz (RB b) (λ_ _=>False) [1,1,1,1,1,1,1,1,1,1,1,1,1,1,1,1,1,1,1,1,1,3,3,3,3,1,7] [26] (λ_ _ _=>True) (λa=>Bk a b n) kr H.o (λ_ _ h=>h.elim) (λ_ _ _ h k=>h.trans k) (λ_ _ h=>h.elim) u.o kr kr ?_;intro cx
 repeat refine RA.qq ?_
 refine RA.fk prog t 2 (h:=?_);refine RA.lk prog (ir R N cap) (hc:=λa hp=>by exact cell_of (A.o _ (d.o _ hp.1)) 2) (h:=?_);refine RA.fk prog q 0 (h:=?_);refine RA.lk prog (iw m) (hc:=λa hp=>by exact cell_of (z.o _ (d.o _ hp.1)) 0) (h:=?_);refine RA.ik prog R m (h:=?_);refine RA.lk prog (ir (gs m) W CW) (hc:=λa hp=>by exact I.o _ (d.o _ hp.1)) (h:=?_);refine RA.fk prog q 1 (h:=?_);refine RA.lk prog (iw i) (hc:=λa hp=>by exact cell_of (z.o _ (d.o _ hp.1)) 1) (h:=?_)
 repeat refine RA.qq ?_
 refine RA.fk prog t 0 (h:=?_);refine RA.lk prog (iq b) (hc:=λa hp=>by exact cell_of (A.o _ (d.o _ hp.1)) 0) (h:=?_)
 repeat refine RA.qq ?_
 refine RA.fk prog t 1 (h:=?_)
 refine RA.ld (y':=kv) (hr:=λa hp=>by obtain⟨ka,kc,hk,_⟩:=(r.o _ (d.o _ hp.1)).shape;have hc:=cell_of (A.o _ (d.o _ hp.1)) 1;subst hk;show (Instr.loadAt _ _).run prog a=_;go_simp) (h:=?_)
 refine RA.ld (y':=.agg #[iw m,iw i]) (hr:=λa hp=>F.o a (d.o _ hp.1)) (h:=?_)
 repeat refine RA.qq ?_
 refine RA.ld (y':=.agg #[iw m,iw i]) (hr:=λa hp=>F.o a (d.o _ hp.1)) (h:=?_)
 refine RA.qc (P:=prog) [iq t,.agg #[iw m,iw i]] (λ_ _=>True) (λv a=>Bk a b n/\∃ c:Nat,∃ bl:iz,c<=4/\bl.length=c*16/\a.ownsRow s.heap.size 179 16 v c (aQ bl)) (hs:=λ_ _ _ _ _=>trivial) (he:=λ_ _ _ h=>h.elim) (hr:=λa hp hH=>by have hr:=d.o _ hp.1;refine (HK.o a hr).mono ?_;rintro e w4 ⟨v,rfl,c,bl,k1,k2,k3,B⟩;exact⟨v,rfl,⟨⟨n,hH⟩,⟨n,hH.after B⟩,kf.dD B⟩,trivial,hH.after B,c,bl,k1,k2,kU k3 hr.2.2.size⟩) (hn:=λu1=>?_)
 refine RA.qc (P:=prog) [.agg #[iw m,iw i],u1] (λ_ _=>True) (λv a=>Bk a b n/\∃ bl:iz,bl.length<=64/\kP a (λ_=>True) v [[110,111,100,101],kj m,kj i,bl]) (hs:=λ_ _ _ _ _=>trivial) (he:=λ_ _ _ h=>h.elim) (hr:=λa hp hH=>by obtain⟨y,c,bl,k1,k2,k3⟩:=hH;refine (HP.o a _ _ c bl (Cells.own k3) k2 k1).mono ?_;rintro e w4 ⟨v,rfl,B,k5⟩;exact⟨v,rfl,⟨⟨n,y⟩,⟨n,y.after k5⟩,kf.dD k5⟩,trivial,y.after k5,bl,by omega,B⟩) (hn:=λu2=>?_)
 refine RA.qc (P:=prog) [iq b,kv,u2] (λv _=>∃ T:iz,T.length=32/\v=.agg (aQ T).toArray) (λ_ a=>Bk a b (n+1)) (hs:=λ_ _ _ _ h=>h) (he:=λ_ _ _ h=>h.elim) (hr:=(λa hp hH=>by
  obtain⟨y,bl,k1,k2⟩:=hH
  have hlen:∀ x ∈ [[110,111,100,101],kj m,kj i,bl],x.length<=1000:=by
   intro x hx;simp only[bi,bL,bS] at hx;rcases hx with rfl|rfl|rfl|rfl
   ·simp
   ·rw[nF];omega
   ·rw[nF];omega
   ·omega
  refine (vr y hn (r.o _ (d.o _ hp.1)) om k2 sm (λx hx=>by have:=hlen x hx;omega) (xh hlen sm)).mono ?_;rintro e w4 ⟨rfl,B,k5⟩;exact⟨_,rfl,⟨⟨n,y⟩,⟨n+1,B⟩,k5⟩,⟨_,rk,rfl⟩,B⟩)) (hn:=λu3=>?_)
 refine RA.qc (P:=prog) [u3] (λv _=>∃ T:iz,T.length=16/\v=.agg (aQ T).toArray) (λ_ a=>Bk a b (n+1)) (hs:=λ_ _ _ _ h=>h) (he:=λ_ _ _ h=>h.elim) (hr:=λa hp hH=>by obtain⟨T,hT,rfl⟩:=hp.fact 0 rfl kr;refine (yF hT a).mono ?_;rintro e w4 ⟨rfl,B⟩;exact⟨_,rfl,⟨⟨_,hH⟩,⟨_,hH.after B⟩,kf.dD B⟩,⟨_,by rw[aR];omega,rfl⟩,hH.after B⟩) (hn:=λu4=>?_)
 refine RA.ik prog (gs m) (i*16) (h:=?_)
 refine RA.lr (λw5=>∃ L':iz,ll w5 t b gs key (Ls.set m L')/\Bk w5 b (n+1)/\kf (λg=>g=gs m) b s w5) (he:=λ_ _ h=>h.elim) (hr:=(λw4 an hH=>by
  have hp:=an.first kr;obtain⟨T,hT,rfl⟩:=hp.fact 0 rfl kr;have hr:=d.o _ hp.1;have T4:=K.o.rb hr;obtain⟨L4,V,L,_⟩:=T4.level (k:=m) (by rw[<-Y.o];exact hL);obtain rfl:Q=L4:=by rw[D.o] at V;exact aF V
  have b3:=p.o;have J:i*16+T.length<=Q.length:=om;have ax:(splice Q (i*16) T).length=Q.length:=BH J;refine⟨w4.setRow (gs m) (aQ (splice Q (i*16) T)).toArray,RA.kL rf rf (rK L (kV hT) J),splice Q (i*16) T,T4.set D.o ax,?_,?_⟩
  ·exact hH.dB (λg hg hl=>aG _ _ _ _ (λe=>kn.type hH L de de (e ▸ hg)))
  ·exact (hr.2.2.mono (λ_ _ h=>h.elim)).then (aA.setRow (g:=gs m) (C:=λg=>g=gs m) (aA.refl _ _) (λ_=>rfl) _) (λ_ _ e=>e) (λ_ e=>kn.type hH L de de (.inl e.symm)))) (hn:=?_)
 refine RA.RA.kZ (λw5 hH=>?_);simp only[RA.RP,cx];obtain⟨L',y2,y3,y4⟩:=hH;have E:kf (λg=>g=gs m) b w w5:=(kf.dD b1.o).trans y4;replace y2:=LH y2;replace y3:=LH y3;replace E:=LH E;clear y4;go_wp2;go_end0;exact⟨rfl,L',y2.o,y3.o,E.o⟩
theorem BJ {w:World}{t b:Nat}(h:ll w t b gs key Ls) (h0:0<Ls.length) (i:Nat) (hi:i<=1000):
  Calls prog 110 #[iq t,iw i] w λe w'=>e=.returned (.agg (aQ (oA ((Ls.getD 0 []).take (kp (0:Nat)*16)) i)).toArray)/\Below w.heap.size w w':=by
 obtain⟨n,m⟩:=Ex w.heap.size;have r:=LH m;obtain⟨x,c⟩:=Ex (w.alloc (.cells #[iy 0,iy 0,iy 0,iy 0,iy 0,iy 0,iy 0,iy 0,iy 0,iy 0,iy 0,iy 0,iy 0,iy 0,iy 0,iy 0] 179));have g:Below w.heap.size w x:=by rw[c];exact (ag _ _).alloc (ae _) _
 have k:ke x n 179 (List.replicate 16 0):=by rw[c,m];exact aj w _
 have u:=LH (BG (h.after g) 0 i hi h0);obtain⟨T,l⟩:=Ex (oA ((Ls.getD 0 []).take (kp (0:Nat)*16)) i);have j:T.length=16:=l ▸ um;rw[<-l] at u ⊢;revert g k l;refine H3 ?_;intro g k l;have v:=LH c;subst c;clear m h;go_enter func110,ntmps110
 go_wp2_with fail
 rw[<-r.o];refine u.o.mono ?_;rintro e w2 ⟨rfl,d⟩;have q:ke w2 n 179 (List.replicate 16 0):=k.o.dB (d.block n (dC k.o));have s:Below w.heap.size w w2:=g.o.trans (d.mono g.o.size);have p:=LH (nn q aK T j);have a:ke (w2.setRow n (aQ T).toArray) n 179 T:=q.setRow T;have f:Below w.heap.size w (w2.setRow n (aQ T).toArray):=below_setRow s (by rw[r.o];omega) _;replace a:=LH a;replace f:=LH f;clear g k d q s
 go_wp2_with (first|(refine kI rfl 179 _ _ rfl _ _ rfl rfl p.o ?_)|fail)
 refine aI (bd results110 _ _ n 179 _ (0,0) _ rfl a.o underlying179 rfl (by rw[kV j];simp[km])) rfl ⟨rfl,f.o⟩
theorem Hf {w:World}{t b:Nat}(h:ll w t b gs key Ls) (h0:Ls.length=4):
  Calls prog 122 #[iq t] w λe w'=>e=.returned (.agg (aQ (oA ((Ls.getD 3 []).take (kp (3:Nat)*16)) 0)).toArray)/\Below w.heap.size w w':=by
 obtain⟨n,q⟩:=Ex w.heap.size;have v:=LH q;obtain⟨s,d⟩:=Ex (w.alloc (.cells #[iy 0,iy 0,iy 0,iy 0,iy 0,iy 0,iy 0,iy 0,iy 0,iy 0,iy 0,iy 0,iy 0,iy 0,iy 0,iy 0] 179));have i:Below w.heap.size w s:=by rw[d];exact (ag _ _).alloc (ae _) _
 have m:ke s n 179 (List.replicate 16 0):=by rw[d,q];exact aj w _
 have p:=LH (h.after i);have A:=LH (vu p.o om);have y:=LH (wG s);obtain⟨T,j⟩:=Ex (oA ((Ls.getD 3 []).take (kp (3:Nat)*16)) 0);have k:T.length=16:=j ▸ um;rw[<-j];revert h0 i m j;refine H4 ?_;intro h0 i m j;have B:=LH d;subst d;clear q h;go_enter func122,ntmps122
 go_wp2_with (first|(go_at_call 132;refine A.o.mono ?_;rintro e w' ⟨rfl,rfl⟩)|fail)
 rw[<-v.o];refine y.o.mono ?_;rintro e C ⟨rfl,c⟩;have z:=LH (BG (p.o.after c) 3 0 om (by rw[h0.o];omega));have l:ke C n 179 (List.replicate 16 0):=m.o.dB (c.block n (dC m.o));have b1:Below w.heap.size w C:=i.o.trans (c.mono i.o.size);rw[<-j.o] at z;replace l:=LH l;replace b1:=LH b1;clear c A y m i p
 go_wp2_with fail
 refine z.o.mono ?_;rintro e w2 ⟨rfl,f⟩;have u:ke w2 n 179 (List.replicate 16 0):=l.o.dB (f.block n (dC l.o));have x:Below w.heap.size w w2:=b1.o.trans (f.mono b1.o.size);have r:=LH (nn u aK T k);have a:ke (w2.setRow n (aQ T).toArray) n 179 T:=u.setRow T;have g:Below w.heap.size w (w2.setRow n (aQ T).toArray):=below_setRow x (by rw[v.o];omega) _;replace a:=LH a;replace g:=LH g;clear b1 l f u x
 go_wp2_with (first|(refine kI rfl 179 _ _ rfl _ _ rfl rfl r.o ?_)|fail)
 refine aI (bd results122 _ _ n 179 _ (0,0) _ rfl a.o underlying179 rfl (by rw[kV k];simp[km])) rfl ⟨rfl,g.o⟩
end Go.Proofs.YthmcbgidehjlbaaGreat.Fd
namespace Go.Proofs.YthmcbgidehjlbaaGreat.K
open _root_.Go.Proofs.Tryz
open Go Go.RowKit
section
variable {P:Program}
theorem xi {n:Nat}{e t:TypeId}{z:Value}{bytes sz:Nat}(ht:P.underlying t=some (.slice e)) (hi:(P.info? e).map (λi=>(i.zero,i.size,i.bytes))=some (some z,sz,bytes)) (hz:z.cells.size=sz) (hs:0<sz)
  {x w3:World}{kv:Value}{m:Nat}{vs:List Value}(ho:x.ownsRow n e sz kv m vs) (hn:n<=x.heap.size) (hR:aA No x w3){S:Nat->Prop}{u:Value}{k:Nat}{news:List Value}(hu:Cells w3 S u k sz news)
  (h1:∀ v ∈ news,v.oneCell'=true) (hm:m+k<=maxLen) (hb:(m+k)*bytes<=140737488355328) (ty:TypeId):
  ∃ v' w4,(Builtin.append_ #[t,t] ty #[kv,u]).run P w3=.ok v' w4/\w4.ownsRow n e sz v' (m+k) (vs++news)/\aA (λg=>kv.ownBlock=some g) w3 w4/\(v'.ownBlock=kv.ownBlock\/∃ g,v'.ownBlock=some g/\w3.heap.size<=g):=by
 obtain⟨i,a,b,c,d⟩:=cw hi;have f:=dE ho (λg hg=>hR.block g (ho.lt g hg).2 id);obtain⟨v',w4,hr,j,l,_,o⟩:=tH (P:=P) w3 n t ty e i z sz bytes ht a b c d hz hs kv m vs f S u k news hu h1 hm hb (am hn hR.size);exact⟨v',w4,hr,j,(aA.refl _ w3).grown l (λ_ h _=>h),o⟩
end
end Go.Proofs.YthmcbgidehjlbaaGreat.K
namespace Go.Proofs.YthmcbgidehjlbaaGreat.Fd
open _root_.Go.Proofs.Tryz
open Go Go.RowKit K
theorem Hg (w:World) (n:Nat) (hn:n<=1000000):(Instr.makeSlice 190 (iw n) (iw n)).run prog w=.ok (ir w.heap.size n n) (w.alloc (.cells (aQ (List.replicate (n*16) 0)).toArray 179)):=by
 obtain⟨i,a,b,c,d⟩:=cw vo;have h:=run_make (P:=prog) w 190 179 i _ underlying190 a b .i64 .i64 (n:Int) (n:Int) om (fU _) (by rw[d];omega) om
 have e:madeCells (Value.agg #[iy 0,iy 0,iy 0,iy 0,iy 0,iy 0,iy 0,iy 0,iy 0,iy 0,iy 0,iy 0,iy 0,iy 0,iy 0,iy 0]).cells (n*16)=(aQ (List.replicate (n*16) 0)).toArray:=by
  apply Array.ext
  ·simp[fG,km]
  ·intro j h1 l;have f:j % 16<16:=eE _ om
   have g:∀ k,k<16->(Value.agg #[iy 0,iy 0,iy 0,iy 0,iy 0,iy 0,iy 0,iy 0,iy 0,iy 0,iy 0,iy 0,iy 0,iy 0,iy 0,iy 0]).cells[k]! = iy 0:=by
    intro k hk;obtain rfl|rfl|rfl|rfl|rfl|rfl|rfl|rfl|rfl|rfl|rfl|rfl|rfl|rfl|rfl|rfl:k=0\/k=1\/k=2\/k=3\/k=4\/k=5\/k=6\/k=7\/k=8\/k=9\/k=10\/k=11\/k=12\/k=13\/k=14\/k=15:=om
    all_goals rfl
   simp only[madeCells,Array.getElem_map,g9];rw[show (Value.agg #[iy 0,iy 0,iy 0,iy 0,iy 0,iy 0,iy 0,iy 0,iy 0,iy 0,iy 0,iy 0,iy 0,iy 0,iy 0,iy 0]).cells.size=16 from rfl,g _ f];simp[aQ,u8]
 rw[c] at h;simp only[Int.toNat_natCast] at h;rw[e] at h;exact h
structure rm (w:World) (t b:Nat) (key:iz) (kv mv lv:Value) (gs:Nat->Nat) (k n1:Nat):Prop where
 vx:w.ownsRow n1 5 1 kv 32 (aQ key)
 mp:∃ mb,mv=.map (some mb)/\w.heap[mb]?=some (.map #[] 0)
 box:w.heap[t]?=some (.cells #[iq b,kv,lv,mv] 189 (0,0))
 row:w.ownsRow n1 190 1 lv k (oN gs (λk=>kp k) k)
 oB:∀ j,j<k->ke w (gs j) 179 (List.replicate (kp j*16) 0)/\n1<=gs j
 inj:∀ i j,i<k->j<k->gs i=gs j->i=j
theorem rm.push {w:World}{t b:Nat}{key:iz}{kv mv lv:Value}{gs:Nat->Nat}{k n1:Nat}(h:rm w t b key kv mv lv gs k n1) (hn1:n1<=w.heap.size) (ht:n1<=t){w3:World}(hR:aA No w w3){g:Nat}(hg:w.heap.size<=g)
  (hA:ke w3 g 179 (List.replicate (kp k*16) 0)){x:Value}(hx:Cells w3 (λ_=>True) x 1 1 [ir g (kp k) (kp k)]) (hk:k<4):
  ∃ v' w4,(Builtin.append_ #[187,187] 187 #[lv,x]).run prog w3=.ok v' w4/\w4.cell? (iu t 2)=some lv/\w4.frozen? (iu t 2)=false/\(∃ g' cp,v'=ir g' (k+1) cp)/\
   (∃ gs',rm (w4.setCell (iu t 2) v') t b key kv mv v' gs' (k+1) n1)/\Below n1 w (w4.setCell (iu t 2) v'):=by
 obtain⟨v',w4,hr,C,D,I⟩:=xi (P:=prog) (bytes:=24) (t:=187) underlying187 BC rfl de h.row hn1 hR hx (by simp[Value.oneCell']) mx om 187
 have a:∀ {p:Nat}{cs:Array Value}{ty:TypeId},w3.heap[p]?=some (.cells cs ty (0,0))->190≠ty->w4.heap[p]?=some (.cells cs ty (0,0)):=λ{p cs ty} hp z=>by have A:=dE h.row (λg hg=>hR.block g (h.row.lt g hg).2 id);rw[D.block p (dC hp) (o6 A hp z)];exact hp
 have s:=(hR.block t (dC h.box) id).trans h.box;have c:=a s de
 have B:v'.ownBlock≠some t:=by intro e;obtain⟨cur,hc⟩:=kA C e;rw[c] at hc;simp only[IJ] at hc;exact absurd hc.2.1 de
 have u:Below n1 w w4:=(hR.no.mono hn1).trans (D.below (am hn1 hR.size) (λi hi e=>by have:=kJ h.row i e;omega));obtain⟨gs',o⟩:=Ex (λj=>if j=k then g else gs j:Nat->Nat)
 have f:gs' k=g:=by rw[o];simp
 have d:∀ j,j<k->gs' j=gs j:=λj r=>by rw[o];simp[show j≠k by omega]
 have y:oN gs' (λk=>kp k) (k+1)=oN gs (λk=>kp k) k++[ir g (kp k) (kp k)]:=by rw[BB,f,show oN gs' (λk=>kp k) k=oN gs (λk=>kp k) k from dZ (λj r=>by rw[d j (by simpa using r)])]
 have l:∀ {p:Nat}{cs:Array Value},w4.heap[p]?=some (.cells cs 179 (0,0))->(w4.setCell (iu t 2) v').heap[p]?=some (.cells cs 179 (0,0)):=λ{p cs} hp=>by
  rw[kD _ _ _ (by rintro rfl;rw[c] at hp;simp only[IJ] at hp;exact absurd hp.2.1 de)]
  exact hp
 refine⟨v',w4,hr,by rw[cell_of c];rfl,kY c 2,?_,⟨gs',⟨?_,?_,?_,?_,λj r=>?_,λi j hi r e=>?_⟩⟩,u.setCell ht _⟩
 ·obtain⟨g',cp,e,_⟩:=kz C om;exact⟨g',cp,e⟩
 ·refine dE h.vx (λp hp=>?_);obtain⟨cur,hc⟩:=kA h.vx hp;have q:=a ((hR.block p (dC hc) id).trans hc) de
  rw[kD _ _ _ (by rintro rfl;rw[c] at q;simp only[IJ] at q;exact absurd q.2.1 de),q,hc]
 ·obtain⟨mb,F,n⟩:=h.mp;have E:=(hR.block mb (dC n) id).trans n;refine⟨mb,F,?_⟩
  rw[kD _ _ _ (by
   rintro rfl;rw[h.box] at n;cases n),D.block mb (dC E) (by
   intro G;obtain⟨cur,hc⟩:=kA h.row G;rw[hc] at n;cases n),E]
 ·rw[lz c];rfl
 ·rw[y];exact dE C (λp hp=>kD _ _ _ (by rintro rfl;exact B hp))
 ·by_cases m:j=k
  ·subst m;rw[f];exact⟨l (a hA de),am hn1 hg⟩
  ·rw[d j om];obtain⟨h1,H⟩:=h.oB j om;exact⟨l (a ((hR.block _ (dC h1) id).trans h1) de),H⟩
 ·by_cases v:i=k<;>by_cases m:j=k
  ·omega
  ·subst v;rw[f,d j om] at e;have:=dC (h.oB j om).1;omega
  ·subst m;rw[f,d i om] at e;have:=dC (h.oB i om).1;omega
  ·rw[d i om,d j om] at e;exact h.inj i j om om e
end Go.Proofs.YthmcbgidehjlbaaGreat.Fd
namespace Go.Proofs.YthmcbgidehjlbaaGreat.RA
open _root_.Go.Proofs.Tryz
open Go
theorem Hh {c:Cx}{K:List (Nat×Value)}{P:Program}{t:TypeId}{x x':Operand}{y y' z:Value}{ds:Option Nat}{ty:TypeId}{ps:String}{af:Array Edge}{gu:Option (Nat×Bool)}{w w':World}
  (hx:ky c K x=some y) (hx':ky c K x'=some y') (hr:(Instr.makeSlice t y y').run P w=.ok z w'):
  (execOp (ev c.a0 K) ⟨ds,.makeSlice t x x',ty,ps,af,gu⟩).run P w=.ok (.value z) w':=by
 simp[execOp,kH hx,kH hx',hr,Result.andThen]
end Go.Proofs.YthmcbgidehjlbaaGreat.RA
namespace Go.Proofs.YthmcbgidehjlbaaGreat.Fd
open _root_.Go.Proofs.Tryz
open Go Go.RowKit K
variable {w:World}{t b N lg mb:Nat}{key:iz}{gs:Nat->Nat}{Ls:List iz}{Tx:List (Int×Value)}{lcur:Array Value}
theorem rm.after {w':World}{kv mv lv:Value}{k n1:Nat}(h:rm w t b key kv mv lv gs k n1) (hb:Below w.heap.size w w'):rm w' t b key kv mv lv gs k n1:=⟨dE h.vx (λg hg=>hb.block g (kt h.vx g hg)),(by obtain⟨mb,e,hm⟩:=h.mp;exact⟨mb,e,(hb.block mb (dC hm)).trans hm⟩),(hb.block t (dC h.box)).trans h.box,dE h.row (λg hg=>hb.block g (kt h.row g hg)),λj a=>⟨(h.oB j a).1.dB (hb.block _ (dC (h.oB j a).1)),(h.oB j a).2⟩,h.inj⟩
def xj (n:Nat):List iz:=(List.range n).map λ(k:Nat)=>List.replicate (kp k*16) 0
def BM (w:World) (t N:Nat) (Tx:List (Int×Value)):Prop:=∃ mb,N<=mb/\w.cell? (iu t 3)=some (.map (some mb))/\k9 w mb Tx
def vz (o:Obj):Prop:=(∃ cs ty,tk ty/\o=.cells cs ty (0,0))\/∃ es c,o=.map es c
theorem vz.ne {o:Obj}(h:vz o){cs:Array Value}{ty:TypeId}{m:Nat×Nat}(hty:¬ tk ty):o≠.cells cs ty m:=by
 rintro rfl;rcases h with ⟨b,d,h1,a⟩|⟨es,c,a⟩
 ·simp only[IJ] at a;exact hty (a.2.1 ▸ h1)
 ·cases a
structure lx (w:World) (t b N:Nat) (gs:Nat->Nat) (key:iz) (Ls:List iz) (Tx:List (Int×Value)):Prop where
 tree:ll w t b gs key Ls
 tn:N<=t
 gn:∀ k,k<Ls.length->N<=gs k
 qI:BM w t N Tx
theorem lx.dB {w':World}(h:lx w t b N gs key Ls Tx) (hb:b<=N) (hk:∀ (g:Nat) (o:Obj),b<=g->w.heap[g]?=some o->vz o->w'.heap[g]?=w.heap[g]?):lx w' t b N gs key Ls Tx:=by
 obtain⟨⟨kv,lv,mv,cs,h1,e,f,i,l⟩,tn,gn,mb,a,j,hm⟩:=h;have ht:=(hk t _ (am hb tn) h1 (.inl ⟨_,_,.inl rfl,rfl⟩)).trans h1;refine⟨⟨kv,lv,mv,cs,ht,dE e (λg hg=>?_),dE f (λg hg=>?_),λk L d=>⟨(i k L d).1.dB ?_,(i k L d).2⟩,l⟩,tn,gn,mb,a,?_,hm.dB ?_⟩
 ·obtain⟨cur,hc⟩:=kA e hg;exact hk g _ (kJ e g hg) hc (.inl ⟨_,_,.inr (.inl rfl),rfl⟩)
 ·obtain⟨cur,hc⟩:=kA f hg;exact hk g _ (kJ f g hg) hc (.inl ⟨_,_,.inr (.inr (.inl rfl)),rfl⟩)
 ·exact hk _ _ (am hb (gn k (aD.1 d).1)) (i k L d).1 (.inl ⟨_,_,.inr (.inr (.inr rfl)),rfl⟩)
 ·exact (az (ht.trans h1.symm)).trans j
 ·obtain⟨⟨es,c,m,_⟩,_⟩:=hm;exact hk mb _ (am hb a) m (.inr ⟨_,_,rfl⟩)
theorem lx.lower {N':Nat}(h:lx w t b N gs key Ls Tx) (hN:N'<=N):lx w t b N' gs key Ls Tx:=by obtain⟨h1,a,c,mb,d,e⟩:=h;exact⟨h1,am hN a,λk hk=>am hN (c k hk),mb,am hN d,e⟩
theorem lx.after {w':World}(h:lx w t b N gs key Ls Tx) (hb:b<=N) (hc:Below w.heap.size w w'):lx w' t b N gs key Ls Tx:=h.dB hb (λg _ _ hg _=>hc.block g (bm.1 hg).1)
theorem lx.qk {w':World}{n:Nat}(h:lx w t b N gs key Ls Tx) (hb:b<=N) (hB:Bk w b n){C:Nat->Prop}(hc:aA (λg=>C g\/kn w b g) w w') (hC:∀ (g:Nat) (o:Obj),b<=g->w.heap[g]?=some o->vz o->¬ C g):lx w' t b N gs key Ls Tx:=
 h.dB hb (λg o c hg d=>hc.block g (bm.1 hg).1 (λe=>by
  rcases e with e|e
  ·exact hC g o c hg d e
  ·obtain⟨cs,t,m,a,ht⟩:=kn.obj hB e;rw[hg] at a;rcases ht with rfl|rfl
   ·exact d.ne (ty:=223) (by rintro (e|e|e|e)<;>exact absurd e de) (aF a)
   ·exact d.ne (ty:=145) (by rintro (e|e|e|e)<;>exact absurd e de) (aF a)))
def LG (lcur:Array Value) (lg t mb:Nat) (w:World):Prop:=w.heap[lg]?=some (.cells lcur 190 (0,0))/\(∃ cs,w.heap[t]?=some (.cells cs 189 (0,0))/\cs[3]?=some (.map (some mb)))/\w.heap[mb]?=some (.map #[] 0)
theorem LG.qI (h:LG lcur lg t mb w) (hN:N<=mb):BM w t N []:=by obtain⟨_,⟨cs,h1,a⟩,b⟩:=h;exact⟨mb,hN,(cell_of h1 3).trans a,⟨⟨#[],0,b,rfl,by simp,by simp⟩,List.Pairwise.nil,by simp⟩⟩
theorem LG.qk {n x:Nat}{w':World}(h:LG lcur lg t mb w) (hB:Bk w b n) (hc:kf (λg=>g=x) b w w') (hx:∃ M,ke w x 179 M):LG lcur lg t mb w':=by
 obtain⟨f,⟨cs,h1,k⟩,a⟩:=h;obtain⟨M,i⟩:=hx
 have c:∀ {g:Nat}{cs:Array Value}{ty:TypeId},w.heap[g]?=some (.cells cs ty (0,0))->ty≠179->¬ g=x:=λ{g cs ty} hg ht e=>by subst e;have d:=i.symm.trans hg;simp only[IJ] at d;exact ht d.2.1.symm
 refine⟨hc.at hB f (c f de) de de,⟨cs,hc.at hB h1 (c h1 de) de de,k⟩,?_⟩;rw[hc.block mb (dC a) ?_,a];rintro (rfl|e)
 ·rw[i] at a;cases a
 ·obtain⟨j,m,m',l,_⟩:=kn.obj hB e;rw[l] at a;cases a
theorem Hi {n:Nat}{S:Nat->Prop}{kv:Value}(hB:Bk w b n) (hn:n<=1000) (hk:Bytes w S kv key) (hkl:key.length=32):
  Calls prog 61 #[iw 50,kv,iq b] w λe w'=>∃ t,e=.returned (.tuple #[iq t,iw 0])/\w.heap.size<=t/\kf No b w w'/\(∃ n',n'<=n+300/\Bk w' b n')/\∃ gs Ls,lx w' t b w.heap.size gs key Ls []/\Ls.length=4:=by
 obtain⟨ka,kc,rfl,cb,cc⟩:=hk.shape;obtain⟨KL,E⟩:=Ex key.length;have Y:KL=32:=by rw[E];exact hkl
 rw[<-E];subst Y;have ax:=LH (wG w);have c5:=@fK prog;have an:=LH hB;have a7:=LH hk;replace E:=LH E;clear hB hk;go_enter func61,ntmps61
 go_wp2_with fail
 refine ax.o.mono ?_;rintro e w1 ⟨rfl,c⟩;have K:=LH (q0 (Cells.dB a7.o c.size (λg _ hg=>c.block g hg):Bytes w1 S _ key) om);rw[<-E.o] at K;replace c:=LH c;clear ax
 go_wp2_with fail
 refine K.o.mono ?_;rintro e w2 ⟨v,rfl,hv,I,-⟩;obtain⟨kg,C,rfl,_⟩:=kz hv om;replace hv:=LH hv;replace I:=LH I;clear K
 go_wp2_with fail
 obtain⟨a,r⟩:=Ex ((w2.alloc (.map #[] 0)).alloc (.cells #[iq b,ir kg 32 C,.slice none 0 0,.map (some w2.heap.size)] 189));obtain⟨t,ht⟩:=Ex (w2.heap.size+1);obtain⟨mv,B⟩:=Ex (Value.map (some w2.heap.size));have J:Below w2.heap.size w2 a:=by rw[r];exact ((ag _ _).alloc (ae _) _).alloc sm _
 have c7:w.heap.size<=w2.heap.size:=am c.o.size I.o.size;have d:Below w.heap.size w a:=c.o.trans ((I.o.mono c.o.size).trans (J.mono c7))
 have G:rm a t b key (ir kg 32 C) mv (.slice none 0 0) (λ_=>0) 0 w.heap.size:=by refine⟨kU (dE hv.o (λg hg=>J.block g (kt hv.o g hg))) c.o.size,⟨w2.heap.size,B,by rw[r];exact (aB _ _ _ sm).trans (aj w2 _)⟩,?_,aS _ _ _ _,λj hj=>absurd hj (dH _),λi j hi=>absurd hi (dH _)⟩;rw[r,ht,B];have h:=aj (w2.alloc (.map #[] 0)) (.cells #[iq b,ir kg 32 C,.slice none 0 0,.map (some w2.heap.size)] 189);simp only[aN] at h;exact h
 have ay:=LH (wG a);have ad:w.heap.size<=t:=om;rw[<-r];have af:=ht;rw[<-af];refine G5 r ht B d G ?_;clear r ht B d G;intro r ht B d G;clear af J hv c I c5;refine ay.o.mono ?_;rintro e R ⟨rfl,a6⟩;have bR:=LH (G.o.after a6);have b4:=LH (d.o.trans (a6.mono d.o.size));clear G ay a6;go_wp2
 go_loopg [29] 4 (λg ix wr=>∃ k lv gs,k+g=4/\ix=iw (k:Nat)/\Hd (rm wr t b key (ir kg 32 C) mv lv gs k w.heap.size)/\Hd (Below w.heap.size w wr))
 case atStart=>exact⟨0,_,_,by omega,rfl,bR.o,b4.o⟩
 case round=>
  obtain⟨k,lv,gs,b7,rfl,m,HW⟩:=hrel;by_cases Q:k<4
  ·obtain⟨g1,rfl⟩:∃ i,gk=i+1:=⟨gk - 1,by omega⟩;have b8:(k:Int)<4:=om;obtain⟨X,rfl⟩:=Ex (wr:World);obtain⟨W,z⟩:=Ex (kp k);have H:=λa=>vh k a
   rw[<-z] at H;have b2:W<=50:=z ▸ vt k;have A:=Dr X
   have U:=dC m.o.box;have c2:=cell_of m.o.box 2;obtain⟨la,lc,rfl,_⟩:=(Cells.own m.o.row).shape;refine G5 H A U c2 z ?_;clear H A U c2 z;intro H A U c2 z;go_wp2;refine RA.rt (aA No) [5,1,1,1,1,1,1,4,3,3,6,5,5,7] [10,13] (λ_=>True) trivial (λ_=>aA.refl _ _) (λ_ _ _ h k=>h.trans k) (h:=?_);intro cx;refine RA.pq ?_
   repeat refine RA.qq ?_
   refine RA.fk prog t 2 (h:=?_);refine RA.lk prog (.slice la k lc) (hc:=λa hp=>by exact ((A.o _ hp.1).cell (p:=iu t 2) U.o id).trans c2.o) (h:=?_)
   repeat refine RA.qq ?_
   refine RA.kc (P:=prog) [iw 50,iw k] (iw W) (hr:=λa hp hH=>(H.o a).mono (by rintro e R ⟨rfl,h2⟩;exact⟨rfl,aA.dD h2 _,trivial⟩)) (hn:=?_)
   refine RA.bq (λx a=>∃ g,x=ir g W W/\X.heap.size<=g/\ke a g 179 (List.replicate (W*16) 0)) (hs:=λ_ _ _ h k=>by obtain⟨g,h1,h2,h3⟩:=k;exact⟨g,h1,h2,h3.dB (h.block g (dC h3) id)⟩) (he:=λ_ _ _ _ _=>trivial) (hr:=λa hp _=>by refine⟨ir a.heap.size W W,a.alloc (.cells (aQ (List.replicate (W*16) 0)).toArray 179),?_,(aA.refl _ _).alloc _,⟨_,rfl,(A.o _ hp.1).size,aj a _⟩,trivial⟩;have hm:=Hg a W om;exact RA.Hh rf rf hm) (hn:=λu=>?_)
   refine RA.bq (λx a=>Cells a (λ_=>True) x 1 1 [u]) (hs:=λ_ _ _ h k=>k.ki h (λ_ _ _=>id)) (he:=λ_ _ _ _ _=>trivial) (hr:=λa hp _=>by obtain⟨g,h1,_,_⟩:=hp.fact 0 rfl kr;refine⟨ir a.heap.size 1 1,a.alloc (.cells #[u] 190),?_,(aA.refl _ _).alloc _,mC a #[u] 190 1 1 rfl mx,trivial⟩;clear hp;subst h1;show (execOp _ _).run prog a=_;go_simp) (hn:=λx=>?_)
   refine RA.oH (λv' R=>R.cell? (iu t 2)=some (.slice la k lc)/\R.frozen? (iu t 2)=false/\(∃ g cp,v'=ir g (k+1) cp)/\(∃ D,rm (R.setCell (iu t 2) v') t b key (ir kg 32 C) mv v' D (k+1) w.heap.size)/\Below w.heap.size X (R.setCell (iu t 2) v')) (hr:=(λa c8 _=>by
    have hp:=c8.first kr;obtain⟨g,h1,h2,h3⟩:=hp.fact 1 rfl kr;have hx:=hp.fact 0 rfl kr;have bB:u=ir g (kp k) (kp k):=by rw[<-z.o];exact h1
    have c9:Cells a (λ_=>True) x 1 1 [ir g (kp k) (kp k)]:=bB ▸ hx;obtain⟨v',R,k1,k2⟩:=m.o.push HW.o.size ad (A.o _ hp.1) h2 (by rw[<-z.o];exact h3) c9 Q;exact⟨v',R,RA.nS rf rf k1,k2⟩)) (hn:=λv'=>?_)
   refine RA.pq ?_;refine RA.pk prog t 2 (h:=?_)
   refine RA.lr (λV=>(∃ D,rm V t b key (ir kg 32 C) mv v' D (k+1) w.heap.size)/\Below w.heap.size X V) (hr:=λR _ hH=>by obtain⟨f1,f2,⟨g',cp,rfl⟩,f3,f4⟩:=hH;refine⟨_,RA.kL rf rf (w':=R.setCell (iu t 2) (ir g' (k+1) cp)) ?_,f3,f4⟩;clear f3 f4;show (Instr.storeAt _ _ _).run prog R=_;go_simp) (hn:=?_)
   refine RA.RA.kZ (λV hH=>?_);simp only[RA.RP,cx];obtain⟨⟨D,y1⟩,y2⟩:=hH;replace y1:=LH y1;replace y2:=LH (HW.o.trans y2);go_wp2;go_roundg g1
   case measure=>omega
   case rel=>exact⟨k+1,_,D,by omega,by go_num,y1.o,y2.o⟩
  ·obtain rfl:gk=0:=om;obtain rfl:k=4:=om;obtain⟨X,rfl⟩:=Ex (wr:World);obtain⟨lg,lc,rfl,_,_⟩:=kz m.o.row om;obtain⟨f,aa⟩:=kA m.o.row (g:=lg) rfl
   have a8:∀ k,k<4->f[k]?=some (ir (gs k) (kp k) (kp k)):=λk hk=>by obtain⟨g',off,c',hv,_,_,_,_,K⟩:=Cells.at (Cells.own m.o.row) om;simp only[IJ] at hv;obtain⟨⟨rfl,rfl,_⟩,_,_⟩:=hv;have h8:=K k _ (uk hk);rw[aw,cell_of aa] at h8;exact h8
   have b3:b<=w.heap.size:=by obtain⟨lv,hx⟩:=an.o.box;exact cE (dC hx)
   have a1:ll X t b gs key (xj 4):=by
    refine⟨_,_,_,λk=>kp k,m.o.box,kU m.o.vx b3,kU m.o.row b3,λk L F=>?_,λi j hi hj=>m.o.inj i j hi hj⟩;have hk:k<4:=(aD.1 F).1
    have e:L=List.replicate (kp k*16) 0:=by
     have h8:(xj 4)[k]?=some (List.replicate (kp k*16) 0):=by simp[xj,hk]
     rw[h8] at F;exact (aF F).symm
    rw[e];exact⟨(m.o.oB k hk).1,by simp,ae _⟩
   have b5:=LH (λk hk=>(m.o.oB k hk).2);have c2:=LH (cell_of m.o.box 2);have bC:=LH (an.o.after HW.o);have bD:=LH (show kf (λg=>w.heap.size<=g) b w X from kf.dD HW.o);replace a8:=LH a8;obtain⟨mb,bl,bz⟩:=m.o.mp
   have bp:w.heap.size<=mb:=by have e1:=bl.symm.trans B.o;simp only[fL,ao] at e1;omega
   have O:LG f lg t mb X:=⟨aa,⟨_,m.o.box,by rw[bl];rfl⟩,bz⟩;replace O:=LH O;clear aa;replace a1:=LH a1;have bA:=c2.o;clear Q b7 c2;go_wp2;clear bA
   go_loopg [51] 4 (λg ix wr=>∃ k Ls n',k+g=4/\ix=iw (k:Nat)/\n'<=n+50*k/\List.length Ls=4/\Hd (ll wr t b gs key Ls)/\Hd (Bk wr b n')/\Hd (kf (λg=>w.heap.size<=g) b w wr)/\Hd (LG f lg t mb wr))
   case atStart=>exact⟨0,_,n,by omega,rfl,by omega,by simp[xj],a1.o,bC.o,bD.o,O.o⟩
   case round=>
    obtain⟨k,Ls,n',b7,rfl,c6,y,Z,q,hG,F⟩:=hrel;by_cases Q:k<4
    ·obtain⟨g1,rfl⟩:∃ i,gk=i+1:=⟨gk - 1,by omega⟩;have b8:(k:Int)<4:=om;obtain⟨W,z⟩:=Ex (kp k);have b2:W<=50:=z ▸ vt k;have ck:wr.cell? (iu lg k)=some (ir (gs k) W W):=by rw[cell_of F.o.1,z];exact a8.o k Q
     replace z:=LH z;go_wp2;clear ck
     go_loopg [58] W (λg ix V=>∃ j Ls n',j+g=W/\ix=iw (j:Nat)/\n'<=n+50*k+j/\List.length Ls=4/\Hd (ll V t b gs key Ls)/\Hd (Bk V b n')/\Hd (kf (λg=>w.heap.size<=g) b w V)/\Hd (LG f lg t mb V))
     case atStart=>exact⟨0,Ls,n',by omega,rfl,by omega,y,Z.o,q.o,hG.o,F.o⟩
     case round=>
      obtain⟨j,Ls,n',cf,rfl,c6,y,Z,q,hG,F⟩:=hrel;by_cases bW:j<W
      ·obtain⟨g2,rfl⟩:∃ i,gk=i+1:=⟨gk - 1,by omega⟩;have ba:(j:Int)<W:=om;by_cases a7:k=0
       ·subst a7;go_wp2;go_roundg g2
        case measure=>omega
        case rel=>exact⟨j+1,Ls,n',by omega,by go_num,by omega,y,Z.o,q.o,hG.o,F.o⟩
       ·have ca:(0:Int)<k:=om;obtain⟨l,hl⟩:∃ l,k=l+1:=⟨k - 1,by omega⟩;have HR:=BI Z.o q.o om l j om (by rw[<-hl,<-z.o];exact bW) om;rw[<-hl] at HR;replace HR:=LH HR;replace hl:=LH hl
        go_wp2_with fail
        refine HR.o.mono ?_;rintro e w6 ⟨rfl,L',z2,z3,z4⟩;have cd:∃ M,ke w6 (gs k) 179 M:=by obtain⟨M,_,hM,_⟩:=z2.level (k:=k) (by rw[bg];omega);exact⟨M,hM⟩
        have b6:∃ M,ke wr (gs k) 179 M:=by obtain⟨M,_,hM,_⟩:=Z.o.level (k:=k) om;exact⟨M,hM⟩
        have s:LG f lg t mb w6:=F.o.qk q.o z4 b6;have T:kf (λg=>w.heap.size<=g) b w w6:=hG.o.trans (z4.mono (λg hg e=>by rw[e];exact b5.o k Q));refine G4 z2 z3 T s ?_;clear z2 z3 T s;intro z2 z3 T s;clear z4 HR;go_wp2;go_roundg g2
        case measure=>omega
        case rel=>exact⟨j+1,_,n'+1,by omega,by go_num,by omega,by rw[bg];exact y,z2.o,z3.o,T.o,s.o⟩
      ·obtain rfl:gk=0:=om;have ba:¬ (j:Int)<W:=om;go_wp2;go_roundg g1
       case measure=>omega
       case rel=>exact⟨k+1,Ls,n',by omega,by go_num,by omega,y,Z.o,q.o,hG.o,F.o⟩
    ·obtain rfl:gk=0:=om;have b8:¬ (k:Int)<4:=om;have N:kf No b w wr:=hG.o.mono (λg hg e=>absurd e om);replace N:=LH N;go_wp2;go_ret2;exact⟨t,rfl,ad,N.o,⟨n',by omega,q.o⟩,gs,Ls,⟨Z.o,ad,λk hk=>b5.o k om,F.o.qI bp⟩,y⟩
variable {M:iz}
structure ou (xs:List Value) (d s b:Nat) (gH:ByteArray) (D M:iz):Prop where
 len:xs.length=106
 one:∀ v ∈ xs,v.oneCell'=true
 c0:xs[0]?=some (iq d)
 c1:xs[1]?=some (iq s)
 c2:xs[2]?=some (.string gH)
 c3:xs[3]?=some (iw 10)
 c4:xs[4]?=some (iw 100)
 BO:∀ (j:Nat) v,(aQ D)[j]?=some v->xs[5+j]?=some v
 Hq:∀ (j:Nat) v,(aQ M)[j]?=some v->xs[69+j]?=some v
 Hr:xs[101]?=some (iq b)
 uw:xs[102]?=some (iw 10)
 BP:xs[103]?=some (iw 50)
 tt:xs[104]?=some (iw 60)
 rT:xs[105]?=some (iw 50)
 dl:D.length=64
 ml:M.length=32
def kT (D M:iz):List Value:=[iw 10,iw 100]++(aQ D++aQ M)
def o9 (d s b:Nat) (gH:ByteArray) (D M:iz):List Value:=[iq d,iq s,.string gH]++(kT D M++[iq b,iw 10,iw 50,iw 60,iw 50])
theorem oC {D:iz}(hD:D.length=64) (hM:M.length=32):(kT D M).length=98:=by simp[kT,km,hD,hM]
theorem ux {D:iz}:∀ v ∈ kT D M,v.oneCell'=true:=by
 intro v hv;simp only[kT,bw,bi,bL,bS] at hv;rcases hv with (rfl|rfl)|hv|hv
 ·rfl
 ·rfl
 ·exact K.nJ D v hv
 ·exact K.nJ M v hv
theorem BQ (d s b:Nat) (gH:ByteArray){D:iz}(hD:D.length=64) (hM:M.length=32):ou (o9 d s b gH D M) d s b gH D M:=by
 have f:=oC hD hM;have hd:=km D;have hm:=km M
 have a:∀ j,(o9 d s b gH D M)[101+j]?=([iq b,iw 10,iw 50,iw 60,iw 50]:List Value)[j]?:=λj=>by rw[o9,aL (by simp;omega),aL (by simp;omega)];congr 1;simp;omega
 have c:∀ j,j<98->(o9 d s b gH D M)[3+j]?=(kT D M)[j]?:=λj e=>by rw[o9,aL sm,aX (by simp;omega)];simp
 refine⟨by simp[o9,f],?_,rfl,rfl,rfl,rfl,rfl,λj v hv=>?_,λj v hv=>?_,a 0,a 1,a 2,a 3,a 4,hD,hM⟩
 ·intro v hv;simp only[o9,bw,bi,bL,bS] at hv;rcases hv with (rfl|rfl|rfl)|hv|rfl|rfl|rfl|rfl|rfl<;>first|rfl|exact ux v hv
 ·have e:j<64:=by have:=(aD.1 hv).1;omega
  rw[show 5+j=3+(2+j) by omega,c _ om,kT,aL sm,aX (by simp;omega)]
  simpa using hv
 ·have e:j<32:=by have:=(aD.1 hv).1;omega
  rw[show 69+j=3+(66+j) by omega,c _ om,kT,aL (by simp;omega),aL (by simp;omega)];rw[<-hv];congr 1;simp;omega
theorem uy:(prog.info? 96).map (·.size)=some 106:=kr
structure mU (w:World) (q:Nat) (xs:List Value):Prop where
 at_:w.heap[q]?=some (.cells xs.toArray 96 (0,0))
section
variable {w w':World}{q d s b:Nat}{xs:List Value}{gH:ByteArray}{D M:iz}
theorem mU.get (h:mU w q xs){j:Nat}{v:Value}(hj:xs[j]?=some v):w.cell? (iu q j)=some v:=by rw[cell_of h.at_];simpa using hj
theorem mU.ki (h:mU w q xs) (hc:aA No w w'):mU w' q xs:=⟨(hc.block q (dC h.at_) id).trans h.at_⟩
theorem mU.load (h:mU w q xs) (hl:xs.length=106):(Instr.loadAt 96 (iq q)).run prog w=.ok (.agg xs.toArray) w:=mE underlying96 (by rw[hl];exact uy) (λj v hv=>by rw[aw];exact h.get hv)
theorem rU (w:World) (xs:List Value):mU (w.alloc (.cells xs.toArray 96)) w.heap.size xs:=⟨aj w _⟩
theorem BR (h:ou xs d s b gH D M) (w:World):Calls prog 101 #[.agg xs.toArray] w λe w'=>e=.returned (iw 13)/\Below w.heap.size w w':=by obtain⟨c,hc⟩:=Ex xs.toArray;have a:=(rU w xs).get h.rT;rw[<-hc] at a ⊢;replace hc:=LH hc;clear h;go_enter func101,ntmps101;go_wp2;go_ret;exact⟨rfl,(ag _ _).alloc (ae _) _⟩
theorem BS (h:ou xs d s b gH D M) (w:World):Calls prog 102 #[.agg xs.toArray] w λe w'=>e=.returned (iw 1)/\Below w.heap.size w w':=by obtain⟨c,hc⟩:=Ex xs.toArray;have a:=(rU w xs).get h.rT;rw[<-hc] at a ⊢;replace hc:=LH hc;clear h;go_enter func102,ntmps102;go_wp2;go_ret;exact⟨rfl,(ag _ _).alloc (ae _) _⟩
theorem xk (h:ou xs d s b gH D M) (w:World):Calls prog 75 #[.agg xs.toArray] w λe w'=>e=.returned (iw 23)/\Below w.heap.size w w':=by
 obtain⟨p,a⟩:=Ex (w.alloc (.cells xs.toArray 96));obtain⟨q,j⟩:=Ex w.heap.size;have l:mU p q xs:=by rw[a,j];exact rU w xs
 have b1:Below w.heap.size w p:=by rw[a];exact (ag _ _).alloc (ae _) _
 have t:=LH (BR h);have n:=h.len;have f:=Dr p
 obtain⟨c,hc⟩:=Ex xs.toArray;rw[<-hc] at t a ⊢;have g:=λi m=>(l.ki (w':=i) m).load n
 rw[<-hc] at g;revert h l b1 n f hc g;refine H7 ?_;intro h l b1 n f hc g;go_enter func75,ntmps75;go_wp2;rw[<-a,<-j];replace a:=LH a;replace j:=LH j;refine RA.rt (aA No) [1,1,1,1,4,1,1] [] (λ_=>True) trivial (λ_=>aA.refl _ _) (λ_ _ _ h k=>h.trans k) (h:=?_);intro cx;refine RA.fk prog q 102 (h:=?_);refine RA.fk prog q 102 (h:=?_);refine RA.lk prog (iw 10) (hc:=λi hp=>by exact (l.o.ki (f.o _ hp.1)).get h.o.uw) (h:=?_);refine RA.ld (y':=.agg c) (hr:=λi hp=>g.o i (f.o _ hp.1)) (h:=?_);refine RA.kc (P:=prog) [.agg c] (iw 13) (hr:=λi hp hH=>(t.o i).mono (by rintro e y ⟨rfl,u⟩;exact⟨rfl,aA.dD u _,trivial⟩)) (hn:=?_);refine RA.vk prog (iw 23) (hr:=λw hp=>by (try go_simp);rfl) (h:=?_)
 repeat refine RA.qq ?_
 refine RA.RA.done rfl (λw2 r x hH=>?_);clear x hH;simp only[RA.RP,cx]
 try simp only[cn]
 try simp only[cG]
 have v:=LH (b1.o.trans ((f.o _ r).no.mono b1.o.size));clear r;go_wp2;go_ret;exact⟨rfl,v.o⟩
theorem yP (h:ou xs d s b gH D M) (w:World):Calls prog 74 #[.agg xs.toArray] w λe w'=>e=.returned (iw 24)/\Below w.heap.size w w':=by
 obtain⟨r,a⟩:=Ex (w.alloc (.cells xs.toArray 96));obtain⟨q,j⟩:=Ex w.heap.size;have p:mU r q xs:=by rw[a,j];exact rU w xs
 have b1:Below w.heap.size w r:=by rw[a];exact (ag _ _).alloc (ae _) _
 have v:=LH (xk h);have t:=LH (BS h);have n:=h.len;have f:=Dr r
 obtain⟨c,hc⟩:=Ex xs.toArray;rw[<-hc] at v t a ⊢;have g:=λi m=>(p.ki (w':=i) m).load n
 rw[<-hc] at g;revert h p b1 n f hc g;refine H7 ?_;intro h p b1 n f hc g;go_enter func74,ntmps74;go_wp2;rw[<-a,<-j];replace a:=LH a;replace j:=LH j;refine RA.rt (aA No) [1,4,1,4,1,1] [] (λ_=>True) trivial (λ_=>aA.refl _ _) (λ_ _ _ h k=>h.trans k) (h:=?_);intro cx;refine RA.ld (y':=.agg c) (hr:=λi hp=>g.o i (f.o _ hp.1)) (h:=?_);refine RA.kc (P:=prog) [.agg c] (iw 23) (hr:=λi hp hH=>(v.o i).mono (by rintro e z ⟨rfl,l⟩;exact⟨rfl,aA.dD l _,trivial⟩)) (hn:=?_);refine RA.ld (y':=.agg c) (hr:=λi hp=>g.o i (f.o _ hp.1)) (h:=?_);refine RA.kc (P:=prog) [.agg c] (iw 1) (hr:=λi hp hH=>(t.o i).mono (by rintro e z ⟨rfl,l⟩;exact⟨rfl,aA.dD l _,trivial⟩)) (hn:=?_);refine RA.vk prog (iw 24) (hr:=λw hp=>by (try go_simp);rfl) (h:=?_)
 repeat refine RA.qq ?_
 refine RA.RA.done rfl (λw2 u y hH=>?_);clear y hH;simp only[RA.RP,cx]
 try simp only[cn]
 try simp only[cG]
 have x:=LH (b1.o.trans ((f.o _ u).no.mono b1.o.size));clear u;go_wp2;go_ret;exact⟨rfl,x.o⟩
theorem Hs (h:ou xs d s b gH D M) (w:World):Calls prog 65 #[.agg xs.toArray] w λe w'=>e=.returned (.agg #[iw 25,iw 35])/\Below w.heap.size w w':=by
 obtain⟨q,n⟩:=Ex w.heap.size;obtain⟨p,f⟩:=Ex ((w.alloc (.cells xs.toArray 96)).alloc (.cells #[iw 0,iw 0] 27));have l:mU p q xs:=by rw[f,n];exact (rU w xs).ki ((aA.refl _ _).alloc _)
 have b1:Below w.heap.size w p:=by rw[f];exact ((ag _ _).alloc (ae _) _).alloc sm _
 have m:p.heap[q+1]?=some (.cells #[iw 0,iw 0] 27 (0,0)):=by rw[f,n];have h:=aj (w.alloc (.cells xs.toArray 96)) (.cells #[iw 0,iw 0] 27);simp only[aN] at h;exact h
 have r:=LH (yP h p);have v:=h.len;obtain⟨c,hc⟩:=Ex xs.toArray;have a:=l.load v;rw[<-hc] at r f a ⊢;refine G6 hc a h l b1 m ?_;clear hc a h l b1 m;intro hc a h l b1 m;go_enter func65,ntmps65
 go_wp2_with (first|(rw[<-f];refine kQ rfl 96 _ rfl _ _ rfl (n ▸ a.o) ?_)|fail)
 rw[<-f];refine r.o.mono ?_;rintro e w2 ⟨rfl,g⟩;have k:=l.o.ki (aA.dD g _);have d2:=k.get h.o.uw;have d3:=k.get h.o.BP;have t:=(g.block (q+1) (dC m.o)).trans m.o
 have j:(Instr.storeAt 27 (iq (q+1)) (.agg #[iw 25,iw 35])).run prog w2=.ok () (w2.setRow (q+1) #[iw 25,iw 35]):=mf (x:=[iw 25,iw 35]) t kr rfl (by simp[Value.oneCell'])
 have u:(w2.setRow (q+1) #[iw 25,iw 35]).heap[q+1]?=some (.cells #[iw 25,iw 35] 27 (0,0)):=aJ _ _ _ _ _ _ t;have i:Below w.heap.size w (w2.setRow (q+1) #[iw 25,iw 35]):=below_setRow (b1.o.trans (g.mono b1.o.size)) om _;subst n;replace j:=LH j;replace u:=LH u;replace i:=LH i;clear g k t r a m b1 l
 go_wp2_with (first|(refine kI rfl 27 _ _ rfl _ _ rfl rfl j.o ?_)|fail)
 refine aI (bd results65 _ _ (w.heap.size+1) 27 _ (0,0) _ rfl u.o underlying27 rfl kr) rfl ⟨rfl,i.o⟩
end
end Go.Proofs.YthmcbgidehjlbaaGreat.Fd
namespace Go.Proofs.YthmcbgidehjlbaaGreat.K
open _root_.Go.Proofs.Tryz
open Go Go.RowKit
theorem C0 {P:Program}{w w':World}{ops:Array Oper}{rest:List Oper}{o:Oper}{a:Act}{Q:Exit->Act->World->Prop}(hgd:o.guard=none) (d s:Operand) (t t':TypeId)
  (ho:o.op=.call { callee:=.builtin .append,args:=#[d,s],argTypes:=#[t,t'] }) (v u:Value){v':Value}(hd:a.eval d=v) (hs:a.eval s=u)
  (hr:(Builtin.append_ #[t,t'] o.type #[v,u]).run P w=.ok v' w') (h:wpList P ops Q rest (a.put o.dst v') w'):wpList P ops Q (o::rest) a w:=by
 refine cN hgd λK b=>?_
 unfold Oper.wp execOp;simp only[ho,resolve,invoke,builtin,aM,Sem.run_pure,bu,cI,bt,bT,hd,hs,hr];exact b _ _ h
end Go.Proofs.YthmcbgidehjlbaaGreat.K
namespace Go.Proofs.YthmcbgidehjlbaaGreat.Fd
open _root_.Go.Proofs.Tryz
open Go Go.RowKit K
theorem Jo (n:Nat):Builtin.zeroCells (Value.agg #[iy 0,iy 0,iy 0,iy 0,iy 0,iy 0,iy 0,iy 0,iy 0,iy 0,iy 0,iy 0,iy 0,iy 0,iy 0,iy 0]).cells n=(aQ (List.replicate (n*16) 0)).toArray:=by
 have a:(Value.agg #[iy 0,iy 0,iy 0,iy 0,iy 0,iy 0,iy 0,iy 0,iy 0,iy 0,iy 0,iy 0,iy 0,iy 0,iy 0,iy 0]).cells.size=16:=rfl;apply Array.ext
 ·simp[Builtin.zeroCells,km,a]
 ·intro j h1 d;have b:j % 16<16:=eE _ om
  have c:∀ k,k<16->(Value.agg #[iy 0,iy 0,iy 0,iy 0,iy 0,iy 0,iy 0,iy 0,iy 0,iy 0,iy 0,iy 0,iy 0,iy 0,iy 0,iy 0]).cells[k]! = iy 0:=by
   intro k hk;obtain rfl|rfl|rfl|rfl|rfl|rfl|rfl|rfl|rfl|rfl|rfl|rfl|rfl|rfl|rfl|rfl:k=0\/k=1\/k=2\/k=3\/k=4\/k=5\/k=6\/k=7\/k=8\/k=9\/k=10\/k=11\/k=12\/k=13\/k=14\/k=15:=om
   all_goals rfl
  simp only[Builtin.zeroCells,Array.getElem_map,g9,a];rw[c _ b];simp[aQ,u8]
theorem Jp {w:World}{g W C:Nat}{L:iz}(hA:ke w g 179 L) (hL:L.length=C*16) (hW:W<=C) (h0:0<W) (hW2:W<=1000):Calls prog 115 #[ir g W C] w λe w'=>∃ (g' C':Nat) (L':iz),e=.returned (ir g' W C')/\ke w' g' 179 L'/\L'.length=C'*16/\W<=C'/\L'.take (W*16)=L.take (W*16)/\w.heap.size<=g'/\Below w.heap.size w w':=by
 obtain⟨i,u,x,y,z⟩:=cw vo;obtain⟨f,n⟩:=Ex (w.alloc (.cells #[] 179));have b1:Below w.heap.size w f:=by rw[n];exact (ag _ _).alloc (ae _) _
 have s:ke f g 179 L:=hA.dB (b1.block g (dC hA));have q:(L.take (W*16)).length=W*16:=by rw[aR,hL];omega
 have a:=λty=>fS (P:=prog) f 190 ty 179 i _ underlying190 u x (iu w.heap.size 0) 0 0 [] sm (λj v h=>by simp at h) (iu g 0) W C (aQ (L.take (W*16))) (by rw[km,q,y]) (λj v hv=>by
  rw[bJ,aw,cell_of s];have E:j<W*16:=by have:=(aD.1 hv).1;rw[km,q] at this;exact this
  rw[<-hv];simp[aQ,E]) om om (ew om (by rw[z];omega))
 obtain⟨C',m⟩:=Ex (grownCap f (0+W) 0 179);have B:W<=C':=by rw[m];have:=eF f (0+W) 0 179;omega
 obtain⟨L',k⟩:=Ex (L.take (W*16)++List.replicate ((C' - W)*16) 0)
 have d:((([]:List Value).toArray++(aQ (L.take (W*16))).toArray++Builtin.zeroCells (Value.agg #[iy 0,iy 0,iy 0,iy 0,iy 0,iy 0,iy 0,iy 0,iy 0,iy 0,iy 0,iy 0,iy 0,iy 0,iy 0,iy 0]).cells (C' - (0+W))):Array Value)=(aQ L').toArray:=by rw[Jo,k,nI,aw];simp
 rw[<-m,d] at a;rw[aw] at a;obtain⟨w2,l⟩:=Ex (f.drew.alloc (.cells (aQ L').toArray 179));have D:Below f.heap.size f w2:=by rw[l];exact (ag f.heap.size f).drew.alloc (ae _) _
 have A:ke w2 f.heap.size 179 L':=by rw[l];exact aj f.drew _
 rw[<-l] at a;have b:L'.length=C'*16:=by rw[k,aE,q,aK];omega
 have c:L'.take (W*16)=L.take (W*16):=by rw[k,eG om,bh om]
 have p:=b1.trans (D.mono b1.size);have t:w.heap.size<=f.heap.size:=b1.size;have he:=Lib.run_eql_slice_nil (P:=prog) w 190 179 (some (iu g 0)) W C 0 0 underlying190;obtain⟨n1,r⟩:=Ex f.heap.size;rw[<-r] at a A t;rw[n] at a;refine G6 A p b c k m ?_;clear A p b c k m;intro A p b c k m;refine G4 r l a n ?_;clear r l a n;intro r l a n;clear s hA d b1 D u x y z q hL;go_enter func115,ntmps115
 go_wp2_with (at_builtin;refine C0 rfl (.tmp 5) (.tmp 6) 190 190 rfl _ _ rfl rfl (a.o _) ?_)
 go_ret;exact⟨n1,C',L',rfl,A.o,b.o,B,c.o,t,p.o⟩
theorem Jy {P:Program}{w w':World}{ops:Array Oper}{rest:List Oper}{o:Oper}{a:Act}{Q:Exit->Act->World->Prop}(hgd:o.guard=none) (t t':TypeId) (x:Operand) (ho:o.op=.convert t t' x)
  (p v:Value) (hx:a.eval x=p) (hr:(convert t t' p).run P w=.ok v w') (h:wpList P ops Q rest (a.put o.dst v) w'):wpList P ops Q (o::rest) a w:=
 cN hgd λK b=>by unfold Oper.wp execOp;simp only[ho,hx,aM,hr,bu];exact b _ _ h
theorem C5 {w:World}{S:Nat->Prop}{xv:Value}{xl:iz}(i:Nat) (hi:i<=1000) (hx:Bytes w S xv xl):
  Calls prog 111 #[iw i,xv] w λe w'=>∃ v,e=.returned v/\kP w' (λ_=>True) v [[108,101,97,102],kj i,xl]/\Below w.heap.size w w':=by
 obtain⟨n,p,rfl,_,_⟩:=hx.shape;obtain⟨l,b⟩:=Ex xl.length;obtain⟨u,d⟩:=Ex (w.alloc (.cells #[iy 108,iy 101,iy 97,iy 102] 5));have b1:Below w.heap.size w u:=by rw[d];exact (ag _ _).alloc (ae _) _
 have k:mJ w.heap.size [108,101,97,102] 5 (ir w.heap.size 4 4) u:=⟨w.heap.size,(0,0),rfl,ae _,by unfold maxLen;exact cF rfl,by rw[d];exact aj w _⟩;obtain⟨w2,c,m2,g⟩:=vv (P:=prog) (t:=42) underlying42 underlying5 k;have f:=LH (oL i om w2);have a:Mk w.heap.size w w2:=(Mk.dD b1 (ae _)).trans m2;rw[d] at c;revert hx c g a;refine H4 ?_;intro hx c g a;rw[<-b];replace b:=LH b;clear b1 k m2 d;go_enter func111,ntmps111
 go_wp2_with (first|(refine Jy rfl 42 42 _ rfl _ _ rfl c.o ?_)|fail)
 refine f.o.mono ?_;rintro e x ⟨v,rfl,q,m⟩;have h:=a.o.trans (Mk.dD m a.o.1.size);have f1:=(g.o.mk (Mk.dD m a.o.1.size)).bytes;have f2:=pV q;have f4:Bytes x (λ_=>True) (.slice n l p) xl:=by rw[b.o];exact (h.cells hx.o).mono (λ_ _ _=>trivial)
 obtain⟨r,s,rfl,_⟩:=f2.shape
 have z:=LH (rl (w:=x) (S:=λ_=>True) (vs:=[ir w.heap.size 4 4,.slice r (kj i).length s,.slice n l p]) (parts:=[[108,101,97,102],kj i,xl]) rfl (by unfold maxLen;simp) (by
  intro j v hv
  match j with
  | 0=>cases hv;exact f1
  | 1=>cases hv;exact f2
  | 2=>cases hv;exact f4
  | _+3=>simp at hv))
 have y:=LH (h.alloc (ae _) (.cells #[ir w.heap.size 4 4,.slice r (kj i).length s,.slice n l p] 42));clear f1 f2 f4 h q m f;go_wp2;go_ret;exact⟨_,rfl,z.o,y.o.1⟩
end Go.Proofs.YthmcbgidehjlbaaGreat.Fd
namespace Go.Proofs.YthmcbgidehjlbaaGreat.Fd
open Go Go.RowKit K
structure RT (T:TypeId) (N:Nat) (x y:World):Prop where
 os:y.os=x.os
 tape:y.tape=x.tape
 output:y.output=x.output
 size:x.heap.size<=y.heap.size
 lU:∀ g,g<N->g<x.heap.size->y.heap[g]?=x.heap[g]?
 other:∀ (g:Nat) (C:Array Value) (t:TypeId) (m:Nat×Nat),x.heap[g]?=some (.cells C t m)->t≠T->y.heap[g]?=some (.cells C t m)
 box:∀ (g:Nat) (C:Array Value) (m:Nat×Nat),x.heap[g]?=some (.cells C T m)->∃ C',C'.size=C.size/\y.heap[g]?=some (.cells C' T m)
section
variable {T:TypeId}{N:Nat}{x y z:World}
theorem RT.refl:RT T N x x:=⟨rfl,rfl,rfl,ae _,λ_ _ _=>rfl,λ_ _ _ _ h _=>h,λ_ C _ h=>⟨C,rfl,h⟩⟩
theorem RT.mh (h:aA No x y):RT T N x y:=⟨h.os,h.tape,h.output,h.size,λg _ a=>h.block g a id,λg _ _ _ hg _=>(h.block g (dC hg) id).trans hg,λg C _ hg=>⟨C,rfl,(h.block g (dC hg) id).trans hg⟩⟩
theorem RT.trans (h:RT T N x y) (k:RT T N y z):RT T N x z:=by refine⟨k.os.trans h.os,k.tape.trans h.tape,k.output.trans h.output,am h.size k.size,λg hg a=>(k.lU g hg (aH a h.size)).trans (h.lU g hg a),λg C t m hg ht=>k.other g C t m (h.other g C t m hg ht) ht,λg C m hg=>?_⟩;obtain⟨b,d,h1⟩:=h.box g C m hg;obtain⟨c,e,f⟩:=k.box g b m h1;exact⟨c,e.trans d,f⟩
theorem RT.below (h:RT T N x y) (hN:N=x.heap.size):Below N x y:=(aA.below (C:=λg=>N<=g) ⟨h.os,h.tape,h.output,h.size,λg hg _=>h.lU g om hg⟩ om (λ_ h1 a=>by omega))
theorem RT.own (h:RT T N x y){B:Nat}{e:TypeId}{sz:Nat}{v:Value}{k:Nat}{xs:List Value}(ho:x.ownsRow B e sz v k xs) (he:e≠T):y.ownsRow B e sz v k xs:=dE ho (λg hg=>by obtain⟨cur,hc⟩:=kA ho hg;rw[hc];exact h.other _ _ _ _ hc he)
theorem RT.store (h:RT T N x y){p:Nat}(hp:N<=p){C C':Array Value}{m:Nat×Nat}(hc:y.heap[p]?=some (.cells C T m)) (hs:C'.size=C.size):RT T N x (y.setRow p C'):=by
 refine h.trans ⟨by rw[setRow_os],by rw[gy],by rw[gz],by rw[eS];exact ae _,λg hg a=>aG _ _ _ _ om,λg D t m' hg ht=>?_,λg D m' hg=>?_⟩
 ·rw[aG _ _ _ _ (by rintro rfl;rw[hc] at hg;simp only[IJ] at hg;exact ht hg.2.1.symm)]
  exact hg
 ·by_cases e:g=p
  ·subst e;rw[hc] at hg;simp only[IJ] at hg;obtain⟨rfl,_,rfl⟩:=hg;exact⟨C',hs,aJ _ _ _ _ _ _ hc⟩
  ·exact⟨D,rfl,(aG _ _ _ _ e).trans hg⟩
end
end Go.Proofs.YthmcbgidehjlbaaGreat.Fd
namespace Go.Proofs.YthmcbgidehjlbaaGreat.K
open Go Go.RowKit
section
variable {P:Program}
theorem zu (z:Value) (hz:z.cells=#[z]) (k:Nat):Builtin.zeroCells z.cells k=(List.replicate k z).toArray:=by
 rw[hz];apply Array.ext
 ·simp[Builtin.zeroCells]
 ·intro j h1 a;simp[Builtin.zeroCells,Nat.mod_one]
theorem J3 {e t tn:TypeId}{z:Value}{bytes:Nat}(ht:P.underlying t=some (.slice e)) (htn:P.underlying tn=some (.int .i64)) (hi:(P.info? e).map (λi=>(i.zero,i.size,i.bytes))=some (some z,1,bytes)) (hz:z.cells=#[z]) (hz1:z.oneCell'=true)
  {w:World}{B:Nat}{v:Value}{m:Nat}{xs:List Value}(ho:w.ownsRow B e 1 v m xs) (hB:B<=w.heap.size) (k:Nat) (hm:m+k<=1000000) (hb:bytes<=1000) (ty:TypeId):
  ∃ v' w',(Builtin.append_ #[t,tn] ty #[v,iw k]).run P w=.ok v' w'/\w'.ownsRow B e 1 v' (m+k) (xs++List.replicate k z)/\aA (λg=>v.ownBlock=some g) w w'/\(v'.ownBlock=v.ownBlock\/∃ g,v'.ownBlock=some g/\w.heap.size<=g):=by
 obtain⟨i,c,d,q,r⟩:=cw hi;have hw:IntKind.i64.wrap (k:Int)=k:=by rw[bO];omega
 have x:¬ ((k:Int)<0):=om;have G:k*bytes<=1000000*1000:=Nat.mul_le_mul om hb
 have o:¬ (281474976710656<(k:Int)*(i.bytes:Int)):=by rw[<-d9,r];omega
 have hlen:(xs++List.replicate k z).length=(m+k)*1:=by have:=ho.1;simp only[aE,aK];omega
 by_cases s:k=0
 ·subst s;have y:IntKind.i64.wrap 0=0:=hw;refine⟨v,w,?_,by simpa using ho,aA.refl _ _,.inl rfl⟩;rcases ho.2 with ⟨rfl,rfl⟩|⟨g,cap,cur,rfl,_,hg,hc,_⟩
  ·simp[Builtin.append_,bb ht,bb htn,sizeOf,typeInfo,zeroValue,c,d,asInt,asIntOf,y]
  ·simp[Builtin.append_,bb ht,bb htn,sizeOf,typeInfo,zeroValue,c,d,asInt,asIntOf,y,hc,storeCells]
 have a:∀ (base:Option Addr) (cap:Nat),(Builtin.firstCells i.size m (.slice base m cap)).run P w.drew=.ok xs.toArray w.drew->cap<m+k->v=.slice base m cap->
   ∃ v' w',(Builtin.append_ #[t,tn] ty #[v,iw k]).run P w=.ok v' w'/\w'.ownsRow B e 1 v' (m+k) (xs++List.replicate k z)/\aA (λg=>v.ownBlock=some g) w w'/\(v'.ownBlock=v.ownBlock\/∃ g,v'.ownBlock=some g/\w.heap.size<=g):=by
  intro base cap J f hv;have H:(m+k)*i.bytes<=1000000*1000:=Nat.mul_le_mul hm om;have hr:=Lib.run_append_grow_zeros (P:=P) w t tn ty e i z .i64 .i64 ht htn c d base m cap xs J k om om f om (by rw[r];omega) (ew f om);rw[hv];have C:=eF w (m+k) cap e;have h:grownCap w (m+k) cap e<=maxLen:=fw w (m+k) cap e mx;refine⟨_,_,hr,⟨hlen,.inr ⟨w.heap.size,_,_,rfl,hB,aj w.drew _,C,h,?_,?_⟩⟩,⟨rfl,rfl,rfl,by simp,λj K _=>aB w.drew _ j K⟩,.inr ⟨_,rfl,ae _⟩⟩
  ·have:=ho.1;simp only[fx,aT,fy,hz];simp;omega
  ·rw[zu z hz,zu z hz];simp only[gU,cC];rw[<-cC,<-hlen];exact List.take_left
 rcases ho.2 with ⟨rfl,rfl⟩|⟨g,cap,cur,rfl,A,hg,L,h,I,n⟩
 ·refine a none 0 ?_ om rfl;have:xs=[]:=cH (by simpa using ho.1);rw[this];simp[Builtin.firstCells]
 ·by_cases b:m+k<=cap
  ·have p:m+(List.replicate k z).length<=cur.size:=by simp;omega
   have l:=run_storeCells_at P g m e (List.replicate k z) 0 cur w hg (by simpa using p) (λu hu=>by rw[ie hu];exact hz1);simp only[dY] at l;refine⟨ir g (m+k) cap,w.setRow g (cur.toList.take m++List.replicate k z++cur.toList.drop (m+k)).toArray,?_,⟨hlen,.inr ⟨g,cap,_,rfl,A,aJ w g cur _ e _ hg,b,h,?_,?_⟩⟩,(aA.refl (λF=>(ir g m cap).ownBlock=some F) w).setRow (λ_=>rfl) _,.inl rfl⟩
   ·simp only[aK] at l;simp[Builtin.append_,bb ht,bb htn,sizeOf,typeInfo,zeroValue,c,d,q,asInt,asIntOf,hw,x,o,s,b,bJ,zu z hz,l]
   ·simp;omega
   ·have E:cur.toList.take m=xs:=by simpa using n
    rw[E];simp only;rw[<-hlen];exact List.take_left
  ·refine a (some (iu g 0)) cap ?_ om rfl;have D:xs.length=m*i.size:=by rw[q];exact ho.1
   exact gp (P:=P) w.drew i.size m (iu g 0) m cap xs D (ho.cells (g:=g) rfl)
end
end Go.Proofs.YthmcbgidehjlbaaGreat.K
namespace Go.Proofs.YthmcbgidehjlbaaGreat.Fd
open _root_.Go.Proofs.Tryz
open Go Go.RowKit K
theorem J8 {parts:List iz}(hl:∀ x ∈ parts,x.length<=1000):∀ k,k<=parts.length->(ny parts k).length<=k*1000:=by
 intro k
 induction k with
 | zero=>intro _;simp[ny]
 | succ k ih=>
  intro h;rw[wW om,aE];have h1:=ih om
  have a:(parts.getD k []).length<=1000:=by rw[List.getD,av om];exact hl _ (bK _)
  omega
theorem J9 {w:World}{S:Nat->Prop}{pv:Value}{parts:List iz}(hp:kP w S pv parts) (hfew:parts.length<=20) (hlen:∀ x ∈ parts,x.length<=1000):
  Calls prog 117 #[pv] w λe w'=>∃ v,e=.returned v/\w'.ownsRow w.heap.size 5 1 v parts.flatten.length (aQ parts.flatten)/\Below w.heap.size w w':=by
 have ax:(iy 0).cells.size=1:=rfl;obtain⟨n,L⟩:=Ex parts.length;obtain⟨vs,hc,Y⟩:=hp.row;rw[<-L] at hc hfew;obtain⟨pa,Z,rfl,b2,V⟩:=hc.shape;unfold maxLen at V;have f:parts.flatten=ny parts n:=by rw[ny,L,cS]
 rw[f];have C:=J8 hlen;rw[<-L] at C
 have u:∀ k,(parts.getD k []).length<=1000:=λk=>by
  rw[List.getD];cases h:parts[k]? with
  | none=>simp
  | some x=>exact hlen x (aZ h)
 have b:∀ k,k<n->ny parts (k+1)=ny parts k++parts.getD k []:=λk hk=>wW om
 have B:∀ E,Below w.heap.size w E->Cells E S (.slice pa n Z) n 1 vs:=λE N=>hc.dB N.size (λg _ hg=>N.block g hg)
 have D:∀ E,Below w.heap.size w E->∀ j v,vs[j]?=some v->Bytes E S v (parts.getD j []):=λE N j v hv=>Cells.dB (Y j v hv) N.size (λg _ hg=>N.block g hg)
 have F:ny parts 0=[]:=rfl;have d:vs.length=n:=by have:=hc.1;omega
 refine G9 d f C u b B D F L ?_;clear d f C u b B D F L;intro d f C u b B D F L;clear hp hc Y hlen;go_enter func117,ntmps117;go_wp2
 go_loopg [3,11] n (λg t i wr=>∃ k T:Nat,k+g=n/\i=iw k/\t=iw T/\T<=k*1000/\wr=w)
 case atStart=>exact⟨0,0,by omega,rfl,rfl,by omega,rfl⟩
 case round=>
  obtain⟨k,T,an,rfl,rfl,hT,rfl⟩:=hrel;by_cases c:k<n
  ·obtain⟨g1,rfl⟩:∃ i,gk=i+1:=⟨gk - 1,by omega⟩;obtain⟨pg,a1,pc,hv,_,_,_,ad,A⟩:=Cells.at (B.o wr (ag _ _)) om;simp only[IJ] at hv;obtain⟨rfl,_,rfl⟩:=hv;obtain⟨q,J⟩:∃ q,vs[k]?=some q:=⟨vs[k]'(by rw[d.o];exact c),av (by rw[d.o];exact c)⟩;have I:=A k q J;have a:=D.o wr (ag _ _) k q J;obtain⟨P,s⟩:=Ex (parts.getD k []);rw[<-s] at a;have y:P.length<=1000:=s ▸ u.o k;obtain⟨qa,a6,rfl,W,X⟩:=a.shape;obtain⟨m,hm⟩:=Ex P.length;rw[<-hm] at I y;have R:(k:Int)<n:=om;obtain⟨U,hU⟩:=Ex (T+m);have hs:((T:Int)+m)=(U:Int):=om;have b3:¬ (U:Int)<0:=om;have b4:U<=10000000:=om;have a8:U<=(k+1)*1000:=om;replace hU:=LH hU;replace hm:=LH hm;replace s:=LH s;clear a A J;go_wp2;go_roundg g1
   case measure=>omega
   case rel=>exact⟨k+1,U,by omega,by go_num,rfl,a8,by simp⟩
  ·obtain rfl:gk=0:=om;obtain rfl:k=n:=om;have O:T<=1000000:=om;obtain⟨wo,rfl⟩:=Ex (wr:World);have Q:=LH (Bt T O wo);clear an c
   go_wp2_with fail
   refine Q.o.mono ?_;rintro e w1 ⟨gv,rfl,G,H⟩;replace G:=LH G;replace H:=LH H;clear Q hT O;go_wp2
   go_loopg [6,27] k (λg o i E=>∃ j:Nat,j+g=k/\i=iw j/\Hd (E.ownsRow wo.heap.size 5 1 o (ny parts j).length (aQ (ny parts j)))/\Hd (Below wo.heap.size wo E))
   case atStart=>exact⟨0,by omega,rfl,by show World.ownsRow _ _ _ _ _ _ _;rw[F.o];exact G.o,H.o⟩
   case round=>
    obtain⟨j,af,rfl,M,z⟩:=hrel;clear G H;by_cases c:j<k
    ·obtain⟨g2,rfl⟩:∃ i,gk=i+1:=⟨gk - 1,by omega⟩;obtain⟨pg,a1,pc,hv,_,_,_,ad,A⟩:=Cells.at (B.o wr z.o) om;simp only[IJ] at hv;obtain⟨rfl,_,rfl⟩:=hv;obtain⟨q,J⟩:∃ q,vs[j]?=some q:=⟨vs[j]'(by rw[d.o];exact c),av (by rw[d.o];exact c)⟩;have I:=A j q J;have a:=D.o wr z.o j q J;obtain⟨P,s⟩:=Ex (parts.getD j []);rw[<-s] at a;have y:P.length<=1000:=s ▸ u.o j;have p:=b.o j c;rw[<-s] at p;obtain⟨qa,a6,rfl,W,X⟩:=a.shape;obtain⟨m,hm⟩:=Ex P.length;rw[<-hm] at I y W a;obtain⟨FK,r⟩:=Ex (ny parts j);obtain⟨FL,l⟩:=Ex FK.length;have ay:FL<=1000000:=by have:=C.o j om;rw[<-r,<-l] at this;omega
     rw[<-r] at M p;rw[<-l] at M;have R:(j:Int)<k:=om;have a7:=LH (λg=>kJ M.o g);have b5:=z.o.size;refine G6 a p hm s r l ?_;clear a p hm s r l;intro a p hm s r l;unfold maxLen at X;clear A J
     go_wp2_with (at_builtin;refine K.append ?_ (.tmp 31) (.tmp 32) 42 ?_ wo.heap.size 5 (iy 0) 1 1 underlying42 nu ax om _ FL _ ?_ M.o S _ m (aQ P) ?_ (by rw[hm.o];exact a.o) (K.nJ P) mx om ?_ ?_)
     any_goals (first|rfl|omega)
     intro v3 E y1 y2 y3 y4;have Y1:=LH y1;have aa:=LH ((aA.dD z.o No).grown y2 (λg hg hl=>absurd (a7.o g hg) om)).no;clear y1 y2 y3 y4;go_wp2;go_roundg g2
     case measure=>omega
     case rel=>refine⟨j+1,by omega,by go_num,?_,aa.o⟩;show World.ownsRow _ _ _ _ _ _ _;have h:=Y1.o;rw[p.o,nI,aE,<-l.o,<-hm.o];exact h
    ·obtain rfl:gk=0:=om;obtain rfl:j=k:=om;have R:¬ (j:Int)<j:=om;clear af c;go_wp2;go_ret;exact⟨_,rfl,M.o,z.o⟩
end Go.Proofs.YthmcbgidehjlbaaGreat.Fd

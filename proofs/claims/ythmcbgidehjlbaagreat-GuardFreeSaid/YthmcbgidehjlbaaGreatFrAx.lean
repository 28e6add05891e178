/-
 Parts of the proof. No condition beyond what each theorem names.
-/
import Derived.Test.YthmcbgidehjlbaaGreatFrAs
import Derived.Test.YthmcbgidehjlbaaGreatFrAw
set_option maxRecDepth 100000
set_option maxHeartbeats 8000000
namespace Go.Proofs.YthmcbgidehjlbaaGreat.Fd
open _root_.Go.Proofs.Tryz
open Go Go.RowKit K
variable {w:World}{t b n1:Nat}{Tx:List (Int×Value)}{lv:Value}{gs cs:Nat->Nat}{Ks Ls:List iz}
structure rC (w:World) (t b:Nat) (Tx:List (Int×Value)) (kv mv lv:Value) (gs cs:Nat->Nat) (Ks:List iz) (n1:Nat):Prop where
 mp:∃ mb,mv=.map (some mb)/\n1<=mb/\k9 w mb Tx
 box:w.heap[t]?=some (.cells #[iq b,kv,lv,mv] 189 (0,0))
 row:w.ownsRow n1 190 1 lv Ks.length (oN gs cs Ks.length)
 oB:∀ j K,Ks[j]?=some K->ke w (gs j) 179 K/\n1<=gs j/\K.length=cs j*16/\kp j<=cs j
 inj:∀ i j,i<Ks.length->j<Ks.length->gs i=gs j->i=j
theorem rC.after {w':World}{kv mv:Value}(h:rC w t b Tx kv mv lv gs cs Ks n1) (hb:Below w.heap.size w w'):rC w' t b Tx kv mv lv gs cs Ks n1:=⟨by obtain⟨mb,e,c,hm⟩:=h.mp;exact⟨mb,e,c,hm.after hb⟩,(hb.block t (dC h.box)).trans h.box,dE h.row (λg hg=>hb.block g (kt h.row g hg)),λj K a=>⟨(h.oB j K a).1.dB (hb.block _ (dC (h.oB j K a).1)),(h.oB j K a).2⟩,h.inj⟩
theorem rC.push {kv mv:Value}(h:rC w t b Tx kv mv lv gs cs Ks n1) (hn1:n1<=w.heap.size) (ht:n1<=t){w3:World}(hR:aA No w w3){g C:Nat}{K:iz}(hg:w.heap.size<=g)
  (hA:ke w3 g 179 K) (hKl:K.length=C*16) (hKC:kp Ks.length<=C){x:Value}(hx:Cells w3 (λ_=>True) x 1 1 [ir g (kp Ks.length) C]) (hk:Ks.length<4):
  ∃ v' w4,(Builtin.append_ #[187,187] 187 #[lv,x]).run prog w3=.ok v' w4/\w4.cell? (iu t 2)=some lv/\w4.frozen? (iu t 2)=false/\(∃ g' cp,v'=ir g' (Ks.length+1) cp)/\
   (∃ gs' cs',rC (w4.setCell (iu t 2) v') t b Tx kv mv v' gs' cs' (Ks++[K]) n1)/\Below n1 w (w4.setCell (iu t 2) v'):=by
 obtain⟨v',w4,hr,J,L,W⟩:=xi (P:=prog) (bytes:=24) (t:=187) underlying187 BC rfl de h.row hn1 hR hx (by simp[Value.oneCell']) mx om 187;obtain⟨k,n⟩:=Ex Ks.length
 have l:∀ {p:Nat}{cs:Array Value}{ty:TypeId},w3.heap[p]?=some (.cells cs ty (0,0))->190≠ty->w4.heap[p]?=some (.cells cs ty (0,0)):=λ{p cs ty} hp G=>by have H:=dE h.row (λg hg=>hR.block g (h.row.lt g hg).2 id);rw[L.block p (dC hp) (o6 H hp G)];exact hp
 have A:=(hR.block t (dC h.box) id).trans h.box;have f:=l A de
 have I:v'.ownBlock≠some t:=by intro e;obtain⟨cur,hc⟩:=kA J e;rw[f] at hc;simp only[IJ] at hc;exact absurd hc.2.1 de
 have B:Below n1 w w4:=(hR.no.mono hn1).trans (L.below (am hn1 hR.size) (λi hi e=>by have:=kJ h.row i e;omega));obtain⟨gs',y⟩:=Ex (λj=>if j=k then g else gs j:Nat->Nat)
 obtain⟨cs',v⟩:=Ex (λj=>if j=k then C else cs j:Nat->Nat)
 have m:gs' k=g:=by rw[y];simp
 have d:∀ j,j<k->gs' j=gs j:=λj a=>by rw[y];simp[show j≠k by omega]
 have u:cs' k=C:=by rw[v];simp
 have s:∀ j,j<k->cs' j=cs j:=λj a=>by rw[v];simp[show j≠k by omega]
 have F:oN gs' cs' (k+1)=oN gs cs k++[ir g (kp k) C]:=by rw[BB,m,u,show oN gs' cs' k=oN gs cs k from dZ (λj a=>by rw[d j (by simpa using a),s j (by simpa using a)])]
 have o:∀ {p:Nat}{cs:Array Value},w4.heap[p]?=some (.cells cs 179 (0,0))->(w4.setCell (iu t 2) v').heap[p]?=some (.cells cs 179 (0,0)):=λ{p cs} hp=>by
  rw[kD _ _ _ (by rintro rfl;rw[f] at hp;simp only[IJ] at hp;exact absurd hp.2.1 de)]
  exact hp
 have hlen:(Ks++[K]).length=k+1:=by rw[aE,n];rfl
 refine⟨v',w4,hr,by rw[cell_of f];rfl,kY f 2,?_,⟨gs',cs',⟨?_,?_,?_,λj O a=>?_,λi j hi a e=>?_⟩⟩,B.setCell ht _⟩
 ·obtain⟨g',cp,e,_⟩:=kz J om;exact⟨g',cp,e⟩
 ·obtain⟨mb,Q,S,M⟩:=h.mp;refine⟨mb,Q,S,M.dB ?_⟩;obtain⟨⟨es,c,q,_⟩,_⟩:=M;have N:=(hR.block mb (dC q) id).trans q
  rw[kD _ _ _ (by
   rintro rfl;rw[h.box] at q;cases q),L.block mb (dC N) (by
   intro R;obtain⟨cur,hc⟩:=kA h.row R;rw[hc] at q;cases q),N,q]
 ·rw[lz f];rfl
 ·rw[hlen,F,n];exact dE J (λp hp=>kD _ _ _ (by rintro rfl;exact I hp))
 ·have V:j<k+1:=by rw[<-hlen];exact (aD.1 a).1
  by_cases r:j=k
  ·subst r;rw[n,aL (ae _),dA] at a;simp at a;subst a;rw[m,u];exact⟨o (l hA de),am hn1 hg,hKl,by rw[n];exact hKC⟩
  ·rw[d j om,s j om];rw[aX om] at a;obtain⟨h1,T,U⟩:=h.oB j O a;exact⟨o (l ((hR.block _ (dC h1) id).trans h1) de),T,U⟩
 ·rw[hlen] at hi a
  have z:∀ j,j<k->gs j<w.heap.size:=λj a=>by have E:j<Ks.length:=om;exact dC (h.oB j _ (av E)).1
  by_cases D:i=k<;>by_cases r:j=k
  ·omega
  ·subst D;rw[m,d j om] at e;have:=z j om;omega
  ·subst r;rw[m,d i om] at e;have:=z i om;omega
  ·rw[d i om,d j om] at e;exact h.inj i j om om e
def Alike (Ks Ls:List iz):Prop:=∀ (j:Nat) (K:iz),Ks[j]?=some K->∃ L:iz,Ls[j]?=some L/\K.take (kp j*16)=L.take (kp j*16)
theorem Alike.snoc (h:Alike Ks Ls){K L:iz}(hL:Ls[Ks.length]?=some L) (e:K.take (kp Ks.length*16)=L.take (kp Ks.length*16)):Alike (Ks++[K]) Ls:=λj d a=>by
 by_cases c:j<Ks.length
 ·rw[aX c] at a;exact h j d a
 ·have b:=(aD.1 a).1;simp at b;obtain rfl:j=Ks.length:=om;rw[aL (ae _),dA] at a;simp at a;subst a;exact⟨L,hL,e⟩
theorem Jr {N:Nat}{key:iz}(h:lx w t b N gs key Ls Tx) (hbw:b<=w.heap.size) (h4:Ls.length=4):Calls prog 77 #[iq t] w λe w'=>∃ t',e=.returned (iq t')/\(∃ gs' Ls',lx w' t' b w.heap.size gs' key Ls' Tx/\Ls'.length=4/\Alike Ls' Ls/\∀ g k c,w'.cell? (iu t' 1)=some (ir g k c)->w.cell? (iu t 1)=some (ir g k c))/\Below w.heap.size w w':=by
 obtain⟨⟨kv,lv,mv,cs,t1,t2,t3,t4,t5⟩,_,_,mb,_,X,hm⟩:=h
 have b4:mv=.map (some mb):=by
  rw[cell_of t1] at X
  simpa using X
 subst b4;obtain⟨F,kc,rfl,_⟩:=kz t2 om;obtain⟨lg,lc,rfl,_,_⟩:=kz t3 om;rw[h4] at t1
 have m:∀ k,k<4->w.cell? (iu lg k)=some (ir (gs k) (kp k) (cs k)):=λk hk=>by obtain⟨g',off,c',hv,_,_,_,_,D⟩:=Cells.at (Cells.own t3) om;simp only[IJ] at hv;obtain⟨⟨rfl,rfl,_⟩,_,_⟩:=hv;have h8:=D k _ (uk om);rw[aw] at h8;exact h8
 have c0:=cell_of t1 0;have c1:=cell_of t1 1;have c2:=cell_of t1 2;have c3:=cell_of t1 3;have d:=Dr w
 have D:=LH (λf (hc:aA No w f)=>Jq (hm.dB (hc.block mb hm.lt id)));have r:=dC t1;have hT:=LH (And.intro t2 (And.intro t4 (And.intro t5 m)));have aa:=LH (LH c1);revert c0 c1 c2 c3 d r;refine H6 ?_;intro c0 c1 c2 c3 d r;clear t1 t2 t3 t4 t5 m X hm;go_enter func77,ntmps77;go_wp2;refine RA.rt (aA No) [1,1,1,1,1,1,1,1,1,1,1,1,3,1,3,1] [] (λ_=>True) trivial (λ_=>aA.refl _ _) (λ_ _ _ h k=>h.trans k) (h:=?_);intro cx
 repeat refine RA.qq ?_
 refine RA.fk prog t 0 (h:=?_);refine RA.lk prog (iq b) (hc:=λf hp=>by exact ((d.o _ hp.1).cell (p:=iu t 0) r.o id).trans c0.o) (h:=?_)
 repeat refine RA.qq ?_
 refine RA.fk prog t 1 (h:=?_);refine RA.lk prog (ir F 32 kc) (hc:=λf hp=>by exact ((d.o _ hp.1).cell (p:=iu t 1) r.o id).trans c1.o) (h:=?_)
 repeat refine RA.qq ?_
 refine RA.fk prog t 3 (h:=?_);refine RA.lk prog (.map (some mb)) (hc:=λf hp=>by exact ((d.o _ hp.1).cell (p:=iu t 3) r.o id).trans c3.o) (h:=?_);refine RA.qc (P:=prog) [.map (some mb)] (λv f=>∃ m',v=.map (some m')/\w.heap.size<=m'/\k9 f m' Tx) (hs:=λv a b h M=>by obtain⟨m',A,e2,I⟩:=M;exact⟨m',A,e2,I.dB (h.block m' I.lt id)⟩) (hr:=λf hp hH=>(D.o f (d.o _ hp.1)).mono (by rintro e z ⟨rfl,k1,k2⟩;exact⟨_,rfl,aA.dD k2 _,⟨_,rfl,(d.o _ hp.1).size,k1⟩,trivial⟩)) (hn:=λu=>?_)
 refine RA.vk prog (.agg #[iq b,ir F 32 kc,.slice none 0 0,u]) (hr:=λf hp=>by obtain⟨m',A,-,-⟩:=hp.fact 0 rfl kr;clear hp;subst A;go_simp) (h:=?_)
 refine RA.bq (λx f=>∃ p,x=iq p/\w.heap.size<=p/\f.heap[p]?=some (.cells #[iq b,ir F 32 kc,.slice none 0 0,u] 189 (0,0))) (hs:=λ_ _ _ h k=>by obtain⟨p,h1,M,h3⟩:=k;exact⟨p,h1,M,(h.block p (dC h3) id).trans h3⟩) (he:=λ_ _ _ _ _=>trivial) (hr:=λf hp _=>by obtain⟨m',A,-,-⟩:=hp.fact 0 rfl kr;refine⟨iq f.heap.size,f.alloc (.cells #[iq b,ir F 32 kc,.slice none 0 0,u] 189),?_,(aA.refl _ _).alloc _,⟨_,rfl,(d.o _ hp.1).size,aj f _⟩,trivial⟩;clear hp;subst A;show (execOp _ _).run prog f=_;go_simp) (hn:=λx=>?_)
 repeat refine RA.qq ?_
 refine RA.RA.done rfl (λw2 hR hF hH=>?_);simp only[RA.RP,cx];obtain⟨t',rfl,a7,x2⟩:=hF _ (cq ..);obtain⟨m',rfl,b3,M2⟩:=hF _ (fc _ (cq ..));have b2:=(d.o _ hR).no;have Q:rC w2 t' b Tx (ir F 32 kc) (.map (some m')) (.slice none 0 0) (λ_=>0) (λ_=>0) [] w.heap.size:=⟨⟨m',rfl,b3,M2⟩,x2,aS _ _ _ _,λj K E=>by simp at E,λi j hi=>by simp at hi⟩;have ad:=((d.o _ hR).cell (p:=iu t 2) r.o id).trans c2.o;replace Q:=LH Q;replace b2:=LH b2;clear hR hF hH x2 M2 c0 c1 c3 D d;go_wp2;clear ad
 go_loopg [28] 4 (λg ix wr=>∃ (k:Nat) (lv:Value) (gs' n:Nat->Nat) (Ks:List iz),k+g=4/\ix=iw k/\Ks.length=k/\Hd (Alike Ks Ls)/\Hd (rC wr t' b Tx (ir F 32 kc) (.map (some m')) lv gs' n Ks w.heap.size)/\Hd (Below w.heap.size w wr))
 case atStart=>exact⟨0,_,_,_,[],by omega,rfl,rfl,λj K E=>by simp at E,Q.o,b2.o⟩
 case round=>
  obtain⟨k,lv,gs',n,Ks,b8,rfl,l,HL,q,Z⟩:=hrel;by_cases a6:k<4
  ·obtain⟨g1,rfl⟩:∃ i,gk=i+1:=⟨gk - 1,by omega⟩;have ay:(k:Int)<4:=om;obtain⟨wo,rfl⟩:=Ex (wr:World);obtain⟨t2,t4,t5,m⟩:=hT.o;obtain⟨L,hL⟩:∃ L,Ls[k]?=some L:=⟨_,av om⟩;obtain⟨hA,B,s⟩:=t4 k L hL;obtain⟨W,hW⟩:=Ex (kp k);have b7:W<=50:=hW ▸ vt k
   have ax:0<W:=by
    rw[hW];obtain rfl|rfl|rfl|rfl:k=0\/k=1\/k=2\/k=3:=om
    all_goals decide
   obtain⟨C,hC⟩:=Ex (cs k);have T:=(Z.o.cell (p:=iu lg k) (lq (m k a6))).trans (m k a6);rw[<-hW,<-hC] at T;rw[<-hC] at B s;rw[<-hW] at s;have O:=hA.dB (Z.o.block _ (dC hA));have a1:=LH (λf (hc:aA No wo f)=>Jp (O.dB (hc.block _ (dC O) id)) B s ax om);obtain⟨la,Y,rfl,_⟩:=(Cells.own q.o.row).shape;have d2:=cell_of q.o.box 2;have H:wo.cell? (iu t' 2)=some (.slice la k Y):=by rw[d2,l];rfl
   have a8:=LH (dC q.o.box);have d:=Dr wo
   replace d:=LH d;replace H:=LH H;have an:=LH hL;have S:=LH hW;revert l hC B s;refine H4 ?_;intro l hC B s;clear t2 t4 t5 m hA O d2 hL hW;go_wp2;refine RA.rt (aA No) [5,1,1,1,1,1,3,3,6,5,5,7] [8,11] (λ_=>True) trivial (λ_=>aA.refl _ _) (λ_ _ _ h k=>h.trans k) (h:=?_);intro cx;refine RA.pq ?_
   repeat refine RA.qq ?_
   refine RA.fk prog t' 2 (h:=?_);refine RA.lk prog (.slice la k Y) (hc:=λf hp=>by exact ((d.o _ hp.1).cell (p:=iu t' 2) a8.o id).trans H.o) (h:=?_)
   repeat refine RA.qq ?_
   refine RA.qc (P:=prog) [ir (gs k) W C] (λv f=>∃ (g C':Nat) (K:iz),v=ir g W C'/\wo.heap.size<=g/\ke f g 179 K/\K.length=C'*16/\W<=C'/\K.take (W*16)=L.take (W*16)) (hs:=λv a b h M=>by obtain⟨g,C',K,A,e2,I,e4⟩:=M;exact⟨g,C',K,A,e2,I.dB (h.block g (dC I) id),e4⟩) (hr:=λf hp hH=>(a1.o f (d.o _ hp.1)).mono (by rintro e z ⟨g,C',K,rfl,k1,k2,k3,k4,k5,k6⟩;exact⟨_,rfl,aA.dD k6 _,⟨g,C',K,rfl,am (d.o _ hp.1).size k5,k1,k2,k3,k4⟩,trivial⟩)) (hn:=λu=>?_)
   refine RA.bq (λx f=>Cells f (λ_=>True) x 1 1 [u]) (hs:=λ_ _ _ h k=>k.ki h (λ_ _ _=>id)) (he:=λ_ _ _ _ _=>trivial) (hr:=λf hp _=>by obtain⟨g,C',K,h1,_,_⟩:=hp.fact 0 rfl kr;refine⟨ir f.heap.size 1 1,f.alloc (.cells #[u] 190),?_,(aA.refl _ _).alloc _,mC f #[u] 190 1 1 rfl mx,trivial⟩;clear hp;subst h1;show (execOp _ _).run prog f=_;go_simp) (hn:=λx=>?_)
   refine RA.oH (λv' z=>z.cell? (iu t' 2)=some (.slice la k Y)/\z.frozen? (iu t' 2)=false/\(∃ g cp,v'=ir g (k+1) cp)/\(∃ gs' n K,K.take (W*16)=L.take (W*16)/\rC (z.setCell (iu t' 2) v') t' b Tx (ir F 32 kc) (.map (some m')) v' gs' n (Ks++[K]) w.heap.size)/\Below w.heap.size wo (z.setCell (iu t' 2) v')) (hr:=(λf b5 _=>by
    have hp:=b5.first kr;obtain⟨g,C',K,h1,M,h3,h5,h6,h7⟩:=hp.fact 1 rfl kr;have hx:=hp.fact 0 rfl kr;have af:u=ir g (kp Ks.length) C':=by rw[l.o,<-S.o];exact h1
    have b6:Cells f (λ_=>True) x 1 1 [ir g (kp Ks.length) C']:=af ▸ hx;obtain⟨v',z,k1,k2,k3,k4,⟨J,G,k5⟩,k6⟩:=q.o.push Z.o.size a7 (d.o _ hp.1) M h3 h5 (by rw[l.o,<-S.o];exact h6) b6 (by rw[l.o];omega);rw[l.o] at k1 k2 k4;exact⟨v',z,RA.nS rf rf k1,k2,k3,k4,⟨J,G,K,h7,k5⟩,k6⟩)) (hn:=λv'=>?_)
   refine RA.pq ?_;refine RA.pk prog t' 2 (h:=?_)
   refine RA.lr (λw5=>(∃ gs' n K,K.take (W*16)=L.take (W*16)/\rC w5 t' b Tx (ir F 32 kc) (.map (some m')) v' gs' n (Ks++[K]) w.heap.size)/\Below w.heap.size wo w5) (hr:=λz _ hH=>by obtain⟨f1,f2,⟨g',cp,rfl⟩,f3,f4⟩:=hH;refine⟨_,RA.kL rf rf (w':=z.setCell (iu t' 2) (ir g' (k+1) cp)) ?_,f3,f4⟩;clear f3 f4;show (Instr.storeAt _ _ _).run prog z=_;go_simp) (hn:=?_)
   refine RA.RA.kZ (λw5 hH=>?_);simp only[RA.RP,cx];obtain⟨⟨J,G,K,y0,y1⟩,y2⟩:=hH;have y3:Alike (Ks++[K]) Ls:=HL.o.snoc (L:=L) (by rw[l.o];exact an.o) (by rw[l.o,<-S.o];exact y0);replace y1:=LH y1;replace y2:=LH (Z.o.trans y2);replace y3:=LH y3;have y:(Ks++[K]).length=k+1:=by rw[aE,l.o];rfl
   replace y:=LH y;clear y0;go_wp2;go_roundg g1
   case measure=>omega
   case rel=>exact⟨k+1,_,J,G,_,by omega,by go_num,y.o,y3.o,y1.o,y2.o⟩
  ·obtain rfl:gk=0:=om;have ay:¬ (k:Int)<4:=om;have U:Ks.length=4:=om
   have R:lx wr t' b w.heap.size gs' key Ks Tx:=by obtain⟨t2,_,_,_⟩:=hT.o;obtain⟨m2,A,e2,I⟩:=q.o.mp;refine⟨⟨_,_,_,n,q.o.box,dE t2 (λg hg=>Z.o.block g (kt t2 g hg)),kU q.o.row hbw,λj K E=>⟨(q.o.oB j K E).1,(q.o.oB j K E).2.2⟩,q.o.inj⟩,a7,λj E=>(q.o.oB j _ (av E)).2.1,m2,e2,?_,I⟩;rw[cell_of q.o.box 3,A];rfl
   have V:∀ g k c,wr.cell? (iu t' 1)=some (ir g k c)->w.cell? (iu t 1)=some (ir g k c):=λg k c e=>by rw[cell_of q.o.box 1] at e;exact aa.o.o.trans e
   revert U R V;refine H3 ?_;intro U R V;go_wp2;go_ret;exact⟨t',rfl,⟨gs',Ks,R.o,U.o,HL.o,V.o⟩,Z.o⟩
theorem Js (l i:Nat) (hl:l<=1000) (hi:i<=1000) (w:World):Calls prog 168 #[.agg #[iw l,iw i]] w λe w'=>e=.returned (.agg #[iw (l+1:Nat),iw (i / 4:Nat)])/\Below w.heap.size w w':=by
 obtain⟨q,c⟩:=Ex w.heap.size;obtain⟨d,a⟩:=Ex ((w.alloc (.cells #[iw l,iw i] 193)).alloc (.cells #[iw 0,iw 0] 193));have b1:Below w.heap.size w d:=by rw[a];exact ((ag _ _).alloc (ae _) _).alloc sm _
 have j:d.heap[q]?=some (.cells #[iw l,iw i] 193 (0,0)):=by rw[a,c];exact (aB _ _ _ sm).trans (aj w _)
 have k:d.heap[q+1]?=some (.cells #[iw 0,iw 0] 193 (0,0)):=by rw[a,c];have h:=aj (w.alloc (.cells #[iw l,iw i] 193)) (.cells #[iw 0,iw 0] 193);simp only[aN] at h;exact h
 obtain⟨L,g⟩:=Ex (l+1);obtain⟨I,f⟩:=Ex (i / 4);rw[<-g,<-f];have p:(l:Int)+1=L:=om;have n:(i:Int) / 4=I:=om;have b:=mf (P:=prog) (ty:=193) (x:=[iw L,iw I]) k kr rfl (by simp[Value.oneCell']);have m:(d.setRow (q+1) ([iw L,iw I]:List Value).toArray).heap[q+1]?=some (.cells #[iw L,iw I] 193 (0,0)):=aJ _ _ _ _ _ _ k;have hb:Below w.heap.size w (d.setRow (q+1) ([iw L,iw I]:List Value).toArray):=below_setRow b1 (by rw[c];omega) _;have c0:=cell_of j 0;have c1:=cell_of j 1;rw[a,c] at b c0 c1;revert c a g f b m hb;refine H7 ?_;intro c a g f b m hb;clear j k b1;go_enter func168,ntmps168
 go_wp2_with (first|(refine kI rfl 193 _ _ rfl _ _ rfl rfl b.o ?_)|fail)
 rw[<-a.o,<-c.o];refine aI (bd results168 _ _ (q+1) 193 _ (0,0) _ rfl m.o underlying193 rfl kr) rfl ⟨rfl,by have h:=hb.o;rw[<-c.o] at h;exact h⟩
theorem C3 {w:World}{t b:Nat}{gs:Nat->Nat}{key:iz}{Ls:List iz}(h:ll w t b gs key Ls) (h0:0<Ls.length) (i:Nat) (hi:i<50):Calls prog 108 #[iq t,iw i] w λe w'=>e=.returned (.bool true)/\w=w':=by
 have hs:=LH (vu h h0);have a:(i:Int)<50:=om;clear h h0;go_enter func108,ntmps108
 go_wp2_with fail
 refine hs.o.mono ?_;rintro e c ⟨rfl,rfl⟩;go_wp2;go_ret;exact⟨rfl,rfl⟩
def qn (i k:Nat):List Value:=(List.range k).flatMap λ(j:Nat)=>[iw (j:Nat),iw (i / 4 ^ j:Nat)]
theorem zl (i k:Nat):qn i (k+1)=qn i k++[iw (k:Nat),iw (i / 4 ^ k:Nat)]:=by simp[qn,dF]
theorem Jt (i:Nat) (hi:i<50) (w:World):Calls prog 145 #[iw 50,iw i] w λe w'=>∃ v,e=.returned v/\w'.ownsRow w.heap.size 193 2 v 4 (qn i 4)/\Below w.heap.size w w':=by
 have c:=vh 0 w;rw[show kp 0=50 from rfl] at c;replace c:=LH c;have O:=LH (λR=>wG R);have af:(i:Int)<50:=om;have aa:¬ (i:Int)<0:=om;have ad:¬ (50:Int)<=(i:Int):=om;have a6:(Value.agg #[iw 0,iw 0]).cells.size=2:=rfl;go_enter func145,ntmps145
 go_wp2_with fail
 refine c.o.mono ?_;rintro e w1 ⟨rfl,l⟩;obtain⟨w2,d⟩:=Ex (w1.alloc (.cells #[iw 0,iw i] 193));obtain⟨p,hp⟩:=Ex w1.heap.size;have q:w2.heap[p]?=some (.cells #[iw 0,iw i] 193 (0,0)):=by rw[d,hp];exact aj w1 _
 have N:Below w.heap.size w w2:=by rw[d];exact l.alloc l.size _
 have a1:w.heap.size<=p:=by rw[hp];exact l.size
 replace q:=LH q;replace N:=LH N;clear c l
 go_wp2_with fail
 rw[<-d,<-hp];replace d:=LH d;replace hp:=LH hp;refine (O.o w2).mono ?_;rintro e R ⟨rfl,B⟩;have T:=(B.block p (dC q.o)).trans q.o;have b3:=N.o.trans (B.mono N.o.size);have Q:=dC T;have W:R.ownsRow (p+1) 193 2 (.slice none 0 0) 0 (qn i 0)/\R.heap[p]?=some (.cells #[iw (0:Nat),iw (i / 4 ^ 0:Nat)] 193 (0,0))/\Below w.heap.size w R:=⟨aS _ _ _ _,by simpa using T,b3⟩;replace W:=LH W;clear T b3 B q N O Q;go_wp2
 go_loopg [4,18] 4 (λg o ix wr=>∃ k:Nat,k+g=4/\ix=iw k/\Hd (wr.ownsRow (p+1) 193 2 o k (qn i k)/\wr.heap[p]?=some (.cells #[iw (k:Nat),iw (i / 4 ^ k:Nat)] 193 (0,0))/\Below w.heap.size w wr))
 case atStart=>exact⟨0,by omega,rfl,W.o⟩
 case round=>
  obtain⟨k,an,rfl,U⟩:=hrel;by_cases ax:k<4
  ·obtain⟨g1,rfl⟩:∃ i,gk=i+1:=⟨gk - 1,by omega⟩;obtain⟨F,y,Y⟩:=U.o;have Z:(k:Int)<4:=om;obtain⟨I,E⟩:=Ex (i / 4 ^ k);have a7:I<50:=by rw[E];exact cQ (ey _ _) hi
   have A:i / 4 ^ (k+1)=I / 4:=by rw[E,dK,Nat.div_div_eq_div_mul]
   rw[<-E] at y;have ay:=dC y;have c0:=cell_of y 0;have c1:=cell_of y 1;obtain⟨la,lc,rfl,_⟩:=(Cells.own F).shape;have s:=λg=>kJ F g
   obtain⟨S,n⟩:=Ex (wr.alloc (.cells #[iw k,iw I] 193));have V:Below wr.heap.size wr S:=by rw[n];exact (ag _ _).alloc (ae _) _
   have h:S.ownsRow (p+1) 193 2 (.slice la k lc) k (qn i k):=dE F (λg hg=>V.block g (kt F g hg));have a:=(V.block p (dC y)).trans y;have a8:=dC a;have j:=Y.trans (V.mono Y.size);have f:Cells S (λ_=>True) (ir wr.heap.size 1 1) 1 2 [iw k,iw I]:=by rw[n];exact mC wr #[iw k,iw I] 193 1 2 rfl mx
   revert E A s h a j f;refine H7 ?_;intro E A s h a j f;clear V F y Y U W
   go_wp2_with (at_builtin;rw[<-n];refine K.append ?_ (.tmp 20) (.tmp 22) 233 ?_ (p+1) 193 (.agg #[iw 0,iw 0]) 2 16 underlying233 BA a6 om _ k _ ?_ h.o (λ_=>True) _ 1 [iw k,iw I] ?_ f.o (by simp[Value.oneCell']) mx om ?_ ?_)
   any_goals (first|rfl|omega)
   intro v' w6 x1 q T x4;rw[<-n] at q;have M:w6.ownsRow (p+1) 193 2 v' (k+1) (qn i (k+1)):=by rw[zl,<-E.o];exact x1
   have C:Below (p+1) S w6:=((aA.refl (λg=>p+1<=g) S).grown q (λg hg hl=>s.o g hg)).below om (λg hg=>by omega);have r:=C.block p om;have b:=LH (r.trans a.o);have u:=LH (j.o.trans (C.mono om));replace M:=LH M;clear x1 q T x4 C r a j h f;have c0:=cell_of b.o 0;have c1:=cell_of b.o 1;have hU:=LH (Js k I om om w6)
   go_wp2_with fail
   refine hU.o.mono ?_;rintro e w7 ⟨rfl,m⟩;have z:=(m.block p (dC b.o)).trans b.o;have t:=dE M.o (λg hg=>m.block g (kt M.o g hg));have H:=u.o.trans (m.mono u.o.size);have D:=mf (P:=prog) (ty:=193) (x:=[iw ((k+1:Nat):Int),iw ((I / 4:Nat):Int)]) z kr rfl (by simp[Value.oneCell']);have L:(w7.setRow p ([iw ((k+1:Nat):Int),iw ((I / 4:Nat):Int)]:List Value).toArray).heap[p]?=some (.cells #[iw ((k+1:Nat):Int),iw ((I / 4:Nat):Int)] 193 (0,0)):=aJ _ _ _ _ _ _ z;have G:=dE t (w':=w7.setRow p ([iw ((k+1:Nat):Int),iw ((I / 4:Nat):Int)]:List Value).toArray) (λg hg=>aG _ _ _ _ (by have:=kJ t g hg;omega));have J:=below_setRow H a1 ([iw ((k+1:Nat):Int),iw ((I / 4:Nat):Int)]:List Value).toArray;have X:=LH (And.intro G (And.intro L J));replace D:=LH D;clear z t H L G J b u M hU m c0 c1
   go_wp2_with (first|(refine kI rfl 193 _ _ rfl _ _ rfl rfl D.o ?_)|fail)
   go_roundg g1
   case measure=>omega
   case rel=>refine⟨k+1,by omega,by go_num,?_⟩;rw[A.o];exact X
  ·obtain rfl:gk=0:=om;obtain rfl:k=4:=om;have Z:¬ ((4:Nat):Int)<4:=om;go_wp2;go_ret;exact⟨_,rfl,kU U.o.1 om,U.o.2.2⟩
theorem C4 (i k:Nat):(qn i k).length=k*2:=by
 induction k with
 | zero=>rfl
 | succ k ih=>rw[zl,aE,ih];simp;omega
theorem Ju (i n:Nat){k:Nat}(hk:k<n):(qn i n)[k*2]?=some (iw (k:Nat))/\(qn i n)[k*2+1]?=some (iw (i / 4 ^ k:Nat)):=by
 induction n with
 | zero=>omega
 | succ n ih=>
  rw[zl];by_cases h:k<n
  ·have a:=C4 i n;rw[aX om,aX om];exact ih h
  ·obtain rfl:k=n:=om;have a:=C4 i k;rw[aL om,aL om,a];simp
def tC (i:Nat) (T:iz) (Ls Ls':List iz):Prop:=Ls'.length=Ls.length/\∃ L,Ls[0]?=some L/\Ls'[0]?=some (splice L (i*16) T)
theorem Jv {i k:Nat}(hi:i<50) (hk:k<4):i / 4 ^ k<kp (k:Nat):=by have:k=0\/k=1\/k=2\/k=3:=om;rcases this with rfl|rfl|rfl|rfl<;>simp[kp]<;>omega
theorem Jw {w:World}{t b n:Nat}{gs:Nat->Nat}{key:iz}{Ls:List iz}(h:ll w t b gs key Ls) (h4:Ls.length=4) (hB:Bk w b n) (hn:n<999000) (i:Nat) (hi:i<50) (T:iz) (hT:T.length=16):
  Calls prog 119 #[iq t,iw i,.agg (aQ T).toArray] w λe w'=>e=.returned (.tuple #[])/\∃ Ls' n',ll w' t b gs key Ls'/\tC i T Ls Ls'/\n'<=n+4/\Bk w' b n'/\kf (λg=>∃ k,k<4/\g=gs k) b w w':=by
 obtain⟨q,hq⟩:=Ex w.heap.size;obtain⟨w1,E⟩:=Ex (w.alloc (.cells (aQ T).toArray 179));have b1:Below w.heap.size w w1:=by rw[E];exact (ag _ _).alloc (ae _) _
 have x1:w1.heap[q]?=some (.cells (aQ T).toArray 179 (0,0)):=by rw[E,hq];exact aj w _
 have T1:=h.after b1;have F:=hB.after b1;have an:=LH (vu T1 om);have af:=LH (λw2=>Jt i hi w2);have c6:(i:Int)<50:=om;refine G4 x1 b1 T1 F ?_;clear x1 b1 T1 F;intro x1 b1 T1 F
 have Z:∀ j,j<4->gs j<q:=λj hj=>by obtain⟨M,_,hM,_⟩:=h.level (k:=j) om;rw[hq];exact dC hM
 replace Z:=LH Z;clear h hB;go_enter func119,ntmps119
 go_wp2_with fail
 rw[<-E,<-hq];refine an.o.mono ?_;rintro e w2 ⟨rfl,rfl⟩
 go_wp2_with fail
 rw[<-E];refine (af.o w1).mono ?_;rintro e w2 ⟨v,rfl,a,G⟩;obtain⟨rg,rc,rfl,bD,bR⟩:=kz a om;have x2:=(G.block q (dC x1.o)).trans x1.o;have T2:=T1.o.after G;have A:=F.o.after G;have b2:=b1.o.trans (G.mono b1.o.size);refine G5 a x2 b2 A T2 ?_;clear a x2 b2 A T2;intro a x2 b2 A T2;clear G an af x1 b1 T1 F;replace E:=LH E
 go_wp2_with fail
 go_loopg [13] 4 (λg ix wr=>∃ k:Nat,k+g=4/\ix=iw k/\Hd (∃ Ls' n',ll wr t b gs key Ls'/\Ls'.length=4/\(0<k->tC i T Ls Ls')/\(k=0->Ls'=Ls)/\n'<=n+k/\Bk wr b n'/\kf (λg=>∃ k,k<4/\g=gs k) b w2 wr))
 case atStart=>exact⟨0,by omega,rfl,LH ⟨Ls,n,T2.o,h4,λh=>absurd h om,λ_=>rfl,by omega,A.o,kf.refl⟩⟩
 case round=>
  obtain⟨k,c8,rfl,HS⟩:=hrel;by_cases a6:k<4
  ·obtain⟨g1,rfl⟩:∃ i,gk=i+1:=⟨gk - 1,by omega⟩;have bA:(k:Int)<4:=om;obtain⟨Ls',n',N,a7,d,B,b4,c,K⟩:=HS.o
   have m:=K.own A.o a.o (λg hg=>by obtain⟨cur,hc⟩:=kA a.o hg;rintro⟨j,hj,rfl⟩;obtain⟨M,_,hM,_⟩:=T2.o.level (k:=j) om;rw[hM] at hc;simp at hc) de de
   have xR:=K.at A.o x2.o (λ⟨j,hj,e⟩=>by have:=Z.o j hj;omega) de de
   have b6:=Cells.own m
   have a1:∀ j u,(qn i 4)[j]?=some u->wr.cell? (iu rg j)=some u:=λj u hu=>by
    obtain⟨g',off,c',hv,_,_,_,_,Q⟩:=Cells.at b6 om;simp only[IJ] at hv;obtain⟨⟨rfl,rfl,_⟩,_,_⟩:=hv;have h8:=Q j u hu
    rwa [aw] at h8
   obtain⟨b7,H⟩:=Ju i 4 a6;obtain⟨I,hI⟩:=Ex (i / 4 ^ k);rw[<-hI] at H;have b8:I<kp (k:Nat):=by rw[hI];exact Jv hi a6
   have D:=mE (P:=prog) (w:=wr) (g:=rg) (off:=k*2) (ty:=193) (x:=[iw (k:Nat),iw (I:Nat)]) underlying193 kr (λj u hu=>by
    have:j=0\/j=1:=by have:=(aD.1 hu).1;simp at this;omega
    rcases this with rfl|rfl
    ·simp at hu;subst hu;exact a1 _ _ b7
    ·simp at hu;subst hu;exact a1 _ _ H)
   refine G9 D xR m N d B c K hI ?_;clear D xR m N d B c K hI;intro D xR m N d B c K hI;clear b6 a1 b7 H HS;obtain⟨w5,J⟩:=Ex (wr.alloc (.cells #[iw k,iw I] 193));have b5:Below wr.heap.size wr w5:=by rw[J];exact (ag _ _).alloc (ae _) _
   have T5:=LH (N.o.after b5);have B5:=LH (c.o.after b5);have G5:=LH (show kf (λg=>∃ k,k<4/\g=gs k) b w2 w5 from K.o.trans (kf.dD b5));have x5:=LH ((b5.block q (dC xR.o)).trans xR.o);replace J:=LH J;clear xR m N c K b5
   go_wp2_with (first|(refine kQ rfl 193 _ rfl _ _ rfl D.o ?_)|fail)
   ·have b3:k=0:=by rename ((k:Int) == 0)=true=>hkI;simpa using hkI
    rw[<-J.o,<-hq];obtain rfl:Ls=Ls':=(B.o b3).symm;obtain⟨lg,cap,kv,cs,_,_,_,_,c2,ba,c5,Q⟩:=T5.o.cells om;obtain⟨s,U⟩:=Q 0 om;rw[show kp (0:Nat)=50 from rfl] at s U;rw[h4] at c2 ba;obtain⟨CW,O⟩:=Ex (cs 0);rw[<-O] at s U;obtain⟨S,aa,z,ad⟩:=T5.o.level (k:=0) om;rw[show kp (0:Nat)=50 from rfl] at ad;have V:i*16+T.length<=S.length:=om;have c7:(i:Int)<(50:Nat):=om;have bW:(0:Int)<(4:Nat):=om
    have y:∀ R,aA No w5 R->(Instr.loadAt 179 (iq q)).run prog R=.ok (.agg (aQ T).toArray) R:=λR hc=>by have hx:=(hc.block q (dC x5.o) id).trans x5.o;have h8:=xe (w:=R) (g:=q) (L:=T) (i:=0) hx om;rw[Nat.zero_mul,fA,bh om] at h8;exact h8
    have r:=Dr w5
    refine G6 r y O c2 s z ?_;clear r y O c2 s z;intro r y O c2 s z;clear Q D;refine RA.oz (aA No) (λ_ _=>False) [1,1,1,1,1,1,1,1,1,7] [9] (λ_ _ _=>True) (λ_=>True) kr (aA.refl _ _) (λ_ _ h=>h.elim) (λ_ _ _ h k=>h.trans k) (λ_ _ h=>h.elim) trivial kr kr ?_;intro cx
    repeat refine RA.qq ?_
    refine RA.fk prog t 2 (h:=?_);refine RA.lk prog (ir lg 4 cap) (hc:=λR hp=>by exact ((r.o _ hp.1).cell (p:=iu t 2) (lq c2.o) id).trans c2.o) (h:=?_);refine RA.ik prog lg 0 (h:=?_);refine RA.lk prog (ir (gs 0) 50 CW) (hc:=λR hp=>by exact ((r.o _ hp.1).cell (p:=iu lg 0) (lq s.o) id).trans s.o) (h:=?_)
    repeat refine RA.qq ?_
    refine RA.ld (y':=.agg (aQ T).toArray) (hr:=λR hp=>y.o R (r.o _ hp.1)) (h:=?_);refine RA.ik prog (gs 0) (i*16) (h:=?_)
    refine RA.lr (λw6=>ll w6 t b gs key (Ls.set 0 (splice S (i*16) T))/\Bk w6 b n'/\aA (λg=>g=gs 0) w5 w6) (he:=λ_ _ h=>h.elim) (hr:=(λw4 bB _=>by
     have hp:=bB.first kr;have hc:=r.o _ hp.1;have a8:=z.o.dB (hc.block (gs 0) (dC z.o) id);have T4:=T5.o.after hc.no;have bC:(splice S (i*16) T).length=S.length:=BH V;refine⟨w4.setRow (gs 0) (aQ (splice S (i*16) T)).toArray,RA.kL rf rf (rK a8 (kV hT) V),T4.set aa bC,?_,?_⟩
     ·exact (B5.o.after hc.no).dB (λg hg hl=>aG _ _ _ _ (λe=>kn.type (B5.o.after hc.no) a8 de de (e ▸ hg)))
     ·exact (hc.mono (λ_ _ h=>h.elim)).setRow (g:=gs 0) (C:=λg=>g=gs 0) (λ_=>rfl) _)) (hn:=?_)
    refine RA.RA.kZ (λw6 hH=>?_);simp only[RA.RP,cx];obtain⟨X,W,G6⟩:=hH;have Y:=LH (show kf (λg=>∃ k,k<4/\g=gs k) b w2 w6 from G5.o.then G6 (λg _ e=>⟨0,by omega,e⟩) (λ_ e=>kn.type B5.o z.o de de (.inl e.symm)));replace X:=LH X;replace W:=LH W;clear G6 G5 T5 B5;go_wp2;go_roundg g1
    case measure=>omega
    case rel=>refine⟨k+1,by omega,by go_num,LH ⟨_,n',X.o,by simp[h4],λ_=>⟨by simp,S,aa,?_⟩,λh=>absurd h om,by omega,W.o,Y.o⟩⟩;rw[g7 om]
   ·have b3:¬ k=0:=by first|(rename ((k:Int) == 0)=false=>hkI;simpa using hkI)|(rename ¬ ((k:Int) == 0)=true=>hkI;simpa using hkI)
    obtain⟨l,ay⟩:∃ l,k=l+1:=⟨k - 1,by omega⟩;have f:=BI T5.o B5.o om l I om (by rw[<-ay];exact b8) om;rw[<-ay] at f;replace f:=LH f;rw[<-J.o];refine f.o.mono ?_;rintro e w6 ⟨rfl,L',X,W,G6⟩;have Y:=LH (show kf (λg=>∃ k,k<4/\g=gs k) b w2 w6 from G5.o.trans (kf.mono G6 (λg _ e=>⟨k,a6,e⟩)));replace X:=LH X;replace W:=LH W;clear G6 G5 T5 B5 f D;go_wp2;go_roundg g1
    case measure=>omega
    case rel=>refine⟨k+1,by omega,by go_num,LH ⟨_,n'+1,X.o,by simp[a7],λ_=>?_,λh=>absurd h om,by omega,W.o,Y.o⟩⟩;obtain⟨bl,S,bp,bz⟩:=d.o om;exact⟨by rw[bg];exact bl,S,bp,by rw[eT om];exact bz⟩
  ·obtain rfl:gk=0:=om;obtain rfl:k=4:=om;have bA:¬ ((4:Nat):Int)<4:=om;obtain⟨Ls',n',N,a7,d,B,b4,c,K⟩:=HS.o;have ax:=LH (show kf (λg=>∃ k,k<4/\g=gs k) b w wr from (kf.dD b2.o).trans K);replace N:=LH N;replace d:=LH d;replace c:=LH c;clear K B HS;go_wp2;go_end0;exact⟨rfl,Ls',N.o,d.o om,n',b4,c.o,ax.o⟩
end Go.Proofs.YthmcbgidehjlbaaGreat.Fd
namespace Go.Proofs.YthmcbgidehjlbaaGreat.RA
open _root_.Go.Proofs.Tryz
open Go
section
variable {c:Cx}{Z:Act->World->Prop}{os:List Oper}{i:Nat}{K:List (Nat×Value)}{G:List (Nat×(World->Prop))}{U:List Nat}{H:World->Prop}{ty:TypeId}{ps:String}{af:Array Edge}{gu:Option (Nat×Bool)}
theorem Jz {d:Nat}{P:Program}{f:FuncId}{xs:List Operand}{ats:Array TypeId}(ys:List Value) (h':Value->World->Prop) (hf:∀ args w,(callFunc f args).run P w=.ok (.enter f args) w)
  (hk:kl c i=6) (hg:gd c.ops c.a0 K ⟨some d,.call ⟨.value (.func f),xs.toArray,ats⟩,ty,ps,af,gu⟩=true) (ha:xs.map (ky c K)=ys.map some) (hu:(U.all λk=>(c.pr.getD i 0).testBit k)=true) (he:∀ v,lR c.E (h' v)) (hP:c.P=P)
  (hr:∀ w,qy c i G w->H w->Calls P f ys.toArray w λe w'=>∃ v,e=.returned v/\h' v w')
  (hn:∀ u,RA c Z os (i+1) ((d,u)::K) ((i,λ_=>True)::G) (i::U) (h' u)):RA c Z (⟨some d,.call ⟨.value (.func f),xs.toArray,ats⟩,ty,ps,af,gu⟩::os) i K G U H:=
 RA.xZ h' hk hg he hu (λw hp hH=>uV (by rw[hP,vZ ha];exact hf _ w) (by rw[hP];exact (hr w hp hH).mono λe w' ⟨v,h1,a⟩=>⟨v,h1,a⟩)) hn
end
end Go.Proofs.YthmcbgidehjlbaaGreat.RA
namespace Go.Proofs.YthmcbgidehjlbaaGreat.Fd
open _root_.Go.Proofs.Tryz
open Go Go.RowKit K
variable {key xl:iz}
theorem C6 {P:Program}{w w':World}{ops:Array Oper}{rest:List Oper}{o:Oper}{a:Act}{Q:Exit->Act->World->Prop}(hgd:o.guard=none) (t:TypeId) (x y z:Operand) (ho:o.op=.mapUpdate t x y z)
  (p q v:Value) (hx:a.eval x=p) (hy:a.eval y=q) (hz:a.eval z=v) (hr:(Instr.mapUpdate t p q v).run P w=.ok () w') (h:wpList P ops Q rest (a.put o.dst undef) w'):wpList P ops Q (o::rest) a w:=
 cN hgd λK b=>by unfold Oper.wp execOp;simp only[ho,hx,hy,hz,aM,hr,bu];exact b _ _ h
def uJ (w:World) (t:Nat) (gs:Nat->Nat) (g:Nat):Prop:=(∃ k,k<4/\g=gs k)\/w.cell? (iu t 3)=some (.map (some g))
def qo (key:iz) (i:Nat) (xl:iz):iz:=(oM key [mu [[108,101,97,102],kj i,xl]]).take 16
theorem C7 {i:Nat}:(qo key i xl).length=16:=by rw[qo,aR,rk];rfl
theorem JA {w:World}{t b n N:Nat}{gs:Nat->Nat}{Ls:List iz}{Tx:List (Int×Value)}(h:lx w t b N gs key Ls Tx) (_:b<=N) (h4:Ls.length=4) (hB:Bk w b n) (hn:n<900000) (i:Nat) (hi:i<50){B:Nat}{xv:Value}(hx:w.ownsRow B 5 1 xv xl.length (aQ xl)) (hxl:xl.length<=1000):
  Calls prog 81 #[iq t,iw i,xv] w λe w'=>e=.returned (iw 0)/\∃ Ls' n',lx w' t b N gs key Ls' (lZ Tx i (.bool true))/\tC i (qo key i xl) Ls Ls'/\n'<=n+5/\Bk w' b n'/\kf (uJ w t gs) b w w':=by
 obtain⟨V,b4,an,mb,ay,l,hm⟩:=h;obtain⟨lg,cap,kv,cs,c0,c1,Z,ax,c2,_,_,_⟩:=V.cells om;obtain⟨p,u,A,z,b8⟩:=hm.put (t:=153) underlying153 (k:=i) (rp om) (.bool true);obtain⟨es,ck,a6,_⟩:=hm.box;have E:∀ {g:Nat}{cs:Array Value}{ty:TypeId}{m:Nat×Nat},w.heap[g]?=some (.cells cs ty m)->¬ g=mb:=λ{g cs ty m} hg e=>by rw[e,a6] at hg;cases hg
 have U:ll p t b gs key Ls:=V.dB (λg cs ty _ hg=>z.block g (dC hg) (E hg))
 have d:Bk p b n:=hB.dB (λg hg hl=>z.block g hl (by rintro rfl;obtain⟨cs,t,m,hc,_⟩:=kn.obj hB hg;exact E hc rfl))
 have a8:p.ownsRow B 5 1 xv xl.length (aQ xl):=dE hx (λg hg=>z.block g (kt hx g hg) (by obtain⟨cur,hc⟩:=kA hx hg;exact E hc));have H:kf (uJ w t gs) b w p:=(kf.mh z (λ_=>by obtain⟨lv,hx⟩:=hB.box;exact E hx)).mono (λg _ e=>.inr (e ▸ l));have Y:=LH (C3 V om i hi);have af:=lq l;have q:=λ(a:World) (n3:Nat) (h3:ll a t b gs key Ls) (ad:Bk a b n3) (b2:n3<999000)=>Jw h3 h4 ad b2 i hi (qo key i xl) C7
 have D:=λ(a:World) (h3:Bytes a (λ_=>True) xv xl)=>C5 (w:=a) i om h3
 have aa:=U;obtain⟨Q,b6,b7,bl,t1,t2,_,_,_⟩:=aa;have G:∀ a,RB b p a->a.heap[t]?=some (.cells #[iq b,Q,b6,b7] 189 (0,0)):=λa hr=>hr.2.2.at d t1 id de de
 have c:∀ a,RB b p a->Bytes a (λ_=>True) Q key:=λa hr=>by have h8:=(Cells.own (hr.2.2.own d t2 (λ_ _=>id) de de)).mono (S':=λ_=>True) (λ_ _ _=>trivial);rw[<-ax] at h8;exact h8
 have y:Bk p.drew b n:=d.dB (λ_ _ _=>rfl);have J:RB b p.drew p.drew:=⟨⟨n,y⟩,⟨n,y⟩,kf.refl⟩;have f:∀ a,RB b p.drew a->RB b p a:=λa h=>⟨⟨n,d⟩,h.2.1,h.2.2.drew⟩
 have F:∀ a,RB b p a->Bytes a (λ_=>True) xv xl:=λa hr=>(Cells.own (hr.2.2.own d a8 (λ_ _=>id) de de)).mono (λ_ _ _=>trivial)
 have j:∀ k,k<4->∃ M,ke p (gs k) 179 M:=λk hk=>by obtain⟨M,_,X,_⟩:=U.level (k:=k) om;exact⟨M,X⟩
 have s:p.cell? (iu t 3)=some (.map (some mb)):=(az (z.block t V.lt (by obtain⟨_,_,_,_,q1,_⟩:=V;exact E q1))).trans l;have r:∀ a,RB b p a->ll a t b gs key Ls:=λa hr=>U.rb hr
 obtain⟨xa,xc,rfl,_,_⟩:=(Cells.own hx).shape;obtain⟨XL,L⟩:=Ex xl.length;rw[<-L] at F D ⊢;have bz:(i:Int)<50:=om;refine G9 u L F f J y c G D ?_;clear u L F f J y c G D;intro u L F f J y c G D;refine G9 q r H A U d l j s ?_;clear q r H A U d l j s;intro q r H A U d l j s;have T:=LH t1;clear hx a8 t1 t2 V z a6 hm c0 c1 c2 Z hB af;go_enter func81,ntmps81
 go_wp2_with fail
 refine Y.o.mono ?_;rintro e w2 ⟨rfl,rfl⟩;replace l:=l.o
 go_wp2_with (first|(refine C6 rfl 153 _ _ _ rfl _ _ _ rfl rfl rfl u.o ?_)|fail)
 refine RA.oz (RB b) (λ_ _=>False) [1,1,1,1,1,1,1,1,1,1,1,1,3,3,3,6] [15] (λ_ _ _=>True) (λa=>Bk a b n) kr J.o (λ_ _ h=>h.elim) (λ_ _ _ h k=>h.trans k) (λ_ _ h=>h.elim) y.o kr kr ?_;intro cx
 repeat refine RA.qq ?_
 refine RA.fk prog t 0 (h:=?_);refine RA.lk prog (iq b) (hc:=λa hp=>by exact cell_of (G.o _ (f.o _ hp.1)) 0) (h:=?_)
 repeat refine RA.qq ?_
 refine RA.fk prog t 1 (h:=?_)
 refine RA.ld (y':=Q) (hr:=λa hp=>by obtain⟨ka,kc,hk,_⟩:=(c.o _ (f.o _ hp.1)).shape;have hc:=cell_of (G.o _ (f.o _ hp.1)) 1;subst hk;show (Instr.loadAt _ _).run prog a=_;go_simp) (h:=?_)
 repeat refine RA.qq ?_
 refine RA.qc (P:=prog) [iw i,.slice xa XL xc] (λ_ _=>True) (λv a=>Bk a b n/\kP a (λ_=>True) v [[108,101,97,102],kj i,xl]) (hs:=λ_ _ _ _ _=>trivial) (he:=λ_ _ _ h=>h.elim) (hr:=λa hp hH=>by have hr:=f.o _ hp.1;refine (D.o a (F.o a hr)).mono ?_;rintro e w4 ⟨v,rfl,k3,C⟩;exact⟨v,rfl,⟨⟨n,hH⟩,⟨n,hH.after C⟩,kf.dD C⟩,trivial,hH.after C,k3⟩) (hn:=λu1=>?_)
 refine RA.qc (P:=prog) [iq b,Q,u1] (λv _=>v=.agg (aQ (oM key [mu [[108,101,97,102],kj i,xl]])).toArray) (λ_ a=>Bk a b (n+1)) (hs:=λ_ _ _ _ h=>h) (he:=λ_ _ _ h=>h.elim) (hr:=(λa hp hH=>by
  obtain⟨W,k2⟩:=hH
  have hlen:∀ x ∈ [[108,101,97,102],kj i,xl],x.length<=1000:=by
   intro x hx;simp only[bi,bL,bS] at hx;rcases hx with rfl|rfl|rfl
   ·simp
   ·rw[nF];omega
   ·omega
  refine (vr W om (c.o _ (f.o _ hp.1)) om k2 sm (λx hx=>by have:=hlen x hx;omega) (xh hlen sm)).mono ?_;rintro e w4 ⟨rfl,C,k5⟩;exact⟨_,rfl,⟨⟨n,W⟩,⟨n+1,C⟩,k5⟩,rfl,C⟩)) (hn:=λu3=>?_)
 refine RA.qc (P:=prog) [u3] (λv _=>v=.agg (aQ (qo key i xl)).toArray) (λ_ a=>Bk a b (n+1)) (hs:=λ_ _ _ _ h=>h) (he:=λ_ _ _ h=>h.elim) (hr:=λa hp hH=>by obtain rfl:=(show u3=_ from hp.fact 0 rfl kr);refine (yF rk a).mono ?_;rintro e w4 ⟨rfl,C⟩;exact⟨_,rfl,⟨⟨_,hH⟩,⟨_,hH.after C⟩,kf.dD C⟩,rfl,hH.after C⟩) (hn:=λu4=>?_)
 refine RA.Jz (P:=prog) [iq t,iw i,u4] (λ_ S=>∃ Ls' n',ll S t b gs key Ls'/\tC i (qo key i xl) Ls Ls'/\n'<=n+5/\Bk S b n'/\kf (λg=>∃ k,k<4/\g=gs k) b p S) (λ_ _=>by go_simp) kr rf rf kr (λ_ _ _ h=>h.elim) rfl (λa b3 hH=>by have hp:=b3.first kr;obtain rfl:=(show u4=_ from hp.fact 0 rfl kr);have hr:=f.o _ hp.1;refine (q.o a (n+1) (r.o a hr) hH om).mono ?_;rintro e w4 ⟨rfl,Ls',n',k1,k2,k3,C,k5⟩;exact⟨_,rfl,Ls',n',k1,k2,by omega,C,(hr.2.2.mono (λ_ _ h=>h.elim)).trans k5⟩) (λu5=>?_)
 refine RA.RA.kZ (λS hH=>?_);simp only[RA.RP,cx];obtain⟨Ls',n',y1,y2,y3,y4,y5⟩:=hH
 have a7:∀ {g:Nat}{cs:Array Value}{ty:TypeId}{m:Nat×Nat},p.heap[g]?=some (.cells cs ty m)->ty≠179->¬ ∃ k,k<4/\g=gs k:=λ{g cs ty m} hg b5=>by rintro⟨k,hk,rfl⟩;obtain⟨M,X⟩:=j.o k hk;rw[X] at hg;simp only[IJ] at hg;exact b5 hg.2.1.symm
 have t5:=y5.at d.o T.o (a7 T.o de) de de
 have a1:k9 S mb (lZ Tx i (.bool true)):=A.o.dB (by
  refine y5.block mb A.o.lt ?_;obtain⟨⟨bp,c',O,_⟩,_⟩:=A.o;rintro (⟨k,hk,e⟩|e)
  ·obtain⟨M,X⟩:=j.o k hk;rw[e,X] at O;cases O
  ·obtain⟨ba,t',m',h4,_⟩:=kn.obj d.o e;rw[h4] at O;cases O)
 have R:S.cell? (iu t 3)=some (.map (some mb)):=(az (t5.trans T.o.symm)).trans s.o;have K:lx S t b N gs key Ls' (lZ Tx i (.bool true)):=⟨y1,b4,λk hk=>an k (by rw[<-y2.1];exact hk),mb,ay,R,a1⟩;have I:kf (uJ w t gs) b w S:=H.o.trans (y5.mono (λg _ e=>.inl e));refine G4 K I y4 y2 ?_;clear K I y4 y2;intro K I y4 y2;clear y1 y5 t5 a1 R a7;go_wp2;go_ret;exact⟨rfl,Ls',n',K.o,y2.o,y3,y4.o,I.o⟩
end Go.Proofs.YthmcbgidehjlbaaGreat.Fd

/-
 Parts of the proof. No condition beyond what each theorem names.
-/
import Derived.ChangeKeysEq
import Derived.Test.YthmcbgidehjlbaaGreatFrAh
import Derived.Test.YthmcbgidehjlbaaGreatFrAt
set_option maxRecDepth 100000
set_option maxHeartbeats 16000000
namespace Go.Proofs.YthmcbgidehjlbaaGreat.Fd
open _root_.Go.Proofs.Tryz
open Go Go.RowKit K
def mW (i j:Nat) (T:iz):List Value:=[iw i,iw j]++aQ T
theorem Iw {w:World}{g i j:Nat}{T:iz}(h:w.heap[g]?=some (.cells (mW i j T).toArray 181 (0,0))) (hT:T.length=16):Bytes w (λ_=>True) (.slice (some (iu g 2)) 16 16) T:=by
 refine⟨by rw[km,aY],_,_,by rw[hT],by omega,by unfold maxLen;omega,λh=>(by cases h),.inr ⟨g,2,rfl,trivial,dC h,λk u hu=>?_⟩⟩;rw[cell_of h,aV,mW,aL sm]
 simpa using hu
theorem yU {w:World}{d s b n:Nat}{gH:ByteArray}{dv:Value}{ma:Option Addr}{mc:Nat}{M:iz}(hB:Bk w b n) (hn:n<1000000) (hk:w.ownsRow 0 5 1 (.slice ma 32 mc) 32 (aQ M)) (i j:Nat) (hi:i<=1000000) (hj:j<=1000000){T:iz}(hT:T.length=16):
  Calls prog 91 #[.agg (mM d s b gH dv (.slice ma 32 mc)).toArray,.agg (mW i j T).toArray] w λe w'=>∃ v,e=.returned v/\(∃ l:iz,l.length=48/\Bytes w' (λ_=>True) v l)/\Bk w' b (n+1)/\kf No b w w':=by
 obtain⟨st,G⟩:=Ex (mM d s b gH dv (.slice ma 32 mc));rw[<-G];obtain⟨q,hq⟩:=Ex w.heap.size;obtain⟨w1,I⟩:=Ex ((w.alloc (.cells st.toArray 174)).alloc (.cells (mW i j T).toArray 181));have J:od w1 q st:=by rw[I,hq];exact (tw w st).ki ((aA.refl _ _).alloc _)
 have b1:Below w.heap.size w w1:=by rw[I];exact ((ag _ _).alloc (ae _) _).alloc sm _
 have x1:w1.heap[q+1]?=some (.cells (mW i j T).toArray 181 (0,0)):=by rw[I,hq];have h:=aj (w.alloc (.cells st.toArray 174)) (.cells (mW i j T).toArray 181);simp only[aN] at h;exact h
 have V:=hB.after b1;have U:=dE hk (λg hg=>b1.block g (kt hk g hg));have bW:M.length=32:=by have:=hk.1;rw[km] at this;omega
 have c0:w1.cell? (iu (q+1) 0)=some (iw i):=by rw[cell_of x1];rfl
 have c1:w1.cell? (iu (q+1) 1)=some (iw j):=by rw[cell_of x1];rfl
 have ba:=LH (λf (hc:aA No w1 f)=>Bytes.ki (Iw x1 hT) hc (λ_ _ _=>id));have B:=Dr w1
 have bz:=LH (dC x1);obtain⟨c,hc⟩:=Ex st.toArray;obtain⟨hv,af⟩:=Ex ((mW i j T).toArray);rw[<-hc,<-af] at I ⊢;refine G6 hc af G B J b1 ?_;clear hc af G B J b1;intro hc af G B J b1;refine G4 V U c0 c1 ?_;clear V U c0 c1;intro V U c0 c1;clear hB hk x1;go_enter func91,ntmps91;go_wp2;rw[<-I,<-hq];replace I:=LH I;replace hq:=LH hq;refine RA.rt (aA No) [1,1,3,1,1,3,1,1,3,3,1] [] (λ_=>True) trivial (λ_=>aA.refl _ _) (λ_ _ _ h k=>h.trans k) (h:=?_);intro cx;refine RA.fk prog (q+1) 0 (h:=?_);refine RA.lk prog (iw i) (hc:=λf hp=>by exact ((B.o _ hp.1).cell (p:=iu (q+1) 0) bz.o id).trans c0.o) (h:=?_)
 refine RA.qc (P:=prog) [iw i] (λv f=>Bytes f (λ_=>True) v (kj i)) (hs:=λv a b h A=>A.ki h (λ_ _ _=>id)) (hr:=λf hp hH=>(oL i om f).mono (by rintro e E ⟨v,rfl,F,D⟩;exact⟨v,rfl,aA.dD D _,pV F,trivial⟩)) (hn:=λu1=>?_)
 refine RA.fk prog (q+1) 1 (h:=?_);refine RA.lk prog (iw j) (hc:=λf hp=>by exact ((B.o _ hp.1).cell (p:=iu (q+1) 1) bz.o id).trans c1.o) (h:=?_)
 refine RA.qc (P:=prog) [iw j] (λv f=>Bytes f (λ_=>True) v (kj j)) (hs:=λv a b h A=>A.ki h (λ_ _ _=>id)) (hr:=λf hp hH=>(oL j om f).mono (by rintro e E ⟨v,rfl,F,D⟩;exact⟨v,rfl,aA.dD D _,pV F,trivial⟩)) (hn:=λu2=>?_)
 refine RA.fk prog (q+1) 2 (h:=?_);refine RA.qU (y':=.slice (some (iu (q+1) 2)) 16 16) (hr:=λf hp=>by show (Instr.sliceAt _ _ _ _ _).run prog f=_;go_simp) (h:=?_)
 refine RA.bq (λx f=>kP f (λ_=>True) x [kj i,kj j,T]) (hs:=λ_ _ _ h k=>k.dB h.size (λb _ hb=>h.block b hb id)) (he:=λ_ _ _ _ _=>trivial) (hr:=λf hp _=>by
  have f1:=(show Bytes f (λ_=>True) u1 (kj i) from hp.fact 1 rfl kr);have f2:=(show Bytes f (λ_=>True) u2 (kj j) from hp.fact 0 rfl kr);have f3:=ba.o f (B.o _ hp.1)
  have hP:=rl (w:=f) (S:=λ_=>True) (vs:=[u1,u2,.slice (some (iu (q+1) 2)) 16 16]) (parts:=[kj i,kj j,T]) rfl (by unfold maxLen;simp) (by
   intro j v hv
   match j with
   | 0=>cases hv;exact f1
   | 1=>cases hv;exact f2
   | 2=>cases hv;exact f3
   | _+3=>simp at hv)
  refine⟨_,f.alloc (.cells #[u1,u2,.slice (some (iu (q+1) 2)) 16 16] 42),?_,(aA.refl _ _).alloc _,hP,trivial⟩;obtain⟨_,_,rfl,_⟩:=f1.shape;obtain⟨_,_,rfl,_⟩:=f2.shape;clear f1 f2 f3 hP hp;show (execOp _ _).run prog f=_;go_simp) (hn:=λx=>?_)
 refine RA.qc (P:=prog) [x] (λv f=>∃ l:iz,l.length=32/\f.ownsRow w1.heap.size 5 1 v 32 (aQ l)) (hs:=λv a b h A=>by
  obtain⟨l,F,D⟩:=A;exact⟨l,F,dE D (λg hg=>h.block g (kt D g hg) id)⟩) (hr:=(λf hp hH=>by
  have hlen:∀ y ∈ [kj i,kj j,T],y.length<=100000:=by
   intro y hy;simp only[bi,bL,bS] at hy;rcases hy with rfl|rfl|rfl
   ·rw[nF];omega
   ·rw[nF];omega
   ·omega
  have z:[kj i,kj j,T].flatten.length=32:=by simp only[eL,List.flatten_nil,dm,aE,nF];omega
  refine (vq (hp.fact 0 rfl kr) sm hlen).mono ?_;rintro e E ⟨v,rfl,F,D⟩;rw[z] at F;exact⟨v,rfl,aA.dD D _,⟨_,z,kU F (B.o _ hp.1).size⟩,trivial⟩)) (hn:=λy=>?_)
 repeat refine RA.qq ?_
 refine RA.RA.done rfl (λw2 hR hF hH=>?_);clear hH;simp only[RA.RP,cx];obtain⟨IN,bR,b4⟩:=hF _ (cq ..);have O:=B.o _ hR;obtain⟨ig,ic,rfl,_⟩:=kz b4 om;clear hF hR;obtain⟨N,hN⟩:=Ex w2.heap.size;have K:=V.o.after O.no;have bA:=J.o.ki O;have a1:oe M (.slice ma 32 mc) w2:=oe.own (dE U.o (λg hg=>O.block g (kt U.o g hg) id)) bW om;have R:oe IN (ir ig 32 ic) w2:=oe.own b4 bR om;have L:Bk w2.drew b n:=K.dB (λ_ _ _=>rfl);have W:RX N b w2.drew w2.drew:=(EX.mh ⟨n,L⟩ (aA.refl No w2.drew) (by rw[hN];exact ae _)).rx;have r:∀ f,RX N b w2.drew f->RX N b w2 f:=λf h=>⟨⟨n,K⟩,h.b1,h.os,h.tape,h.output,h.size,h.lU,h.other,h.row,h.pD⟩
 have u:∀ f,RX N b w2 f->N<=f.heap.size:=λf h=>hN ▸ h.size
 have bB:∀ f,RX N b w2 f->od f q st:=λf h=>⟨h.other _ _ _ _ bA.at_ de de de⟩
 have Y:kf No b w w2:=(kf.dD b1.o).trans (kf.ti O);have ax:w.heap.size<=w2.heap.size:=am b1.o.size O.size;have a6:∀ {v:Value}{j:Nat},st[j]?=some v->∀ f,RX N b w2 f->f.cell? (iu q j)=some v:=λhj f h=>(bB f h).get hj
 have d5:=LH (a6 (j:=6) (v:=.slice ma 32 mc) (by rw[G.o];rfl));have d3:=LH (a6 (j:=3) (v:=iw 25) (by rw[G.o];rfl));have d4:=LH (a6 (j:=4) (v:=iw 35) (by rw[G.o];rfl));have d7:=LH (a6 (j:=7) (v:=iq b) (by rw[G.o];rfl));refine G6 L W r u a1 R ?_;clear L W r u a1 R;intro L W r u a1 R;refine G4 Y ax hN K ?_;clear Y ax hN K;intro Y ax hN K;clear O bA b4 bB a6 J U V ba B c0 c1;go_wp2;refine RA.oz (RX N b) (EX N b) [1,1,1,1,2,2,1,1,1,2,1,1,1,2,1,3,3,2,7] [18] (λk v f=>match k with|4=>mJ N [114,105,110,103,32,104,101,97,100] 5 v f|5=>mJ N [114,105,110,103,32,104,101,97,100] 5 v f|9=>oe (kj 25) v f|13=>oe (kj 35) v f|_=>∃ p,v=iq p/\N<=p/\ke f p 209 (List.replicate 32 0)) (λf=>Bk f b n) kr W.o (λ_ _ h=>h.rx) (λ_ _ _ h k=>h.trans k) (λ_ _ h k=>h.bk k) L.o kr kr ?_;intro cx;refine RA.fk prog q 7 (h:=?_);refine RA.lk prog (iq b) (hc:=λf hp=>by exact d7.o _ (r.o _ hp.1)) (h:=?_);refine RA.fk prog q 6 (h:=?_);refine RA.lk prog (.slice ma 32 mc) (hc:=λf hp=>by exact d5.o _ (r.o _ hp.1)) (h:=?_)
 refine RA.fr (hs:=λv a b h A=>mJ.rx A h) (hr:=λf hp=>⟨ir f.heap.size 9 9,f.alloc (.cells (aQ [114,105,110,103,32,104,101,97,100]).toArray 5),by show (execOp _ _).run prog f=_;go_simp;rfl,EX.mh (r.o _ hp.1).b1 ((aA.refl _ _).alloc _) (u.o _ (r.o _ hp.1)),⟨f.heap.size,(0,0),rfl,u.o _ (r.o _ hp.1),by unfold maxLen;exact cF rfl,aj f _⟩⟩) (h:=λu0=>?_)
 refine RA.fr (hs:=λv a b h A=>mJ.rx A h) (hr:=λf hp=>by obtain⟨E,F,D,k3,k4⟩:=Iv (show mJ N [114,105,110,103,32,104,101,97,100] _ u0 f from hp.fact 0 rfl kr);refine⟨u0,E,?_,⟨(r.o _ hp.1).b1,D,k4⟩,k3⟩;exact RA.xf rf F) (h:=λu1=>?_)
 refine RA.fk prog q 3 (h:=?_);refine RA.fk prog q 3 (h:=?_);refine RA.lk prog (iw 25) (hc:=λf hp=>by exact d3.o _ (r.o _ hp.1)) (h:=?_)
 refine RA.pU (P:=prog) [iw 25] (λ_ _=>by go_simp) kr rf rf (λv a b h A=>oe.rx A h) rfl (λf hp=>(oL 25 om f).mono (by rintro e E ⟨v,rfl,F,D⟩;exact⟨v,rfl,EX.dD (r.o _ hp.1).b1 D (u.o _ (r.o _ hp.1)),oe.own F nF om⟩)) (λu2=>?_)
 refine RA.fk prog q 3 (h:=?_);refine RA.fk prog q 4 (h:=?_);refine RA.lk prog (iw 35) (hc:=λf hp=>by exact d4.o _ (r.o _ hp.1)) (h:=?_)
 refine RA.pU (P:=prog) [iw 35] (λ_ _=>by go_simp) kr rf rf (λv a b h A=>oe.rx A h) rfl (λf hp=>(oL 35 om f).mono (by rintro e E ⟨v,rfl,F,D⟩;exact⟨v,rfl,EX.dD (r.o _ hp.1).b1 D (u.o _ (r.o _ hp.1)),oe.own F nF om⟩)) (λu3=>?_)
 repeat refine RA.qq ?_
 refine RA.bq (λ_ _=>True) (λx f=>Bk f b n/\kP f (λ_=>True) x [[114,105,110,103,32,104,101,97,100],kj 25,kj 35,IN]) (hs:=λ_ _ _ _ _=>trivial) (he:=λ_ _ _ h k=>⟨h.bk k.1,Mk.parts h.2.1 k.2⟩) (hr:=(λf hp hH=>by
  have an:=r.o _ hp.1;have f1:=(show mJ N [114,105,110,103,32,104,101,97,100] _ u1 f from hp.fact 2 rfl kr).bytes;have f2:=(show oe (kj 25) u2 f from hp.fact 1 rfl kr).bytes;have f3:=(show oe (kj 35) u3 f from hp.fact 0 rfl kr).bytes;have f4:=(R.o.rx an).bytes
  have hP:=rl (w:=f) (S:=λ_=>True) (vs:=[u1,u2,u3,ir ig 32 ic]) (parts:=[[114,105,110,103,32,104,101,97,100],kj 25,kj 35,IN]) rfl (by unfold maxLen;simp) (by
   intro j v hv
   match j with
   | 0=>cases hv;exact f1
   | 1=>cases hv;exact f2
   | 2=>cases hv;exact f3
   | 3=>cases hv;exact f4
   | _+4=>simp at hv)
  have b2:=EX.mh (b:=b) an.b1 ((aA.refl No f).alloc (.cells #[u1,u2,u3,ir ig 32 ic] 42)) (u.o _ an);have Q:Bk f b n:=hH;refine⟨_,f.alloc (.cells #[u1,u2,u3,ir ig 32 ic] 42),?_,b2.rx,trivial,b2.bk Q,hP⟩;obtain⟨_,_,rfl,_⟩:=f1.shape;obtain⟨_,_,rfl,_⟩:=f2.shape;obtain⟨_,_,rfl,_⟩:=f3.shape;clear f1 f2 f3 f4 hP hp hH Q b2 an;show (execOp _ _).run prog f=_;go_simp)) (hn:=λx4=>?_)
 refine RA.qc (P:=prog) [iq b,.slice ma 32 mc,x4] (λv _=>∃ H:iz,H.length=32/\v=.agg (aQ H).toArray) (λ_ E=>Bk E b (n+1)) (hs:=λ_ _ _ _ h=>h) (he:=λ_ _ _ h k=>h.bk k) (hr:=(λE hp hH=>by
  obtain⟨b7,D⟩:=hH
  have hlen:∀ x ∈ [[114,105,110,103,32,104,101,97,100],kj 25,kj 35,IN],x.length<=1000:=by
   intro x J;simp only[bi,bL,bS] at J;rcases J with rfl|rfl|rfl|rfl
   ·simp
   ·rw[nF];omega
   ·rw[nF];omega
   ·omega
  refine (vr b7 hn (a1.o.rx (r.o _ hp.1)).bytes om D sm (λx J=>by have:=hlen x J;omega) (xh hlen sm)).mono ?_;rintro e w5 ⟨rfl,k4,k5⟩;exact⟨_,rfl,RX.ow b7 k4 k5,⟨_,rk,rfl⟩,k4⟩)) (hn:=λu5=>?_)
 refine RA.fr (hs:=λv x y hr hk=>by
  obtain⟨p,h1,A,h3⟩:=hk;exact⟨p,h1,A,hr.other _ _ _ _ h3 de de de⟩) (hr:=λE hp=>⟨iq E.heap.size,E.alloc (.cells (aQ (List.replicate 32 0)).toArray 209),by
  show (execOp _ _).run prog E=_;go_simp;rfl,EX.mh (r.o _ hp.1).b1 ((aA.refl _ _).alloc _) (u.o _ (r.o _ hp.1)),E.heap.size,rfl,u.o _ (r.o _ hp.1),aj E _⟩) (h:=λu6=>?_)
 refine RA.lr (λw5=>∃ (p:Nat) (H:iz),u6=iq p/\H.length=32/\ke w5 p 209 H/\Bk w5 b (n+1)/\RX N b w2 w5) (he:=λx y hE hk=>by
  obtain⟨p,H,h1,A,h3,h4,h5⟩:=hk;exact⟨p,H,h1,A,hE.2.2 _ _ _ _ h3 de,hE.bk h4,h5.trans hE.rx⟩) (hr:=(λE c5 hH=>by
  have hp:=c5.first kr;obtain⟨p,rfl,A,h3⟩:=hp.fact 0 rfl kr;obtain⟨H,aa,rfl⟩:=hp.fact 1 rfl kr;have hr:=r.o _ hp.1;have Q:Bk E b (n+1):=hH;have b6:Bk (E.setRow p (aQ H).toArray) b (n+1):=Q.dB (λg hg hl=>aG _ _ _ _ (λe=>kn.type Q h3 de de (e ▸ hg)))
  have bp:∀ (g:Nat) (C:Array Value) (t:TypeId) (m:Nat×Nat),w2.heap[g]?=some (.cells C t m)->g≠p:=λg C t m hg=>by have:=dC hg;have:=hN.o;omega
  refine⟨E.setRow p (aQ H).toArray,RA.kL rf rf (th h3 aa),p,H,rfl,aa,h3.setRow H,b6,⟨hr.b0,⟨_,b6⟩,by rw[setRow_os];exact hr.os,by rw[gy];exact hr.tape,by rw[gz];exact hr.output,by rw[eS];exact hr.size,λg hg J hn=>?_,λg C t m hg h1 A h3=>?_,λg C m hg=>?_,λg hg hb e=>hr.pD g hg hb (mw.block (aG _ _ _ _ (λe2=>kn.type Q h3 de de (.inl e2.symm))) e)⟩⟩
  ·rw[aG _ _ _ _ om];exact hr.lU g hg J hn
  ·rw[aG _ _ _ _ (bp g C t m hg)];exact hr.other g C t m hg h1 A h3
  ·rw[aG _ _ _ _ (bp g C _ m hg)];exact hr.row g C m hg)) (hn:=?_)
 refine RA.RA.kZ (λw5 hH=>?_);simp only[RA.RP,cx];obtain⟨p7,H,rfl,aa,b8,a7,b3⟩:=hH;have bl:=(R.o.rx b3).bytes;have a8:kf No b w w5:=Y.o.trans (b3.pb hN.o);have ay:=Ce b8 aa
 have hP:=rl (w:=w5) (S:=λ_=>True) (vs:=[ir ig 32 ic,ir p7 16 32]) (parts:=[IN,H.take 16]) rfl (by unfold maxLen;simp) (by
  intro j v hv
  match j with
  | 0=>cases hv;exact bl
  | 1=>cases hv;exact ay
  | _+2=>simp at hv)
 have z:[IN,H.take 16].flatten.length=48:=by simp only[eL,List.flatten_nil,dm,aE,aR];omega
 have ad:=LH (vq hP sm (by
  intro x J;simp only[bi,bL,bS] at J;rcases J with rfl|rfl
  ·omega
  ·rw[aR];omega))
 obtain⟨Z,hZ⟩:=Ex ([IN,H.take 16].flatten);rw[<-hZ] at ad z;rw[z] at ad;refine G4 a8 a7 hZ z ?_;clear a8 a7 hZ z;intro a8 a7 hZ z;clear bl ay hP b8 b3 a1 R r u Y ax K L W d5 d3 d4 d7
 go_wp2_with fail
 refine ad.o.mono ?_;rintro e w6 ⟨v,rfl,F,D⟩;have X:Below w5.heap.size w5 w6:=((ag _ _).alloc (ae _) _).trans (D.mono sm)
 have b5:Bytes w6 (λ_=>True) v Z:=by show Cells w6 _ _ Z.length 1 _;rw[z.o];exact (Cells.own F).mono (λ_ _ _=>trivial)
 have bC:=LH (a7.o.after X);have bD:=LH (a8.o.trans (kf.dD X));replace b5:=LH b5;obtain⟨va,vc,rfl,_⟩:=(Cells.own F).shape;clear F D X ad;go_wp2;go_ret;exact⟨_,rfl,⟨Z,z.o,b5.o⟩,bC.o,bD.o⟩
variable {w:World}{F:Nat->Prop}{d B:Nat}{X:D.Dk}{ws:List (Nat×Value)}
def uC (X:D.Dk):Prop:=(∀ p,p<120->(p=0\/60<=p)->X.at p=List.replicate 64 0)/\∀ q ∈ X.kC,0<q.1/\q.1<60
def ry (X:D.Dk) (k:Nat):Prop:=X.plain/\X.size=120/\X.kC.length<=k/\uC X
theorem Ix {s z:iz}{n q p:Nat}(hs:s.length=64*n) (hq:q<n) (hz:z.length=64) (hqp:q≠p):((splice s (q*64) z).drop (p*64)).take 64=(s.drop (p*64)).take 64:=by
 have a:q*64+z.length<=s.length:=om;refine b9 (λi=>?_);by_cases hi:i<64
 ·rw[dV hi,bF,vm a,dV hi,bF];by_cases h1:p*64+i<q*64
  ·rw[ak h1]
  ·rw[ah h1,ah om]
 ·rw[cB (by rw[aR];omega),cB (by rw[aR];omega)]
theorem Iy (n p:Nat) (hp:p=0\/60<=p):∀ (l:List (Nat×iz)) (s:iz),s.length=64*n->(∀ q ∈ l,q.1<n/\q.2.length=64)->(∀ q ∈ l,0<q.1/\q.1<60)->((D.mV s l).drop (p*64)).take 64=(s.drop (p*64)).take 64:=by
 intro l
 induction l with
 | nil=>intro s _ _ _;rfl
 | cons q l ih=>intro s hs c a;have h1:=c q sm;have d:=a q sm;have e:D.mV s (q::l)=D.mV (splice s (q.1*64) q.2) l:=rfl;rw[e,ih _ (by rw[length_splice _ _ _ om];exact hs) (λb h'=>c b (by simp[h'])) (λb h'=>a b (by simp[h'])),Ix hs h1.1 h1.2 om]
def nV (w:World) (F:Nat->Prop) (d k:Nat) (w':World):Prop:=∃ a b,D.At w' a d b/\ry b k/\aA F w w'/\(∀ g,a g->F g\/w.heap.size<=g)/\D.l5 d w w'
theorem nV.refl {w:World}{F:Nat->Prop}{d k:Nat}{X:D.Dk}(h:D.At w F d X) (hX:ry X k):nV w F d k w:=⟨F,X,h,hX,aA.refl _ _,λ_=>.inl,rfl⟩
theorem nV.trans {w w1 w2:World}{F F1:Nat->Prop}{d k:Nat}(hc:aA F w w1) (hF:∀ g,F1 g->F g\/w.heap.size<=g) (hs:D.l5 d w w1) (h:nV w1 F1 d k w2):nV w F d k w2:=by obtain⟨a,b,h1,c,f,j,l⟩:=h;exact⟨a,b,h1,c,hc.then f (λi hi e=>(hF i e).elim id (λh=>absurd h om)),λg hg=>(j g hg).elim (λe=>hF g e) (λe=>.inr (am hc.size e)),l.trans hs⟩
def yV (w:World) (F:Nat->Prop) (d:Nat):Prop:=∀ g,F g->g=d\/∃ n c,w.cell? (iu d 3)=some (ir g n c)
def uD (w:World) (F:Nat->Prop) (d:Nat) (w':World):Prop:=∃ a b,D.At w' a d b/\ry b 0/\aA F w w'/\(∀ g,a g->F g)/\D.l5 d w w'/\yV w' a d
theorem Iz {w':World}{F':Nat->Prop}(h:D.At w F d X) (hs:D.l5 d w w') (hS:yV w' F' d):∀ g,F' g->F g:=λg hg=>by
 rcases hS g hg with rfl|⟨n,c,hc⟩
 ·exact h.self
 ·obtain⟨⟨sv,pv,pcs,h1,_,_,_,_,_,a,_⟩,_⟩:=h;refine a g (.inl ?_);rw[hs,cell_of h1] at hc;simp at hc;rw[hc];rfl
theorem nV.flush {w1 w2:World}{F1:Nat->Prop}(h0:D.At w F d X) (hc:aA F w w1) (hF:∀ g,F1 g->F g\/w.heap.size<=g) (hs:D.l5 d w w1) (h:uD w1 F1 d w2):uD w F d w2:=by obtain⟨c,f,h1,j,k,l,a,b⟩:=h;exact⟨c,f,h1,j,hc.then k (λi hi e=>(hF i e).elim id (λh=>absurd h om)),Iz h0 (a.trans hs) b,a.trans hs,b⟩
theorem Ch {k:Nat}(h:D.At w F d X) (hX:ry X k) (hk:k<1000) (n:Nat) (hn:0<n/\n<60){S:Nat->Prop}{v:Value}{l:iz}(hb:Bytes w S v l) (hl:l.length=64) (hS:∀ g,S g->¬ F g):
  Calls prog 66 #[iq d,iw n,v] w λe w'=>e=.returned (iw 0)/\nV w F d (k+1) w':=by
 obtain⟨h1,f,p,b⟩:=hX;refine (D.yS h h1 om n om hb hS hl).mono ?_;rintro e w' ⟨rfl,c,i,j,m,o⟩;refine⟨rfl,c,_,i,⟨⟨h1.1,h1.2⟩,f,by simp;omega,b.1,λq a=>?_⟩,j,m,o⟩;rcases bw.1 a with a|a
 ·exact b.2 q a
 ·simp only[cD] at a;subst a;exact hn
theorem IC {S:Nat->Prop}:∀ {ps:List (Nat×iz)}{cs:List Value},D.ns w S ps cs->∀ q ∈ ps,q.2.length=64:=by
 intro ps
 induction ps with
 | nil=>intro cs _ q a;cases a
 | cons p ps ih=>
  rintro cs ⟨v,r,rfl,d,b,c⟩ q a;rcases bi.1 a with rfl|a
  ·exact b
  ·exact ih c q a
theorem Ci {k:Nat}(h:D.At w F d X) (hX:ry X k):
  Calls prog 67 #[iq d] w λe w'=>e=.returned (iw 0)/\uD w F d w':=by
 obtain⟨h1,j,t,g⟩:=hX;have b:=h1.lO;refine (D.BZ h (by rw[b];exact h1.1)).mono ?_;rintro e w' ⟨rfl,i,m,n,o,r,s⟩
 have hp:∀ q ∈ X.kC,q.2.length=64:=by obtain⟨sv,pv,pcs,_,_,_,_,_,_,_,l,_⟩:=h.box;exact IC l
 have hlen:(D.mV X.sure X.kC).length=64*X.size:=D.xo X.size _ _ h.full.1 (λq a=>⟨h.xm q a,hp q a⟩);refine⟨rfl,i,_,m,⟨⟨?_,?_⟩,?_,?_,?_,?_⟩,n,o,r,s⟩
 ·show X.lO.oO=false;rw[b];exact h1.1
 ·show X.lO.qJ=false;rw[b];exact h1.2
 ·show (D.mV X.sure X.kC).length / 64=120;rw[hlen,j]
 ·simp[D.Dk.rV]
 ·intro p f c;rw[<-g.1 p f c];exact Iy X.size p c X.kC X.sure h.full.1 (λq a=>⟨h.xm q a,hp q a⟩) g.2
 ·intro q a;simp[D.Dk.rV] at a
def pX (w:World) (B:Nat) (t:TypeId) (v:Value) (ws:List (Nat×Value)):Prop:=w.ownsRow B t 2 v ws.length (ng ws)/\∀ p ∈ ws,p.1<120/\∃ Z:iz,Z.length=64/\w.ownsRow B 5 1 p.2 64 (aQ Z)
theorem tz:∀ (ws:List (Nat×Value)) (j:Nat) (p:Nat×Value),ws[j]?=some p->(ng ws)[j*2]?=some (iw p.1)/\(ng ws)[j*2+1]?=some p.2:=by
 intro ws
 induction ws with
 | nil=>intro j p h;simp at h
 | cons q ws ih=>
  intro j p h;have e:ng (q::ws)=iw q.1::q.2::ng ws:=by simp[ng]
  rw[e];cases j with
  | zero=>simp at h;subst h;exact⟨rfl,rfl⟩
  | succ j=>simp at h;have a:=ih j p h;rw[show (j+1)*2=j*2+1+1 by omega];exact a
theorem pX.dB {w':World}{t:TypeId}{v:Value}(h:pX w B t v ws) (hk:∀ g,B<=g->g<w.heap.size->w'.heap[g]?=w.heap[g]?):pX w' B t v ws:=⟨dE h.1 (λg hg=>hk g (kJ h.1 g hg) (kt h.1 g hg)),λp hp=>by obtain⟨h1,Z,b,a⟩:=h.2 p hp;exact⟨h1,Z,b,dE a (λg hg=>hk g (kJ a g hg) (kt a g hg))⟩⟩
theorem pX.elem {t:TypeId}{v:Value}(h:pX w B t v ws){j:Nat}(hj:j<ws.length):∃ (g cap:Nat) (p:Nat×Value) (n vg vc:Nat) (Z:iz),v=ir g ws.length cap/\p=(n,ir vg 64 vc)/\w.cell? (iu g (j*2))=some (iw n)/\w.cell? (iu g (j*2+1))=some (ir vg 64 vc)/\n<120/\Z.length=64/\Bytes w (λg=>B<=g/\g<w.heap.size) (ir vg 64 vc) Z/\B<=g/\∃ z,(n,z) ∈ ws:=by
 obtain⟨hr,he⟩:=h;obtain⟨g,cap,rfl,_,_⟩:=kz hr om;have hp:=av hj;obtain⟨h1,Z,d,c⟩:=he _ (bK hj);obtain⟨vg,vc,hv,_⟩:=kz c om;obtain⟨k,off,i,b,_,_,_,_,a⟩:=Cells.at (Cells.own hr) om;simp only[IJ] at b;obtain⟨⟨rfl,rfl,_⟩,_,_⟩:=b;obtain⟨e,f⟩:=tz ws j _ hp;have f1:=a _ _ e;have f2:=a _ _ f;rw[aw] at f1 f2;rw[hv] at f2
 have hb:Bytes w (λg=>B<=g/\g<w.heap.size) (ir vg 64 vc) Z:=by rw[<-hv];show Cells w _ _ Z.length 1 _;rw[d];exact (Cells.own c).mono (λg hg hk=>⟨hk.2,hg⟩)
 exact⟨g,cap,(_,_),_,vg,vc,Z,rfl,rfl,f1,f2,h1,d,hb,kJ hr g rfl,_,bK hj⟩
theorem ID {s b k:Nat}{gH:ByteArray}{da ma:Option Addr}{dn dc mn mc:Nat}{pv:Value}(h:D.At w F d X) (hX:ry X k) (hk:k+ws.length<1000) (hF:∀ g,F g->g<B) (hBw:B<=w.heap.size) (hP:pX w B 168 pv ws) (hlo:∀ p ∈ ws,0<p.1/\p.1<60):
  Calls prog 92 #[.agg (mM d s b gH (.slice da dn dc) (.slice ma mn mc)).toArray,pv] w λe w'=>e=.returned (iw 0)/\uD w F d w':=by
 obtain⟨st,m⟩:=Ex (mM d s b gH (.slice da dn dc) (.slice ma mn mc));rw[<-m];obtain⟨q,P⟩:=Ex w.heap.size;obtain⟨a,f⟩:=Ex (w.alloc (.cells st.toArray 174));have hx:od a q st:=by rw[f,P];exact tw w st
 have b1:Below w.heap.size w a:=by rw[f];exact (ag _ _).alloc (ae _) _
 have h1:D.At a F d X:=h.ki (aA.dD b1 No) (λ_ _=>id);have l:pX a B 168 pv ws:=hP.dB (λg _ hg=>b1.block g hg);have r:∀ g,F g->g<w.heap.size:=λg hg=>aH (hF g hg) hBw
 obtain⟨n,L⟩:=Ex ws.length;replace L:=LH L;obtain⟨pa,pc,rfl,_⟩:=(Cells.own l.1).shape;have R:n<1000:=by have:=L.o;omega
 rw[<-L.o]
 have v:∀ w3:World,w3.heap[q]?=a.heap[q]?->w3.cell? (iu q 0)=some (iq d):=λw3 e=>by rw[cell_of (e.trans hx.at_),m];rfl
 have t:nV a F d k a:=nV.refl h1 hX;obtain⟨c,hc⟩:=Ex st.toArray;have y:=dC hx.at_;rw[<-hc] at f ⊢;refine G9 hc m b1 v l t r hF y ?_;clear hc m b1 v l t r hF y;intro hc m b1 v l t r hF y;have a8:=LH (am hBw b1.o.size);replace h:=LH h;replace h1:=LH h1;clear hP hx hX;go_enter func92,ntmps92;go_wp2;rw[<-f,<-P];replace f:=LH f;replace P:=LH P
 go_loopg [10] n (λg ix wr=>∃ j:Nat,j+g=n/\ix=iw j/\Hd (nV a F d (k+j) wr))
 case atStart=>exact⟨0,by omega,rfl,t.o⟩
 case round=>
  obtain⟨j,ad,rfl,S⟩:=hrel;obtain⟨F',X',s1,s2,A,H,Q⟩:=S.o;have x:∀ g,B<=g->g<a.heap.size->¬ F' g:=λg hg hl e=>(H g e).elim (λe=>by have:=hF.o g e;omega) (λe=>by omega)
  have Y:wr.heap[q]?=a.heap[q]?:=A.block q y.o (λe=>by have:=r.o q e;have:=P.o;omega);have d0:=v.o wr Y;by_cases W:j<n
  ·obtain⟨g1,rfl⟩:∃ i,gk=i+1:=⟨gk - 1,by omega⟩;have V:(j:Int)<n:=om;obtain⟨pg,cap,p,E,vg,vc,Z,e1,-,c0,c1,aa,hZ,N,af,zm,a6⟩:=l.o.elem (j:=j) (by rw[<-L.o];exact W);simp only[IJ] at e1;obtain⟨rfl,-,-⟩:=e1;have G:¬ F pg:=λe=>by have:=hF.o pg e;omega
   replace c0:=(A.cell (p:=iu pg (j*2)) (lq c0) G).trans c0;replace c1:=(A.cell (p:=iu pg (j*2+1)) (lq c1) G).trans c1;have hb:Bytes wr (λg=>B<=g/\g<a.heap.size) (ir vg 64 vc) Z:=Bytes.ki N A (λg _ hg e=>by have:=hF.o g e;omega);obtain⟨I,z⟩:=Ex (wr.alloc (.cells #[iw E,ir vg 64 vc] 168));have K:aA No wr I:=by rw[z];exact (aA.refl _ _).alloc _
   have s5:D.At I F' d X':=s1.ki K (λ_ _=>id);have d5:I.cell? (iu q 0)=some (iq d):=(K.cell (p:=iu q 0) (lq d0) id).trans d0;have x5:I.heap[wr.heap.size]?=some (.cells #[iw E,ir vg 64 vc] 168 (0,0)):=by rw[z];exact aj wr _
   have f0:=cell_of x5 0;have f1:=cell_of x5 1;have C:=LH (Ch s5 s2 (by have:=L.o;omega) E (hlo _ a6) (Bytes.ki hb K (λ_ _ _=>id)) hZ (λg hg=>x g hg.1 hg.2));have u:aA F a I:=A.trans (aA.mono K (λ_ _ e=>e.elim));have a1:=LH (show D.l5 d a I from (show D.l5 d wr I from az (K.block d (s1.lim d s1.self) id)).trans Q);replace u:=LH u;replace H:=LH H;replace x:=LH x;clear s1 s2 A s5 Q x5 hb N K S G;have a7:=LH z;subst z
   go_wp2_with fail
   refine C.o.mono ?_;rintro e T ⟨rfl,M⟩;have J:nV a F d (k+(j+1)) T:=nV.trans u.o H.o a1.o M;replace J:=LH J;clear M C u d0 d5 f0 f1 c0 c1;go_wp2;go_roundg g1
   case measure=>omega
   case rel=>exact⟨j+1,by omega,by go_num,J.o⟩
  ·obtain rfl:gk=0:=om;have V:¬ (j:Int)<n:=om;have O:=LH (Ci s1 s2);replace A:=LH A;replace H:=LH H;replace Q:=LH Q;clear s1 s2 x
   go_wp2_with fail
   refine O.o.mono ?_;rintro e T ⟨rfl,M⟩;have J:uD a F d T:=nV.flush h1.o A.o H.o Q.o M;have U:uD w F d T:=nV.flush (F:=F) (F1:=F) h.o (aA.dD b1.o F) (λ_=>.inl) (az (b1.o.block d (h.o.lim d h.o.self))) J;replace U:=LH U;clear M J O;go_wp2;go_ret;exact⟨rfl,U.o⟩
variable {gH:ByteArray}
theorem yW:(prog.info? 168).map (λi=>(i.zero,i.size,i.bytes))=some (some (.agg #[iw 0,.slice none 0 0]),2,32):=kr
theorem IE {st:List Value}(hst:st.length=8) (w:World):(Instr.build 176 ([(0,.agg st.toArray),(1,iw 0)]:List (Nat×Value)).toArray).run prog w=.ok (.agg (st++[iw 0]).toArray) w:=by
 refine e9 w _ _ _ ?_;rw[wX (places:=[(0,8),(8,1)]) (z:=.agg #[.pointer none,.pointer none,.string ⟨#[]⟩,iw 0,iw 0,.slice none 0 0,.slice none 0 0,.pointer none,iw 0]) underlying176 kr kr];show Instr.fill _ #[.pointer none,.pointer none,.string ⟨#[]⟩,iw 0,iw 0,.slice none 0 0,.slice none 0 0,.pointer none,iw 0] [(0,.agg st.toArray),(1,iw 0)]=_;rw[pC (off:=0) (size:=8) rfl (by simp[Value.cells,hst]) (cF rfl)]
 have e:splice (#[.pointer none,.pointer none,.string ⟨#[]⟩,iw 0,iw 0,.slice none 0 0,.slice none 0 0,.pointer none,iw 0]:Array Value).toList 0 (Value.agg st.toArray).cells.toList=st++[iw 0]:=by show List.take 0 _++(st++List.drop (0+st.length) _)=_;rw[hst];rfl
 rw[e,pC (off:=8) (size:=1) rfl rfl (by simp[hst]),Instr.fill];congr 2;show splice (st++[iw 0]) 8 _=_;rw[uA _ _ _ 0 (by simp[hst])];rfl
structure RY (N b:Nat) (x y:World):Prop where
 b0:∃ n,Bk x b n
 b1:∃ n,Bk y b n
 os:y.os=x.os
 tape:y.tape=x.tape
 output:y.output=x.output
 size:x.heap.size<=y.heap.size
 lU:∀ g,g<N->g<x.heap.size->¬ kn x b g->y.heap[g]?=x.heap[g]?
 other:∀ (g:Nat) (C:Array Value) (t:TypeId) (m:Nat×Nat),x.heap[g]?=some (.cells C t m)->t≠168->t≠223->t≠145->y.heap[g]?=some (.cells C t m)
 box:∀ (g:Nat) (C:Array Value) (m:Nat×Nat),x.heap[g]?=some (.cells C 168 m)->∃ C',C'.size=C.size/\y.heap[g]?=some (.cells C' 168 m)
 pD:∀ g,g<x.heap.size->b<=g->mw y b g->mw x b g
section
variable {N b n:Nat}{x y z:World}
theorem RY.trans (h:RY N b x y) (k:RY N b y z):RY N b x z:=by
 refine⟨h.b0,k.b1,k.os.trans h.os,k.tape.trans h.tape,k.output.trans h.output,am h.size k.size,λg hg f j=>?_,λg C t m hg h1 a i=>k.other g C t m (h.other g C t m hg h1 a i) h1 a i,λg C m hg=>?_,λg hg hb e=>h.pD g hg hb (k.pD g (aH hg h.size) hb e)⟩
 ·have e:=h.lU g hg f j;rw[k.lU g hg (aH f h.size) ?_,e];exact λc=>j (c.imp id (λd=>⟨d.1,h.pD g f d.1 d.2⟩))
 ·obtain⟨l,o,h1⟩:=h.box g C m hg;obtain⟨n,c,a⟩:=k.box g l m h1;exact⟨n,c.trans o,a⟩
theorem RY.ow {k:Nat}(hB:Bk x b n) (hB':Bk y b k) (h:kf No b x y):RY N b x y:=⟨⟨n,hB⟩,⟨k,hB'⟩,h.os,h.tape,h.output,h.size,λg _ f d=>h.block g f (λe=>e.elim id d),λg C t m hg _ a c=>h.at hB hg id a c,λg C m hg=>⟨C,rfl,h.at hB hg id de de⟩,h.row⟩
theorem RY.own (h:RY N b x y){B:Nat}{v:Value}{k:Nat}{xs:List Value}(ho:x.ownsRow B 5 1 v k xs):y.ownsRow B 5 1 v k xs:=dE ho (λg hg=>by obtain⟨cur,hc⟩:=kA ho hg;rw[hc];exact h.other _ _ _ _ hc de de de)
theorem RY.pb (h:RY N b x y) (hN:N=x.heap.size):kf No b x y:=⟨⟨h.os,h.tape,h.output,h.size,λg hg a=>h.lU g (hN ▸ hg) hg (λe=>a (.inr e))⟩,h.pD⟩
theorem RY.store (h:RY N b x y){p:Nat}(hp:N<=p){C C':Array Value}{m:Nat×Nat}(hc:y.heap[p]?=some (.cells C 168 m)) (hs:C'.size=C.size){k:Nat}(hB:Bk y b k):RY N b x (y.setRow p C'):=by
 have d:Bk (y.setRow p C') b k:=hB.dB (λg hg r=>aG _ _ _ _ (λe=>kn.type hB hc de de (e ▸ hg)));refine⟨h.b0,⟨k,d⟩,by rw[setRow_os];exact h.os,by rw[gy];exact h.tape,by rw[gz];exact h.output,by rw[eS];exact h.size,λg hg q o=>?_,λg C t m hg h1 l n=>?_,λg D m' hg=>?_,λg hg hb e=>h.pD g hg hb (mw.block (aG _ _ _ _ (λj=>kn.type hB hc de de (.inl j.symm))) e)⟩
 ·rw[aG _ _ _ _ om];exact h.lU g hg q o
 ·have c:=h.other g C t m hg h1 l n
  rw[aG _ _ _ _ (by rintro rfl;rw[hc] at c;simp only[IJ] at c;exact h1 c.2.1.symm)]
  exact c
 ·obtain⟨i,f,h1⟩:=h.box g D m' hg;by_cases a:g=p
  ·subst a;rw[hc] at h1;simp only[IJ] at h1;obtain⟨rfl,_,rfl⟩:=h1;exact⟨C',hs.trans f,aJ _ _ _ _ _ _ hc⟩
  ·exact⟨i,f,(aG _ _ _ _ a).trans h1⟩
end
def oh (w:World) (r d s b:Nat) (gH:ByteArray) (A M:iz) (num:Nat):Prop:=∃ dv mv,w.heap[r]?=some (.cells (mM d s b gH dv mv++[iw num]).toArray 176 (0,0))/\w.ownsRow b 5 1 dv 64 (aQ A)/\w.ownsRow b 5 1 mv 32 (aQ M)
theorem oh.dB {w w':World}{r d s b num:Nat}{A M:iz}(h:oh w r d s b gH A M num) (hr:b<=r) (hk:∀ g cs ty,b<=g->(ty=176\/ty=5)->w.heap[g]?=some (.cells cs ty (0,0))->w'.heap[g]?=w.heap[g]?):oh w' r d s b gH A M num:=by
 obtain⟨dv,mv,h1,a,c⟩:=h;refine⟨dv,mv,(hk r _ _ hr (.inl rfl) h1).trans h1,dE a (λg hg=>?_),dE c (λg hg=>?_)⟩
 ·obtain⟨cur,hc⟩:=kA a hg;exact hk g _ _ (kJ a g hg) (.inr rfl) hc
 ·obtain⟨cur,hc⟩:=kA c hg;exact hk g _ _ (kJ c g hg) (.inr rfl) hc
theorem IF {w:World}{F:Nat->Prop}{d s b n k:Nat}{X:D.Dk}{tp:Option Addr}{S S':Nat->Prop}{dv mv:Value}{A M:iz}(h:D.At w F d X) (hX:ry X k) (hk:k<900) (hs:kR w s none tp) (hB:Bk w b n) (hn:n<900000) (hFB:∀ g,F g->¬ kn w b g)
  (hd:Bytes w S dv A) (hA:A.length=64) (hm:Bytes w S' mv M) (hM:M.length=32):
  Calls prog 64 #[iq d,iq s,.string gH,.agg #[iw 25,iw 35],dv,mv,iq b] w λe w'=>∃ r,e=.returned (.tuple #[iq r,iw 0])/\w.heap.size<=r/\(∃ F' X',D.At w' F' d X'/\ry X' 0/\(∀ g,F' g->F g)/\D.l5 d w w')/\Bk w' b (n+2)/\oh w' r d s b gH A M 0/\aA (λg=>F g\/kn w b g) w w':=by
 obtain⟨da,dc,rfl,h7,h8⟩:=hd.shape;obtain⟨ma,mc,rfl,h9,ha⟩:=hm.shape;rw[hA,hM];obtain⟨q,hq⟩:=Ex w.heap.size;obtain⟨J,c9⟩:=Ex (w.alloc (.cells #[iw 25,iw 35] 27));have b1:Below w.heap.size w J:=by rw[c9];exact (ag _ _).alloc (ae _) _
 have x1:J.heap[q]?=some (.cells #[iw 25,iw 35] 27 (0,0)):=by rw[c9,hq];exact aj w _
 have e7:Bytes J S (.slice da A.length dc) A:=Cells.dB hd b1.size (λg _ hg=>b1.block g hg);have eb:Bytes J S' (.slice ma M.length mc) M:=Cells.dB hm b1.size (λg _ hg=>b1.block g hg);have cW:=LH (λG (hc:aA No J G)=>q0 (Bytes.ki e7 hc (λ_ _ _=>id)) om);have cX:=LH (λG (hc:aA No J G)=>q0 (Bytes.ki eb hc (λ_ _ _=>id)) om);have u:=Dr J
 have c6:∀ G,aA No J G->(Instr.loadAt 27 (iq q)).run prog G=.ok (.agg #[iw 25,iw 35]) G:=λG hc=>mE (x:=[iw 25,iw 35]) underlying27 kr (λj v hv=>by rw[aw,cell_of ((hc.block q (dC x1) id).trans x1)];simpa using hv)
 rw[hA] at cW;rw[hM] at cX;have cb:=hB.after b1;refine G9 c6 u b1 hB hs hFB h hX cb ?_;clear c6 u b1 hB hs hFB h hX cb;intro c6 u b1 hB hs hFB h hX cb;clear hd hm e7 eb x1;go_enter func64,ntmps64;go_wp2;rw[<-c9,<-hq];replace c9:=LH c9;replace hq:=LH hq;refine RA.oz (aA No) (aA No) [1,1,1,1,1,3,1,3,1,1,2,7] [11] (λ_ v G=>∃ p,v=iq p/\J.heap.size<=p/\G.heap[p]?=some (.cells #[.pointer none,.pointer none,.string ⟨#[]⟩,iw 0,iw 0,.slice none 0 0,.slice none 0 0,.pointer none] 174 (0,0))) (λ_=>True) kr (aA.refl _ _) (λ_ _ h=>h) (λ_ _ _ h k=>h.trans k) (λ_ _ _ _=>trivial) trivial kr kr ?_;intro cx
 repeat refine RA.qq ?_
 refine RA.ld (y':=.agg #[iw 25,iw 35]) (hr:=λG hp=>c6.o G (u.o _ hp.1)) (h:=?_)
 repeat refine RA.qq ?_
 refine RA.qc (P:=prog) [.slice da 64 dc] (λv G=>G.ownsRow J.heap.size 5 1 v 64 (aQ A)) (hs:=λv a b h H=>dE H (λg hg=>h.block g (kt H g hg) id)) (hr:=λG hp hH=>by refine (cW.o G (u.o _ hp.1)).mono ?_;rintro e f ⟨v,rfl,k1,k2,-⟩;exact⟨v,rfl,aA.dD k2 _,kU k1 (u.o _ hp.1).size,trivial⟩) (hn:=λu5=>?_)
 repeat refine RA.qq ?_
 refine RA.qc (P:=prog) [.slice ma 32 mc] (λv G=>G.ownsRow J.heap.size 5 1 v 32 (aQ M)) (hs:=λv a b h H=>dE H (λg hg=>h.block g (kt H g hg) id)) (hr:=λG hp hH=>by refine (cX.o G (u.o _ hp.1)).mono ?_;rintro e f ⟨v,rfl,k1,k2,-⟩;exact⟨v,rfl,aA.dD k2 _,kU k1 (u.o _ hp.1).size,trivial⟩) (hn:=λu7=>?_)
 repeat refine RA.qq ?_
 refine RA.vk prog (.agg (mM d s b gH u5 u7).toArray) (hr:=λG hp=>by obtain⟨g1,hh,rfl,_⟩:=kz (show G.ownsRow J.heap.size 5 1 u5 64 (aQ A) from hp.fact 1 rfl kr) om;obtain⟨g2,hj,rfl,_⟩:=kz (show G.ownsRow J.heap.size 5 1 u7 32 (aQ M) from hp.fact 0 rfl kr) om;clear hp;go_simp;rfl) (h:=?_)
 refine RA.fr (hs:=λv x y hr hk=>by
  obtain⟨p,h1,H,I⟩:=hk;exact⟨p,h1,H,(hr.block p (dC I) id).trans I⟩) (hr:=λf hp=>⟨iq f.heap.size,f.alloc (.cells #[.pointer none,.pointer none,.string ⟨#[]⟩,iw 0,iw 0,.slice none 0 0,.slice none 0 0,.pointer none] 174),by
  show (execOp _ _).run prog f=_;go_simp,(aA.refl _ _).alloc _,f.heap.size,rfl,(u.o _ hp.1).size,aj f _⟩) (h:=λh0=>?_)
 refine RA.lr (λL=>∃ (p kg kc mg E:Nat),h0=iq p/\J.heap.size<=p/\L.heap[p]?=some (.cells (mM d s b gH (ir kg 64 kc) (ir mg 32 E)).toArray 174 (0,0))/\L.ownsRow J.heap.size 5 1 (ir kg 64 kc) 64 (aQ A)/\L.ownsRow J.heap.size 5 1 (ir mg 32 E) 32 (aQ M)/\Below J.heap.size J L) (he:=λx y hE hk=>by
  obtain⟨p,kg,kc,mg,E,h1,H,I,h4,h5,h6⟩:=hk;exact⟨p,kg,kc,mg,E,h1,H,(hE.block p (dC I) id).trans I,dE h4 (λg hg=>hE.block g (kt h4 g hg) id),dE h5 (λg hg=>hE.block g (kt h5 g hg) id),h6.trans (hE.no.mono h6.size)⟩) (hr:=(λf gv hH=>by
  have hp:=gv.first kr;obtain⟨p,rfl,H,I⟩:=hp.fact 0 rfl kr;have dd:=(show f.ownsRow J.heap.size 5 1 u7 32 (aQ M) from hp.fact 1 rfl kr);have cY:=(show f.ownsRow J.heap.size 5 1 u5 64 (aQ A) from hp.fact 2 rfl kr);obtain⟨kg,kc,rfl,_⟩:=kz cY om;obtain⟨mg,E,rfl,_⟩:=kz dd om
  have ec:∀ {v:Value}{e n:Nat}{xs:List Value}{g:Nat},f.ownsRow J.heap.size 5 1 v n xs->v.ownBlock=some g->g≠p:=λhr hg e=>by subst e;exact o6 hr I de hg
  refine⟨f.setRow p (mM d s b gH (ir kg 64 kc) (ir mg 32 E)).toArray,RA.kL rf rf (mf I (by exact uB) rfl It),p,kg,kc,mg,E,rfl,H,aJ _ _ _ _ _ _ I,dE cY (λg hg=>aG _ _ _ _ (ec (e:=0) cY hg)),dE dd (λg hg=>aG _ _ _ _ (ec (e:=0) dd hg)),below_setRow (u.o _ hp.1).no H _⟩)) (hn:=?_)
 refine RA.RA.kZ (λw2 hH=>?_);simp only[RA.RP,cx];obtain⟨p,kg,kc,mg,E,rfl,hI,x2,b4,b6,e4⟩:=hH;obtain⟨st,Q⟩:=Ex (mM d s b gH (ir kg 64 kc) (ir mg 32 E));have N:Below w.heap.size w w2:=b1.o.trans (e4.mono b1.o.size);have H:D.At w2 F d X:=h.o.ki (aA.dD N No) (λ_ _=>id);have ay:=LH (Iu (s:=s) (b:=b) H hX.o.2.1 gH (some (iu kg 0)) (some (iu mg 0)) kc E);rw[<-Q] at ay x2;have c7:=LH ((od.mk x2).load (by rw[Q];rfl));obtain⟨c,hc⟩:=Ex st.toArray;rw[<-hc] at ay c7;refine G6 x2 b4 b6 N Q hc ?_;clear x2 b4 b6 N Q hc;intro x2 b4 b6 N Q hc;clear e4 H c6 cW cX u
 go_wp2_with (first|(refine kQ rfl 174 _ rfl _ _ rfl c7.o ?_)|fail)
 refine ay.o.mono ?_;rintro e G ⟨rfl,bW⟩;have c5:=LH (N.o.trans (bW.mono N.o.size));have x3:=LH ((bW.block p (dC x2.o)).trans x2.o);have fz:=LH (dE b4.o (λg hg=>bW.block g (kt b4.o g hg)));have gf:=LH (dE b6.o (λg hg=>bW.block g (kt b6.o g hg)));have fi:=LH (hB.o.after c5.o);have s3:=LH (show kR G s none tp from (c5.o.block s (dC hs.o)).trans hs.o);have hf:=b1.o.size;clear bW ay c7 x2 b4 b6 N cb b1;go_wp2
 go_loopg [18,38] 2 (λg lo ix wr=>∃ (j:Nat) (lv:Value) (ws:List (Nat×Value)),lv=lo/\j+g=2/\ix=iw j/\ws.length=j/\Hd (pX wr w.heap.size 168 lv ws)/\Hd (∀ p ∈ ws,0<p.1/\p.1<60)/\Hd (Bk wr b (n+j))/\Hd (kf (λg=>w.heap.size<=g) b w wr)/\Hd (wr.heap[p]?=some (.cells st.toArray 174 (0,0)))/\Hd (wr.ownsRow J.heap.size 5 1 (ir kg 64 kc) 64 (aQ A))/\Hd (wr.ownsRow J.heap.size 5 1 (ir mg 32 E) 32 (aQ M))/\Hd (kR wr s none tp))
 case atStart=>exact⟨0,_,[],rfl,by omega,rfl,rfl,⟨aS _ _ _ _,λp hp=>absurd hp sm⟩,λp hp=>absurd hp sm,fi.o,kf.dD c5.o,x3.o,fz.o,gf.o,s3.o⟩
 case round=>
  obtain⟨j,lv,ws,rfl,hz,rfl,cT,HP,ds,HB,HG,HX,HK,HM,HS⟩:=hrel;obtain⟨R,rfl⟩:=Ex (wr:World);by_cases hG:j<2
  ·obtain⟨g1,rfl⟩:∃ i,gk=i+1:=⟨gk - 1,by omega⟩;have hD:(j:Int)<2:=om;have er:w.heap.size<=R.heap.size:=HG.o.size;have af:Bk R.drew b (n+j):=HB.o.dB (λ_ _ _=>rfl);have bD:RY R.heap.size b R.drew R.drew:=RY.ow af af kf.refl;have u:∀ f,RY R.heap.size b R.drew f->RY R.heap.size b R f:=λf h=>⟨⟨_,HB.o⟩,h.b1,h.os,h.tape,h.output,h.size,h.lU,h.other,h.box,h.pD⟩
   have an:∀ f,RY R.heap.size b R f->od f p st:=λf hr=>⟨hr.other _ _ _ _ HX.o de de de⟩
   have b5:∀ f,RY R.heap.size b R f->f.ownsRow J.heap.size 5 1 (ir kg 64 kc) 64 (aQ A):=λf hr=>hr.own HK.o
   have b7:∀ f,RY R.heap.size b R f->f.ownsRow J.heap.size 5 1 (ir mg 32 E) 32 (aQ M):=λf hr=>hr.own HM.o
   have bl:∀ f,RY R.heap.size b R f->kR f s none tp:=λf hr=>hr.other _ _ _ _ HS.o de de de
   have U:st.length=8:=by rw[Q.o];rfl
   obtain⟨Y,hY⟩:=Ex (25+j);refine G8 af bD u an b5 b7 bl hY ?_;clear af bD u an b5 b7 bl hY;intro af bD u an b5 b7 bl hY;go_wp2;refine RA.region (RY R.heap.size b) (λx y=>(∃ n,Bk x b n)/\aA No x y) [1,1,1,1,3,3,1,1,1,2,4,1] (λ_ v f=>∃ p',v=iq p'/\R.heap.size<=p'/\∃ C,C.size=2/\f.heap[p']?=some (.cells C 168 (0,0))) (λf=>Bk f b (n+j)) kr bD.o (λx y h=>by obtain⟨k,hk⟩:=h.1;exact RY.ow hk (hk.after h.2.no) (kf.ti h.2)) (λ_ _ _ h k=>h.trans k) (λ_ _ h k=>k.after h.2.no) af.o kr ?_;intro cx;refine RA.ld (y':=.agg c) (hr:=λG hp=>by rw[hc.o];exact (an.o _ (u.o _ hp.1)).load U) (h:=?_)
   repeat refine RA.qq ?_
   refine RA.ld (y':=.agg c) (hr:=λG hp=>by rw[hc.o];exact (an.o _ (u.o _ hp.1)).load U) (h:=?_)
   refine RA.vk prog (.agg (mW 0 0 (List.replicate 16 0)).toArray) (hr:=λG hp=>by clear hp;go_simp;rfl) (h:=?_)
   refine RA.qc (P:=prog) [.agg c,.agg (mW 0 0 (List.replicate 16 0)).toArray] (λ_ _=>True) (λv f=>Bk f b (n+j+1)/\∃ l:iz,l.length=48/\Bytes f (λ_=>True) v l) (hs:=λ_ _ _ _ _=>trivial) (he:=λv x y hE hk=>by
    obtain⟨h1,l,H,I⟩:=hk;exact⟨h1.after hE.2.no,l,H,I.ki hE.2 (λ_ _ _=>id)⟩) (hr:=(λf hp hH=>by
    have a6:Bk f b (n+j):=hH;have hr:=u.o _ hp.1;have e6:=yU (w:=f) (d:=d) (s:=s) (gH:=gH) (dv:=ir kg 64 kc) a6 om (kU (b7.o f hr) (aW _)) 0 0 om om (T:=List.replicate 16 0) sm;rw[<-Q.o,<-hc.o] at e6;refine e6.mono ?_;rintro e L ⟨v,rfl,⟨l,k1,k2⟩,k3,k4⟩;exact⟨v,rfl,RY.ow a6 k3 k4,trivial,k3,l,k1,k2⟩)) (hn:=λu4=>?_)
   refine RA.qc (P:=prog) [.agg c,iw j,u4] (λv f=>∃ z Z,v=.tuple #[.agg #[iw Y,z],iw 0]/\List.length Z=64/\f.ownsRow w.heap.size 5 1 z 64 (aQ Z)) (λ_ f=>Bk f b (n+j+1)) (hs:=λv x y hr hk=>by
    obtain⟨z,Z,h1,H,I⟩:=hk;exact⟨z,Z,h1,H,hr.own I⟩) (he:=λv x y hE hk=>hk.after hE.2.no) (hr:=(λf hp hH=>by
    obtain⟨cU,l,k1,k2⟩:=hH;have hr:=u.o _ hp.1
    have gb:Bytes f (λ_=>True) (ir kg 64 kc) A:=by show Cells f _ _ A.length 1 _;rw[hA];exact (Cells.own (b5.o f hr)).mono (λ_ _ _=>trivial)
    have en:=xx (w:=f) (d:=d) (s:=s) (b:=b) (gH:=gH) (ma:=some (iu mg 0)) (mc:=E) gb hA (bl.o f hr) j om k2 om;rw[<-Q.o,<-hc.o,<-hY.o] at en;refine en.mono ?_;rintro e L ⟨v,rfl,k3,k4⟩;exact⟨_,rfl,RY.ow cU (cU.after k4) (kf.dD k4),⟨v,_,rfl,by rw[rj (by rw[oP om])];exact oP om,kU k3 (am er hr.size)⟩,cU.after k4⟩)) (hn:=λu5=>?_)
   repeat refine RA.qq ?_
   refine RA.vk prog (kW u5 0) (hr:=λG hp=>by obtain⟨v,Z,rfl,_⟩:=hp.fact 0 rfl kr;clear hp;go_simp;rfl) (h:=?_)
   refine RA.vk prog (kW u5 1) (hr:=λG hp=>by obtain⟨v,Z,rfl,_⟩:=hp.fact 0 rfl kr;clear hp;go_simp;rfl) (h:=?_)
   refine RA.fr (hs:=λv x y hr hk=>by
    obtain⟨p',h1,H,C,I,h4⟩:=hk;obtain⟨C',h5,h6⟩:=hr.box _ _ _ h4;exact⟨p',h1,H,C',h5.trans I,h6⟩) (hr:=λf hp=>⟨iq f.heap.size,f.alloc (.cells #[iw 0,.slice none 0 0] 168),by
    show (execOp _ _).run prog f=_;go_simp,⟨(u.o _ hp.1).b1,(aA.refl _ _).alloc _⟩,f.heap.size,rfl,(u.o _ hp.1).size,_,rfl,aj f _⟩) (h:=λu9=>?_)
   refine RA.st (λL=>∃ (p' vg vc:Nat) (Z:iz),u9=iq p'/\u5=.tuple #[.agg #[iw Y,ir vg 64 vc],iw 0]/\Z.length=64/\L.ownsRow w.heap.size 5 1 (ir vg 64 vc) 64 (aQ Z)/\L.heap[p']?=some (.cells #[iw Y,ir vg 64 vc] 168 (0,0))/\Bk L b (n+j+1)) (he:=λx y hE hk=>by
    obtain⟨p',vg,vc,Z,h1,H,I,h4,h5,h6⟩:=hk;exact⟨p',vg,vc,Z,h1,H,I,dE h4 (λg hg=>hE.2.block g (kt h4 g hg) id),(hE.2.block p' (dC h5) id).trans h5,h6.after hE.2.no⟩) (hr:=(λf hp hH=>by
    obtain⟨p',rfl,H,C,e2,I⟩:=hp.fact 0 rfl kr;obtain⟨z,Z,rfl,h5,h6⟩:=hp.fact 1 rfl kr;obtain⟨vg,vc,rfl,_⟩:=kz h6 om;have a6:Bk f b (n+j+1):=hH;have fs:Bk (f.setRow p' #[iw Y,ir vg 64 vc]) b (n+j+1):=a6.dB (λg hg hl=>aG _ _ _ _ (λe=>kn.type a6 I de de (e ▸ hg)))
    exact⟨f.setRow p' #[iw Y,ir vg 64 vc],RA.kL rf rf (mf (P:=prog) (ty:=168) (x:=[iw Y,ir vg 64 vc]) I kr e2 (by simp[Value.oneCell'])),(RY.ow a6 a6 kf.refl).store H I e2.symm a6,p',vg,vc,Z,rfl,rfl,h5,dE h6 (λg hg=>aG _ _ _ _ (by rintro rfl;exact o6 h6 I de hg)),aJ _ _ _ _ _ _ I,fs⟩)) (hn:=?_)
   repeat refine RA.qq ?_
   refine RA.RA.done rfl (λL hR hF hH=>?_);clear hF;simp only[RA.RP,cx];have W:=u.o _ hR;clear hR;obtain⟨p',vg,vc,Z,rfl,rfl,fu,cP,dg,bz⟩:=hH;simp only[kW,TP];have cj:kf (λg=>w.heap.size<=g) b w L:=HG.o.trans ((W.pb rfl).mono (λ_ _ e=>e.elim));have cA:=(an.o _ W).at_;have cl:=b5.o _ W;have cr:=b7.o _ W;have cu:=bl.o _ W;have b3:w.heap.size<=L.heap.size:=am er W.size
   have V:L.ownsRow w.heap.size 168 2 lv ws.length (ng ws):=dE HP.o.1 (λg hg=>by obtain⟨cur,hc⟩:=kA HP.o.1 hg;exact W.lU g (dC hc) (dC hc) (kn.type HB.o hc de de))
   have cg:∀ p ∈ ws,p.1<120/\∃ Z:iz,Z.length=64/\L.ownsRow w.heap.size 5 1 p.2 64 (aQ Z):=λp hp=>by obtain⟨h1,Z,H,I⟩:=HP.o.2 p hp;exact⟨h1,Z,H,W.own I⟩
   rw[cT] at V;obtain⟨la,lc,rfl,_⟩:=(Cells.own V).shape;have f0:=cell_of dg 0;have f1:=cell_of dg 1;have e3:=LH (dE V (λg hg=>aB L (.cells #[iw Y,ir vg 64 vc] 168) g (kt V g hg)));have dp:=LH (mC L #[iw Y,ir vg 64 vc] 168 1 2 rfl mx);have e5:w.heap.size<=(L.alloc (.cells #[iw Y,ir vg 64 vc] 168)).heap.size:=by rw[aN];omega
   refine G6 cj cA cl cr cu V ?_;clear cj cA cl cr cu V;intro cj cA cl cr cu V;refine G4 cg cP bz b3 ?_;clear cg cP bz b3;intro cg cP bz b3;clear W dg HP HG HX HK HM HS HB af bD u an b5 b7 bl
   go_wp2_with (at_builtin;refine K.append ?_ (.tmp 53) (.tmp 55) 166 ?_ w.heap.size 168 (.agg #[iw 0,.slice none 0 0]) 2 32 underlying166 yW rfl om _ j _ ?_ e3.o (λ_=>True) _ 1 [iw Y,ir vg 64 vc] ?_ dp.o (by simp[Value.oneCell']) mx om ?_ ?_)
   any_goals (first|rfl|omega|exact e5|exact Nat.le_succ_of_le b3.o)
   intro v' w6 y1 y2 y3 y4;obtain⟨Wx,bR⟩:=Ex (L.alloc (.cells #[iw Y,ir vg 64 vc] 168));have y2:Wx.grownBy w6 (Value.slice la j lc).ownBlock:=by rw[bR];exact y2
   have bp:Below L.heap.size L Wx:=by rw[bR];exact (ag _ _).alloc (ae _) _
   have O:∀ (g:Nat) (cs:Array Value) (ty:TypeId) (m:Nat×Nat),L.heap[g]?=some (.cells cs ty m)->ty≠168->w6.heap[g]?=some (.cells cs ty m):=λg cs ty m hg gh=>by rw[y2.block g (aH (dC hg) bp.size) (λe=>?_),bp.block g (dC hg),hg];obtain⟨cur,hc⟩:=kA V.o e.symm;rw[hg] at hc;simp only[IJ] at hc;exact gh hc.2.1
   have ad:∀ {B:Nat}{v:Value}{k:Nat}{xs:List Value},L.ownsRow B 5 1 v k xs->w6.ownsRow B 5 1 v k xs:=λ{B v k xs} ho=>dE ho (λg hg=>by obtain⟨cur,hc⟩:=kA ho hg;rw[hc];exact O _ _ _ _ hc de)
   have cc:Bk w6 b (n+j+1):=bz.o.dB (λg hg _=>by obtain⟨cs,t,m,hc,ht⟩:=kn.obj bz.o hg;rw[hc];exact O _ _ _ _ hc (by rcases ht with rfl|rfl<;>decide))
   have b2:Below w.heap.size L w6:=(bp.mono b3.o).trans (((aA.refl _ Wx:aA (λg=>(Value.slice la j lc).ownBlock=some g) Wx Wx).grown y2 (λ_ h _=>h)).below (am b3.o bp.size) (λg hg e=>by have:=kJ V.o g e;omega));have ck:kf (λg=>w.heap.size<=g) b w w6:=cj.o.trans (kf.mh ⟨b2.os,b2.tape,b2.output,b2.size,λg _ hg=>b2.block g om⟩ (λ_=>by obtain⟨lv,hx⟩:=hB.o.box;have:=dC hx;omega))
   have ax:pX w6 w.heap.size 168 v' (ws++[(Y,ir vg 64 vc)]):=by
    refine⟨?_,λp hp=>?_⟩
    ·rw[aE,cT,xu];exact y1
    ·rcases bw.1 hp with hp|hp
     ·obtain⟨h1,Z',H,I⟩:=cg.o p hp;exact⟨h1,Z',H,ad I⟩
     ·simp only[cD] at hp;subst hp;exact⟨by have:=hY.o;omega,Z,fu,ad cP.o⟩
   have bC:∀ p ∈ ws++[((Y:Nat),ir vg 64 vc)],0<p.1/\p.1<60:=λp hp=>by
    rcases bw.1 hp with hp|hp
    ·exact ds.o p hp
    ·simp only[cD] at hp;subst hp;have:=hY.o;exact⟨by simp only;omega,by simp only;omega⟩
   replace bC:=LH bC;have cK:=O _ _ _ _ cA.o de;have cm:=ad cl.o;have ct:=ad cr.o;have cz:kR w6 s none tp:=O _ _ _ _ cu.o de;refine G8 cc ck ax cK cm ct cz bR ?_;clear cc ck ax cK cm ct cz bR;intro cc ck ax cK cm ct cz bR;clear O ad b2 bp y1 y2 y3 y4 e5 dp e3 f0 f1;go_wp2;go_roundg g1
   case measure=>omega
   case rel=>exact⟨j+1,_,ws++[((Y:Nat),ir vg 64 vc)],rfl,by omega,by go_num,by simp[cT],LH ax.o,bC.o,cc.o,ck.o,cK.o,cm.o,ct.o,cz.o⟩
  ·obtain rfl:gk=0:=om;obtain rfl:j=2:=om;have bB:∀ g,F g->g<w.heap.size:=λg hg=>h.o.lim g hg
   have dT:D.At R F d X:=h.o.dB HG.o.size (λg hg hl=>HG.o.block g hl (λe=>e.elim (λe=>by have:=bB g hg;omega) (hFB.o g hg)));obtain⟨la,lc,rfl,_⟩:=(Cells.own HP.o.1).shape;have aa:=ID (s:=s) (b:=b) (gH:=gH) (da:=some (iu kg 0)) (ma:=some (iu mg 0)) (dn:=64) (dc:=kc) (mn:=32) (mc:=E) dT hX.o om bB HG.o.size HP.o ds.o;rw[<-Q.o,<-hc.o] at aa;have U:st.length=8:=by rw[Q.o];rfl
   have a8:=(od.mk HX.o).load U;rw[<-hc.o] at a8;replace a8:=LH a8;replace aa:=LH aa;rw[cT] at*;clear dT
   go_wp2_with (first|(refine kQ rfl 174 _ rfl _ _ rfl a8.o ?_)|fail)
   refine aa.o.mono ?_;rintro e w7 ⟨rfl,F7,X7,a1,a2,a3,a4,a5,-⟩;have gA:¬ F p:=λe=>by have:=bB p e;have:=HG.o.size;omega
   have ed:=(a3.block p (dC HX.o) gA).trans HX.o;have e0:Bk w7 b (n+2):=HB.o.dB (λg hg hl=>a3.block g hl (λe=>hFB.o g e (HG.o.back (bB g e) hg)))
   have e1:aA (λg=>F g\/kn w b g) w w7:=⟨a3.os.trans HG.o.os,a3.tape.trans HG.o.tape,a3.output.trans HG.o.output,am HG.o.size a3.size,λg hg hn=>by rw[a3.block g (aH hg HG.o.size) (λe=>hn (.inl e))];exact HG.o.block g hg (λe=>e.elim (λe=>by omega) (λe=>hn (.inr e)))⟩
   have a7:=(od.mk ed).load U;have b8:=IE U w7;have fb:w.heap.size<=w7.heap.size:=am HG.o.size a3.size;have e8:d<w.heap.size:=h.o.lim d h.o.self;have bA:(∀ g,F7 g->F g)/\D.l5 d w (w7.alloc (.cells (st++[iw 0]).toArray 176)):=⟨a4,(show D.l5 d w7 _ from az (aB _ _ _ (aH e8 (am HG.o.size a3.size)))).trans ((show D.l5 d R w7 from a5).trans (show D.l5 d w R from az (HG.o.block d e8 (λe=>e.elim (λe=>by omega) (hFB.o d h.o.self)))))⟩;rw[<-hc.o] at a7 b8;obtain⟨rc,ba⟩:=Ex ((st++[iw 0]).toArray);rw[<-ba] at b8;have hy:b<=w.heap.size:=by obtain⟨lv,hx⟩:=hB.o.box;exact cE (dC hx)
   have c8:∀ {v:Value}{k:Nat}{xs:List Value},R.ownsRow J.heap.size 5 1 v k xs->(w7.alloc (.cells rc 176)).ownsRow b 5 1 v k xs:=λ{v k xs} ho=>kU (dE (dE ho (λg hg=>a3.block g (kt ho g hg) (λe=>by have:=bB g e;have:=kJ ho g hg;omega))) (λg hg=>aB _ _ _ (aH (kt ho g hg) a3.size))) om
   have cV:oh (w7.alloc (.cells rc 176)) w7.heap.size d s b gH A M 0:=⟨ir kg 64 kc,ir mg 32 E,by rw[ba,Q.o];exact aj w7 _,c8 HK.o,c8 HM.o⟩;replace cV:=LH cV;have ca:D.At (w7.alloc (.cells rc 176)) F7 d X7:=a1.ki ((aA.refl No w7).alloc _) (λ_ _=>id);have cd:Bk (w7.alloc (.cells rc 176)) b (n+2):=e0.after ((ag _ _).alloc (ae _) _);have cf:aA (λg=>F g\/kn w b g) w (w7.alloc (.cells rc 176)):=e1.alloc _;refine G6 a7 b8 ca cd cf ba ?_;clear a7 b8 ca cd cf ba;intro a7 b8 ca cd cf ba;rw[<-ba.o] at bA;replace bA:=LH bA;clear a1 a3 a4 a5 ed e0 e1 aa a8 HP HG HX HK HM HS HB
   go_wp2_with (first|(refine kQ rfl 174 _ rfl _ _ rfl a7.o ?_)|(refine vH rfl 176 _ rfl _ rfl _ b8.o ?_)|fail)
   go_ret2;exact⟨_,rfl,fb,⟨F7,X7,ca.o,a2,bA.o.1,bA.o.2⟩,cd.o,cV.o,cf.o⟩
variable {xs:List Value}
def oQ (xs:List Value) (t m num r:Nat):List Value:=xs++[iq t,iq m,iw num,iq r,.slice none 0 0,.bool false]
theorem IG (hx:xs.length=106) (t m num r:Nat) (w:World):(Instr.build 104 ([(0,.agg xs.toArray),(1,.agg #[iq t,iq m,iw num]),(2,iq r)]:List (Nat×Value)).toArray).run prog w=.ok (.agg (oQ xs t m num r).toArray) w:=by
 refine e9 w _ _ _ ?_;rw[wX (places:=[(0,106),(106,3),(109,1),(110,1),(111,1)]) (z:=.agg #[.pointer none,.pointer none,.string ⟨#[]⟩,iw 0,iw 0,iy 0,iy 0,iy 0,iy 0,iy 0,iy 0,iy 0,iy 0,iy 0,iy 0,iy 0,iy 0,iy 0,iy 0,iy 0,iy 0,iy 0,iy 0,iy 0,iy 0,iy 0,iy 0,iy 0,iy 0,iy 0,iy 0,iy 0,iy 0,iy 0,iy 0,iy 0,iy 0,iy 0,iy 0,iy 0,iy 0,iy 0,iy 0,iy 0,iy 0,iy 0,iy 0,iy 0,iy 0,iy 0,iy 0,iy 0,iy 0,iy 0,iy 0,iy 0,iy 0,iy 0,iy 0,iy 0,iy 0,iy 0,iy 0,iy 0,iy 0,iy 0,iy 0,iy 0,iy 0,iy 0,iy 0,iy 0,iy 0,iy 0,iy 0,iy 0,iy 0,iy 0,iy 0,iy 0,iy 0,iy 0,iy 0,iy 0,iy 0,iy 0,iy 0,iy 0,iy 0,iy 0,iy 0,iy 0,iy 0,iy 0,iy 0,iy 0,iy 0,iy 0,iy 0,iy 0,iy 0,.pointer none,iw 0,iw 0,iw 0,iw 0,.pointer none,.pointer none,iw 0,.pointer none,.slice none 0 0,.bool false]) underlying104 kr kr];show Instr.fill _ #[.pointer none,.pointer none,.string ⟨#[]⟩,iw 0,iw 0,iy 0,iy 0,iy 0,iy 0,iy 0,iy 0,iy 0,iy 0,iy 0,iy 0,iy 0,iy 0,iy 0,iy 0,iy 0,iy 0,iy 0,iy 0,iy 0,iy 0,iy 0,iy 0,iy 0,iy 0,iy 0,iy 0,iy 0,iy 0,iy 0,iy 0,iy 0,iy 0,iy 0,iy 0,iy 0,iy 0,iy 0,iy 0,iy 0,iy 0,iy 0,iy 0,iy 0,iy 0,iy 0,iy 0,iy 0,iy 0,iy 0,iy 0,iy 0,iy 0,iy 0,iy 0,iy 0,iy 0,iy 0,iy 0,iy 0,iy 0,iy 0,iy 0,iy 0,iy 0,iy 0,iy 0,iy 0,iy 0,iy 0,iy 0,iy 0,iy 0,iy 0,iy 0,iy 0,iy 0,iy 0,iy 0,iy 0,iy 0,iy 0,iy 0,iy 0,iy 0,iy 0,iy 0,iy 0,iy 0,iy 0,iy 0,iy 0,iy 0,iy 0,iy 0,iy 0,iy 0,.pointer none,iw 0,iw 0,iw 0,iw 0,.pointer none,.pointer none,iw 0,.pointer none,.slice none 0 0,.bool false] [(0,.agg xs.toArray),(1,.agg #[iq t,iq m,iw num]),(2,iq r)]=_;rw[pC (off:=0) (size:=106) rfl (by simp[Value.cells,hx]) (cF rfl)]
 have e:splice (#[.pointer none,.pointer none,.string ⟨#[]⟩,iw 0,iw 0,iy 0,iy 0,iy 0,iy 0,iy 0,iy 0,iy 0,iy 0,iy 0,iy 0,iy 0,iy 0,iy 0,iy 0,iy 0,iy 0,iy 0,iy 0,iy 0,iy 0,iy 0,iy 0,iy 0,iy 0,iy 0,iy 0,iy 0,iy 0,iy 0,iy 0,iy 0,iy 0,iy 0,iy 0,iy 0,iy 0,iy 0,iy 0,iy 0,iy 0,iy 0,iy 0,iy 0,iy 0,iy 0,iy 0,iy 0,iy 0,iy 0,iy 0,iy 0,iy 0,iy 0,iy 0,iy 0,iy 0,iy 0,iy 0,iy 0,iy 0,iy 0,iy 0,iy 0,iy 0,iy 0,iy 0,iy 0,iy 0,iy 0,iy 0,iy 0,iy 0,iy 0,iy 0,iy 0,iy 0,iy 0,iy 0,iy 0,iy 0,iy 0,iy 0,iy 0,iy 0,iy 0,iy 0,iy 0,iy 0,iy 0,iy 0,iy 0,iy 0,iy 0,iy 0,iy 0,iy 0,.pointer none,iw 0,iw 0,iw 0,iw 0,.pointer none,.pointer none,iw 0,.pointer none,.slice none 0 0,.bool false]:Array Value).toList 0 (Value.agg xs.toArray).cells.toList=xs++[.pointer none,.pointer none,iw 0,.pointer none,.slice none 0 0,.bool false]:=by show List.take 0 _++(xs++List.drop (0+xs.length) _)=_;rw[hx];rfl
 rw[e,pC (off:=106) (size:=3) rfl rfl (by simp[hx])]
 have a:splice ((xs++[Value.pointer none,.pointer none,iw 0,.pointer none,.slice none 0 0,.bool false]).toArray).toList 106 (Value.agg #[iq t,iq m,iw num]).cells.toList=xs++[iq t,iq m,iw num,.pointer none,.slice none 0 0,.bool false]:=by show splice (xs++[Value.pointer none,.pointer none,iw 0,.pointer none,.slice none 0 0,.bool false]) 106 _=_;rw[uA _ _ _ 0 (by simp[hx])];rfl
 rw[a,pC (off:=109) (size:=1) rfl rfl (by simp[hx]),Instr.fill];congr 2;show splice (xs++[iq t,iq m,iw num,.pointer none,.slice none 0 0,.bool false]) 109 _=_;rw[uA _ _ _ 3 (by simp[hx])];rfl
def my (ks:List (Nat×iz)) (vs:List Value):List Value:=(ks.zip vs).flatMap λp=>[iw p.1.1,p.2]
structure kF (w:World) (v m:Nat) (L:iz) (ks:List (Nat×iz)) (kh:Bool):Prop where
 box:∃ cs pv,w.heap[v]?=some (.cells cs 104 (0,0))/\cs.size=112/\cs[102]?=some (iw 10)/\cs[103]?=some (iw 50)/\cs[104]?=some (iw 60)/\cs[105]?=some (iw 50)/\cs[107]?=some (iq m)/\cs[110]?=some pv/\cs[111]?=some (.bool kh)/\
  ∃ vs:List Value,vs.length=ks.length/\w.ownsRow v 111 2 pv ks.length (my ks vs)/\∀ (j:Nat) (k:Nat×iz) (u:Value),ks[j]?=some k->vs[j]?=some u->k.2.length=64/\w.ownsRow v 5 1 u 64 (aQ k.2)
 marks:mj w m L
 mL:ks.length<=1000
 pl:∀ k ∈ ks,k.1<50
theorem IH {w:World}{v m t num r d s b:Nat}{gH:ByteArray}{A M L:iz}(hx:ou xs d s b gH A M) (h:w.heap[v]?=some (.cells (oQ xs t m num r).toArray 104 (0,0))) (hm:mj w m L):kF w v m L [] false:=by
 have e:=hx.len;have a:∀ j,j<106->(oQ xs t m num r).toArray[j]?=xs[j]?:=λj f=>by rw[aV,oQ,aX om]
 have c:∀ j,(oQ xs t m num r).toArray[106+j]?=([iq t,iq m,iw num,iq r,.slice none 0 0,.bool false]:List Value)[j]?:=λj=>by rw[aV,oQ,aL om];congr 1;omega
 refine⟨⟨_,.slice none 0 0,h,by simp[oQ,e],?_,?_,?_,?_,c 1,c 4,c 5,[],rfl,aS _ _ _ _,λj k u h=>by simp at h⟩,hm,by simp,λk hk=>by simp at hk⟩
 ·rw[a _ om];exact hx.uw
 ·rw[a _ om];exact hx.BP
 ·rw[a _ om];exact hx.tt
 ·rw[a _ om];exact hx.rT
variable {ps:List (Nat×iz)}
def uE (w:World) (d sb:Nat):Prop:=∃ n c,w.cell? (iu d 3)=some (ir sb n c)
structure l6 (w:World) (d sb:Nat) (X:D.Dk):Prop where
 at_:D.At w (λg=>g=d\/g=sb) d X
 plain:X.plain
 size:X.size=120
 none:X.kC=[]
 sure:uE w d sb
theorem l6.dB {w':World}{sb:Nat}(h:l6 w d sb X) (hs:w.heap.size<=w'.heap.size) (hk:∀ g,g=d\/g=sb->w'.heap[g]?=w.heap[g]?):l6 w' d sb X:=⟨h.at_.dB hs (λg hg _=>hk g hg),h.plain,h.size,h.none,by obtain⟨n,c,hc⟩:=h.sure;exact⟨n,c,(az (hk d (.inl rfl))).trans hc⟩⟩
theorem Cj (h:D.At w F d X):∃ sb,uE w d sb:=by
 obtain⟨⟨sv,pv,pcs,h1,a,_,_,_,_,_,_,b⟩,_⟩:=h;rcases a.2 with ⟨rfl,_⟩|⟨g,cap,cur,rfl,_⟩
 ·simp[Value.ownBlock] at b
 ·exact⟨g,_,_,(cell_of h1 3).trans rfl⟩
theorem II {G:Nat->Prop}(h:D.At w F d X) (hF:∀ g,F g->G g) (hG:∀ g,G g->g<w.heap.size) (hp:X.kC=[]):D.At w G d X:=by obtain⟨⟨sv,pv,pcs,h1,e,f,i,j,k,l,b,m⟩,a,n,c,a2,a3,a4⟩:=h;refine⟨⟨sv,pv,pcs,h1,e,f,i,j,k,λg hg=>hF g (l g hg),?_,m⟩,hF _ a,hG,c,a2,a3,a4⟩;rw[hp] at b ⊢;exact b
theorem l6.of {sb:Nat}(h:D.At w F d X) (hS:yV w F d) (hs:uE w d sb) (hp:X.plain) (hz:X.size=120) (h0:X.kC=[]):l6 w d sb X:=by
 obtain⟨n,c,hc⟩:=hs
 have mD:F sb:=by obtain⟨⟨sv,pv,pcs,h1,_,_,_,_,_,a,_⟩,_⟩:=h;refine a sb (.inl ?_);rw[cell_of h1] at hc;simp at hc;rw[hc];rfl
 refine⟨II h (λg hg=>?_) (λg hg=>?_) h0,hp,hz,h0,n,c,hc⟩
 ·rcases hS g hg with e|⟨n',c',e⟩
  ·exact .inl e
  ·rw[hc] at e;simp at e;exact .inr e.1.symm
 ·rcases hg with rfl|rfl
  ·exact h.lim _ h.self
  ·exact h.lim _ mD
def lP (w:World) (B:Nat) (t:TypeId) (v:Value) (ps:List (Nat×iz)):Prop:=∃ ws:List (Nat×Value),ws.length=ps.length/\w.ownsRow B t 2 v ps.length (ng ws)/\∀ (j:Nat) (p:Nat×Value) (q:Nat×iz),ws[j]?=some p->ps[j]?=some q->p.1=q.1/\q.1<120/\q.2.length=64/\w.ownsRow B 5 1 p.2 64 (aQ q.2)
theorem lP.putAt {t:TypeId}{v:Value}(h:lP w B t v ps):∃ ws:List (Nat×Value),ws.length=ps.length/\pX w B t v ws/\∀ (j:Nat) (p:Nat×Value) (q:Nat×iz),ws[j]?=some p->ps[j]?=some q->p.1=q.1/\q.2.length=64/\w.ownsRow B 5 1 p.2 64 (aQ q.2):=by
 obtain⟨ws,h1,f,e⟩:=h;refine⟨ws,h1,⟨by rw[h1];exact f,λp hp=>?_⟩,λj p q hp i=>?_⟩
 ·obtain⟨j,g,rfl⟩:=dI hp;obtain⟨a,b,c,d⟩:=e j _ _ (av g) (av om);exact⟨by omega,_,c,d⟩
 ·obtain⟨a,b,c,d⟩:=e j p q hp i;exact⟨a,c,d⟩
theorem lP.dB {w':World}{t:TypeId}{v:Value}(h:lP w B t v ps) (hk:∀ g,B<=g->g<w.heap.size->w'.heap[g]?=w.heap[g]?):lP w' B t v ps:=by
 obtain⟨ws,h1,e,f⟩:=h
 exact⟨ws,h1,dE e (λg hg=>hk g (kJ e g hg) (kt e g hg)),λj p q hp i=>by obtain⟨a,b,c,d⟩:=f j p q hp i;exact⟨a,b,c,dE d (λg hg=>hk g (kJ d g hg) (kt d g hg))⟩⟩
def pY (X:D.Dk) (ps:List (Nat×iz)):D.Dk:={ X with kC:=X.kC++ps }
theorem xy (h:X.plain):(pY X ps).plain:=h
theorem IK:(pY X ps).size=X.size:=rfl
def laid (X:D.Dk) (ps:List (Nat×iz)):D.Dk:={ X with sure:=D.mV X.sure (X.kC++ps),kC:=[] }
theorem IL (h:X.plain):(pY X ps).rV=laid X ps:=by unfold D.Dk.rV;rw[(xy h).lO];rfl
def tA (w:World) (F:Nat->Prop) (d:Nat) (X:D.Dk) (w':World):Prop:=∃ a,D.At w' a d X/\aA F w w'/\(∀ g,a g->F g\/w.heap.size<=g)/\D.l5 d w w'
theorem tA.trans {w w1 w2:World}{F F1:Nat->Prop}{d:Nat}{X:D.Dk}(hc:aA F w w1) (hF:∀ g,F1 g->F g\/w.heap.size<=g) (hs:D.l5 d w w1) (h:tA w1 F1 d X w2):tA w F d X w2:=by obtain⟨a,h1,b,c,f⟩:=h;exact⟨a,h1,hc.then b (λi hi e=>(hF i e).elim id (λh=>absurd h om)),λg hg=>(c g hg).elim (λe=>hF g e) (λe=>.inr (am hc.size e)),f.trans hs⟩
theorem Ck {w':World}(h:D.At w F d X) (hc:aA No w w'):D.l5 d w w':=az (hc.block d (h.lim d h.self) id)
theorem IM {s b:Nat}{gH:ByteArray}{da ma:Option Addr}{dn dc mn mc:Nat}{pv:Value}(h:D.At w F d X) (hXp:X.plain) (hXs:X.size=120) (hk:X.kC.length+ps.length<1000) (hF:∀ g,F g->g<B) (hBw:B<=w.heap.size) (hP:lP w B 168 pv ps):
  Calls prog 92 #[.agg (mM d s b gH (.slice da dn dc) (.slice ma mn mc)).toArray,pv] w λe w'=>e=.returned (iw 0)/\∃ F',D.At w' F' d (laid X ps)/\aA F w w'/\D.l5 d w w'/\∀ g,F' g->g=d\/∃ n c,w'.cell? (iu d 3)=some (ir g n c):=by
 obtain⟨st,y⟩:=Ex (mM d s b gH (.slice da dn dc) (.slice ma mn mc));rw[<-y];obtain⟨q,hq⟩:=Ex w.heap.size;obtain⟨l,r⟩:=Ex (w.alloc (.cells st.toArray 174));have hx:od l q st:=by rw[r,hq];exact tw w st
 have b1:Below w.heap.size w l:=by rw[r];exact (ag _ _).alloc (ae _) _
 have h1:D.At l F d X:=h.ki (aA.dD b1 No) (λ_ _=>id);have a7:=LH (Ck h (aA.dD b1 No));obtain⟨ws,J,f,C⟩:=(hP.dB (λg _ hg=>b1.block g hg)).putAt;have A:∀ g,F g->g<w.heap.size:=λg hg=>aH (hF g hg) hBw
 obtain⟨n,Y⟩:=Ex ws.length;replace Y:=LH Y;have x:n=ps.length:=by rw[Y.o,J]
 obtain⟨pa,pc,rfl,_⟩:=(Cells.own f.1).shape;have a8:n<1000:=om;rw[<-Y.o]
 have G:∀ w3:World,w3.heap[q]?=l.heap[q]?->w3.cell? (iu q 0)=some (iq d):=λw3 e=>by rw[cell_of (e.trans hx.at_),y];rfl
 have E:tA l F d (pY X (ps.take 0)) l:=⟨F,by simpa [pY] using h1,aA.refl _ _,λ_=>.inl,rfl⟩;obtain⟨c,hc⟩:=Ex st.toArray;have H:=dC hx.at_;rw[<-hc] at r ⊢;refine G9 hc y b1 G f C E A hF ?_;clear hc y b1 G f C E A hF;intro hc y b1 G f C E A hF;refine G5 H x J hk hXp ?_;clear H x J hk hXp;intro H x J hk hXp;have b2:=LH (am hBw b1.o.size);clear h h1 hP hx;go_enter func92,ntmps92;go_wp2;rw[<-r,<-hq];replace r:=LH r;replace hq:=LH hq
 go_loopg [10] n (λg ix wr=>∃ j:Nat,j+g=n/\ix=iw j/\Hd (tA l F d (pY X (ps.take j)) wr))
 case atStart=>exact⟨0,by omega,rfl,E.o⟩
 case round=>
  obtain⟨j,b3,rfl,S⟩:=hrel;obtain⟨F',s1,z,K,R⟩:=S.o;have v:∀ g,B<=g->g<l.heap.size->¬ F' g:=λg hg hl e=>(K g e).elim (λe=>by have:=hF.o g e;omega) (λe=>by omega)
  have ad:wr.heap[q]?=l.heap[q]?:=z.block q H.o (λe=>by have:=A.o q e;have:=hq.o;omega);have d0:=G.o wr ad;by_cases W:j<n
  ·obtain⟨g1,rfl⟩:∃ i,gk=i+1:=⟨gk - 1,by omega⟩;have aa:(j:Int)<n:=om;have M:j<ws.length:=by rw[<-Y.o];exact W
   have V:j<ps.length:=by rw[<-x.o];exact W
   obtain⟨z1,z2,z3⟩:=C.o j _ _ (av M) (av V);obtain⟨zi,zt⟩:=f.o.2 _ (bK M);obtain⟨e1,e2⟩:=tz ws j _ (av M);obtain⟨t,a⟩:=Ex ((ws[j]).1);obtain⟨Z,hZ⟩:=Ex ((ps[j]).2);have a6:(ps[j])=(t,Z):=by rw[a,hZ,z1]
   obtain⟨pg,off,cap,O,_,_,_,_,L⟩:=Cells.at (Cells.own f.o.1) om;obtain⟨vg,vc,hv,_⟩:=kz z3 om;obtain⟨b4,an,P,_⟩:=kz f.o.1 om;rw[O] at P;simp only[IJ] at P;obtain⟨⟨rfl,rfl,-⟩,-,-⟩:=P;simp only[IJ] at O;obtain⟨rfl,-,rfl⟩:=O;have c0:=L _ _ e1;have c1:=L _ _ e2;rw[aw] at c0 c1;rw[<-a] at c0;rw[hv] at c1 z3;have ax:B<=pg:=kJ f.o.1 pg rfl;have N:¬ F pg:=λe=>by have:=hF.o pg e;omega
   replace c0:=(z.cell (p:=iu pg (j*2)) (lq c0) N).trans c0;replace c1:=(z.cell (p:=iu pg (j*2+1)) (lq c1) N).trans c1
   have U:Bytes l (λg=>B<=g/\g<l.heap.size) (ir vg 64 vc) Z:=by show Cells l _ _ Z.length 1 _;rw[hZ,z2];exact (Cells.own z3).mono (λg hg hk=>⟨hk.2,hg⟩)
   have hb:Bytes wr (λg=>B<=g/\g<l.heap.size) (ir vg 64 vc) Z:=Bytes.ki U z (λg _ hg e=>by have:=hF.o g e;omega);obtain⟨w5,I⟩:=Ex (wr.alloc (.cells #[iw t,ir vg 64 vc] 168));have Q:aA No wr w5:=by rw[I];exact (aA.refl _ _).alloc _
   have s6:D.At w5 F' d (pY X (ps.take j)):=s1.ki Q (λ_ _=>id);have d5:w5.cell? (iu q 0)=some (iq d):=(Q.cell (p:=iu q 0) (lq d0) id).trans d0;have x5:w5.heap[wr.heap.size]?=some (.cells #[iw t,ir vg 64 vc] 168 (0,0)):=by rw[I];exact aj wr _
   have f0:=cell_of x5 0;have f1:=cell_of x5 1;have T:Z.length=64:=by rw[hZ];exact z2
   have k:=D.yS s6 (xy hXp.o) (by simp only[pY,aE,aR];have:=hk.o;omega) t (by rw[IK,hXs,a];exact zi) (Bytes.ki hb Q (λ_ _ _=>id)) (λg hg=>v g hg.1 hg.2) T
   have a1:({ pY X (ps.take j) with kC:=(pY X (ps.take j)).kC++[(t,Z)] }:D.Dk)=pY X (ps.take (j+1)):=by unfold pY;rw[List.take_add_one,av V,a6];simp
   rw[a1] at k;replace k:=LH k;have u:aA F l w5:=z.trans (aA.mono Q (λ_ _ e=>e.elim));have af:=LH ((Ck s1 Q).trans R);refine G4 u K v a ?_;clear u K v a;intro u K v a;clear s1 z R s6 x5 hb U Q S N zi zt e1 e2 L a1 z1 z2 z3 hv hZ a6 T;have ay:=LH I;subst I
   go_wp2_with fail
   refine k.o.mono ?_;rintro e w6 ⟨rfl,S6⟩;have S7:tA l F d (pY X (ps.take (j+1))) w6:=tA.trans u.o K.o af.o S6;replace S7:=LH S7;clear S6 k u d0 d5 f0 f1 c0 c1;go_wp2;go_roundg g1
   case measure=>omega
   case rel=>exact⟨j+1,by omega,by go_num,S7.o⟩
  ·obtain rfl:gk=0:=om;have aa:¬ (j:Int)<n:=om;obtain rfl:j=n:=om;have m:=D.BZ s1 (by rw[(xy hXp.o).lO];exact (xy hXp.o).1);rw[bh (by have:=x.o;omega),IL hXp.o] at m;refine G4 m z K R ?_;clear m z K R;intro m z K R;clear s1 v
   go_wp2_with fail
   refine m.o.mono ?_;rintro e w6 ⟨rfl,F6,k1,k2,k3,k4,k5⟩;have hC:aA F w w6:=(aA.dD b1.o F).trans (z.o.then k2 (λg hg e=>(K.o g e).elim id (λe=>absurd e om)));have hV:D.l5 d w w6:=(k4.trans R.o).trans a7.o;refine G4 k1 hC hV k5 ?_;clear k1 hC hV k5;intro k1 hC hV k5;clear k2 k3 k4 m;go_wp2;go_ret;exact⟨rfl,F6,k1.o,hC.o,hV.o,k5.o⟩
variable {m b:Nat}{L:iz}
def lI (w:World) (m:Nat) (L:iz) (B:Nat):Prop:=B<=m/\∃ sv,w.heap[m]?=some (.cells #[iw 50,sv] 195 (0,0))/\w.ownsRow B 5 1 sv 7 (aQ L)
theorem lI.at_ (h:lI w m L B):mj w m L:=by obtain⟨_,sv,h1,a⟩:=h;exact⟨sv,h1,kU a (aW _)⟩
theorem lI.dB {w':World}(h:lI w m L B) (hk:∀ (g:Nat) (cs:Array Value) (t:TypeId),B<=g->(t=195\/t=5)->w.heap[g]?=some (.cells cs t (0,0))->w'.heap[g]?=w.heap[g]?):lI w' m L B:=by obtain⟨b,sv,h1,a⟩:=h;refine⟨b,sv,(hk m _ _ b (.inl rfl) h1).trans h1,dE a (λg hg=>?_)⟩;obtain⟨cur,hc⟩:=kA a hg;exact hk g _ _ (kJ a g hg) (.inr rfl) hc
theorem lI.lower {B':Nat}(h:lI w m L B) (hb:B'<=B):lI w m L B':=by obtain⟨a,sv,h1,b⟩:=h;exact⟨am hb a,sv,h1,kU b hb⟩
theorem IP (w:World):Calls prog 62 #[iw 50] w λe w'=>∃ m,e=.returned (.tuple #[iq m,iw 0])/\lI w' m (List.replicate 7 0) w.heap.size/\Below w.heap.size w w':=by
 have a:∀ u:World,_:=λu=>ui u 7 7 rfl om
 go_enter func62,ntmps62;go_wp2;go_ret2;refine⟨w.heap.size+1,rfl,⟨by omega,ir w.heap.size 7 7,?_,?_⟩,((ag _ _).alloc (ae _) _).alloc sm _⟩
 ·have h:=aj (w.alloc (.cells (aQ (List.replicate 7 0)).toArray 5)) (.cells #[iw 50,ir w.heap.size 7 7] 195);simp only[aN] at h;exact h
 ·have h:=GU w (aQ (List.replicate 7 0)).toArray 5 7 1 (by simp[km]) mx (ae _);exact dE h (λg hg=>aB _ _ _ (kt h g hg))
theorem pX.IQ {t:TypeId}{v:Value}{ws:List (Nat×Value)}(h:pX w B t v ws){j:Nat}(hj:j<ws.length):∃ (g cap n vg vc:Nat) (Z:iz),v=ir g ws.length cap/\w.cell? (iu g (j*2))=some (iw n)/\w.cell? (iu g (j*2+1))=some (ir vg 64 vc)/\n<120/\Z.length=64/\Bytes w (λx=>x=vg) (ir vg 64 vc) Z/\B<=g/\B<=vg/\(∃ cs,w.heap[g]?=some (.cells cs t (0,0)))/\(∃ cs,w.heap[vg]?=some (.cells cs 5 (0,0)))/\∃ z,(n,z) ∈ ws:=by
 obtain⟨hr,he⟩:=h;obtain⟨g,cap,rfl,_,_⟩:=kz hr om;have hp:=av hj;obtain⟨h1,Z,d,a⟩:=he _ (bK hj);obtain⟨vg,vc,hv,_⟩:=kz a om;obtain⟨k,off,i,c,_,_,_,_,b⟩:=Cells.at (Cells.own hr) om;simp only[IJ] at c;obtain⟨⟨rfl,rfl,_⟩,_,_⟩:=c;obtain⟨e,f⟩:=tz ws j _ hp;have f1:=b _ _ e;have f2:=b _ _ f;rw[aw] at f1 f2;rw[hv] at f2 a
 have hb:Bytes w (λx=>x=vg) (ir vg 64 vc) Z:=by show Cells w _ _ Z.length 1 _;rw[d];exact (Cells.own a).mono (λg _ hk=>by have h:=hk.1;simp[Value.ownBlock] at h;exact h.symm)
 exact⟨g,cap,_,vg,vc,Z,rfl,f1,f2,h1,d,hb,kJ hr g rfl,kJ a vg rfl,kA hr rfl,kA a rfl,_,bK hj⟩
theorem lx.IS {w':World}{t n N:Nat}{gs:Nat->Nat}{key:iz}{Ls:List iz}{Tx:List (Int×Value)}(h:lx w t b N gs key Ls Tx) (hb:b<=N) (hB:Bk w b n){C:Nat->Prop}(hc:aA (λg=>C g\/lH w b g) w w') (hC:∀ (g:Nat) (o:Obj),b<=g->w.heap[g]?=some o->vz o->¬ C g):lx w' t b N gs key Ls Tx:=
 h.dB hb (λg o a hg c=>hc.block g (bm.1 hg).1 (λe=>by
  rcases e with e|rfl|⟨_,cs,m,hcl⟩
  ·exact hC g o a hg c e
  ·obtain⟨lv,d⟩:=hB.box;rw[hg] at d;exact c.ne (ty:=145) (by rintro (e|e|e|e)<;>exact absurd e de) (aF d)
  ·rw[hg] at hcl;exact c.ne (ty:=223) (by rintro (e|e|e|e)<;>exact absurd e de) (aF hcl)))
theorem IT {C:Nat->Prop}{w0 x y:World}(h:aA (λg=>C g\/lH w0 b g) w0 x) (k:mT No b x y) (hC:∀ g,w0.heap.size<=g->C g):aA (λg=>C g\/lH w0 b g) x y:=
 aA.mono k (λg hg e=>e.elim (λe=>e.elim) (λe=>by
  by_cases a:g<w0.heap.size
  ·by_cases hc:C g
   ·exact .inl hc
   ·exact .inr (lH.back (C:=C) h a hc e)
  ·exact .inl (hC g om)))
theorem Cl {F:Nat->Prop}{d s n k sb:Nat}{X:D.Dk}{gH:ByteArray}{tp:Option Addr}{A M:iz}(h:D.At w F d X) (hX:ry X k) (hk:k<500) (hs:kR w s none tp) (hsF:¬ F s) (hB:Bk w b n) (hn:n<=1000) (hFb:∀ g,F g->g<b) (mD:uE w d sb) (hA:A.length=64) (hM:M.length=32):
  Calls prog 38 #[iq d,iq s,.string gH,.agg (kT A M).toArray,iq b] w λe w'=>∃ v,e=.returned (.tuple #[iq v,iw 0])/\w.heap.size<=v/\(∃ m,w.heap.size<=m/\kF w' v m (List.replicate 7 0) [] false/\∃ xs t r,ou xs d s b gH A M/\w'.heap[v]?=some (.cells (oQ xs t m 0 r).toArray 104 (0,0))/\lI w' m (List.replicate 7 0) b/\(∃ gs Ls,lx w' t b w.heap.size gs M Ls []/\Ls.length=4)/\(b<=r/\oh w' r d s b gH A M 0)/\(∃ X',l6 w' d sb X'/\uC X')/\∃ n',n'<=n+400/\Bk w' b n')/\aA (λg=>F g\/lH w b g) w w':=by
 have bD:∀ g,F g->¬ lH w b g:=λg hg e=>by have:=hFb g hg;have:=e.ge;omega
 have L:b<=w.heap.size:=by obtain⟨lv,hx⟩:=hB.box;exact cE (dC hx)
 have gA:¬ tk 100:=by rintro (e|e|e|e)<;>exact absurd e de
 obtain⟨q,hq⟩:=Ex w.heap.size;obtain⟨w1,ba⟩:=Ex (w.alloc (.cells (kT A M).toArray 39));have b1:Below w.heap.size w w1:=by rw[ba];exact (ag _ _).alloc (ae _) _
 have x1:w1.heap[q]?=some (.cells (kT A M).toArray 39 (0,0)):=by rw[ba,hq];exact aj w _
 have h1:D.At w1 F d X:=h.ki (aA.dD b1 No) (λ_ _=>id);have da:=LH (Io (s:=s) (b:=b) h1 hX.2.1 gH hA hM)
 have Q:(Instr.loadAt 39 (iq q)).run prog w1=.ok (.agg (kT A M).toArray) w1:=mE underlying39 (by rw[oC hA hM];exact rv) (λj v hv=>by rw[aw,cell_of x1];simpa using hv)
 have W:=LH (BQ d s b gH hA hM);obtain⟨xs,dn⟩:=Ex (o9 d s b gH A M);rw[<-dn] at da W;obtain⟨c,hc⟩:=Ex ((kT A M).toArray);rw[<-hc] at da ba Q x1 ⊢;refine G6 dn hc Q x1 b1 hs ?_;clear dn hc Q x1 b1 hs;intro dn hc Q x1 b1 hs;refine G4 hB bD h hX ?_;clear hB bD h hX;intro hB bD h hX;clear h1;go_enter func38,ntmps38
 go_wp2_with (first|(rw[<-ba,<-hq];refine kQ rfl 39 _ rfl _ _ rfl Q.o ?_)|fail)
 try rw[<-ba]
 try rw[<-hq]
 replace ba:=LH ba;replace hq:=LH hq;refine da.o.mono ?_;rintro e w2 ⟨rfl,eb⟩;have hlen:=W.o.len;have en:=LH (b1.o.trans (eb.mono b1.o.size));have x2:=(eb.block q (dC x1.o)).trans x1.o;obtain⟨G,H⟩:=Ex w2.heap.size;have xz:(w2.alloc (.cells Tryz.zeroCells96 96)).heap[G]?=some (.cells Tryz.zeroCells96 96 (0,0)):=by rw[H];exact aj w2 _
 have c9:=mf (P:=prog) (ty:=96) (x:=xs) xz (by rw[hlen];exact uy) (by rw[hlen];rfl) W.o.one;obtain⟨w3,cT⟩:=Ex ((w2.alloc (.cells Tryz.zeroCells96 96)).setRow G xs.toArray);have x3:w3.heap[G]?=some (.cells xs.toArray 96 (0,0)):=by rw[cT];exact aJ _ _ _ _ _ _ xz
 have e3:Below w2.heap.size w2 w3:=by rw[cT];exact below_setRow ((ag _ _).alloc (ae _) _) om _
 have y3:=(e3.block q (dC x2)).trans x2;rw[<-cT] at c9;subst H;replace c9:=LH c9;replace cT:=LH cT;clear xz da Q eb x2;replace x3:=LH x3;replace y3:=LH y3;have cl:=LH (en.o.trans (e3.mono en.o.size));have ha:=LH en.o.size;have cA:=LH (dC x3.o);clear e3;obtain⟨xc,bp⟩:=Ex xs.toArray;rw[<-bp] at c9 ⊢;replace bp:=LH bp
 go_wp2_with (first|(refine kI rfl 96 _ _ rfl _ _ rfl rfl c9.o ?_)|fail)
 obtain⟨w4,cb⟩:=Ex (w3.alloc (.cells #[.pointer none,.pointer none,iw 0] 100));obtain⟨f,I⟩:=Ex w3.heap.size;obtain⟨G,H⟩:=Ex w2.heap.size;have cU:Below w3.heap.size w3 w4:=by rw[cb];exact (ag _ _).alloc (ae _) _
 have z4:w4.heap[f]?=some (.cells #[.pointer none,.pointer none,iw 0] 100 (0,0)):=by rw[cb,I];exact aj w3 _
 rw[<-H] at x3 cA ⊢;have x4:mU w4 G xs:=⟨(cU.block G (dC x3.o)).trans x3.o⟩;have y4:=(cU.block q (dC y3.o)).trans y3.o;have J:Below w.heap.size w w4:=cl.o.trans (cU.mono cl.o.size);rw[<-cb,<-I];have b3:=hB.o.after J;have cK:w.heap.size<=f:=by rw[I];exact cl.o.size
 have ed:w.heap.size<=G:=by rw[H];exact ha.o
 have h6:G<f:=by rw[I];exact cA.o
 have hU:q<f:=by rw[I];exact dC y3.o
 have hN:=dC z4;obtain⟨C,hC⟩:=Ex (λg=>g=f\/w4.heap.size<=g:Nat->Prop)
 have bA:C f:=by rw[hC];exact .inl rfl
 have cW:∀ g,w4.heap.size<=g->C g:=λg hg=>by rw[hC];exact .inr hg
 have cg:∀ g,g<w4.heap.size->g≠f->¬ C g:=λg hg b7 e=>by rw[hC] at e;exact e.elim b7 (λe=>by omega)
 have c6:∀ z,aA (λg=>C g\/lH w4 b g) w4 z->mU z G xs:=λz hr=>⟨mT.at (C:=C) hr b3 x4.at_ (cg G (dC x4.at_) om) de de⟩
 have c7:∀ z,aA (λg=>C g\/lH w4 b g) w4 z->z.heap[q]?=some (.cells c 39 (0,0)):=λz hr=>mT.at (C:=C) hr b3 y4 (cg q (dC y4) om) de de
 have T:∀ (z:World),z.heap[q]?=some (.cells c 39 (0,0))->Bytes z (λ_=>True) (.slice (some (iu q 66)) 32 32) M:=λz hx=>by refine⟨by rw[km,aY],_,_,by rw[hM],by omega,by unfold maxLen;omega,λh=>(by cases h),.inr ⟨q,66,rfl,trivial,dC hx,λj u hu=>?_⟩⟩;rw[cell_of hx,hc.o,aV,kT,aL (by simp;omega),aL (by simp[km];omega)];rw[<-hu];congr 1;simp[km];omega
 have ay:∀ (z:World),z.heap[q]?=some (.cells c 39 (0,0))->Bytes z (λ_=>True) (.slice (some (iu q 2)) 64 64) A:=λz hx=>by
  refine⟨by rw[km,aY],_,_,by rw[hA],by omega,by unfold maxLen;omega,λh=>(by cases h),.inr ⟨q,2,rfl,trivial,dC hx,λj u hu=>?_⟩⟩;have hj:j<64:=by have:=(aD.1 hu).1;rw[km] at this;omega
  rw[cell_of hx,hc.o,aV,kT,aL sm,aX (by simp[km];omega)]
  simpa using hu
 have b6:∀ z,aA (λg=>C g\/lH w4 b g) w4.drew z->aA (λg=>C g\/lH w4 b g) w4 z:=λz h=>⟨h.os,h.tape,h.output,h.size,h.block⟩
 have cf:Bk w4.drew b n:=b3.dB (λ_ _ _=>rfl);refine G9 c6 c7 T ay b6 cf bA cW cg ?_;clear c6 c7 T ay b6 cf bA cW cg;intro c6 c7 T ay b6 cf bA cW cg;refine G7 hC z4 b3 J cb I H ?_;clear hC z4 b3 J cb I H;intro hC z4 b3 J cb I H;clear cU x3 y3 x4 y4 c9;refine RA.region (λx y=>aA (λg=>C g\/lH w4 b g) x y) (·=·) [1,1,1,1,1,1,3,1,1,1,1,4] (λ_ _ _=>True) (λz=>Bk z b n/\z.heap[f]?=some (.cells #[.pointer none,.pointer none,iw 0] 100 (0,0))) kr (aA.refl _ _) (λ_ _ e=>e ▸ aA.refl _ _) (λ_ _ _ h k=>h.trans k) (λ_ _ e k=>e ▸ k) ⟨cf.o,z4.o⟩ kr ?_;intro cx;refine RA.fk prog G 104 (h:=?_);refine RA.fk prog G 105 (h:=?_);refine RA.lk prog (iw 50) (hc:=λw3 hp=>by exact (c6.o _ (b6.o _ hp.1)).get W.o.rT) (h:=?_);refine RA.fk prog q 66 (h:=?_);refine RA.qU (y':=.slice (some (iu q 66)) 32 32) (hr:=λw3 hp=>by show (Instr.sliceAt _ _ _ _ _).run prog w3=_;go_simp) (h:=?_)
 repeat refine RA.qq ?_
 refine RA.qc (P:=prog) [iw 50,.slice (some (iu q 66)) 32 32,iq b] (λv _=>∃ t,v=.tuple #[iq t,iw 0]) (λv z=>∃ t gs Ls n',v=.tuple #[iq t,iw 0]/\w4.heap.size<=t/\lx z t b w.heap.size gs M Ls []/\Ls.length=4/\Bk z b n'/\n'<=n+300/\z.heap[f]?=some (.cells #[.pointer none,.pointer none,iw 0] 100 (0,0))) (hs:=λ_ _ _ _ h=>h) (hr:=λz hp hH=>by obtain⟨e5,hh⟩:=hH;have hr:=b6.o _ hp.1;refine (Hi e5 hn (T.o _ (c7.o _ hr)) hM).mono ?_;rintro e w6 ⟨t,rfl,j1,j2,⟨n',j3,j4⟩,gs,Ls,j5,j6⟩;exact⟨_,rfl,IT hr (j2.lU e5) cW.o,⟨t,rfl⟩,t,gs,Ls,n',rfl,am hr.size j1,j5.lower (am J.o.size hr.size),j6,j4,j3,j2.at e5 hh id de de⟩) (hn:=λu=>?_)
 repeat refine RA.qq ?_
 refine RA.vk prog (kW u 0) (hr:=λw3 hp=>by obtain⟨v,rfl⟩:=hp.fact 0 rfl kr;clear hp;go_simp;rfl) (h:=?_)
 refine RA.vk prog (kW u 1) (hr:=λw3 hp=>by obtain⟨v,rfl⟩:=hp.fact 0 rfl kr;clear hp;go_simp;rfl) (h:=?_)
 refine RA.fk prog f 0 (h:=?_)
 refine RA.st (λz=>∃ t gs Ls n',u=.tuple #[iq t,iw 0]/\w4.heap.size<=t/\lx z t b w.heap.size gs M Ls []/\Ls.length=4/\Bk z b n'/\n'<=n+300/\z.heap[f]?=some (.cells #[iq t,.pointer none,iw 0] 100 (0,0))) (hr:=(λz hp hH=>by
  obtain⟨t,gs,Ls,n',rfl,j1,j2,j3,j4,j5,j6⟩:=hH
  have b7:∀ (g:Nat) (cs:Array Value) (ty:TypeId),z.heap[g]?=some (.cells cs ty (0,0))->ty≠100->(z.setCell (iu f 0) (iq t)).heap[g]?=z.heap[g]?:=λg cs ty hg b7=>kD _ _ _ (by rintro rfl;rw[j6] at hg;simp only[IJ] at hg;exact b7 hg.2.1.symm)
  refine⟨z.setCell (iu f 0) (iq t),RA.kL rf rf ?_,aA.setCell (aA.refl _ _) (p:=iu f 0) (λ_=>.inl bA.o) _,t,gs,Ls,n',rfl,j1,j2.dB L (λg o _ hg ho=>kD _ _ _ (by rintro rfl;exact ho.ne gA (aF (hg.symm.trans j6)))),j3,j4.dB (λg hg _=>?_),j5,lz j6 0 _⟩
  ·have f0:=cell_of j6 0;have f1:z.frozen? (iu f 0)=false:=kY j6 0;clear j2 j4 b7 hp;show (Instr.storeAt _ _ (iq t)).run prog z=_;go_simp
  ·exact kD _ _ _ (λe=>kn.type j4 j6 de de (show kn z b f from (show g=f from e) ▸ hg)))) (hn:=?_)
 refine RA.RA.done rfl (λz hR hF hH=>?_);clear hF;simp only[RA.RP,cx];obtain⟨t,gs,Ls,n5,rfl,t1,t2,t3,t4,t5,t6⟩:=hH;have cV:=b6.o _ hR;have b4:mT (λg=>w.heap.size<=g) b w z:=(mT.dD J.o).trans (aA.mono cV (λg hg e=>e.elim (λe=>by rw[hC.o] at e;exact .inl (e.elim (λe=>by omega) (λe=>by have:=J.o.size;omega))) .inr));have dg:=LH (c6.o _ cV);have ec:=LH (c7.o _ cV);refine G4 b4 t2 t4 t6 ?_;clear b4 t2 t4 t6;intro b4 t2 t4 t6;have iD:=LH t1;simp only[kW,TP];have rT:=dg.o.get W.o.rT;have dT:=LH (IP z);clear cV hR c6 c7 b6 cf z4 b3 t1
 go_wp2_with fail
 refine dT.o.mono ?_;rintro e w6 ⟨m,rfl,m2,b5⟩;have m1:=m2.1;have z6:=(b5.block f (dC t6.o)).trans t6.o;have g1:=cell_of z6 1;have g2:w6.frozen? (iu f 1)=false:=kY z6 1;obtain⟨w7,bl⟩:=Ex (w6.setCell (iu f 1) (iq m));have z7:w7.heap[f]?=some (.cells #[iq t,iq m,iw 0] 100 (0,0)):=by rw[bl];exact lz z6 1 _
 have bC:∀ (g:Nat) (cs:Array Value) (ty:TypeId),w6.heap[g]?=some (.cells cs ty (0,0))->ty≠100->w7.heap[g]?=w6.heap[g]?:=λg cs ty hg b7=>by
  rw[bl]
  exact kD _ _ _ (by rintro rfl;rw[z6] at hg;simp only[IJ] at hg;exact b7 hg.2.1.symm)
 have x6:=(b5.block G (dC dg.o.at_)).trans dg.o.at_;have x7:mU w7 G xs:=⟨(bC _ _ _ x6 de).trans x6⟩;have y6:=(b5.block q (dC ec.o)).trans ec.o;have y7:=(bC _ _ _ y6 de).trans y6;have T6:=t2.o.after L b5
 have T7:lx w7 t b w.heap.size gs M Ls []:=T6.dB L (λg o _ hg ho=>by rw[bl];exact kD _ _ _ (by rintro rfl;exact ho.ne gA (aF (hg.symm.trans z6))))
 have M7:lI w7 m (List.replicate 7 0) w.heap.size:=(m2.dB (λg cs ty _ b8 hc=>bC g cs ty hc (by rcases b8 with rfl|rfl<;>decide))).lower b4.o.size;have m7:=M7.at_;have B6:=t4.o.after b5
 have B7:Bk w7 b n5:=B6.dB (λg hg _=>by rw[bl];exact kD _ _ _ (λe=>kn.type B6 z6 de de (show kn w6 b f from (show g=f from e) ▸ hg)))
 have fi:mT (λg=>w.heap.size<=g) b w w6:=b4.o.trans (mT.dD b5);have an:mT (λg=>w.heap.size<=g) b w w7:=by rw[bl];exact aA.setCell fi (p:=iu f 1) (λ_=>.inl cK) _
 have s7:kR w7 s none tp:=an.at hB.o hs.o (by have:=dC hs.o;omega) de de;have hL:w.heap.size<=m:=am b4.o.size m1;have R:=x7.load hlen;have K:=mE (P:=prog) (w:=w7) (g:=f) (off:=0) (ty:=100) (x:=[iq t,iq m,iw 0]) underlying100 kr (λj v hv=>by rw[aw,cell_of z7];simpa using hv);have N:=Is W.o s7 T7.tree t3 B7 om m7 0 om;rw[<-bp.o] at R N;refine G7 T7 M7 R K N an x7 ?_;clear T7 M7 R K N an x7;intro T7 M7 R K N an x7;refine G4 y7 z7 B7 s7 ?_;clear y7 z7 B7 s7;intro y7 z7 B7 s7;clear z6 bC x6 y6 T6 m2 m7 B6 fi b5 dT rT dg ec b4 t2 t4 t6;have ib:=LH bl;subst bl
 go_wp2_with (first|(refine kQ rfl 96 _ rfl _ _ rfl R.o ?_)|(refine kQ rfl 100 _ rfl _ _ rfl K.o ?_)|fail)
 refine N.o.mono ?_;rintro e B ⟨ov,rfl,⟨ws,h5,cP,cr⟩,B8,-,m8,ax⟩;have T8:=LH (T7.o.qk L B7.o (C:=No) ax.toaA (λ_ _ _ _ _ e=>e));have x8:mU B G xs:=⟨ax.at B7.o x7.o.at_ id de de⟩;have y8:=ax.at B7.o y7.o id de de;have z8:=ax.at B7.o z7.o id de de;have s8:kR B s none tp:=ax.at B7.o s7.o id de de;have M8:lI B m (List.replicate 7 0) w.heap.size:=M7.o.dB (λg cs ty _ b8 hc=>by rw[hc];exact ax.at B7.o hc id (by rcases b8 with rfl|rfl<;>decide) (by rcases b8 with rfl|rfl<;>decide));have l:mT (λg=>w.heap.size<=g) b w B:=an.o.trans ((ax.lU B7.o).mono (λ_ _ e=>e.elim));have U:∀ g,F g->g<w.heap.size:=λg hg=>h.o.lim g hg
 have er:D.At B F d X:=h.o.dB l.size (λg hg hl=>l.block g hl (λe=>e.elim (λe=>by have:=U g hg;omega) (bD.o g hg)));have ds:∀ g,F g->¬ lH B b g:=λg hg e=>bD.o g hg (lH.back l (U g hg) (by have:=U g hg;omega) e)
 have cX:pX B w.heap.size 142 ov ws:=⟨by rw[h5];exact kU cP an.o.size,λp hp=>by obtain⟨h1,Z,h2,h3⟩:=cr p hp;exact⟨by omega,Z,h2,kU h3 an.o.size⟩⟩
 have cu:∀ p ∈ ws,0<p.1/\p.1<60:=λp hp=>(cr p hp).1
 replace cu:=LH cu;obtain⟨la,lc,rfl,_⟩:=(Cells.own cP).shape;have af:Bk B.drew b (n5+1):=B8.dB (λ_ _ _=>rfl);have ad:D.At B.drew F d X:=er.dB (ae _) (λ_ _ _=>rfl);have cm:∀ g,F g->¬ lH B.drew b g:=ds;have dc:=l.size;have iC:w.heap.size<=q:=by rw[hq.o];exact ae _
 have ig:=dC x8.at_;have ih:=dC y8;have hW:=dC s8
 have cj:∀ E,aA (λg=>(F g\/B.heap.size<=g)\/lH B b g) B E->mU E G xs/\E.heap[q]?=some (.cells c 39 (0,0))/\kR E s none tp:=λE hr=>by
  refine⟨⟨mT.at (C:=λg=>F g\/B.heap.size<=g) hr B8 x8.at_ ?_ de de⟩,mT.at (C:=λg=>F g\/B.heap.size<=g) hr B8 y8 ?_ de de,mT.at (C:=λg=>F g\/B.heap.size<=g) hr B8 s8 ?_ de de⟩
  ·rintro (e|e)
   ·have:=U _ e;omega
   ·omega
  ·rintro (e|e)
   ·have:=U _ e;omega
   ·omega
  ·rintro (e|e)
   ·exact hsF e
   ·omega
 have O:∀ E,aA (λg=>(F g\/B.heap.size<=g)\/lH B b g) B.drew E->aA (λg=>(F g\/B.heap.size<=g)\/lH B b g) B E:=λE h=>⟨h.os,h.tape,h.output,h.size,h.block⟩
 have c8:=λE=>Hs W.o E
 rw[<-bp.o] at c8;refine G9 c8 cj O af ad cm cX l M8 ?_;clear c8 cj O af ad cm cX l M8;intro c8 cj O af ad cm cX l M8;refine G6 x8 y8 z8 B8 dc U ?_;clear x8 y8 z8 B8 dc U;intro x8 y8 z8 B8 dc U;clear cP cr m8 ax R K N an x7 y7 z7 B7 s7 s8 er ds M7;go_wp2;refine RA.region (λx y=>aA (λg=>(F g\/B.heap.size<=g)\/lH B b g) x y) (·=·) [1,1,1,1,4,1,1,1,1,1,3,1,1,1,1,1] (λ_ _ _=>True) (λE=>D.At E F d X/\Bk E b (n5+1)/\(∀ g,F g->¬ lH E b g)/\D.l5 d B E) kr (aA.refl _ _) (λ_ _ e=>e ▸ aA.refl _ _) (λ_ _ _ h k=>h.trans k) (λ_ _ e k=>e ▸ k) ⟨ad.o,af.o,cm.o,rfl⟩ kr ?_;intro cx
 repeat refine RA.qq ?_
 refine RA.ld (y':=.agg xc) (hr:=λE hp=>by rw[bp.o];exact (cj.o _ (O.o _ hp.1)).1.load hlen) (h:=?_)
 refine RA.kc (P:=prog) [.agg xc] (.agg #[iw 25,iw 35]) (λE=>D.At E F d X/\Bk E b (n5+1)/\(∀ g,F g->¬ lH E b g)/\D.l5 d B E) (hr:=λE hp hH=>(c8.o E).mono (by obtain⟨a1,a2,a3,a4⟩:=hH;rintro e wa ⟨rfl,h2⟩;exact⟨rfl,aA.dD h2 _,a1.ki (aA.dD h2 No) (λ_ _=>id),a2.after h2,λg hg e=>a3 g hg (lH.back (C:=No) (mT.dD h2) (a1.lim g hg) id e),(show D.l5 d E wa from az (h2.block d (a1.lim d a1.self))).trans a4⟩)) (hn:=?_)
 refine RA.fk prog q 2 (h:=?_);refine RA.qU (y':=.slice (some (iu q 2)) 64 64) (hr:=λw3 hp=>by show (Instr.sliceAt _ _ _ _ _).run prog w3=_;go_simp) (h:=?_);refine RA.fk prog q 66 (h:=?_);refine RA.qU (y':=.slice (some (iu q 66)) 32 32) (hr:=λw3 hp=>by show (Instr.sliceAt _ _ _ _ _).run prog w3=_;go_simp) (h:=?_)
 repeat refine RA.qq ?_
 refine RA.qc (P:=prog) [iq d,iq s,.string gH,.agg #[iw 25,iw 35],.slice (some (iu q 2)) 64 64,.slice (some (iu q 66)) 32 32,iq b] (λv _=>∃ r,v=.tuple #[iq r,iw 0]) (λv E=>∃ r F' X',v=.tuple #[iq r,iw 0]/\D.At E F' d X'/\ry X' 0/\(∀ g,F' g->F g)/\D.l5 d B E/\Bk E b (n5+3)/\w.heap.size<=r/\oh E r d s b gH A M 0) (hs:=λ_ _ _ _ h=>h) (hr:=(λE hp hH=>by
  obtain⟨a1,a2,a3,a9⟩:=hH;have hr:=O.o _ hp.1;obtain⟨r1,r2,r3⟩:=cj.o _ hr;refine (IF a1 hX.o om r3 a2 om (λg hg e=>a3 g hg (kn.lU a2 e)) (ay.o _ r2) hA (T.o _ r2) hM).mono ?_;rintro e wa ⟨r,rfl,k1,⟨F',X',k2,k3,k4,k7⟩,k5,k8,k6⟩;refine⟨_,rfl,aA.mono k6 (λg hg e=>?_),⟨r,rfl⟩,r,F',X',rfl,k2,k3,k4,k7.trans a9,k5,am dc.o (am hr.size k1),k8⟩;rcases e with e|e
  ·exact .inl (.inl e)
  ·by_cases hl:g<B.heap.size
   ·by_cases hf:F g
    ·exact .inl (.inl hf)
    ·exact .inr (lH.back (C:=λg=>F g\/B.heap.size<=g) hr hl (λe=>e.elim hf (λe=>by omega)) (kn.lU a2 e))
   ·exact .inl (.inr om))) (hn:=λu=>?_)
 repeat refine RA.qq ?_
 refine RA.vk prog (kW u 0) (hr:=λw3 hp=>by obtain⟨v,rfl⟩:=hp.fact 0 rfl kr;clear hp;go_simp;rfl) (h:=?_)
 refine RA.vk prog (kW u 1) (hr:=λw3 hp=>by obtain⟨v,rfl⟩:=hp.fact 0 rfl kr;clear hp;go_simp;rfl) (h:=?_)
 repeat refine RA.qq ?_
 refine RA.RA.done rfl (λE hR hF hH=>?_);simp only[RA.RP,cx];obtain⟨r,F9,X9,rfl,a1,a2,a3,a5,a6,a7,a8⟩:=hH;have bR:=O.o _ hR;clear hF hR;simp only[kW,TP];have ck:nV E F9 d 0 E:=nV.refl a1 a2;refine G6 bR a3 a5 a6 a7 a8 ?_;clear bR a3 a5 a6 a7 a8;intro bR a3 a5 a6 a7 a8;have h7:=LH a1;replace ck:=LH ck;clear a1 a2 ad af cm c8 T ay hX;have hz:=LH (λj hj=>cX.o.IQ (j:=j) hj)
 have cz:∀ (g:Nat) (cs:Array Value) (ty:TypeId),w.heap.size<=g->ty≠223->ty≠145->B.heap[g]?=some (.cells cs ty (0,0))->¬ ((F g\/B.heap.size<=g)\/lH B b g):=λg cs ty hg h1 h2 hc=>by
  rintro ((e|e)|e)
  ·have:=U.o g e;omega
  ·have:=dC hc;omega
  ·exact lH.type B8.o hc h1 h2 e
 replace cz:=LH cz;go_wp2
 go_loopg [80] 15 (λg ix wr=>∃ j:Nat,j+g=15/\ix=iw j/\Hd (nV E F9 d j wr))
 case atStart=>exact⟨0,by omega,rfl,ck.o⟩
 case round=>
  obtain⟨j,iB,rfl,S⟩:=hrel;obtain⟨F',X',s1,s2,cc,bz,s9⟩:=S.o;have s3:∀ g,F' g->F g\/B.heap.size<=g:=λg hg=>(bz g hg).elim (λe=>.inl (a3.o g e)) (λe=>.inr (am bR.o.size e))
  have s4:aA (λg=>(F g\/B.heap.size<=g)\/lH B b g) B wr:=bR.o.trans (aA.mono cc (λg _ e=>.inl (.inl (a3.o g e))));by_cases hK:j<15
  ·obtain⟨g1,rfl⟩:∃ i,gk=i+1:=⟨gk - 1,by omega⟩;have hJ:(j:Int)<15:=om;obtain⟨pg,cap,e2,vg,vc,Z,e1,c0,c1,iA,hZ,gb,hO,hS,⟨h8,gf⟩,⟨h9,gh⟩,⟨zm,hT⟩⟩:=hz.o j (by rw[h5];exact hK);have fz:=cu.o _ hT;simp only[IJ] at e1;obtain⟨rfl,-,-⟩:=e1;have n1:=cz.o pg h8 _ hO de de gf;have n2:=cz.o vg h9 _ hS de de gh;replace c0:=(s4.cell (p:=iu pg (j*2)) (lq c0) n1).trans c0;replace c1:=(s4.cell (p:=iu pg (j*2+1)) (lq c1) n1).trans c1;have hb:Bytes wr (λx=>x=vg) (ir vg 64 vc) Z:=Bytes.ki gb s4 (λg _ hg e=>by subst hg;exact n2 e);have h4:¬ F' vg:=λe=>(s3 vg e).elim (λe=>n2 (.inl (.inl e))) (λe=>n2 (.inl (.inr e)))
   obtain⟨cd,dd⟩:=Ex (wr.alloc (.cells #[iw e2,ir vg 64 vc] 142));have c5:aA No wr cd:=by rw[dd];exact (aA.refl _ _).alloc _
   have s5:D.At cd F' d X':=s1.ki c5 (λ_ _=>id);have x5:cd.heap[wr.heap.size]?=some (.cells #[iw e2,ir vg 64 vc] 142 (0,0)):=by rw[dd];exact aj wr _
   have f0:=cell_of x5 0;have f1:=cell_of x5 1;have e0:=LH (Ch s5 s2 om e2 fz (Bytes.ki hb c5 (λ_ _ _=>id)) hZ (λg hg=>by rw[hg];exact h4));have cY:aA F9 E cd:=cc.trans (aA.mono c5 (λ_ _ e=>e.elim));have hQ:=LH (show D.l5 d E cd from (show D.l5 d wr cd from az (c5.block d (s1.lim d s1.self) id)).trans s9);have ic:=s4.size;replace cY:=LH cY;replace bz:=LH bz;clear s1 s2 s3 s4 s5 cc s9 x5 hb gb c5 S n1 n2 gf gh h4;have hY:=LH dd;subst dd
   go_wp2_with fail
   refine e0.o.mono ?_;rintro e a ⟨rfl,S6⟩;have S7:nV E F9 d (j+1) a:=nV.trans cY.o bz.o hQ.o S6;replace S7:=LH S7;clear S6 e0 cY f0 f1 c0 c1;go_wp2;go_roundg g1
   case measure=>omega
   case rel=>exact⟨j+1,by omega,by go_num,S7.o⟩
  ·obtain rfl:gk=0:=om;have hJ:¬ (j:Int)<15:=om;have gv:=LH (Ci s1 s2);replace cc:=LH cc;replace bz:=LH bz;replace s9:=LH s9;clear s1 s2 s3 s4 S
   go_wp2_with fail
   refine gv.o.mono ?_;rintro e a ⟨rfl,S6⟩;obtain⟨F6,X6,k1,k2,k3,k4,k5,k6⟩:=nV.flush h7.o cc.o bz.o s9.o S6;have Y:aA (λg=>(F g\/B.heap.size<=g)\/lH B b g) B a:=bR.o.trans (aA.mono k3 (λg _ e=>.inl (.inl (a3.o g e))));have dp:∀ g,F9 g->g<b:=λg hg=>hFb g (a3.o g hg)
   have fu:lx a t b w.heap.size gs M Ls []:=T8.o.IS L B8.o Y (λg o hD hg _ e=>by
    have:=(bm.1 hg).1;rcases e with e|e
    ·have:=hFb g e;omega
    ·omega)
   have fs:oh a r d s b gH A M 0:=a8.o.dB (am L a7.o) (λg cs ty hD _ hg=>k3.block g (dC hg) (λe=>by have:=dp g e;omega));have fb:Bk a b (n5+3):=a6.o.dB (λg hg hl=>k3.block g hl (λe=>by have:=dp g e;have:=hg.ge;omega));have hG:d<w.heap.size:=h.o.lim d h.o.self
   have h0:uE a d sb:=by obtain⟨n',c',hE⟩:=mD;refine⟨n',c',?_⟩;rw[k5,a5.o];exact (az (l.o.block d hG (λe=>e.elim (λe=>by omega) (bD.o d h.o.self)))).trans hE
   have hy:uC X6:=k2.2.2.2;have e4:l6 a d sb X6:=l6.of k1 k6 h0 k2.1 k2.2.1 (gB.1 (Nat.le_zero.1 k2.2.2.1));have bB:∀ (g:Nat) (cs:Array Value) (ty:TypeId),w.heap.size<=g->ty≠223->ty≠145->B.heap[g]?=some (.cells cs ty (0,0))->a.heap[g]?=some (.cells cs ty (0,0)):=λg cs ty hg h1 h2 hc=>(Y.block g (dC hc) (cz.o g cs ty hg h1 h2 hc)).trans hc
   have x9:mU a G xs:=⟨bB _ _ _ ed de de x8.o.at_⟩;have z9:=bB _ _ _ cK de de z8.o;have M9:lI a m (List.replicate 7 0) w.heap.size:=M8.o.dB (λg cs ty hg b8 hc=>by rw[hc];exact bB _ _ _ hg (by rcases b8 with rfl|rfl<;>decide) (by rcases b8 with rfl|rfl<;>decide) hc);have b2:=x9.load hlen;have aa:=mE (P:=prog) (w:=a) (g:=f) (off:=0) (ty:=100) (x:=[iq t,iq m,iw 0]) underlying100 kr (λj v hv=>by rw[aw,cell_of z9];simpa using hv);have ca:=IG hlen t m 0 r a;obtain⟨V,hV⟩:=Ex ((oQ xs t m 0 r).toArray);rw[<-bp.o] at b2 ca;rw[<-hV] at ca;have e6:kF (a.alloc (.cells V 104)) a.heap.size m (List.replicate 7 0) [] false:=IH (t:=t) (num:=0) (r:=r) W.o (by rw[hV];exact aj a _) (M9.at_.after ((ag _ _).alloc (ae _) _))
   have ct:aA (λg=>F g\/lH w b g) w (a.alloc (.cells V 104)):=by
    refine aA.alloc ⟨Y.os.trans l.o.os,Y.tape.trans l.o.tape,Y.output.trans l.o.output,am l.o.size Y.size,λg hg hn=>?_⟩ _;have e8:=l.o.block g hg (λe=>e.elim (λe=>by omega) (λe=>hn (.inr e)));have hI:=aH hg l.o.size;rw[Y.block g hI ?_,e8];rintro ((e|e)|e)
    ·exact hn (.inl e)
    ·omega
    ·exact hn (.inr (lH.back l.o hg om e))
   have hP:w.heap.size<=a.heap.size:=am l.o.size Y.size;refine G4 b2 aa ca hV ?_;clear b2 aa ca hV;intro b2 aa ca hV;have bW:Below a.heap.size a (a.alloc (.cells V 104)):=(ag _ _).alloc (ae _) _
   have e7:∃ xs t r,ou xs d s b gH A M/\(a.alloc (.cells V 104)).heap[a.heap.size]?=some (.cells (oQ xs t m 0 r).toArray 104 (0,0))/\lI (a.alloc (.cells V 104)) m (List.replicate 7 0) b/\(∃ gs Ls,lx (a.alloc (.cells V 104)) t b w.heap.size gs M Ls []/\Ls.length=4)/\(b<=r/\oh (a.alloc (.cells V 104)) r d s b gH A M 0)/\(∃ X',l6 (a.alloc (.cells V 104)) d sb X'/\uC X')/\∃ n',n'<=n+400/\Bk (a.alloc (.cells V 104)) b n':=⟨xs,t,r,W.o,by rw[hV.o];exact aj a _,(M9.dB (λg cs ty _ _ hc=>bW.block g (dC hc))).lower L,⟨gs,Ls,fu.after L bW,t3⟩,⟨am L a7.o,fs.dB (am L a7.o) (λg cs ty _ _ hg=>bW.block g (dC hg))⟩,⟨X6,e4.dB bW.size (λg hg=>bW.block g (e4.at_.lim g hg)),hy⟩,n5+3,by omega,fb.after bW⟩
   replace e7:=LH e7;replace e6:=LH e6;replace ct:=LH ct;clear S6 k1 k2 k3 k4 k5 k6 gv Y bB x9 z9 M9 fu fs fb e4 h0
   go_wp2_with (first|(refine kQ rfl 96 _ rfl _ _ rfl b2.o ?_)|(refine kQ rfl 100 _ rfl _ _ rfl aa.o ?_)|(refine vH rfl 104 _ rfl _ rfl _ ca.o ?_)|fail)
   go_ret2;exact⟨_,rfl,hP,⟨m,hL,e6.o,e7.o⟩,ct.o⟩
theorem IU (x y:Int) (w:World):(Instr.field 27 (.agg #[iw x,iw y]) 1).run prog w=.ok (iw y) w:=by have a:=underlying3;have a3:=Tryz.isAgg3;have z3:=Tryz.sizeOf3;unfold Instr.field;simp only[aM,bb underlying27,bu];have h:=gg (P:=prog) (w:=w) (e:=3) (xs:=#[iw x,iw y]) (off:=1) (v:=iw y) kr rfl;exact h
section
variable {w w':World}{v m:Nat}{L:iz}{ks:List (Nat×iz)}{kh:Bool}
def Cm (t:TypeId):Prop:=t=104\/t=111\/t=5\/t=195
theorem kF.dB (h:kF w v m L ks kh) (hk:∀ (g:Nat) (cs:Array Value) (t:TypeId),Cm t->w.heap[g]?=some (.cells cs t (0,0))->w'.heap[g]?=w.heap[g]?):kF w' v m L ks kh:=by
 obtain⟨⟨cs,pv,h1,f,i,l,n,o,p,q,r,vs,c,b,a⟩,hm,s,hp⟩:=h;refine⟨⟨cs,pv,(hk _ _ _ (.inl rfl) h1).trans h1,f,i,l,n,o,p,q,r,vs,c,dE b (λg hg=>?_),λj k u d hu=>⟨(a j k u d hu).1,dE (a j k u d hu).2 (λg hg=>?_)⟩⟩,hm.dB (λg _ ⟨cs,t,ht,hc⟩=>hk g cs t (ht.elim (λe=>.inr (.inr (.inr e))) (λe=>.inr (.inr (.inl e)))) hc),s,hp⟩
 ·obtain⟨cur,hc⟩:=kA b hg;exact hk _ _ _ (.inr (.inl rfl)) hc
 ·obtain⟨cur,hc⟩:=kA (a j k u d hu).2 hg;exact hk _ _ _ (.inr (.inr (.inl rfl))) hc
theorem kF.after (h:kF w v m L ks kh) (hb:Below w.heap.size w w'):kF w' v m L ks kh:=h.dB (λg _ _ _ hg=>hb.block g (dC hg))
theorem kF.cells (h:kF w v m L ks kh):∃ pa pc,w.cell? (iu v 104)=some (iw 60)/\w.cell? (iu v 105)=some (iw 50)/\w.cell? (iu v 107)=some (iq m)/\w.cell? (iu v 110)=some (.slice pa ks.length pc)/\w.cell? (iu v 111)=some (.bool kh)/\w.frozen? (iu v 110)=false/\w.frozen? (iu v 111)=false:=by obtain⟨⟨cs,pv,h1,j,k,l,d,e,f,g,i,vs,b,a,c⟩,hm,n⟩:=h;obtain⟨pa,pc,rfl,_⟩:=(Cells.own a).shape;exact⟨pa,pc,(cell_of h1 _).trans d,(cell_of h1 _).trans e,(cell_of h1 _).trans f,(cell_of h1 _).trans g,(cell_of h1 _).trans i,kY h1 _,kY h1 _⟩
theorem uF (h:kF w v m L ks kh):Calls prog 34 #[iq v] w λe w'=>e=.returned (.agg #[iw 60,iw 50])/\Below w.heap.size w w':=by
 obtain⟨n,g⟩:=Ex w.heap.size;obtain⟨d,c⟩:=Ex (w.alloc (.cells #[iw 0,iw 0] 27));have b1:Below w.heap.size w d:=by rw[c];exact (ag _ _).alloc (ae _) _
 have i:d.heap[n]?=some (.cells #[iw 0,iw 0] 27 (0,0)):=by rw[c,g];exact aj w _
 obtain⟨k,pc,c4,j,_⟩:=(h.after b1).cells
 have b:(Instr.storeAt 27 (iq n) (.agg #[iw 60,iw 50])).run prog d=.ok () (d.setRow n #[iw 60,iw 50]):=mf (x:=[iw 60,iw 50]) i kr rfl (by simp[Value.oneCell'])
 have f:(d.setRow n #[iw 60,iw 50]).heap[n]?=some (.cells #[iw 60,iw 50] 27 (0,0)):=aJ _ _ _ _ _ _ i;have a:Below w.heap.size w (d.setRow n #[iw 60,iw 50]):=below_setRow b1 om _;rw[g] at b f a;revert b f a;refine H3 ?_;intro b f a;subst c;clear h i b1 g;go_enter func34,ntmps34
 go_wp2_with (first|(refine kI rfl 27 _ _ rfl _ _ rfl rfl b.o ?_)|fail)
 refine aI (bd results34 _ _ w.heap.size 27 _ (0,0) _ rfl f.o underlying27 rfl kr) rfl ⟨rfl,a.o⟩
theorem xB (h:kF w v m L ks kh):Calls prog 23 #[iq v] w λe w'=>e=.returned (iw 50)/\Below w.heap.size w w':=by
 have hd:=LH (uF h);have a:=IU 60 50;clear h;go_enter func23,ntmps23
 go_wp2_with fail
 refine hd.o.mono ?_;rintro e b ⟨rfl,hb⟩;replace hb:=LH hb;go_wp2;go_ret;exact⟨rfl,hb.o⟩
theorem yX (h:kF w v m L ks kh) (i n:Nat) (hin:i+n<=50):Calls prog 48 #[iq v,iw i,iw n] w λe w'=>e=.returned (.bool true)/\Below w.heap.size w w':=by
 have hs:=LH (xB h);have g:(0:Int)<=n:=om;have h1:(0:Int)<=i:=om;have j:(n:Int)<=50:=om;have k:(i:Int)<=50 - n:=om;have f:=LH (λd (hb:Below w.heap.size w d)=>xB (h.after hb));clear h;go_enter func48,ntmps48
 go_wp2_with fail
 refine hs.o.mono ?_;rintro e d ⟨rfl,hb⟩;have c:=LH (f.o d hb);replace hb:=LH hb
 go_wp2_with fail
 refine c.o.mono ?_;rintro e w2 ⟨rfl,a⟩;have b:=LH (hb.o.trans (a.mono hb.o.size));clear a;go_wp2;go_ret;exact⟨rfl,b.o⟩
theorem uG (h:kF w v m L ks kh):Calls prog 22 #[iq v] w λe w'=>e=.returned (.bool kh)/\w=w':=by obtain⟨a,pc,_,_,_,_,c,_⟩:=h.cells;clear h;go_enter func22,ntmps22;go_wp2;go_ret;exact⟨rfl,rfl⟩
theorem kF.pd (h:kF w v m L ks kh):kF (w.setCell (iu v 111) (.bool true)) v m L ks true:=by
 obtain⟨⟨cs,pv,h1,l,n,o,p,q,r,s,y,vs,i,e,d⟩,hm,x,hp⟩:=h
 have b:∀ (g:Nat) (c:Array Value) (t:TypeId),t≠104->w.heap[g]?=some (.cells c t (0,0))->(w.setCell (iu v 111) (.bool true)).heap[g]?=w.heap[g]?:=λg c t b hg=>kD _ _ _ (by rintro rfl;rw[h1] at hg;simp only[IJ] at hg;exact b hg.2.1.symm)
 have a:∀ j,j≠111->(cs.setIfInBounds 111 (.bool true))[j]?=cs[j]?:=λj f=>by rw[bH (bY f)]
 refine⟨⟨_,pv,lz h1 111 _,by simpa using l,by rw[a _ de];exact n,by rw[a _ de];exact o,by rw[a _ de];exact p,by rw[a _ de];exact q,by rw[a _ de];exact r,by rw[a _ de];exact s,by rw[dM om],vs,i,dE e (λg hg=>?_),λj k u f hu=>⟨(d j k u f hu).1,dE (d j k u f hu).2 (λg hg=>?_)⟩⟩,hm.dB (λg _ ⟨c,t,ht,hc⟩=>b g c t (by rcases ht with rfl|rfl<;>decide) hc),x,hp⟩
 ·obtain⟨cur,hc⟩:=kA e hg;exact b _ _ _ de hc
 ·obtain⟨cur,hc⟩:=kA (d j k u f hu).2 hg;exact b _ _ _ de hc
theorem Cn (h:kF w v m L ks false){S:Nat->Prop}{dv:Value}{l:iz}(hd:Bytes w S dv l) (i n:Nat) (hl:l.length=n*64) (hin:i+n<=50):Calls prog 44 #[iq v,iw i,dv] w λe w'=>e=.returned (iw 0)/\Below w.heap.size w w':=by
 obtain⟨da,dc,rfl,_⟩:=hd.shape;have hr:=LH (uG h);have hw:=LH (yX h i n hin);obtain⟨N,a⟩:=Ex l.length;rw[<-a] at hl ⊢;have b:(N:Int) / 64=n:=om;have c:(N:Int) % 64=0:=om;have d:(n:Int)<=64:=om;have f:¬ (64:Int)<n:=om;replace a:=LH a;replace hl:=LH hl;clear h hd;go_enter func44,ntmps44
 go_wp2_with (first|(go_at_call 22;refine hr.o.mono ?_;rintro e w' ⟨rfl,rfl⟩)|fail)
 refine hw.o.mono ?_;rintro e g ⟨rfl,hb⟩;replace hb:=LH hb;go_wp2;go_ret;exact⟨rfl,hb.o⟩
theorem Co (h:kF w v m L ks true) (i:Int) (da:Option Addr) (dn dc:Nat):Calls prog 44 #[iq v,iw i,.slice da dn dc] w λe w'=>e=.returned (iw 6)/\w=w':=by
 have hr:=LH (uG h);clear h;go_enter func44,ntmps44
 go_wp2_with (first|(go_at_call 22;refine hr.o.mono ?_;rintro e w' ⟨rfl,rfl⟩)|fail)
 go_ret;exact⟨rfl,rfl⟩
end
theorem Cp {w:World}{m B:Nat}{L:iz}(hBB:lI w m L B) (k:Nat) (hk:k<50):Calls prog 82 #[iq m,iw k,iw 1] w λe w'=>∃ g,e=.returned (iw 0)/\lI w' m (qj L k) B/\aA (λx=>x=g) w w'/\B<=g/\(∃ cs,w.heap[g]?=some (.cells cs 5 (0,0)))/\∃ n c,w.cell? (iu m 1)=some (ir g n c):=by
 have h:=hBB.at_;have S:=h.len;have A:=hBB.1;obtain⟨_,sv,b1,E,l⟩:=hBB;have Q:k / 8<7:=om
 obtain⟨g,cap,cur,rfl,f,hg,F,hm,hs,q⟩:∃ g cap cur,sv=ir g 7 cap/\B<=g/\w.heap[g]?=some (.cells cur 5 (0,0))/\7<=cap/\cap<=maxLen/\cur.size=cap*1/\cur.toList.take (7*1)=aQ L:=by
  rcases l with ⟨rfl,q⟩|⟨g,cap,cur,rfl,f,hg,F,hm,hs,q⟩
  ·exact absurd q de
  ·exact⟨g,cap,cur,rfl,f,hg,F,hm,hs,q⟩
 have U:w.cell? (iu m 0)=some (iw 50):=cell_of b1 0;have h1:w.cell? (iu m 1)=some (ir g 7 cap):=cell_of b1 1
 have u:w.cell? (iu g (k / 8))=some (iy (L.getD (k / 8) 0).toNat):=by rw[cell_of hg,<-cZ,<-dV (show k / 8<7*1 by omega),q,pI L _ om];simp[List.getD,show k / 8<L.length by omega]
 have v:m≠g:=by rintro rfl;rw[b1] at hg;simp only[IJ] at hg;exact absurd hg.2.1 de
 have b:lI (w.setCell (iu g (k / 8)) (iy ((L.getD (k / 8) 0).toNat ||| 2 ^ (k % 8):Nat))) m (qj L k) B:=by
  refine⟨A,_,(kD _ _ _ v).trans b1,?_,.inr ⟨g,cap,_,rfl,f,lz hg _ _,F,hm,by simpa using hs,?_⟩⟩
  ·rw[km,Bz,S]
  ·rw[eB,fe,q,qj];have e:=lM (By (L.getD (k / 8) 0).toNat_lt (show k % 8<8 by omega));simp only[aQ,ei,u8,e]
 have j:(∃ cs,w.heap[g]?=some (.cells cs 5 (0,0)))/\∃ n c,w.cell? (iu m 1)=some (ir g n c):=⟨⟨_,hg⟩,_,_,h1⟩;have C:w.frozen? (iu g (k / 8))=false:=kY hg _;have a:aA (λx=>x=g) w (w.setCell (iu g (k / 8)) (iy ((L.getD (k / 8) 0).toNat ||| 2 ^ (k % 8):Nat))).drew:=((aA.refl (λx=>x=g) w).setCell (p:=iu g (k / 8)) (λ_=>rfl) _).drew;obtain⟨D,t⟩:=Ex (k / 8);obtain⟨R,y⟩:=Ex (k % 8);have J:D<7:=om;have K:R<8:=om;have hd:(k:Int) / 8=(D:Int):=om;have hr:(k:Int) % 8=(R:Int):=om;rw[<-t,<-y] at b a;rw[<-t] at C u;obtain⟨B,s⟩:=Ex ((L.getD D 0).toNat);have z:B<256:=s ▸ (L.getD D 0).toNat_lt;rw[<-s] at u b a
 have T:bits .or .u8 (B:Int) (2 ^ R % 256)=((B ||| 2 ^ R:Nat):Int):=by
  have r:2 ^ R<256:=cQ (gl om (show R<=7 by omega)) om;have G:((2 ^ R:Nat):Int)=(2:Int) ^ R:=by simp
  have e:((2:Int) ^ R % 256)=((2 ^ R:Nat):Int):=by rw[<-G];clear G;generalize 2 ^ R=P at r ⊢;omega
  rw[e];exact u8_or_nat B (2 ^ R) z r
 have M:¬ (k:Int)<0:=om;have N:¬ (50:Int)<k:=om;have O:¬ (49:Int)<k:=om;refine G6 t y s b j a ?_;clear t y s b j a;intro t y s b j a;clear q hs v hg b1 E l h;go_enter func82,ntmps82;go_wp2;obtain⟨I,d⟩:=Ex ((w.setCell (iu g D) (iy (B ||| 2 ^ R:Nat))).drew);have a:=LH (d ▸ a.o);replace d:=LH d
 go_loopg [39] 1 (λH i wr=>(H=1/\i=iw 0/\wr=w)\/(H=0/\i=iw 1/\wr=I))
 case atStart=>exact .inl ⟨rfl,rfl,rfl⟩
 case round=>
  rcases hrel with ⟨rfl,rfl,rfl⟩|⟨rfl,rfl,rfl⟩
  ·go_wp2
   go_region
   go_wp2;go_roundg 0
   case measure=>omega
   case rel=>exact .inr ⟨rfl,rfl,by rw[d.o]⟩
  ·go_wp2;go_ret;exact⟨_,rfl,by rw[d.o];exact b.o,a.o,f,j.o⟩
theorem Cq {w:World}{m:Nat}{L:iz}(h:mj w m L):Calls prog 78 #[iq m] w λe w'=>∃ m',e=.returned (iq m')/\lI w' m' L w.heap.size/\Below w.heap.size w w':=by
 have hm:∃ sv,w.heap[m]?=some (.cells #[iw 50,sv] 195 (0,0)):=by obtain⟨sv,h1,_⟩:=h;exact⟨sv,h1⟩
 obtain⟨sv,hm⟩:=hm;have c0:=LH (cell_of hm 0);have q:=LH (dC hm);have y:=LH (λd (hc:aA No w d)=>yJ (h.after hc.no));have c:=Dr w
 replace c:=LH c;clear hm h;go_enter func78,ntmps78;go_wp2;refine RA.rt (aA No) [1,1,1,1,1,3,1,3,1] [] (λ_=>True) trivial (λ_=>aA.refl _ _) (λ_ _ _ h k=>h.trans k) (h:=?_);intro cx
 repeat refine RA.qq ?_
 refine RA.fk prog m 0 (h:=?_);refine RA.lk prog (iw 50) (hc:=λd hp=>by exact ((c.o _ hp.1).cell (p:=iu m 0) q.o id).trans c0.o) (h:=?_)
 repeat refine RA.qq ?_
 refine RA.qc (P:=prog) [iq m] (λv d=>d.ownsRow w.heap.size 5 1 v 7 (aQ L)) (hs:=λv a b h j=>dE j (λg hg=>h.block g (kt j g hg) id)) (hr:=λd hp hH=>by refine (y.o d (c.o _ hp.1)).mono ?_;rintro e C ⟨v,rfl,z,A⟩;exact⟨v,rfl,aA.dD A _,kU z (c.o _ hp.1).size,trivial⟩) (hn:=λu=>?_)
 refine RA.vk prog (.agg #[iw 50,u]) (hr:=λd hp=>by obtain⟨g,cp,rfl,_⟩:=kz (hp.fact 0 rfl kr) om;go_simp) (h:=?_)
 refine RA.bq (λx d=>∃ p,x=iq p/\w.heap.size<=p/\d.heap[p]?=some (.cells #[iw 50,u] 195 (0,0))) (hs:=λ_ _ _ h k=>by obtain⟨p,h1,j,s⟩:=k;exact⟨p,h1,j,(h.block p (dC s) id).trans s⟩) (he:=λ_ _ _ _ _=>trivial) (hr:=λd hp _=>by have f:=hp.fact 0 rfl kr;have hs:=(c.o _ hp.1).size;refine⟨iq d.heap.size,d.alloc (.cells #[iw 50,u] 195),?_,(aA.refl _ _).alloc _,⟨_,rfl,hs,aj d _⟩,trivial⟩;obtain⟨g,cp,rfl,_⟩:=kz f om;clear hp f hs;show (execOp _ _).run prog d=_;go_simp) (hn:=λx=>?_)
 repeat refine RA.qq ?_
 refine RA.RA.done rfl (λB t l hH=>?_);clear hH;simp only[RA.RP,cx];have hC:=c.o _ t;obtain⟨p,rfl,r,i⟩:=l _ (cq ..);have f:=l _ (fc _ (cq ..));clear l t;have n:lI B p L w.heap.size:=⟨r,u,i,f⟩;replace n:=LH n;replace hC:=LH hC;clear i f;go_wp2;go_ret;exact⟨p,rfl,n.o,hC.o.no⟩
end Go.Proofs.YthmcbgidehjlbaaGreat.Fd

/-
 Parts of the proof. No condition beyond what each theorem names.
-/
import Derived.Deep.CutBlock
import Derived.Test.YthmcbgidehjlbaaGreatFrBg
set_option maxRecDepth 100000
set_option maxHeartbeats 100000000
namespace Go.Proofs.YthmcbgidehjlbaaGreat.Fd
open _root_.Go.Proofs.Tryz
open Go Go.RowKit K
def xQ (v:Value) (i:Nat):Value:=match v with|.tuple cs=>cs.getD i undef|_=>undef
theorem D0 (a b:Value):xQ (.tuple #[a,b]) 0=a:=rfl
theorem D6 (a b:Value):xQ (.tuple #[a,b]) 1=b:=rfl
theorem qQ.base {B B':Nat}{w':World}{c:Nat->iz}{i n:Int}{e:Ending}(h:qQ B w' c i n e) (hB:B'<=B):qQ B' w' c i n e:=by
 rcases h with h|⟨h1,u,h2,h3⟩
 ·exact .inl h
 ·exact .inr ⟨h1,u,h2,kU h3 hB⟩
theorem qQ.two {B:Nat}{w':World}{c:Nat->iz}{i n:Int}{e:Ending}(h:qQ B w' c i n e):∃ x y,e=.returned (.tuple #[x,y]):=by rcases h with ⟨_,h⟩|⟨_,u,h,_⟩<;>exact⟨_,_,h⟩
theorem L7 {w:World}{a:Option Addr}{cap:Nat}{L:List qu}(hL:uP w a cap L) (pd:Int):
  Calls prog 5 #[.slice a L.length cap,iw pd] w λe w'=>e=.returned (.bool true)/\Below w.heap.size w w':=by
 have dT:=LH Kr;have b8:=LH (LF hL);obtain⟨ln,bz⟩:=Ex L.length;rw[<-bz] at b8 ⊢;replace hL:=LH hL;replace bz:=LH bz;go_enter func5,ntmps5
 go_wp2_with fail
 refine b8.o.mono ?_;rintro e w' ⟨⟨b,rfl,hb⟩,rfl⟩;clear b8;cases b with
 | false=>
  clear hb
  go_wp2_with fail
  refine (dT.o _).mono ?_;rintro e w1 ⟨rfl,hb⟩;go_wp2;go_ret;exact⟨rfl,hb⟩
 | true=>
 obtain⟨e6,e7⟩:=hb rfl;replace e7:=LH e7;rw[<-bz.o] at e6;clear hb;have hf:=LH (DR w)
 go_wp2_with fail
 refine hf.o.mono ?_;rintro e w1 ⟨G1,T1,rfl,c6,cu,D⟩;obtain⟨v1,r⟩:=Ex G1.v;obtain⟨d1,cW⟩:=Ex G1.d;rw[<-r,<-cW];replace r:=LH r;replace cW:=LH cW;replace c6:=LH c6;replace cu:=LH cu;replace D:=LH D;have e4:=LH (DR w1);clear hf
 go_wp2_with fail
 refine e4.o.mono ?_;rintro e w2 ⟨G2,T2,rfl,c7,dn,q⟩;obtain⟨v2,M⟩:=Ex G2.v;obtain⟨d2,cX⟩:=Ex G2.d;rw[<-M,<-cX];have bl:=LJ G1.v (l:=[]) (Cells.nil w2 (λ_=>True) 2) om;rw[<-r.o] at bl;replace bl:=LH bl;replace M:=LH M;replace cX:=LH cX;replace c7:=LH c7;replace dn:=LH dn;replace q:=LH q;clear e4
 go_wp2_with fail
 refine bl.o.mono ?_;rintro e f ⟨k,rfl,hk,dp,an⟩
 have cP:GF w G1 G2 k f tF tF T1 T2:=by
  have h1:=c6.o;have h2:=c7.o;have cK:=q.o.trans (an.mono q.o.size);have gh:=D.o.size;have ha:=q.o.size;have eb:=h1.kx.below q.o;have ap:=(h1.two h2 q.o);have g2:GF w G1 G2 k w2 tF tF T1 T2->True:=λ_=>trivial
  refine⟨h1.kx.below cK,h2.kx.below an,by rw[<-r.o];exact dp,ap.step eb h2.kx (eb.below an) (h2.kx.below an) (Step.below h2.kx an) cu.o,D.o.trans (cK.mono gh),λg hg=>?_,λg hg=>?_,by show 0<=113;omega,by show 0<=113;omega,cu.o,dn.o⟩
  ·by_cases hl:g<w1.heap.size
   ·exact h1.oV g ((Step.below h1.kx cK).kO.back hl hg)
   ·omega
  ·by_cases hl:g<w2.heap.size
   ·have:=h2.oV g ((Step.below h2.kx an).kO.back hl hg);omega
   ·omega
 have cT:Room T1 0:=by have h:=c6.o;exact⟨by have:=h.n;omega,by have:=h.num;omega,by have:=h.l8;omega⟩
 have cU:Room T2 0:=by have h:=c7.o;exact⟨by have:=h.n;omega,by have:=h.num;omega,by have:=h.l8;omega⟩
 replace cP:=LH cP;replace cT:=LH cT;replace cU:=LH cU;clear bl hk dp D q an;go_wp2
 go_loopg [12] ln (λg ix wx=>∃ (j:Nat) (s:kS) (S1 S2:VT),j+g=ln/\ix=iw j/\Hd (GF w G1 G2 k wx s s S1 S2)/\Hd (Room S1 j)/\Hd (Room S2 j))
 case atStart=>exact⟨0,tF,T1,T2,by omega,rfl,cP.o,cT.o,cU.o⟩
 case round=>
  obtain⟨j,s,S1,S2,h7,rfl,HG,af,S⟩:=hrel;obtain⟨wo,rfl⟩:=Ex (wr:World);by_cases h8:j<ln
  ·obtain⟨g1,rfl⟩:∃ i,gk=i+1:=⟨gk - 1,by omega⟩;have fz:(j:Int)<ln:=om;have ck:=HG.o.gu.c0;rw[<-r.o] at ck
   go_upto_if 52 with fail
   go_cut [] from 44 to 152 (λwx=>∃ s',Hd (GF w G1 G2 k wx s' s' S1 S2))
   case first=>
    by_cases gb:(j:Int)=pd
    ·subst gb;have cd:=LX HG.o;rw[<-r.o] at cd;replace cd:=LH cd
     go_wp2_with fail
     refine cd.o.mono ?_;rintro e wa ⟨rfl,HA⟩;have cf:=LY HA;rw[<-M.o] at cf;replace cf:=LH cf;clear HA
     go_wp2_with fail
     refine cf.o.mono ?_;rintro e wb ⟨rfl,HB⟩;replace HB:=LH HB;go_wp2
     go_meet
     exact⟨s.pd,HB.o⟩
    ·go_wp2
     go_meet
     exact⟨s,HG.o⟩
   case rest=>
    obtain⟨s',bR⟩:=hcut;clear HG ck;obtain⟨wo,rfl⟩:=Ex (wc:World);have er:j<L.length:=by have:=bz.o;omega
    obtain⟨x,hx⟩:∃ x,L[j]?=some x:=⟨_,av er⟩;have ds:=hL.o.dB bR.o.mz;obtain⟨g,off,dv,rfl,h6,hr⟩:=ds.2.2 j x hx;obtain⟨g',gA,ed,e',_,cl⟩:=hL.o.2.2 j x hx;simp only[IJ] at e';obtain⟨rfl,rfl,-⟩:=e'
    obtain rfl:ed=dv:=by have h1:=cl.c3;have h2:=hr.c3;rw[az (w:=w) (a:=iu g (off+j*4+3)) (bR.o.mz.block g (lq h1)),h1] at h2;exact aF h2
    obtain⟨da,dc,rfl,_⟩:=hr.data.shape;obtain⟨N,hN⟩:=Ex x.data.length;obtain⟨o,ho⟩:=Ex (off+j*4);have c0:=hr.c0;have c1:=hr.c1;have c2:=hr.c2;have c3:=hr.c3;have b4:=cl.data;rw[<-hN] at c3 b4;rw[<-ho] at c0 c1 c2 c3;have h9:off+j*4=o:=ho.symm;have gv:(j:Int)<cap:=by have:=hL.o.1;omega
    obtain⟨kd,dd⟩:=Ex x.kind;obtain⟨F,cc⟩:=Ex x.first;obtain⟨Q,cj⟩:=Ex x.num;obtain⟨dl,cY⟩:=Ex x.data;rw[<-dd] at c0;rw[<-cc] at c1;rw[<-cj] at c2;rw[<-cY] at b4 hN;have ba:=hr.fr;have bA:=hr.nr;rw[<-cc] at ba;rw[<-cj] at bA;obtain⟨bo,cb⟩:=Ex wo.heap.size;obtain⟨m,a8⟩:=Ex (wo.alloc (.cells #[iw kd,iw F,iw Q,.slice da N dc] 44));have K:Below wo.heap.size wo m:=by rw[a8];exact (ag _ _).alloc (ae _) _
    have B1:m.heap[bo]?=some (.cells #[iw kd,iw F,iw Q,.slice da N dc] 44 (0,0)):=by rw[a8,cb];exact aj wo _
    have HW:=LH (bR.o.below K);replace B1:=LH B1;replace hr:=LH hr;replace cl:=LH cl;replace hx:=LH hx;replace ho:=LH ho;replace hN:=LH hN;replace dd:=LH dd;replace cc:=LH cc;replace cj:=LH cj;replace cY:=LH cY;replace ba:=LH ba;replace bA:=LH bA;replace b4:=LH b4;replace a8:=LH a8;replace cb:=LH cb;clear ds K bR
    go_upto_block 2 with fail
    rw[<-cb.o,<-a8.o];clear c0 c1 c2 c3
    go_cut [14,15,16,17] from 44 to 152 (λhh hj hq hy wx=>∃ (sz:kS) (B T:VT),Hd (GF w G1 G2 k wx sz sz B T)/\Hd (Room B (j+1))/\Hd (Room T (j+1))/\Hd (wx.heap[bo]?=some (.cells #[iw kd,iw F,iw Q,.slice da N dc] 44 (0,0))))
    case first=>
     have cg:∀ (C:Nat->Prop),(∀ g cs,C g->m.heap[g]?=some (.cells cs 44 (0,0))->False)->∀ f,aA C m.drew f->f.cell? (iu bo 1)=some (iw F)/\f.cell? (iu bo 2)=some (iw Q)/\f.cell? (iu bo 3)=some (.slice da N dc):=λC hC f hc=>by have e:=(hc.block bo (dC B1.o) (λe=>hC bo _ e B1.o)).trans B1.o;exact⟨cell_of e 1,cell_of e 2,cell_of e 3⟩
     have b3:∀ g cs,lp G1 m g->m.heap[g]?=some (.cells cs 44 (0,0))->False:=λg cs e hc=>by
      rcases lp.kind HW.o.v1 e hc with ⟨_,G⟩|⟨_,G⟩|⟨_,G⟩|⟨_,G⟩|⟨_,G⟩
      ·rcases G with e|e<;>exact absurd e de
      ·rcases G with e|e<;>exact absurd e de
      ·exact absurd G de
      ·exact absurd G de
      ·exact absurd G de
     have bB:∀ g cs,lp G2 m g->m.heap[g]?=some (.cells cs 44 (0,0))->False:=λg cs e hc=>by
      rcases lp.kind HW.o.v2 e hc with ⟨_,G⟩|⟨_,G⟩|⟨_,G⟩|⟨_,G⟩|⟨_,G⟩
      ·rcases G with e|e<;>exact absurd e de
      ·rcases G with e|e<;>exact absurd e de
      ·exact absurd G de
      ·exact absurd G de
      ·exact absurd G de
     replace cg:=LH cg;replace b3:=LH b3;replace bB:=LH bB;by_cases fb:kd=1
     ·subst fb;obtain⟨E,hE⟩:=Ex (mq s'.kh F N);obtain⟨st,cm⟩:=Ex (qR s' F dl N);have cr:=λf (h3:GF w G1 G2 k f s' s' S1 S2)=>LS h3 af.o (show j<=50 by omega) b4.o F
      have ct:=λf B (h3:GF w G1 G2 k f st s' B S2)=>LU h3 S.o (show j<=50 by omega) b4.o F
      rw[<-hE,<-cm] at cr;rw[<-hE,<-cm,<-M.o] at ct;replace hE:=LH hE;replace cm:=LH cm
      have K:=LH (cg.o (λg=>lp G1 m g\/lp G2 m g\/m.heap.size<=g) (λg cs e hc=>by
       rcases e with e|e|e
       ·exact b3.o g cs e hc
       ·exact bB.o g cs e hc
       ·have:=dC hc;omega))
      replace cr:=LH cr;replace ct:=LH ct;go_wp2;refine RA.region (λa b=>aA (λg=>lp G1 m g\/lp G2 m g\/m.heap.size<=g) a b) (·=·) [1,1,1,1,1,4,1,1,1,1,1,4,1] (λ_ _ _=>True) (λx=>GF w G1 G2 k x s' s' S1 S2/\nH G1 m x/\nH G2 m x/\oy m x) kr (aA.refl _ _) (λ_ _ h=>h ▸ aA.refl _ _) (λ_ _ _ h k=>h.trans k) (λ_ _ h k=>h ▸ k) (⟨HW.o.below (ag _ _).drew,λ_ _ h=>h,λ_ _ h=>h,ae _,λ_ _ h=>h⟩) kr ?_;intro cx
      repeat refine RA.qq ?_
      refine RA.fk prog bo 1 (h:=?_);refine RA.lk prog (iw F) (hc:=λf hp=>by exact (K.o f hp.1).1) (h:=?_);refine RA.fk prog bo 3 (h:=?_);refine RA.lk prog (.slice da N dc) (hc:=λf hp=>by exact (K.o f hp.1).2.2) (h:=?_)
      refine RA.kc (P:=prog) [iq k,iw F,.slice da N dc] (iw E) (λx=>∃ B,GF w G1 G2 k x st s' B S2/\nH G1 m x/\nH G2 m x/\oy m x/\oG S1 B) (hr:=(λf hp hH=>by
       refine (cr.o f hH.1).mono ?_;rintro e w4 ⟨rfl,hs,B,⟨g1,g2,g3⟩,hb⟩;have a6:=oy.kO hH.1.v1 hs;refine⟨rfl,aA.mono hs.ki (λg hg e=>?_),B,g1,hH.2.1.trans g2 hH.2.2.2.1,hH.2.2.1.trans g3 hH.2.2.2.1,⟨am hH.2.2.2.1 a6.1,λg cs hg=>a6.2 g cs (hH.2.2.2.2 g cs hg)⟩,hb⟩;by_cases hl:g<m.heap.size
       ·exact .inl (hH.2.1 g hl e)
       ·exact .inr (.inr om))) (hn:=?_)
      repeat refine RA.qq ?_
      refine RA.fk prog bo 1 (h:=?_);refine RA.lk prog (iw F) (hc:=λf hp=>by exact (K.o f hp.1).1) (h:=?_);refine RA.fk prog bo 3 (h:=?_);refine RA.lk prog (.slice da N dc) (hc:=λf hp=>by exact (K.o f hp.1).2.2) (h:=?_)
      refine RA.kc (P:=prog) [iq v2,iw F,.slice da N dc] (iw E) (λx=>∃ B T,GF w G1 G2 k x st st B T/\oy m x/\oG S1 B/\oG S2 T) (hr:=(λf hp hH=>by
       obtain⟨B,hG,h0,en,b6,D⟩:=hH;refine (ct.o f B hG).mono ?_;rintro e w4 ⟨rfl,hs,T,⟨g1,g2,g3⟩,hb⟩;have a6:=oy.kO hG.v2 hs;refine⟨rfl,aA.mono hs.ki (λg hg e=>?_),B,T,g1,⟨am b6.1 a6.1,λg cs hg=>a6.2 g cs (b6.2 g cs hg)⟩,D,hb⟩;by_cases hl:g<m.heap.size
       ·exact .inr (.inl (en g hl e))
       ·exact .inr (.inr om))) (hn:=?_)
      refine RA.ne false kr rf rf rf sm ?_;refine RA.RA.done rfl (λw5 hR hF hH=>?_);simp only[RA.RP,cx];obtain⟨B,T,hG,b6,D,q⟩:=hH;have O:=LH hG;have I:=LH (af.o.next D);have H:=LH (S.o.next q);have J:=LH (b6.2 _ _ B1.o);clear hF hR hG b6 D q;go_wp2
      go_meet
      exact⟨st,B,T,O.o,I.o,H.o,J.o⟩
     by_cases fs:kd=2
     ·subst fs;have bp:=λf (h3:GF w G1 G2 k f s' s' S1 S2)=>LZ h3 af.o (show j<=50 by omega) F Q
      rw[<-r.o] at bp
      have K:=LH (cg.o (λg=>kn m G1.b g\/m.heap.size<=g) (λg cs e hc=>by
       rcases e with e|e
       ·exact b3.o g cs (.inr (.inl e)) hc
       ·have:=dC hc;omega))
      have A:∀ f,aA (λg=>kn m G1.b g\/m.heap.size<=g) m.drew f->f.cell? (iu k 0)=some (iq v1):=λf hc=>by
       obtain⟨ad,cp,ax,_⟩:=HW.o.gu
       have e1:=(hc.block k (dC ax) (λe=>by
        rcases e with e|e
        ·exact kn.type HW.o.v1.book ax de de e
        ·have:=dC ax;have e':m.heap.size<=k:=e;omega)).trans ax
       refine (cell_of e1 0).trans ?_;rw[r.o];rfl
      replace A:=LH A;replace bp:=LH bp;go_wp2;refine RA.region (λa b=>aA (λg=>kn m G1.b g\/m.heap.size<=g) a b) (·=·) [1,1,1,1,1,1,1,1,3,1,1,1,1,1] (λ_ _ _=>True) (λx=>GF w G1 G2 k x s' s' S1 S2/\kf No G1.b m x) kr (aA.refl _ _) (λ_ _ h=>h ▸ aA.refl _ _) (λ_ _ _ h k=>h.trans k) (λ_ _ h k=>h ▸ k) (⟨HW.o.below (ag _ _).drew,(kf.refl).xb⟩) kr ?_;intro cx
      repeat refine RA.qq ?_
      refine RA.fk prog k 0 (h:=?_);refine RA.lk prog (iq v1) (hc:=λf hp=>by exact A.o f hp.1) (h:=?_);refine RA.fk prog bo 1 (h:=?_);refine RA.lk prog (iw F) (hc:=λf hp=>by exact (K.o f hp.1).1) (h:=?_);refine RA.fk prog bo 2 (h:=?_);refine RA.lk prog (iw Q) (hc:=λf hp=>by exact (K.o f hp.1).2.1) (h:=?_)
      refine RA.qc (P:=prog) [iq v1,iw F,iw Q] (λu f=>∃ y z,u=.tuple #[y,z]) (λu f=>qQ m.heap.size f s'.c F Q (.returned u)/\oy m f/\∃ B,GF w G1 G2 k f s' s' B S2/\oG S1 B) (hs:=λ_ _ _ _ h2=>h2) (he:=λ_ _ _ e h=>e ▸ h) (hr:=(λf hp hH=>by
       refine (bp.o f hH.1).mono ?_;rintro e w4 ⟨h1,h3,h2,S',h4,h5⟩;obtain⟨y,z,rfl⟩:=h1.two;refine⟨_,rfl,aA.mono h3.toaA (λg hg e=>e.elim (λe=>e.elim) (λe=>?_)),⟨y,z,rfl⟩,h1.base hH.2.toaA.size,⟨am hH.2.toaA.size h2.1,λg cs hg=>h2.2 g cs (hH.2.at HW.o.v1.book hg id de de)⟩,S',h4,h5⟩;by_cases hl:g<m.heap.size
       ·exact .inl (hH.2.back hl e)
       ·exact .inr om)) (hn:=λu=>?_)
      repeat refine RA.qq ?_
      refine RA.ex kr rf rf (y':=xQ u 0) (λf hp=>by obtain⟨y,z,rfl⟩:=hp.fact 0 rfl kr;rfl) ?_
      refine RA.ex kr rf rf (y':=xQ u 1) (λf hp=>by obtain⟨y,z,rfl⟩:=hp.fact 0 rfl kr;rfl) ?_
      repeat refine RA.qq ?_
      refine RA.RA.done rfl (λw5 hR hF hH=>?_);simp only[RA.RP,cx];obtain⟨gf,a7,B,bW,b7⟩:=hH;clear hF hR;have B2:=a7.2 _ _ B1.o;have e1:=cell_of B2 1;have G:=cell_of B2 2;have I:=LH (af.o.next b7);have b2:=L5 bW S.o (show j<=50 by omega) F Q;rw[<-M.o] at b2;replace b2:=LH b2;replace bW:=LH bW;replace B2:=LH B2;clear bp A a7 b7;rcases gf with ⟨ay,e⟩|⟨ay,u1,e,b5⟩
      ·simp only[fO] at e;subst e;simp only[D0,D6];replace ay:=LH ay
       go_wp2_with fail
       refine b2.o.mono ?_;rintro e R ⟨⟨-,rfl⟩|⟨h,-⟩,-,bC,T,O,q⟩
       rotate_left
       ·rw[ay.o] at h;cases h
       have H:=LH (S.o.next q);have J:=LH (bC.2 _ _ B2.o);replace O:=LH O;have tF:(convert 42 9 (.slice none 0 0)).run prog R=.ok (.string ⟨([]:iz).toArray⟩) R:=by exact sK _ _ _ _ underlying42 underlying5 underlying9 _ _ _ (Bytes.nil R (λ_=>True))
       clear b2 bC q e1 G;go_wp2
       go_meet
       exact⟨s',B,T,O.o,I.o,H.o,J.o⟩
      ·simp only[fO] at e;subst e;simp only[D0,D6];replace ay:=LH ay;obtain⟨RL,c8⟩:=Ex (vT s'.c F.toNat Q.toNat);obtain⟨RN,c9⟩:=Ex (Q.toNat*64);rw[<-c8,<-c9] at b5;have hlen:RL.length=RN:=by have:=b5.1;rw[km] at this;omega
       replace b5:=LH b5;replace c8:=LH c8;replace c9:=LH c9;replace hlen:=LH hlen
       go_wp2_with fail
       refine b2.o.mono ?_;rintro e R ⟨⟨h,-⟩|⟨-,u2,rfl,dg⟩,e0,bC,T,O,q⟩
       ·rw[ay.o] at h;cases h
       have H:=LH (S.o.next q);have J:=LH (bC.2 _ _ B2.o);rw[<-c8.o,<-c9.o] at dg;have cz:=e0.own bW.o.v2.book b5.o (λ_ _=>id) de de
       have y1:Bytes R (λ_=>True) u1 RL:=by show Cells _ _ _ RL.length 1 _;rw[hlen.o];exact (Cells.own cz).mono (λ_ _ _=>trivial)
       have y2:Bytes R (λ_=>True) u2 RL:=by show Cells _ _ _ RL.length 1 _;rw[hlen.o];exact (Cells.own dg).mono (λ_ _ _=>trivial)
       replace O:=LH O;obtain⟨a1,s1,rfl,_⟩:=y1.shape;obtain⟨a2,s2,rfl,_⟩:=y2.shape;have st1:(convert 42 9 (.slice a1 RL.length s1)).run prog R=.ok (.string ⟨RL.toArray⟩) R:=by exact sK _ _ _ _ underlying42 underlying5 underlying9 _ _ _ y1
       have st2:(convert 42 9 (.slice a2 RL.length s2)).run prog R=.ok (.string ⟨RL.toArray⟩) R:=by exact sK _ _ _ _ underlying42 underlying5 underlying9 _ _ _ y2
       clear b2 e0 bC q e1 G dg y1 y2 b5 cz;go_wp2
       go_meet
       exact⟨s',B,T,O.o,I.o,H.o,J.o⟩
     ·by_cases fu:kd=3
      ·subst fu;have mk:=HW.o.gu.c0;have a7:=LV HW.o af.o om;rw[<-r.o] at mk a7;replace a7:=LH a7
       go_wp2_with fail
       refine a7.o.mono ?_;rintro e wa ⟨rfl,e8,B,HA,D⟩;have bD:=LW HA S.o om;rw[<-M.o] at bD;replace bD:=LH bD;have cA:=e8.2 _ _ B1.o;replace cA:=LH cA;have I:=LH (af.o.next D);clear a7 D e8 HA mk
       go_wp2_with fail
       refine bD.o.mono ?_;rintro e R ⟨rfl,mD,T,O,q⟩;have H:=LH (S.o.next q);have J:=LH (mD.2 _ _ cA.o);replace O:=LH O;clear bD q mD;go_wp2
       go_meet
       exact⟨s'.sync,B,T,O.o,I.o,H.o,J.o⟩
      ·skip;have I:=LH (af.o.next (oG.refl S1));have H:=LH (S.o.next (oG.refl S2));go_wp2
       go_meet
       exact⟨s',S1,S2,HW.o,I.o,H.o,B1.o⟩
    case rest=>
     obtain⟨sz,B,T,O,I,H,J⟩:=hcut;obtain⟨R,rfl⟩:=Ex (wc:World);have Y:=λf (hc:aA No R f)=>uG (O.o.v1.below hc.no).kx
     have Z:=λf (hc:aA No R f)=>uG (O.o.v2.below hc.no).kx
     have U:=λf (hc:aA No R f)=>DN (O.o.v1.below hc.no).kx F Q ba.o bA.o
     have V:=λf (hc:aA No R f)=>DN (O.o.v2.below hc.no).kx F Q ba.o bA.o
     obtain⟨SL,ca⟩:=Ex sz.kh;obtain⟨AN,c5⟩:=Ex (uM (lh sz.L sz.ks) F Q);rw[<-ca,<-r.o] at Y;rw[<-ca,<-M.o] at Z;rw[<-c5,<-r.o] at U;rw[<-c5,<-M.o] at V;replace ca:=LH ca;replace c5:=LH c5;have t:=Dr R
     replace t:=LH t
     have A:∀ f,aA No R f->f.cell? (iu k 0)=some (iq v1)/\f.cell? (iu bo 1)=some (iw F)/\f.cell? (iu bo 2)=some (iw Q):=λf hc=>by obtain⟨ad,cp,ax,_⟩:=O.o.gu;have e1:=(hc.block k (dC ax) id).trans ax;have G:=(hc.block bo (dC J.o) id).trans J.o;refine⟨(cell_of e1 0).trans ?_,cell_of G 1,cell_of G 2⟩;rw[r.o];rfl
     replace A:=LH A;replace Y:=LH Y;replace Z:=LH Z;replace U:=LH U;replace V:=LH V;go_wp2;refine RA.rt (aA No) [1,1,1,1,4,1,4,1,1,1,1,1,1,1,1,1,1,4,1,1,1,1,1,4,1,1] [] (λ_=>True) trivial (λ_=>aA.refl _ _) (λ_ _ _ h k=>h.trans k) (h:=?_);intro cx
     repeat refine RA.qq ?_
     refine RA.fk prog k 0 (h:=?_);refine RA.lk prog (iq v1) (hc:=λf hp=>by exact (A.o f (t.o _ hp.1)).1) (h:=?_)
     refine RA.kc (P:=prog) [iq v1] (.bool SL) (hr:=λf hp hH=>by refine (Y.o f (t.o _ hp.1)).mono ?_;rintro e w4 ⟨rfl,rfl⟩;exact⟨rfl,aA.refl _ _,trivial⟩) (hn:=?_)
     repeat refine RA.qq ?_
     refine RA.kc (P:=prog) [iq v2] (.bool SL) (hr:=λf hp hH=>by refine (Z.o f (t.o _ hp.1)).mono ?_;rintro e w4 ⟨rfl,rfl⟩;exact⟨rfl,aA.refl _ _,trivial⟩) (hn:=?_)
     refine RA.vw prog (.bool false) (h:=?_)
     repeat refine RA.qq ?_
     refine RA.fk prog k 0 (h:=?_);refine RA.lk prog (iq v1) (hc:=λf hp=>by exact (A.o f (t.o _ hp.1)).1) (h:=?_);refine RA.fk prog bo 1 (h:=?_);refine RA.lk prog (iw F) (hc:=λf hp=>by exact (A.o f (t.o _ hp.1)).2.1) (h:=?_);refine RA.fk prog bo 2 (h:=?_);refine RA.lk prog (iw Q) (hc:=λf hp=>by exact (A.o f (t.o _ hp.1)).2.2) (h:=?_)
     refine RA.kc (P:=prog) [iq v1,iw F,iw Q] (.bool AN) (hr:=λf hp hH=>by refine (U.o f (t.o _ hp.1)).mono ?_;rintro e w4 ⟨rfl,hb⟩;exact⟨rfl,aA.dD hb _,trivial⟩) (hn:=?_)
     repeat refine RA.qq ?_
     refine RA.fk prog bo 1 (h:=?_);refine RA.lk prog (iw F) (hc:=λf hp=>by exact (A.o f (t.o _ hp.1)).2.1) (h:=?_);refine RA.fk prog bo 2 (h:=?_);refine RA.lk prog (iw Q) (hc:=λf hp=>by exact (A.o f (t.o _ hp.1)).2.2) (h:=?_)
     refine RA.kc (P:=prog) [iq v2,iw F,iw Q] (.bool AN) (hr:=λf hp hH=>by refine (V.o f (t.o _ hp.1)).mono ?_;rintro e w4 ⟨rfl,hb⟩;exact⟨rfl,aA.dD hb _,trivial⟩) (hn:=?_)
     refine RA.vw prog (.bool false) (h:=?_);refine RA.pf kr rf rf (y:=.bool false) rf ?_;refine RA.RA.done rfl (λwy hR hF hH=>?_);clear hF hH;simp only[RA.RP,cx];have HY:=LH (O.o.below (t.o _ hR).no);clear hR Y Z U V A t;go_wp2;go_roundg g1
     case measure=>omega
     case rel=>exact⟨j+1,sz,B,T,by omega,by go_num,HY.o,I.o,H.o⟩
  ·obtain rfl:gk=0:=om;obtain rfl:j=ln:=om;have fz:¬ (j:Int)<j:=om;have hT:=LH (Lu HG.o.gu);have hA:=LH (LK HG.o.gu (by show 0<=1000;omega));have ck:=HG.o.gu.c0;have lk:=HG.o.gu.lt;rw[<-r.o] at ck
   go_wp2_with fail
   refine hT.o.mono ?_;rintro e w' ⟨rfl,rfl⟩;clear hT
   go_wp2_with fail
   refine hA.o.mono ?_;rintro e wa ⟨aa,ac,rfl,cV⟩;have HA:=HG.o.below cV;have ec:=(cV.cell (p:=iu k 0) lk).trans ck;have W:=uF HA.v1.kx;rw[<-r.o] at W;replace W:=LH W;replace HA:=LH HA;clear hA cV ck
   go_wp2_with fail
   refine W.o.mono ?_;rintro e wb ⟨rfl,e3⟩;have HB:=HA.o.below e3;have X:=uF HB.v2.kx;rw[<-M.o] at X;replace X:=LH X;replace HB:=LH HB;clear e3 W ec
   go_wp2_with fail
   refine X.o.mono ?_;rintro e wd ⟨rfl,b7⟩;have HD:=LH (HB.o.below b7);clear b7 X
   go_wp2_with fail
   refine (dT.o _).mono ?_;rintro e w1 ⟨rfl,hb⟩;have e5:=LH (HD.o.mz.trans (hb.mono HD.o.mz.size));clear hb;go_wp2;go_ret;exact⟨rfl,e5.o⟩
end Go.Proofs.YthmcbgidehjlbaaGreat.Fd

/-
 Parts of the proof. No condition beyond what each theorem names.
-/
import Derived.Test.YthmcbgidehjlbaaGreatOpAh
import Derived.Test.YthmcbgidehjlbaaGreatOpAm
import Derived.Test.YthmcbgidehjlbaaGreatOpAx
import Derived.Test.YthmcbgidehjlbaaGreatOpBa
import Derived.Test.YthmcbgidehjlbaaGreatOpBb
set_option maxRecDepth 100000
set_option maxHeartbeats 16000000
namespace Go.Proofs.YthmcbgidehjlbaaGreat.Fd
open _root_.Go.Proofs.Tryz
open Go Go.RowKit K
theorem KV {G:VG}{w:World}{L:iz}{ks:List (Nat×iz)}{ki:Bool}{Dt:Nat->iz}{S:VT}(h:lV G w L ks ki Dt S) (hn:S.n+9*ks.length<700000) (hnum:S.num+ks.length<800000) (hrn:S.my+ks.length<800000):
  Calls prog 20 #[iq G.v] w λe w'=>e=.returned (iw 0)/\∃ S':VT,lV G w' (lp L ks) [] ki (λp=>kQ ks p (Dt p)) S'/\S'.n<=S.n+9*ks.length/\S'.num<=S.num+ks.length/\S'.my<=S.my+ks.length/\l3 G w w'/\(S'.m=S.m\/w.heap.size<=S'.N):=by
 obtain⟨nk,cg⟩:=Ex ks.length;have hN:=h.zC;have gh:=h.kC.mu
 have e8:∀ k ∈ ks,k.1<50/\k.2.length=64:=λk hk=>by obtain⟨⟨cs,pv,_,_,_,_,_,_,_,_,_,vs,g1,g2,g3⟩,_,_,hp⟩:=h.kC;obtain⟨j,H⟩:=cM hk;have hl:=(aD.1 H).1;exact⟨hp k hk,(g3 j k _ H (av om)).1⟩
 rw[<-cg] at hn hnum hrn gh ⊢;replace e8:=LH e8;replace cg:=LH cg;replace h:=LH h;go_enter func20,ntmps20;go_wp2
 go_loopg [3] nk (λg _x wr=>∃ (i:Nat) (S1:VT),i+g=nk/\Hd (lV G wr (lp L (ks.take i)) (ks.drop i) ki (λp=>kQ (ks.take i) p (Dt p)) S1)/\S1.n<=S.n+9*i/\S1.num<=S.num+i/\S1.my<=S.my+i/\Hd (l3 G w wr)/\(S1.m=S.m\/w.heap.size<=S1.N))
 case atStart=>exact⟨0,S,by omega,h.o,by omega,by omega,by omega,l3.refl,.inl rfl⟩
 case round=>
  obtain⟨i,S1,hQ,HV,hT,hD,hL,HG,hB⟩:=hrel;obtain⟨wo,rfl⟩:=Ex (wr:World);obtain⟨kd,A⟩:=Ex (ks.drop i);obtain⟨L1,Y⟩:=Ex (lp L (ks.take i));obtain⟨D1,W⟩:=Ex (λp=>kQ (ks.take i) p (Dt p):Nat->iz)
  rw[<-A,<-Y,<-W] at HV;have bB:kd.length=gk:=by rw[A,bM,<-cg.o];omega
  obtain⟨pa,pc,tz,sa,en,J,er,f110,f111⟩:=HV.o.kC.cells;have hK:=(HV.o.fix.rest HV.o.base.len).2.2.2;rw[bB] at J;by_cases hS:0<gk
  ·have hA:(0:Int)<gk:=om;have E:=Jp HV.o.kC HV.o.base HV.o.fix HV.o.ring HV.o.br om;refine G4 E A Y W ?_;clear E A Y W;intro E A Y W
   go_wp2_with fail
   refine E.o.mono ?_;rintro e w1 ⟨q,rfl,hV,hW,h0,O⟩;have c:=HV.o.below O
   have cK:l3 G wo w1:=l3.oE (kh.dE (C:=No) O) (λ_ e=>e.elim) (O.block _ HV.o.zD) (λpg n pc' hc=>by rw[J] at hc;simp only[IJ] at hc;obtain⟨rfl,rfl,rfl⟩:=hc;obtain⟨⟨cs,pv,g1,_,_,_,_,_,_,g8,_,vs,_,g11,_⟩,_⟩:=HV.o.kC;have e:=(cell_of g1 110).trans g8;rw[J] at e;obtain rfl:=aF e;exact O.block pg (kp g11 pg rfl))
   have d110:=(O.cell (p:=iu G.v 110) HV.o.zD).trans J
   obtain⟨pg,rfl,hX⟩:∃ pg,pa=some (iu pg 0)/\gk<=pc:=by obtain⟨⟨cs,pv,g1,_,_,_,_,_,_,g8,_,vs,_,g11,_⟩,_⟩:=HV.o.kC;have e:=(cell_of g1 110).trans g8;rw[J] at e;obtain rfl:=aF e;obtain⟨g',c',e',U,f⟩:=kz g11 om;simp only[IJ] at e';obtain⟨rfl,_,rfl⟩:=e';exact⟨g',rfl,by omega⟩
   have h5:(prog.info? 111).map (·.size)=some 2:=kr
   have gf:∀ x:World,(Instr.sliceAt 102 (ir pg gk pc) none (some (iw q)) none).run prog x=.ok (ir pg q pc) x:=λx=>by
    have h:=vQ (P:=prog) x underlying102 h5 (some (iu pg 0)) gk pc q om;rw[po _ _ _ _ _ _ om] at h
    simpa using h
   have D:=JK c.kC c.base c.fix c.su c.tree c.bN c.l4 c.marks c.book om om (by omega:q<=kd.length) (pg:=pg) (pc:=pc) (pc':=pc) (by rw[bB];exact d110);refine G4 D c cK O ?_;clear D c cK O;intro D c cK O;clear tz sa en J er f110 f111 E
   go_wp2_with fail
   refine D.o.mono ?_;rintro e w2 ⟨t',m',ov,fi,Ls',Tx',Cs,n',rfl,T2,hI,M2,F2,bW,O2,E2,hU,B2,G2⟩;have K:∀ (g:Nat) (cs:Array Value) (ty:TypeId) (m:Nat×Nat),w1.heap[g]?=some (.cells cs ty m)->ty≠223->ty≠145->w2.heap[g]?=w1.heap[g]?:=λg cs ty m hg h1 h2=>(G2.at c.o.book hg id h1 h2).trans hg.symm
   have A2:kI w2 G.v S1.m L1 kd ki:=c.o.kC.dC (λg cs ty ht hg=>K g cs ty _ hg (by rcases ht with rfl|rfl|rfl|rfl<;>decide) (by rcases ht with rfl|rfl|rfl|rfl<;>decide));obtain⟨ic,ib,bR,ed,_⟩:=c.o.kC.box;have an:=(K _ _ _ _ bR de de).trans bR;have X2:mS w2 G.v (nb G.xs S1.t S1.m S1.num G.r):=c.o.fix.kept (λj _ _=>az (w:=w1) (a:=iu G.v j) (an.trans bR.symm));have U2:kV w2 G.s none G.tp:=(K _ _ _ _ c.o.su de de).trans c.o.su;have R2:=c.o.ring.dC (w':=w2) c.o.br (λg cs ty _ ht hg=>K g cs ty _ hg (by rcases ht with rfl|rfl<;>decide) (by rcases ht with rfl|rfl<;>decide));have dp:=c.o.nE.self;have D2:=c.o.nE.dC (w':=w2) G2.size (λg hg=>G2.block g (by rcases hg with rfl|rfl;exact dp.1;exact dp.2) (λe=>e.elim id (λe=>by have:=e.ge;have:=c.o.db;have:=c.o.rH;rcases hg with rfl|rfl<;>omega)))
   have ds:∀ b2 n pc',w1.cell? (iu G.v 110)=some (ir b2 n pc')->w2.heap[b2]?=w1.heap[b2]?:=λb2 n pc' hc=>by obtain⟨⟨cs,pv,g1,_,_,_,_,_,_,g8,_,vs,_,g11,_⟩,_⟩:=c.o.kC;have e:=(cell_of g1 110).trans g8;rw[hc] at e;obtain rfl:=aF e;obtain⟨cur,cT⟩:=kx g11 (g:=b2) rfl;exact K _ _ _ _ cT de de
   have c9:l3 G w1 w2:=l3.oE G2 (λ_ e=>e.elim) (an.trans bR.symm) ds;have cY:Cs.length<=15:=am (F2.mu bW) h0
   have e5:0<Cs.length:=by
    obtain⟨k,hk⟩:∃ k,kd[0]?=some k:=⟨kd[0]'om,av om⟩
    have hm:k ∈ kd.take q:=by refine aZ (i:=0) ?_;rw[dV om];exact hk
    obtain⟨u,hu⟩:=F2.has k.1 (aO.2 ⟨k,hm,rfl⟩);exact gC hu
   obtain⟨og,oc,rfl,hE,_⟩:=kz O2 e5;obtain⟨nC,bC⟩:=Ex Cs.length;rw[<-bC] at O2 cY e5 hE ⊢;obtain⟨ps,af⟩:∃ ps,ps=Cs.map λq=>(q.1,q.2.2):=⟨_,rfl⟩
   have cj:ps.length=nC:=by rw[af,df,bC]
   have P2:lO w2 w1.heap.size 142 (ir og nC oc) ps:=by
    refine⟨Cs.map λq=>(q.1,q.2.1),by rw[df,cj,bC],by rw[cj];exact O2,λj p' q' R ck=>?_⟩;rw[af] at ck;rw[bf] at R ck;cases H:Cs[j]? with
    | none=>rw[H] at R;cases R
    | some c0=>rw[H] at R ck;simp only[dr,ao] at R ck;subst R ck;obtain⟨z1,z2,z3⟩:=E2 c0 (aZ H);exact⟨rfl,z1,z2,z3⟩
   obtain⟨p4,bD⟩:=Ex w2.heap.size;obtain⟨NM,ca⟩:=Ex (S1.num+1);rw[<-ca];obtain⟨F,ay⟩:=Ex (w2.alloc (.cells #[iq t',iq m',iw NM] 100));have I:Below w2.heap.size w2 F:=by rw[ay];exact (ag _ _).alloc (ae _) _
   have x3:F.heap[p4]?=some (.cells #[iq t',iq m',iw NM] 100 (0,0)):=by rw[ay,bD];exact aj w2 _
   have e0:w1.heap.size<=w2.heap.size:=G2.size
   have aa:=Ka (w:=F) (k:=n') (tp:=G.tp) (B:=w1.heap.size) (R2.dC c.o.br (λg cs ty _ _ hg=>I.block g (dD hg))) c.o.br c.o.al c.o.ml om ((I.block _ (dD U2)).trans U2) (B2.after I) om (D2.dC I.size (λg hg=>I.block g (by have:=D2.self;rcases hg with rfl|rfl;exact this.1;exact this.2))) c.o.db c.o.rH (cE c.o.blt) (am e0 I.size) (P2.dC (λg _ hg=>I.block g hg)) cj e5 cY (λp' R=>by
    rw[af] at R;obtain⟨c0,hh,rfl⟩:=aO.1 R;exact (F2.only c0 hh).1) (by
    rw[af,cO];exact bW)
   have fb:w2.cell? (iu G.v 109)=some (iq G.r):=(X2.rest c.o.base.len).2.2.2;have c6:w2.cell? (iu G.v 110)=some (ir pg gk pc):=(az (w:=w1) (a:=iu G.v 110) (an.trans bR.symm)).trans d110;have cm:G.v<w2.heap.size:=dD an;refine G9 aa ay bD af bC ca A2 X2 U2 ?_;clear aa ay bD af bC ca A2 X2 U2;intro aa ay bD af bC ca A2 X2 U2;refine G6 D2 T2 M2 F2 bW c9 ?_;clear D2 T2 M2 F2 bW c9;intro D2 T2 M2 F2 bW c9;refine G4 x3 I an ed ?_;clear x3 I an ed;intro x3 I an ed
   have cz:∃ cr,F.heap[G.r]?=some (.cells cr 176 (0,0)):=by obtain⟨_,_,_,_,g1,_⟩:=R2.cells;exact⟨_,(I.o.block _ (dD g1)).trans g1⟩
   have B3:=B2.after I.o;replace B3:=LH B3;clear K ds O2 E2 P2 R2 B2 G2 D d110 bR
   go_wp2_with fail
   rw[<-ay.o,<-bD.o];refine aa.o.mono ?_;rintro e d ⟨rfl,⟨X',D4,cP⟩,R4,B4,G4⟩;obtain⟨cr,cz⟩:=cz;have cb:=c.o.bv
   have b8:∀ (g:Nat) (o:Obj),G.b<=g->F.heap[g]?=some o->(∀ cs ty m,o=.cells cs ty m->ty≠223/\ty≠145/\ty≠176)->d.heap[g]?=F.heap[g]?:=λg o bA hg ho=>by
    refine G4.block g (bm.1 hg).1 ?_;rintro ((e|e|e)|e)
    ·subst e;rw[cz] at hg;obtain rfl:=aF hg;exact (ho _ _ _ rfl).2.2 rfl
    ·have:=c.o.db;omega
    ·have:=c.o.rH;omega
    ·obtain⟨cs,ty,m,hc,ht⟩:=ku.obj B3.o e;rw[hg] at hc;obtain rfl:=aF hc;have:=ho _ _ _ rfl;rcases ht with e|e
     ·exact this.1 e
     ·exact this.2.1 e
   have M:∀ (g:Nat) (o:Obj),G.b<=g->w2.heap[g]?=some o->(∀ cs ty m,o=.cells cs ty m->ty≠223/\ty≠145/\ty≠176)->d.heap[g]?=w2.heap[g]?:=λg o bA hg ho=>by have e3:=I.o.block g (bm.1 hg).1;exact (b8 g o bA (e3.trans hg) ho).trans e3
   obtain⟨⟨vc,pv,a1,a2,a3,a4,a5,a6,a7,a8,a9,vs,b4,T,a12⟩,-,b7,cA⟩:=A2.o
   have hG:pv=ir pg gk pc:=by have e:=(cell_of a1 110).trans a8;rw[c6] at e;exact (aF e).symm
   subst hG;rw[bB] at b4 T;have v4:d.heap[G.v]?=some (.cells vc 104 (0,0)):=(M G.v _ cb a1 (λcs ty m e=>by cases e;decide)).trans a1
   have K4:d.ownsRow G.v 111 2 (ir pg gk pc) gk (mB kd vs):=gF T (λg hg=>by obtain⟨cur,hc⟩:=kx T hg;exact M g _ (am cb (kK T g hg)) hc (λcs ty m e=>by cases e;decide))
   have Q4:∀ (j:Nat) (k:Nat×iz) (u:Value),kd[j]?=some k->vs[j]?=some u->k.2.length=64/\d.ownsRow G.v 5 1 u 64 (dB k.2):=λj k u H hu=>by
    obtain⟨g1,g2⟩:=a12 j k u H hu
    exact⟨g1,gF g2 (λg hg=>by obtain⟨cur,hc⟩:=kx g2 hg;exact M g _ (am cb (kK g2 g hg)) hc (λcs ty m e=>by cases e;decide))⟩
   have ax:G.b<=w1.heap.size:=cE c.o.blt
   have T4:=T2.o.dC (w':=d) ax (λg o bA hg ho=>M g o bA hg (λcs ty m e=>by
    rcases ho with ⟨bp,ha,U,f⟩|⟨es,c',f⟩
    ·rw[f] at e;simp only[IJ] at e;obtain⟨_,rfl,_⟩:=e;rcases U with rfl|rfl|rfl|rfl<;>decide
    ·rw[f] at e;cases e))
   have M4:=M2.o.dC (w':=d) (λg cs ty bA cl hg=>M g _ (am ax bA) hg (λbp ha m e=>by cases e;rcases cl with rfl|rfl<;>decide));have e7:=D2.o.types
   have U4:kV d G.s none G.tp:=by
    have e3:=I.o.block G.s (dD U2.o);refine fq (fq (G4.block G.s (by rw[ay.o];have:=dD U2.o;simp;omega) ?_) e3) U2.o;have cU:=e3.trans U2.o;rintro ((e|e|e)|e)
    ·rw[e,cz] at cU;simp only[IJ] at cU;exact absurd cU.2.1 de
    ·obtain⟨⟨cs,U⟩,_⟩:=e7;have f:=U2.o;unfold kV at f;rw[e,U] at f;simp only[IJ] at f;exact absurd f.2.1 de
    ·obtain⟨_,⟨cs,U⟩⟩:=e7;have f:=U2.o;unfold kV at f;rw[e,U] at f;simp only[IJ] at f;exact absurd f.2.1 de
    ·exact ku.type B3.o cU de de e
   have x4:d.heap[p4]?=some (.cells #[iq t',iq m',iw NM] 100 (0,0)):=(b8 p4 _ (by rw[bD.o];exact am ax e0) x3.o (λcs ty m e=>by cases e;decide)).trans x3.o
   have fs:l3 G F d:=by have dd:=I.o.block G.v cm;refine l3.oE G4 (λg e=>by rcases e with e|e|e;exact .inr (.inr e);exact .inl e;exact .inr (.inl e)) (v4.trans (dd.trans a1).symm) (λb2 n pc' hc=>?_);rw[cell_of (dd.trans a1),a8] at hc;simp only[IJ] at hc;obtain⟨⟨rfl,_⟩,_⟩:=hc;obtain⟨cur,cT⟩:=kx T (g:=pg) rfl;exact b8 pg _ (am cb (kK T pg rfl)) ((I.o.block pg (dD cT)).trans cT) (λcs ty m e=>by cases e;decide)
   have X:l3 G wo d:=((cK.o.trans c9.o).trans (l3.oE (kh.dE (C:=No) I.o) (λ_ e=>e.elim) (I.o.block _ cm) (λb2 n pc' hc=>by rw[c6] at hc;simp only[IJ] at hc;obtain⟨⟨rfl,_⟩,_⟩:=hc;exact I.o.block pg (kp T pg rfl)))).trans fs
   have cu:wo.heap.size<=d.heap.size:=X.kj.size;have bl:G.v<d.heap.size:=dD v4;have cW:d.cell? (iu G.v 110)=some (ir pg gk pc):=(cell_of v4 110).trans a8;obtain⟨ad,cc,eb⟩:=KT (iu pg 0) q gk pc 2
   have Q:∀ x:World,(Instr.sliceAt 102 (ir pg gk pc) (some (iw q)) none none).run prog x=.ok (.slice (some ad) (gk - q) cc) x:=λx=>by rw[rM (P:=prog) x underlying102 h5 (some (iu pg 0)) gk pc q om,eb]
   obtain⟨ys,b6⟩:=Ex (mB (kd.drop q) (vs.drop q))
   have gb:∀ l,aQ No d l->Cells l (λ_=>True) (.slice (some ad) (gk - q) cc) (gk - q) 2 ys:=λl hc=>by have h:=Cells.sliced (Cells.own (gF K4 (λg hg=>hc.block g (kp K4 g hg) id))) q gk om (ae _);have hlen:(mB kd vs).length=gk*2:=K4.1;rw[eb,bh (by rw[bM,hlen,Nat.sub_mul];exact ae _),Di q kd vs om,<-b6] at h;exact h.mono (λ_ _ _=>trivial)
   have h9:∀ u ∈ ys,u.oneCell'=true:=by
    rw[b6];refine KU (w:=d) (B:=G.v) (λj k u H hu=>Q4 (q+j) k u ?_ ?_)
    ·rw[bF] at H;exact H
    ·rw[bF] at hu;exact hu
   have Z:=λl (hc:aQ No d l)=>KP (gb l hc) h9 om
   have bz:=Dr d
   have h3:=LH (λl (hc:aQ No d l)=>mE (P:=prog) (ty:=100) (g:=p4) (off:=0) (w:=l) (x:=[iq t',iq m',iw NM]) underlying100 kr (λj x H=>by
    rw[aw,cell_of ((hc.block p4 (dD x4) id).trans x4)]
    simpa using H))
   have cX:=LH (λl (hc:aQ No d l)=>(hc.cell (p:=iu G.v 110) bl id).trans cW);have h4:=LH (λl (hc:aQ No d l)=>ud (P:=prog) (w:=l) (ty:=100) (off:=106) (x:=[iq t',iq m',iw NM]) ((hc.block G.v bl id).trans v4) kr (by simp;omega) (by simp[Value.oneCell']));have X4:=LH (X2.o.kept (w':=d) (λj _ _=>az (w:=w2) (a:=iu G.v j) (v4.trans a1.symm)));have c7:=LH (And.intro a7 a8);refine G9 Z bz b6 X U4 T4 M4 D4 R4 ?_;clear Z bz b6 X U4 T4 M4 D4 R4;intro Z bz b6 X U4 T4 M4 D4 R4;refine G9 B4 v4 K4 Q4 cP a2 a3 a4 a5 ?_;clear B4 v4 K4 Q4 cP a2 a3 a4 a5;intro B4 v4 K4 Q4 cP a2 a3 a4 a5;refine G7 a6 a9 b4 b7 cA cu Q ?_;clear a6 a9 b4 b7 cA cu Q;intro a6 a9 b4 b7 cA cu Q;clear b8 M a12 T a8 a1 h9 gb x4 fs G4 aa cz e7 A2 an x3 fb c6 eb gf D2 T2 M2 c9 I ay U2 X2 a7 cW cm B3
   go_wp2_with fail
   refine RA.rt (aQ No) [5,5,1,5,5,5,1,5,1,3,5,5,7,5,5,7] [12,15] (λ_=>True) trivial (λ_=>aQ.refl _ _) (λ_ _ _ h k=>h.trans k) (h:=?_);intro cx;refine RA.pq ?_;refine RA.pq ?_;refine RA.ld (y':=.agg #[iq t',iq m',iw NM]) (hr:=λF hp=>h3.o F (bz.o _ hp.1)) (h:=?_);refine RA.pq ?_;refine RA.pq ?_;refine RA.pk prog (G.v) 110 (h:=?_);refine RA.lk prog (ir pg gk pc) (hc:=λF hp=>by exact cX.o _ (bz.o _ hp.1)) (h:=?_);refine RA.pq ?_;refine RA.tO (y':=.slice (some ad) (gk - q) cc) (hr:=λF hp=>Q.o F) (h:=?_)
   refine RA.qc (P:=prog) [.slice (some ad) (gk - q) cc] (λv F=>∃ g5 z,v=ir g5 (gk - q) z/\d.heap.size<=g5/\F.ownsRow d.heap.size 111 2 (ir g5 (gk - q) z) (gk - q) ys) (λv F=>aQ No d F/\∃ g5 z,v=ir g5 (gk - q) z/\d.heap.size<=g5/\F.ownsRow d.heap.size 111 2 (ir g5 (gk - q) z) (gk - q) ys) (hs:=λv a b' h h2=>by
    obtain⟨g5,z,z1,z2,z3⟩:=h2;exact⟨g5,z,z1,z2,gF z3 (λg hg=>h.block g (kp z3 g hg) id)⟩) (hr:=λF hp hH=>by
    have cd:=bz.o _ hp.1;refine (Z.o F cd).mono ?_;rintro e l ⟨g5,z,rfl,z1,z2,z3⟩;have z4:=kT z2 cd.size;exact⟨_,rfl,aQ.dE z3 No,⟨g5,z,rfl,am cd.size z1,z4⟩,cd.trans (aQ.dE z3 No),g5,z,rfl,am cd.size z1,z4⟩) (hn:=λhJ=>?_)
   refine RA.pq ?_;refine RA.pk prog (G.v) 106 (h:=?_)
   refine RA.lj (λw6=>∃ l g5 z,aQ No d l/\hJ=ir g5 (gk - q) z/\d.heap.size<=g5/\l.ownsRow d.heap.size 111 2 (ir g5 (gk - q) z) (gk - q) ys/\w6=l.setRow G.v (splice vc.toList 106 [iq t',iq m',iw NM]).toArray) (hr:=λF gA hH=>by obtain⟨z0,g5,z,rfl,z1,z2⟩:=hH;exact⟨_,RA.kL rf rf (h4.o F z0),F,g5,z,z0,rfl,z1,z2,rfl⟩) (hn:=?_)
   refine RA.pq ?_;refine RA.pk prog (G.v) 110 (h:=?_)
   refine RA.lj (λw7=>∃ l g5 z,aQ No d l/\d.heap.size<=g5/\l.ownsRow d.heap.size 111 2 (ir g5 (gk - q) z) (gk - q) ys/\w7=(l.setRow G.v (splice vc.toList 106 [iq t',iq m',iw NM]).toArray).setCell (iu G.v 110) (ir g5 (gk - q) z)) (hr:=(λF gA hH=>by
    obtain⟨l,g5,z,z0,rfl,z1,z2,rfl⟩:=hH;have h8:=(z0.block G.v bl id).trans v4.o;have ec:=aJ l G.v vc (splice vc.toList 106 [iq t',iq m',iw NM]).toArray 104 (0,0) h8
    have fz:∃ x,(l.setRow G.v (splice vc.toList 106 [iq t',iq m',iw NM]).toArray).cell? (iu G.v 110)=some x:=by rw[cell_of ec];refine⟨_,Array.getElem?_eq_getElem (by rw[aT,length_splice _ _ _ (by have:=a2.o;simp;omega)];have:=a2.o;simp;omega)⟩
    obtain⟨x6,fz⟩:=fz;have hP:=lh ec 110;refine⟨_,RA.kL rf rf ?_,l,g5,z,z0,z1,z2,rfl⟩;clear z2 z0 h8 ec gA;show (Instr.storeAt _ _ _).run prog _=_;go_simp)) (hn:=?_)
   refine RA.RA.kW (λw7 hH=>?_);simp only[RA.RP,cx];obtain⟨l,g5,z,z0,z1,z2,ct⟩:=hH
   have cV:w7.heap[G.v]?=some (.cells (uJ vc t' m' NM (ir g5 (gk - q) z)) 104 (0,0)):=by rw[ct];exact lr (aJ l G.v vc _ 104 (0,0) ((z0.block G.v bl id).trans v4.o)) 110 _
   have cf:∀ g,g≠G.v->w7.heap[g]?=l.heap[g]?:=λg hg=>by rw[ct,kA _ _ _ (by simpa using hg)];exact aG _ _ _ _ hg
   have hY:l.heap.size<=w7.heap.size:=by rw[ct];exact am (by rw[eS];exact ae _) (KeepsWalks.setCell _ _ _).size
   have da:aQ (λg=>g=G.v) l w7:=by rw[ct];exact ((aQ.refl (λg=>g=G.v) l).setRow (λ_=>rfl) _).setCell (λ_=>rfl) _
   have V:aQ (λg=>g=G.v) d w7:=aQ.then (aQ.mono z0 (λ_ _ e=>e.elim)) da (λ_ _ e=>e);clear ct
   have y:∀ (g:Nat) (o:Obj),d.heap[g]?=some o->(∀ cs m,o≠.cells cs 104 m)->w7.heap[g]?=d.heap[g]?:=λg o hg ho=>V.block g (bm.1 hg).1 (λe=>by subst e;rw[v4.o] at hg;obtain rfl:=aF hg;exact ho _ _ rfl)
   have ba:(kd.drop q).length=gk - q:=by rw[bM,bB]
   have dT:(vs.drop q).length=gk - q:=by rw[bM,b4.o]
   have fu:kI w7 G.v m' (lp L1 (kd.take q)) (kd.drop q) ki:=by
    refine⟨⟨_,ir g5 (gk - q) z,cV,KQ a2.o,?_,?_,?_,?_,?_,?_,?_,vs.drop q,by rw[dT,ba],?_,?_⟩,?_,?_,?_⟩
    ·rw[sj a2.o,ah de,ah de];exact a3.o
    ·rw[sj a2.o,ah de,ah de];exact a4.o
    ·rw[sj a2.o,ah de,ah de];exact a5.o
    ·rw[sj a2.o,ah de,ah de];exact a6.o
    ·rw[sj a2.o,ah de,ak de];rfl
    ·rw[sj a2.o,ak rfl]
    ·rw[sj a2.o,ah de,ah de];exact a9.o
    ·rw[ba,<-b6.o];exact kT (gF z2 (λg hg=>cf g (by have:=kK z2 g hg;omega))) om
    ·intro j k u H hu;rw[bF] at H hu;obtain⟨y1,y2⟩:=Q4.o (q+j) k u H hu;refine⟨y1,gF y2 (λg hg=>?_)⟩;obtain⟨cur,hc⟩:=kx y2 hg;exact y g _ hc (λcs m e=>by cases e)
    ·exact ly.at_ (M4.o.dC (λg cs ty _ cl hg=>y g _ hg (λbp m e=>by cases e;rcases cl with e|e<;>exact absurd e de)))
    ·rw[ba];have:=b7.o;omega
    ·exact λk hk=>cA.o k (ip hk)
   have dn:∀ (j:Nat) (u:Value),ys[j]?=some u->w7.cell? (iu g5 j)=some u:=λj u H=>by have hf:=gF (w':=w7) z2 (λg hg=>cf g (by have:=kK z2 g hg;omega));have hy:=hf.1;have hR:=(aD.1 H).1;obtain⟨g',off,c',e,_,_,_,_,Z⟩:=Cells.at (Cells.own hf) om;simp only[IJ] at e;obtain⟨⟨rfl,rfl,_⟩,_,_⟩:=e;have:=Z j u H;rw[aw] at this;exact this
   have dg:∀ (j:Nat) (u:Value),(mB kd vs)[j]?=some u->d.cell? (iu pg j)=some u:=λj u H=>by obtain⟨g',off,c',e,_,_,_,_,Z⟩:=Cells.at (Cells.own K4.o) om;simp only[IJ] at e;obtain⟨⟨rfl,rfl,_⟩,_,_⟩:=e;have:=Z j u H;rw[aw] at this;exact this
   have e4:=cX.o d (aQ.refl _ _);have c8:w7.cell? (iu G.v 110)=some (ir g5 (gk - q) z):=by rw[cell_of cV,sj a2.o,ak rfl]
   have dc:l3 G d w7:=by
    refine⟨aQ.mono V (λg _ e=>.inl (.inl e)),λg hg=>?_,λg hg hO e=>?_,λx hx=>?_⟩
    ·rcases hg with e|⟨n,pc',e⟩
     ·exact .inl (.inl e)
     ·rw[c8] at e;simp only[IJ] at e;obtain⟨⟨rfl,_⟩,_⟩:=e;exact .inr z1
    ·refine mJ.block ?_ e;obtain⟨lv,hx⟩:=B4.o.box;exact y G.b _ hx (λcs m e=>by cases e)
    ·obtain⟨b2,n,pc',j,n',c',e1,e2,e3⟩:=hx;rw[c8] at e1;simp only[IJ] at e1;obtain⟨⟨rfl,_⟩,rfl,rfl⟩:=e1;have hl:q+j<vs.length:=by rw[b4.o];omega
     have hZ:ys.length=(gk - q)*2:=z2.1;obtain⟨u,hu⟩:∃ u,ys[j*2+1]?=some u:=⟨_,av om⟩;have h7:=dn _ _ hu;rw[e3] at h7;obtain rfl:=aF h7;rw[b6.o] at hu;have h6:=ze _ _ j _ (by rw[dT,ba]) hu;rw[bF] at h6;refine .inl ⟨pg,gk,pc,q+j,n',c',e4,by omega,dg _ _ ?_⟩;have hq:q+j<kd.length:=om;obtain⟨u',y1,_,y3⟩:=zd kd vs (by rw[b4.o,bB]) (q+j) _ (av hq);rw[h6] at y1;obtain rfl:=aF y1;exact y3
   have hM:d.heap.size<=l.heap.size:=z0.size
   have e6:lV G w7 (lp L1 (kd.take q)) (kd.drop q) ki (λp=>kQ (kd.take q) p (D1 p)) ⟨t',m',NM,S1.my+1,n'+3,w1.heap.size,fi,Ls',Tx',X'⟩:=by
    refine⟨fu,c.o.base,X4.o.next c.o.base.len v4.o a2.o cV,?_,?_,ax,hI,?_,?_,c.o.br,?_,c.o.db,c.o.rH,cb,?_,?_,c.o.al,c.o.ml⟩
    ·exact (y G.s _ U4.o (λcs m e=>by cases e)).trans U4.o
    ·exact T4.o.dC ax (λg o _ hg ho=>y g o hg (λcs m e=>by
      rcases ho with ⟨bp,ha,U,f⟩|⟨es,c',f⟩
      ·rw[f] at e;simp only[IJ] at e;obtain⟨_,rfl,_⟩:=e;rcases U with e|e|e|e<;>exact absurd e de
      ·rw[f] at e;cases e))
    ·exact M4.o.dC (λg cs ty _ cl hg=>y g _ hg (λbp m e=>by cases e;rcases cl with e|e<;>exact absurd e de))
    ·exact R4.o.dC c.o.br (λg cs ty _ ht hg=>y g _ hg (λbp m e=>by cases e;rcases ht with e|e<;>exact absurd e de))
    ·refine D4.o.dC V.size (λg hg=>V.block g (by have:=D4.o.self;rcases hg with rfl|rfl;exact this.1;exact this.2) ?_);have:=c.o.db;have:=c.o.rH;rcases hg with rfl|rfl<;>omega
    ·exact B4.o.dC (λg hg _=>by obtain⟨cs,ty,m,hc,ht⟩:=ku.obj B4.o hg;exact y g _ hc (λbp m' e=>by cases e;rcases ht with e|e<;>exact absurd e de))
    ·refine c.o.cont.next F2.o bW.o (λp hp hF=>?_) c.o.zC (λk hk=>e8.o k ?_)
     ·rw[cP.o p hp hF,af.o]
     ·have:=gJ hk;rw[A.o] at this;exact ip this
   have b5:=X.o.trans dc;clear z0 z2 cV cf da V y fu dn dg dc;replace e6:=LH e6;replace b5:=LH b5;go_wp2;go_roundg (gk - q)
   case measure=>omega
   case rel=>
    refine⟨i+q,(⟨t',m',NM,S1.my+1,n'+3,w1.heap.size,fi,Ls',Tx',X'⟩:VT),by omega,?_,?_,?_,?_,HG.o.trans b5.o,?_⟩
    ·have e1:lp L (ks.take (i+q))=lp L1 (kd.take q):=by rw[fF,Y.o,A.o];unfold lp;rw[dL]
     have e2:ks.drop (i+q)=kd.drop q:=by rw[A.o,fB]
     have e3:(λp=>kQ (ks.take (i+q)) p (Dt p))=λp=>kQ (kd.take q) p (D1 p):=by
      funext p
      rw[fF,zw,W.o,A.o]
     rw[e1,e2,e3];exact e6.o
    ·show n'+3<=_;omega
    ·show NM<=_;rw[ca.o];omega
    ·show S1.my+1<=_;omega
    ·refine .inr ?_;show w.heap.size<=w1.heap.size;exact am HG.o.kj.size O.o.size
  ·obtain rfl:gk=0:=om;have hA:¬ (0:Int)<((0:Nat):Int):=om;replace A:=LH A;replace Y:=LH Y;replace W:=LH W;go_wp2;go_ret;refine⟨rfl,S1,?_,by omega,by omega,by omega,HG.o,hB⟩;have hz:ks.take i=ks:=bh (by rw[<-cg.o];omega);have gv:kd=[]:=cH bB;have h:=HV.o;rw[Y.o,W.o,hz,gv] at h;exact h
theorem KW:∀ a:Nat,a<256->bits .or .u8 0 (bits .xor .u8 (a:Int) (a:Int))=0:=by decide +kernel
theorem KX {w:World}{S S':Nat->Prop}{xv yv:Value}{l:iz}(hx:Bytes w S xv l) (hy:Bytes w S' yv l) (hl:l.length<=1000) (h0:0<l.length):
  Calls prog 134 #[xv,yv] w λe w'=>e=.returned (.bool true)/\∃ k,w'=w.drewN k:=by
 obtain⟨y,z,D,r,_,_,_,_,f⟩:=Cells.at hx (by simpa using h0);obtain⟨A,B,E,s,_,_,_,_,h⟩:=Cells.at hy (by simpa using h0);subst r s;obtain⟨n,q⟩:=Ex l.length
 have d:∀ j,j<n->∃ a:Nat,a<256/\w.cell? (iu y (z+j))=some (iy a)/\w.cell? (iu A (B+j))=some (iy a):=λj C=>by have h1:=qB l j om;exact⟨(l[j]'om).toNat,(l[j]'om).toNat_lt,f j _ h1,h j _ h1⟩
 rw[<-q] at hl h0 ⊢;replace q:=LH q;replace d:=LH d;clear f h hx hy;go_enter func134,ntmps134;go_wp2
 go_loopg [5,14] n (λg dv ix wr=>∃ j:Nat,j+g=n/\ix=iw j/\dv=iy 0/\Hd (∃ a,wr=w.drewN a))
 case atStart=>exact⟨0,by omega,rfl,rfl,0,rfl⟩
 case round=>
  obtain⟨j,v,rfl,rfl,t⟩:=hrel;by_cases p:j<n
  ·obtain⟨g1,rfl⟩:∃ i,gk=i+1:=⟨gk - 1,by omega⟩;have m:(j:Int)<n:=om;obtain⟨a,u,c0,c1⟩:=d.o j p;obtain⟨k,rfl⟩:=t.o
   go_wp2_with fail
   go_quiet (fail)
   rw[KW a u];obtain⟨x,c⟩:=Ex ((w.drewN k).drewN nq);have b:x=w.drewN (k+nq):=by rw[c];simp[World.drewN,cy]
   rw[<-c];replace b:=LH b;clear c c0 c1;go_wp2;go_roundg g1
   case measure=>omega
   case rel=>exact⟨j+1,by omega,by go_num,rfl,k+nq,b.o⟩
  ·obtain rfl:gk=0:=om;have m:¬ (j:Int)<n:=om;go_wp2;go_ret;obtain⟨k,rfl⟩:=t.o;exact⟨rfl,k,rfl⟩
theorem KY {w:World}{b n:Nat}{S S':Nat->Prop}{kv pv:Value}{key:iz}{parts:List iz}(hb:Bk w b n) (hn:n<1000000) (hk:Bytes w S kv key) (hl:key.length<=64) (hp:kS w S' pv parts) (hfew:parts.length<=10) (hlen:∀ x ∈ parts,x.length<=100000) (hfl:(mA parts).length<=100000):
  Calls prog 109 #[iq b,kv,.agg (dB ((oP key [mA parts]).take 16)).toArray,pv] w λe w'=>e=.returned (.bool true)/\Bk w' b (n+1)/\kh No b w w':=by
 obtain⟨lv,I⟩:=hb;obtain⟨n0,V⟩:=Ex w.heap.size;have HN:=LH V;obtain⟨T,hT⟩:=Ex (mA parts);obtain⟨G,hG⟩:=Ex (oP key [T]);have a7:G.length=32:=hG ▸ rp;obtain⟨Q,hQ⟩:=Ex (G.take 16);have F:Q.length=16:=by rw[hQ,aR];omega
 obtain⟨wA,z⟩:=Ex (w.alloc (.cells (dB Q).toArray 179));have D:Below w.heap.size w wA:=by rw[z];exact (ag _ _).alloc (ae _) _
 have xA:kf wA n0 179 Q:=by rw[z,V];exact aj w _
 have d:=Bw (Cells.dC hk D.size (λg _ hg=>D.block g hg):Bytes wA S kv key) hl (hp.dC D.size (λg _ hg=>D.block g hg)) hfew hlen hfl;rw[<-hT] at d hfl ⊢;rw[<-hG] at d ⊢;rw[<-hQ] at ⊢;obtain⟨C,hC⟩:=Ex (oB ⟨key.toArray⟩ ⟨T.toArray⟩ G false);have i:C.length=35:=hC ▸ uk a7;have E:∀ v ∈ C,v.oneCell'=true:=hC ▸ wT;have L:∀ j v,(dB G)[j]?=some v->C.toArray[2+j]?=some v:=λj v h=>by rw[hC];exact By h
 rw[<-hC] at d;have hA:=I.after D;have a8:∀ g,n9 b lv g->g<n0:=λg hg=>by rw[V];exact I.lt hg
 have M:∀ g,n9 b lv g->ku w b g:=λg hg=>n9.yH I hg
 have p:∀ g,lv.ownBlock=some g->mJ w b g:=λg hg=>yG I hg
 obtain⟨qc,Y⟩:=Ex ((dB Q).toArray);rw[<-Y] at z ⊢;refine G9 Y p d D xA hA a8 M hG ?_;clear Y p d D xA hA a8 M hG;intro Y p d D xA hA a8 M hG;refine G6 hQ hT hC L E i ?_;clear hQ hT hC L E i;intro hQ hT hC L E i;clear hk hp hlen I;go_enter func109,ntmps109
 go_wp2_with fail
 rw[<-z,<-HN.o];replace z:=LH z;clear V;refine d.o.mono ?_;rintro e K ⟨rfl,N⟩;have h1:=hA.o.after N;have x1:kf K n0 179 Q:=xA.o.dC (N.block n0 (dD xA.o));have b1:Below w.heap.size w K:=D.o.trans (N.mono D.o.size);obtain⟨q,hq⟩:=Ex K.heap.size;have W:n0<q:=hq ▸ dD x1;have xq:(K.alloc (.cells pS 223)).heap[q]?=some (.cells pS 223 (0,0)):=by rw[hq];exact aj K _
 obtain⟨W2,k⟩:=Ex ((K.alloc (.cells pS 223)).setRow q C.toArray)
 have y:(Instr.storeAt 223 (iq q) (.agg C.toArray)).run prog (K.alloc (.cells pS 223))=.ok () W2:=by rw[k];exact mF xq (by rw[i.o];kernel_rfl) (by rw[i.o];rfl) E.o
 have x2:W2.heap[q]?=some (.cells C.toArray 223 (0,0)):=by rw[k];exact aJ _ q _ _ _ _ xq
 have b2:Below w.heap.size w W2:=by rw[k];exact below_setRow (b1.alloc b1.size _) (by rw[<-HN.o];omega) _
 have a1:Below K.heap.size K W2:=by rw[k];exact below_setRow ((ag _ _).alloc (ae _) _) om _
 have h2:=h1.after a1;have y2:kf W2 n0 179 Q:=x1.dC (a1.block n0 (dD x1))
 have c:(Instr.loadAt 209 (.pointer (some (iu q 2)))).run prog W2=.ok (.agg (dB G).toArray) W2:=tZ (x:=dB G) underlying209 (by rw[kn,a7];kernel_rfl) (λj v hv=>by rw[cell_of x2];exact L.o j v hv)
 have u:=yF a7 W2;rw[<-hQ.o] at u;obtain⟨gc,P⟩:=Ex ((dB G).toArray);rw[<-P] at c u;refine G6 P y c u x2 y2 ?_;clear P y c u x2 y2;intro P y c u x2 y2;refine G4 h2 b2 k W ?_;clear h2 b2 k W;intro h2 b2 k W;clear N h1 x1 b1 xq a1 d D xA hA;subst hq
 go_wp2_with (first|(refine kN rfl 223 _ _ rfl _ _ rfl rfl y.o ?_)|(refine kU rfl 209 _ rfl _ _ rfl c.o ?_)|fail)
 refine u.o.mono ?_;rintro e Z ⟨rfl,H⟩;obtain⟨q1,X⟩:=Ex K.heap.size;rw[<-X] at x2 c y W ⊢;obtain⟨q3,J⟩:=Ex Z.heap.size;have x3:=(H.block q1 (dD x2.o)).trans x2.o;have y3:kf Z n0 179 Q:=y2.o.dC (H.block n0 (dD y2.o));have h3:=h2.o.after H;have b3:Below w.heap.size w Z:=b2.o.trans (H.mono b2.o.size);have z3:kf (Z.alloc (.cells #[iy 0,iy 0,iy 0,iy 0,iy 0,iy 0,iy 0,iy 0,iy 0,iy 0,iy 0,iy 0,iy 0,iy 0,iy 0,iy 0] 179)) q3 179 (List.replicate 16 0):=by rw[J];exact aj Z _
 obtain⟨A,s⟩:=Ex ((Z.alloc (.cells #[iy 0,iy 0,iy 0,iy 0,iy 0,iy 0,iy 0,iy 0,iy 0,iy 0,iy 0,iy 0,iy 0,iy 0,iy 0,iy 0] 179)).setRow q3 (dB Q).toArray)
 have f:(Instr.storeAt 179 (iq q3) (.agg (dB Q).toArray)).run prog (Z.alloc (.cells #[iy 0,iy 0,iy 0,iy 0,iy 0,iy 0,iy 0,iy 0,iy 0,iy 0,iy 0,iy 0,iy 0,iy 0,iy 0,iy 0] 179))=.ok () A:=by rw[s];exact nz z3 sm Q F
 have B:Below Z.heap.size Z A:=by rw[s];exact below_setRow ((ag _ _).alloc (ae _) _) om _
 have z4:kf A q3 179 Q:=by rw[s];exact z3.setRow Q
 have x4:=(B.block q1 (dD x3)).trans x3;have y4:kf A n0 179 Q:=y3.dC (B.block n0 (dD y3));have h4:=h3.after B;have b4:Below w.heap.size w A:=b3.trans (B.mono b3.size);have O:∀ a:Nat,Below w.heap.size w (A.drewN a):=λa=>⟨b4.os,b4.tape,b4.output,b4.size,b4.block⟩
 have heq:=LH (show ∀ a:Nat,Calls prog 134 #[ir q3 16 16,ir n0 16 16] (A.drewN a) λe w'=>e=.returned (.bool true)/\∃ n,w'=(A.drewN a).drewN n from λa=>KX (w:=A.drewN a) (S:=λ_=>True) (S':=λ_=>True) (l:=Q) (by
   have h:=sJ (w:=A.drewN a) (g:=q3) (t:=179) (l:=Q) z4 F mx;show Cells _ _ _ Q.length 1 _;rw[F];exact h) (by
   have h:=sJ (w:=A.drewN a) (g:=n0) (t:=179) (l:=Q) y4 F mx;show Cells _ _ _ Q.length 1 _;rw[F];exact h) om om)
 refine G7 f s x4 h4 b4 O X ?_;clear f s x4 h4 b4 O X;intro f s x4 h4 b4 O X;clear H x3 y3 h3 b3 z3 B z4 y4 h2 y2 x2 c y b2
 go_wp2_with (first|(refine kN rfl 179 _ _ rfl _ _ rfl rfl (by first|exact f.o|(rw[<-J];exact f.o)) ?_)|fail)
 rw[<-J];replace J:=LH J
 go_quiet (first|(go_at_call 134;refine Calls.quiet_of (heq.o _)))
 obtain⟨w8,m⟩:=Ex (A.drewN nq);rw[<-m];have b8:Below w.heap.size w w8:=by rw[m];exact O.o _
 have aa:nU w8 b lv n:=by rw[m];exact h4.o.dC (λ_ _=>rfl)
 have x8:w8.heap[q1]?=some (.cells C.toArray 223 (0,0)):=by rw[m];exact x4.o
 have U:(Instr.loadAt 223 (iq q1)).run prog w8=.ok (.agg C.toArray) w8:=mE (x:=C) underlying223 (by rw[i.o];kernel_rfl) (λj v hv=>by rw[aw,cell_of x8];simpa using hv)
 have r:=Br aa hn C.toArray (by simp[i.o]) (by simpa using E.o);refine G4 U r m b8 ?_;clear U r m b8;intro U r m b8;clear aa x8 heq
 go_wp2_with (first|(refine kU rfl 223 _ rfl _ _ rfl U.o ?_)|fail)
 refine r.o.mono ?_;rintro e w9 ⟨rfl,an,R,ad,af⟩
 have a6:kh No b w w9:=by
  have hc:=(aQ.dE b8.o (n9 b lv)).then ad (λ_ _ e=>e);refine⟨hc.mono (λg _ h=>.inr (M.o g h)),λg hg ax e=>?_⟩;have e4:=wU R e;rcases af with e5|⟨g',e5,hl⟩
  ·exact p.o g (by rw[<-e5];exact e4)
  ·rw[e4] at e5;obtain rfl:=aF e5;have:=b8.o.size;omega
 replace a6:=LH a6;replace R:=LH (⟨an,R⟩:Bk w9 b (n+1));clear ad af;go_wp2;go_ret;exact⟨rfl,R.o,a6.o⟩
variable {Ls:List iz}
theorem KZ {p:Nat}(hL:800<=(Ls.getD 0 []).length) (hp:p<50):oI ((Ls.getD 0 []).take (kt (0:Nat)*16)) p=qw Ls p:=by
 unfold oI qw;have hw:kt (0:Nat)=50:=rfl;rw[hw,ak (by rw[aR];omega)];apply b9;intro j;rw[aU,aU,bF,bF,aU];by_cases a:j<16
 ·rw[ak a,ak a,ak om]
 ·rw[ah a,ah a]
theorem K3 {w:World}{t b n N:Nat}{gs:Nat->Nat}{key:iz}{Tx:List (Int×Value)}(h:lx w t b N gs key Ls Tx) (_:b<=N) (h4:Ls.length=4) (hB:Bk w b n) (hn:n<900000) (i:Nat) (hi:i<50){xv:Value}{xl:iz}{B:Nat}(hx:w.ownsRow B 5 1 xv xl.length (dB xl)) (hxl:xl.length<=1000) (hx0:0<xl.length)
  (htag:qw Ls i=qu key i xl) (htex:pY Tx i (.bool false)=.bool true):
  Calls prog 72 #[iq t,iw i,xv] w λe w'=>e=.returned (.bool true)/\Bk w' b (n+1)/\kh No b w w':=by
 obtain⟨kv,lv,mv,cs,j,F,a7,s,aa⟩:=h.tree;obtain⟨mb,ad,G,l⟩:=h.qP;have a1:key.length=32:=by have:=F.1;rw[kn] at this;omega
 obtain⟨T,kc,rfl,_⟩:=kz F om;obtain⟨xg,xc,rfl,_⟩:=kz hx hx0
 have Y:800<=(Ls.getD 0 []).length:=by have h1:=s 0 _ (av om);rw[fN,av om];have h2:=h1.2.1;have h3:=h1.2.2;have hw:kt (0:Nat)=50:=rfl;rw[hw] at h3;simp only[Option.getD_some];omega
 have a8:mv=.map (some mb):=by
  rw[cell_of j] at G
  simpa using G
 subst a8;obtain⟨es,mc,O,_⟩:=l.box
 have Q:∀ a,BX No b w a->a.heap[mb]?=w.heap[mb]?:=λa hr=>hr.g.block mb (bm.1 O).1 (λe=>e.elim id (λe=>by obtain⟨U,ty,m,hc,_⟩:=ku.obj hB e;rw[O] at hc;cases hc))
 have r:∀ a,BX No b w a->a.heap[t]?=_:=λa hr=>hr.g.at hB j id de de
 have c:∀ a,BX No b w.drew a->BX No b w a:=λa h=>⟨⟨_,hB⟩,h.b1,h.g.drew⟩
 have D:∀ a,BX No b w a->lx a t b N gs key Ls Tx:=λa hr=>h.exact (λg hg=>by
  rcases h.dep hg with ⟨_,e⟩|⟨_,_,e⟩|⟨_,e⟩|⟨_,_,_,_,e⟩|⟨_,_,_,e⟩
  ·exact (hr.g.at hB e id de de).trans e.symm
  ·exact (hr.g.at hB e id de de).trans e.symm
  ·exact (hr.g.at hB e id de de).trans e.symm
  ·exact (hr.g.at hB e id de de).trans (show w.heap[g]?=_ from e).symm
  ·exact hr.g.block g (bm.1 e).1 (λV=>V.elim id (λV=>by obtain⟨U,ty,m,hc,_⟩:=ku.obj hB V;rw[e] at hc;cases hc)))
 have c0:=LH (λa (hr:BX No b w a)=>(show a.cell? (iu t 0)=some (iq b) by rw[cell_of (r a hr)];rfl));have c1:=LH (λa (hr:BX No b w a)=>(show a.cell? (iu t 1)=some (ir T 32 kc) by rw[cell_of (r a hr)];rfl));have c3:=LH (λa (hr:BX No b w a)=>(show a.cell? (iu t 3)=some (.map (some mb)) by rw[cell_of (r a hr)];rfl))
 have a6:=LH (λa (hr:BX No b w a)=>(show (Instr.lookup 153 (.map (some mb)) (iw i) false).run prog a=.ok (.bool true) a by have h:=(l.dC (w':=a) (Q a hr)).look (t:=153) underlying153 (z:=.bool false) rf (k:=i) (rv om);rw[htex] at h;exact h))
 have K:=LH (λa (hr:BX No b w a)=>Cy (D a hr).tree om i hi);have f:=LH (λa (hr:BX No b w a)=>BN (D a hr).tree om i om);have R:∀ a,BX No b w a->Bytes a (λ_=>True) (ir xg xl.length xc) xl:=λa hr=>(Cells.own (hr.g.own hB hx (λ_ _=>id) de de)).mono (λ_ _ _=>trivial)
 have E:∀ a,BX No b w a->Bytes a (λ_=>True) (ir T 32 kc) key:=λa hr=>by show Cells a _ _ key.length 1 _;rw[a1];exact (Cells.own (hr.g.own hB F (λ_ _=>id) de de)).mono (λ_ _ _=>trivial)
 have M:=LH (λa (hr:BX No b w a)=>CA i om (R a hr));rw[KZ Y hi,htag] at f;have C:BX No b w.drew w.drew:=⟨⟨_,hB.dC (λ_ _ _=>rfl)⟩,⟨_,hB.dC (λ_ _ _=>rfl)⟩,kh.refl⟩;have A:Bk w.drew b n:=hB.dC (λ_ _ _=>rfl);obtain⟨lg,q⟩:=Ex ((dB (qu key i xl)).toArray);rw[<-q] at f;obtain⟨XL,p⟩:=Ex xl.length;rw[<-p] at M hxl ⊢;revert c E C A q p;refine H6 ?_;intro c E C A q p;clear D r Q R l j a7 s G;go_enter func72,ntmps72
 go_wp2_with fail
 refine RA.region (BX No b) (λx y=>(∃ n,Bk x b n)/\aQ No x y) [1,1,4,1,1,1,1,1,1,1,1,1,1,1,1,1,1,1,1,1,1,1,4,1,1,3,4,1,1] (λ_ _ _=>True) (λa=>Bk a b n) kr C.o (λ_ _ h=>by obtain⟨⟨n,h1⟩,h2⟩:=h;exact BX.mw h1 h2) (λ_ _ _=>BX.trans) (λ_ _ h k=>k.after h.2.no) A.o kr ?_;intro cx
 repeat refine RA.qq ?_
 refine RA.kc (P:=prog) [iq t,iw i] (.bool true) (λa=>Bk a b n) (he:=λ_ _ h k=>k.after h.2.no) (hr:=(λa hp hH=>by have d:Bk a b n:=hH;refine (K.o a (c.o _ hp.1)).mono ?_;rintro e w4 ⟨rfl,rfl⟩;exact⟨rfl,⟨⟨_,d⟩,⟨_,d⟩,kh.refl⟩,d⟩)) (hn:=?_)
 repeat refine RA.qq ?_
 refine RA.fk prog t 3 (h:=?_);refine RA.lk prog (.map (some mb)) (hc:=λa hp=>by exact c3.o _ (c.o _ hp.1)) (h:=?_)
 repeat refine RA.qq ?_
 refine RA.vk prog (.bool true) (hr:=λa hp=>by have hl:=a6.o a (c.o _ hp.1);clear hp;go_simp) (h:=?_)
 refine RA.pt kr rf rf rf ?_
 repeat refine RA.qq ?_
 refine RA.fk prog t 0 (h:=?_);refine RA.lk prog (iq b) (hc:=λa hp=>by exact c0.o _ (c.o _ hp.1)) (h:=?_)
 repeat refine RA.qq ?_
 refine RA.fk prog t 1 (h:=?_);refine RA.lk prog (ir T 32 kc) (hc:=λa hp=>by exact c1.o _ (c.o _ hp.1)) (h:=?_)
 repeat refine RA.qq ?_
 refine RA.kc (P:=prog) [iq t,iw i] (.agg lg) (λa=>Bk a b n) (he:=λ_ _ h k=>k.after h.2.no) (hr:=(λa hp hH=>by have d:Bk a b n:=hH;refine (f.o a (c.o _ hp.1)).mono ?_;rintro e w4 ⟨rfl,H⟩;exact⟨rfl,BX.mw d (aQ.dE H No),d.after H⟩)) (hn:=?_)
 repeat refine RA.qq ?_
 refine RA.qc (P:=prog) [iw i,ir xg XL xc] (λ_ _=>True) (λv a=>Bk a b n/\kS a (λ_=>True) v [[108,101,97,102],kl i,xl]) (hs:=λ_ _ _ _ _=>trivial) (he:=λv x y hE hk=>⟨hk.1.after hE.2.no,kS.kj hk.2 hE.2⟩) (hr:=(λa hp hH=>by have d:Bk a b n:=hH;refine (M.o a (c.o _ hp.1)).mono ?_;rintro e w4 ⟨v,rfl,H,S⟩;exact⟨v,rfl,BX.mw d (aQ.dE S No),trivial,d.after S,H⟩)) (hn:=λu=>?_)
 refine RA.kc (P:=prog) [iq b,ir T 32 kc,.agg lg,u] (.bool true) (λa=>Bk a b (n+1)) (he:=λ_ _ h k=>k.after h.2.no) (hr:=(λa hp hH=>by
  obtain⟨I,W⟩:=hH
  have hlen:∀ x ∈ [[108,101,97,102],kl i,xl],x.length<=9000:=by
   intro x hx;simp only[bi,bL,bS] at hx;rcases hx with rfl|rfl|rfl
   ·simp
   ·rw[nM];omega
   ·have:=p.o;omega
  have J:=KY I om (E.o a (c.o _ hp.1)) om W sm (λx hx=>by have:=hlen x hx;omega) (C2 hlen sm);have L:lg=(dB ((oP key [mA [[108,101,97,102],kl i,xl]]).take 16)).toArray:=q.o;rw[<-L] at J;refine J.mono ?_;rintro e w4 ⟨rfl,H,S⟩;exact⟨rfl,⟨⟨_,I⟩,⟨_,H⟩,S⟩,H⟩)) (hn:=?_)
 refine RA.pt kr rf rf rf ?_
 repeat refine RA.qq ?_
 refine RA.RA.done rfl (λw9 hR hF hH=>?_);clear hF;simp only[RA.RP,cx];have Z:=LH (c.o _ hR);have X:=LH (show Bk w9 b (n+1) from hH);clear hR hH;go_wp2;go_ret;exact⟨rfl,X.o,Z.o.g⟩
variable {w:World}{t:Option Addr}
theorem Lp {s:Nat}(hs:kV w s none t) (ke kv dv:Value) (unit:Int) (Q:Ending->World->Prop)
  (h:Calls prog 140 #[kv,iw unit,dv] w (Cd Q)):
  Calls prog 112 #[iq s,ke,kv,iw unit,dv] w Q:=by
 have hi:=LH (AF hs);replace h:=LH h;clear hs;go_enter func112,ntmps112
 go_wp2_with (first|(go_at_call 137;refine hi.o.mono ?_;rintro e w' ⟨rfl,rfl⟩)|fail)
 refine h.o.mono ?_;rintro e w' ⟨a,n,cp,c,rfl,b⟩;replace b:=LH b;go_wp2;exact b.o
theorem Lq {s:Nat}(hs:kV w s none t) (ke:Value){S S':Nat->Prop}{kv dv:Value}{key data:iz}(hk:Bytes w S kv key) (hkl:key.length=64) (hd:Bytes w S' dv data) (hdl:data.length=64) (unit:Nat) (hu:unit<=65536):
  Calls prog 112 #[iq s,ke,kv,iw unit,dv] w λe w'=>∃ v,e=.returned (.tuple #[v,iw 0])/\w'.ownsRow w.heap.size 5 1 v 64 (dB (sl key unit data))/\Below w.heap.size w w':=
 Lp hs ke kv dv unit _ ((Lm hk unit ⟨.inr hkl,by omega,by omega⟩ hd om om).mono λe w' ⟨v,h1,a,b⟩=>by rw[hdl] at a;obtain⟨g,cp,rfl,_⟩:=kz a om;exact⟨_,_,_,_,h1,_,h1,a,b⟩)
theorem DB {d sb:Nat}{X:D.Dk}(h:mj w d sb X) (p:Nat) (hp:p<120):(X.at p).length=64:=by have:=h.len;unfold D.Dk.at;rw[aR,bM];omega
theorem Lr {xs:List Value}{d sb s b:Nat}{ke:ByteArray}{A M:iz}{X:D.Dk}(h:oD xs d s b ke A M) (hs:kV w s none t) (hD:mj w d sb X) (at':Nat) (hat:at'<120):
  Calls prog 73 #[.agg xs.toArray,iw at'] w λe w'=>∃ v,e=.returned (.tuple #[v,iw 0])/\w'.ownsRow w.heap.size 5 1 v 64 (dB (sl A at' (X.at at')))/\Below w.heap.size w w':=by
 obtain⟨q,H⟩:=Ex w.heap.size;obtain⟨L,l⟩:=Ex (w.alloc (.cells xs.toArray 96));have E:mX L q xs:=by rw[l,H];exact sc w xs
 have b1:Below w.heap.size w L:=by rw[l];exact (ag _ _).alloc (ae _) _
 have f:=D.xk (w:=L) (hD.at_.kj (aQ.dE b1 No) (λ_ _=>id)) hD.none at' (by rw[hD.size];exact hat);have z:=DB hD at' hat;obtain⟨Z,J⟩:=Ex (X.at at');rw[<-J] at f z ⊢;have s1:kV L s none t:=(b1.block s (dD hs)).trans hs;obtain⟨c,hc⟩:=Ex xs.toArray;rw[<-hc] at l ⊢;have O:(w.alloc (.cells c 96)).cell? (iu w.heap.size 0)=some (iq d):=by rw[<-l,<-H];exact E.get h.c0
 refine G7 hc E b1 s1 J f h ?_;clear hc E b1 s1 J f h;intro hc E b1 s1 J f h;clear hs hD;go_enter func73,ntmps73
 go_wp2_with fail
 rw[<-l];refine f.o.mono ?_;rintro e n ⟨zv,rfl,B,y⟩;obtain⟨S,T,rfl,_⟩:=kz B om
 have I:Bytes n (λ_=>True) (ir S 64 T) Z:=by have h:=(Cells.own B).mono (S':=λ_=>True) (λ_ _ _=>trivial);show Cells n _ _ Z.length 1 _;rw[z];exact h
 have m:=E.o.kj (aQ.dE y No);have R:kV n s none t:=(y.block s (dD s1.o)).trans s1.o;have C:=b1.o.trans (y.mono b1.o.size)
 have G:∀ p,aQ No n p->Bytes p (λ_=>True) (.slice (some (iu q 5)) 64 64) A:=λp hc=>by refine⟨by rw[kn,aY],_,_,by rw[h.o.dl],cJ h.o.dl,by unfold maxLen;omega,λh=>(by cases h),.inr ⟨q,5,rfl,trivial,dD (m.kj hc).at_,λj u hu=>(m.kj hc).get (h.o.BS j u hu)⟩⟩
 have x:∀ p,aQ No n p->Calls prog 112 #[iq s,.string ke,.slice (some (iu q 5)) 64 64,iw at',ir S 64 T] p λe w'=>∃ v,e=.returned (.tuple #[v,iw 0])/\w'.ownsRow p.heap.size 5 1 v 64 (dB (sl A at' Z))/\Below p.heap.size p w':=λp hc=>Lq (w:=p) ((hc.block s (dD R) id).trans R) _ (G p hc) h.o.dl (Bytes.kj I hc (λ_ _ _=>id)) z at' om
 have i:=Dr n
 obtain⟨W,r⟩:=Ex (sl A at' Z);rw[<-r] at x;refine G5 r x i m C ?_;clear r x i m C;intro r x i m C;rw[<-H];replace l:=LH l;have a1:=LH H;clear H y B I R G f E s1 b1 O
 go_wp2_with fail
 refine RA.rt (aQ No) [1,1,1,1,1,1,1,1,1,3,1,1,1,1] [] (λ_=>True) trivial (λ_=>aQ.refl _ _) (λ_ _ _ h k=>h.trans k) (h:=?_);intro cx;refine RA.fk prog q 1 (h:=?_);refine RA.lk prog (iq s) (hc:=λn hp=>by exact (m.o.kj (i.o _ hp.1)).get h.o.c1) (h:=?_);refine RA.fk prog q 2 (h:=?_);refine RA.lk prog (.string ke) (hc:=λn hp=>by exact (m.o.kj (i.o _ hp.1)).get h.o.c2) (h:=?_);refine RA.fk prog q 3 (h:=?_);refine RA.fk prog q 5 (h:=?_);refine RA.vk prog (.slice (some (iu q 5)) 64 64) (h:=?_)
 repeat refine RA.qq ?_
 refine RA.qc (P:=prog) [iq s,.string ke,.slice (some (iu q 5)) 64 64,iw at',ir S 64 T] (λv n=>∃ u,v=.tuple #[u,iw 0]/\n.ownsRow w.heap.size 5 1 u 64 (dB W)) (hs:=λv a b h Y=>by
  obtain⟨u,Q,K⟩:=Y;exact⟨u,Q,gF K (λg hg=>h.block g (kp K g hg) id)⟩) (hr:=λn hp hH=>by
  refine (x.o n (i.o _ hp.1)).mono ?_;rintro e p ⟨v,rfl,Q,K⟩;exact⟨_,rfl,aQ.dE K _,⟨v,rfl,kT Q (am C.o.size (i.o _ hp.1).size)⟩,trivial⟩) (hn:=λu=>?_)
 repeat refine RA.qq ?_
 refine RA.vk prog (kY u 0) (hr:=λn hp=>by obtain⟨v,rfl,_⟩:=hp.fact 0 rfl kr;clear hp;go_simp;rfl) (h:=?_)
 refine RA.vk prog (kY u 1) (hr:=λn hp=>by obtain⟨v,rfl,_⟩:=hp.fact 0 rfl kr;clear hp;go_simp;rfl) (h:=?_)
 repeat refine RA.qq ?_
 refine RA.RA.done rfl (λw5 V U hH=>?_);clear hH;simp only[RA.RP,cx];have F:=i.o _ V;obtain⟨v,rfl,hv⟩:=U _ (cq ..);obtain⟨vg,vc,rfl,_⟩:=kz hv om;simp only[kY,TP];have N:=LH (C.o.trans (F.no.mono C.o.size));replace hv:=LH hv;clear F V U;go_wp2;refine aI (results_tmp2 rfl _ _ _) rfl ⟨_,rfl,?_,N.o⟩;rw[<-r.o];exact hv.o
end Go.Proofs.YthmcbgidehjlbaaGreat.Fd
namespace Go.Proofs.YthmcbgidehjlbaaGreat.Fd
open _root_.Go.Proofs.Tryz
open Go Go.RowKit Go.Shelf K
attribute [local go_sem] Oper.semAt_some
section
variable {G:VG}{w w':World}{L:iz}{ks:List (Nat×iz)}{ki:Bool}{Dt:Nat->iz}{S:VT}
theorem lV.pZ (h:lV G w L ks ki Dt S) (hg:kh No G.b w w'){n':Nat}(hB:Bk w' G.b n'):lV G w' L ks ki Dt { S with n:=n' }:=by
 have hk:∀ (g:Nat) (cs:Array Value) (ty:TypeId) (m:Nat×Nat),w.heap[g]?=some (.cells cs ty m)->ty≠223->ty≠145->w'.heap[g]?=w.heap[g]?:=λg cs ty m c h1 l=>(hg.at h.book c id h1 l).trans c.symm
 obtain⟨⟨o,pv,hv,_⟩,_⟩:=h.kC;have d:=h.nE.self;refine⟨h.kC.dC (λg cs ty ht hg=>hk g cs ty _ hg (by rcases ht with rfl|rfl|rfl|rfl<;>decide) (by rcases ht with rfl|rfl|rfl|rfl<;>decide)),h.base,h.fix.kept (λj _ _=>az (w:=w) (a:=iu G.v j) (hk _ _ _ _ hv de de)),(hk _ _ _ _ h.su de de).trans h.su,?_,h.bN,h.l4,h.marks.dC (λg cs ty _ f hg=>hk g cs ty _ hg (by rcases f with rfl|rfl<;>decide) (by rcases f with rfl|rfl<;>decide)),h.ring.dC h.br (λg cs ty _ ht hg=>hk g cs ty _ hg (by rcases ht with rfl|rfl<;>decide) (by rcases ht with rfl|rfl<;>decide)),h.br,h.nE.dC hg.size (λg c=>hg.block g (by rcases c with rfl|rfl;exact d.1;exact d.2) (λe=>e.elim id (λe=>by have:=e.ge;have:=h.db;have:=h.rH;rcases c with rfl|rfl<;>omega))),h.db,h.rH,h.bv,hB,h.cont,h.al,h.ml⟩;refine h.tree.exact (λg c=>?_);rcases h.tree.dep c with ⟨_,e⟩|⟨_,_,e⟩|⟨_,e⟩|⟨_,_,_,_,e⟩|⟨_,_,_,e⟩
 ·exact hk _ _ _ _ e de de
 ·exact hk _ _ _ _ e de de
 ·exact hk _ _ _ _ e de de
 ·exact hk _ _ _ _ (show w.heap[g]?=_ from e) de de
 ·exact hg.block g (bm.1 e).1 (λi=>i.elim id (λi=>by obtain⟨k,ty,m,hc,_⟩:=ku.obj h.book i;rw[e] at hc;cases hc))
theorem lV.lR (h:lV G w L ks ki Dt S) (hg:kh No G.b w w'):l3 G w w':=by obtain⟨⟨f,pv,hv,_,_,_,_,_,_,d,_,vs,_,c,_⟩,_⟩:=h.kC;refine l3.oE hg (λ_ e=>e.elim) ((hg.at h.book hv id de de).trans hv.symm) (λpg n pc hc=>?_);have e:=(cell_of hv 110).trans d;rw[hc] at e;obtain rfl:=aF e;obtain⟨cur,a⟩:=kx c (g:=pg) rfl;exact (hg.at h.book a id de de).trans a.symm
end
theorem Lt {G:VG}{w:World}{L:iz}{ks:List (Nat×iz)}{ki:Bool}{Dt:Nat->iz}{S:VT}(hV:lV G w L ks ki Dt S) (hn:S.n<800000) (p:Nat) (hp:p<50) (h0:nB L p=true):
  Calls prog 49 #[iq G.v,iw p] w λe w'=>∃ g c n',e=.returned (.tuple #[ir g 64 c,iw 0])/\Bytes w' (λ_=>True) (ir g 64 c) (kQ ks p (Dt p))/\n'<=S.n+1/\Bk w' G.b n'/\kh No G.b w w':=by
 have h:=hV.kC;obtain⟨v,T⟩:=Ex G.v;rw[<-T] at h ⊢;obtain⟨m,cu⟩:=Ex S.m;rw[<-cu] at h;obtain⟨pa,pc,bp,gh⟩:=h.kD;have cf:=h.mu
 obtain⟨E,cm,cX⟩:=CP ks (λ(j:Nat) (k:Nat×iz) (x:KE)=>x.1=k.1/\k.2.length=64/\(∃ pg,pa=some (iu pg 0)/\pg<w.heap.size/\w.cell? (iu pg (j*2))=some (iw x.1)/\w.cell? (iu pg (j*2+1))=some (kv x))/\Bytes w (λ_=>True) (kv x) k.2) (λj k hk=>by obtain⟨pg,H,z,h1,U,h3,h4,h5,h6⟩:=gh j k hk;exact⟨(k.1,H,z),rfl,h5,⟨pg,h1,U,h3,h4⟩,h6⟩)
 rw[<-cm] at bp cf
 have e6:∀ (j:Nat) (x:KE),E[j]?=some x->∃ k:Nat×iz,ks[j]?=some k/\x.1=k.1/\k.2.length=64/\(∃ pg,pa=some (iu pg 0)/\pg<w.heap.size/\w.cell? (iu pg (j*2))=some (iw x.1)/\w.cell? (iu pg (j*2+1))=some (kv x))/\Bytes w (λ_=>True) (kv x) k.2:=λj x hx=>by
  have hj:j<ks.length:=by rw[<-cm];exact (aD.1 hx).1
  exact⟨ks[j],av hj,cX j _ x (av hj) hx⟩
 have fz:∀ (j:Nat) (k:Nat×iz),ks[j]?=some k->∃ x:KE,E[j]?=some x/\x.1=k.1:=λj k hk=>by
  have hj:j<E.length:=by rw[cm];exact (aD.1 hk).1
  exact⟨E[j],av hj,(cX j k _ hk (av hj)).1⟩
 obtain⟨ln,ay⟩:=Ex E.length;rw[<-ay] at bp cf;replace ay:=LH ay;have cU:=LH e6;have cV:=LH fz;have c6:=LH (λw1 (hb:Below w.heap.size w w1)=>yI (h.after hb).marks p hp);rw[h0] at c6;have HC:=LH (λw1 (hb:Below w.heap.size w w1)=>(h.after hb).cells);have HV:=LH (λw1 (hb:Below w.heap.size w w1)=>hV.below hb);have hz:=LH hV.book;have cc:=LH (hV.cont.Dg p hp h0);replace cu:=LH cu;replace T:=LH T;have hX:=kZ bp;have hY:=hV.blt;clear gh cX e6 fz h cm h0 hV;refine (dJ (n:=3)).1 ?_;refine callsIn_of_wp_marks func49 rfl trivial ?_ rfl;simp only[ntmps49,NT,Nat.reduceAdd,Nat.reduceSub];refine dU.2 ?_;have b0:=((Boxed.new w 3 (iw p)).alloc (.cells #[.slice none 0 0] 42)).alloc (.cells #[iw 0] 47);have b1:=(Boxed.new (w.alloc (.cells #[iw p] 3)) 42 (.slice none 0 0)).alloc (.cells #[iw 0] 47);have b2:=Boxed.new ((w.alloc (.cells #[iw p] 3)).alloc (.cells #[.slice none 0 0] 42)) 47 (iw 0);have ad:Below w.heap.size w (((w.alloc (.cells #[iw p] 3)).alloc (.cells #[.slice none 0 0] 42)).alloc (.cells #[iw 0] 47)):=((((ag _ w).alloc (ae _) _).alloc sm _).alloc (by simp;omega) _);simp only[aN] at b1 b2;have bD:(((w.alloc (.cells #[iw p] 3)).alloc (.cells #[.slice none 0 0] 42)).alloc (.cells #[iw 0] 47)).heap.size=w.heap.size+3:=by simp
 have hf:=(ad.cell (p:=iu v 110) hX).trans bp;refine G6 b0 b1 b2 ad bD ay ?_;clear b0 b1 b2 ad bD ay;intro b0 b1 b2 ad bD ay
 go_wp2_with fail
 refine (CM _ _ _ _).mono ?_;rintro e w1 ⟨rfl,rfl⟩;clear hf;replace b0:=b0.o;replace b1:=b1.o;replace b2:=b2.o;replace ad:=ad.o;replace bD:=bD.o;generalize (((w.alloc (.cells #[iw p] 3)).alloc (.cells #[.slice none 0 0] 42)).alloc (.cells #[iw 0] 47))=W3 at*;have bk:=Boxed.new W3 102 (.slice pa ln pc);have cr:Below w.heap.size w (W3.alloc (.cells #[.slice pa ln pc] 102)):=ad.alloc om _;have h7:=b0.alloc (.cells #[.slice pa ln pc] 102);have h8:=b1.alloc (.cells #[.slice pa ln pc] 102);have h9:=b2.alloc (.cells #[.slice pa ln pc] 102);have iA:(W3.alloc (.cells #[.slice pa ln pc] 102)).heap.size=w.heap.size+4:=by simp;omega
 have e3:=bk.cell;have ha:=bk.lt;rw[bD] at e3 ha ⊢;generalize (W3.alloc (.cells #[.slice pa ln pc] 102))=W4 at*;clear b0 b1 b2 ad bk
 have gv:=CO .wide 2 trivial rfl om (w.heap.size+3) (w.heap.size+4) pa pc E (by rw[<-ay.o];exact cf) W4 om om (by rw[<-ay.o];exact e3) (λj x hx=>by obtain⟨k,_,_,_,⟨pg,h1,U,h3,h4⟩,_⟩:=cU.o j x hx;exact⟨pg,h1,by omega,(cr.cell (p:=iu pg (j*2)) U).trans h3,(cr.cell (p:=iu pg (j*2+1)) U).trans h4⟩)
 go_wp2_with fail
 refine (dU (n:=3)).1 ?_;refine zo (λA hA=>?_)
 refine wpIn_rangeFunc_ownH (F:=.wide) (n:=3) (P:=prog) (α:=KR) rfl om (gf:=107) (lb:=#[iq (w.heap.size+3)]) (by rw[hA];rfl) trivial (enters_of func107 kr rfl) gv belowK_t (belowK_b om) (ag _ _) (λx=>rfl)
  (CQ w.heap.size p W4) (CR w.heap.size p w)
  (OwnFrom.and (Own.from (λs A B row hs hg hr=>⟨hs.1,boxed_own _ _ (λ_=>_) s A B row hs.2.1 hg hr,boxed_own _ _ (λ_=>_) s A B row hs.2.2.1 hg hr,boxed_own _ _ (λ_=>_) s A B row hs.2.2.2 hg hr⟩) _) (ownFrom_below om om))
  (λc=>OwnFrom.and (Own.from (λs A B row hs hg hr=>by obtain⟨hc,q,x,h1,U,h3,h4,h5⟩:=hs;exact⟨hc,q,x,h1,U,h3,boxed_own _ _ (λ_=>_) s A B row h4 hg hr,boxed_own _ _ (λ_=>_) s A B row h5 hg hr⟩) _) (ownFrom_below (ae _) om))
  ⟨⟨by simp,h7,h8,h9⟩,ag _ _⟩
  (CS A)
  ?ax ?assign ?body ?done ?stop
 case ax=>
  rintro x a' _ X Y row ⟨g,e,hg⟩ hN hr;refine⟨g,e,(hN.block g (dD hg) (λer=>?_)).trans hg⟩;obtain⟨_,o,ho,hc⟩:=hr g er.symm;rw[hg] at ho;cases ho
  cases hc
 case assign=>
  rintro l pre ⟨⟨q,H,z⟩,j⟩ W K I hK;have dc:w.heap.size+4<=W.heap.size:=by have:=I.2.size;omega
  have cY:=hK _ (W.alloc (.cells #[iw q,ir H 64 z] 111)) ((KeepsOthers.alloc W _).from _) ((ag _ _).alloc dc _) ⟨⟨I.1.1,I.1.2.1.alloc _,I.1.2.2.1.alloc _,I.1.2.2.2.alloc _⟩,I.2.alloc dc _⟩ ⟨W.heap.size,rfl,aj W _⟩;rw[hA] at cY;replace hK:=LH cY;rw[hA];unfold vI;clear cY
  gi_wp2
  exact hK.o
 case body=>
  rintro l pre ⟨⟨q,H,z⟩,j⟩ a' W - - I ⟨g,rfl,hg⟩ -;rw[hA];have dc:w.heap.size+4<=W.heap.size:=by have:=I.2.size;omega
  have M:=cell_of hg 0;have ib:=cell_of hg 1;have z0:=I.1.2.1.cell;have z1:=I.1.2.2.1.cell;have f1:=I.1.2.2.1.frozen;have z2:=I.1.2.2.2.cell;have f2:=I.1.2.2.2.frozen;replace I:=LH I
  gi_wp2
  ·rename_i hx
   have dp:q=p:=by
    have:(q:Int)=p:=by simpa using hx
    omega
   have I:=I.o;have e1:Boxed ((W.setCell (iu (w.heap.size+1) 0) (kv (q,H,z))).setCell (iu (w.heap.size+1+1) 0) (iw 0)) _ _ _:=(I.1.2.2.1.set (kv (q,H,z))).kept (grownBy_setCell' _ _ (iw 0)) sm;have e2:Boxed ((W.setCell (iu (w.heap.size+1) 0) (kv (q,H,z))).setCell (iu (w.heap.size+1+1) 0) (iw 0)) _ _ _:=(I.1.2.2.2.kept (grownBy_setCell' _ _ (kv (q,H,z))) sm).set (iw 0);refine⟨((KeepsOthers.setCell _ _ _).trans (KeepsOthers.setCell _ _ _)).from _,⟨rfl,pre,_,rfl,I.1.1,dp,e1,e2⟩,?_⟩;exact ((cr.trans (I.2.mono om)).setCell (p:=iu (w.heap.size+1) 0) sm _).setCell (p:=iu (w.heap.size+1+1) 0) (by simp;omega) _
  ·rename_i hx
   have dp:q≠p:=by
    have:¬ (q:Int)=p:=by simpa using hx
    omega
   have I:=I.o;refine⟨KeepsFrom.refl _ _,ag _ _,⟨λx hm=>?_,I.1.2⟩,I.2⟩;rcases bw.1 hm with h|h
   ·exact I.1.1 x h
   ·simp at h;subst h;exact dp
 case stop=>
  rintro D c pre W hD gk ⟨⟨rfl,q,x,rfl,hq,hx,h1,U⟩,hB⟩ hK;rw[hA];obtain⟨he,dd⟩:=back_mem gk;obtain⟨k,hk,hP,ig,_,hQ⟩:=cU.o _ _ he
  have ih:=zn ks p (Dt p) _ k hk (by rw[<-hP];exact hx) (λi k' hi hO e=>by obtain⟨y,hy,ds⟩:=cV.o i k' hO;exact hq _ (dd i y hi hy) (by rw[ds];exact e))
  obtain⟨⟨q1,H,z⟩,j⟩:=x
  gi_wp2
  refine⟨by simp,.inl ⟨_,_,rfl,run_takeDeferred hK,?_⟩⟩;have fs:=grownBy_putObj' W D (.deferred none);have cg:∀ k,k<w.heap.size+4->some k≠some D:=λk hk e=>by simp at e;omega
  have e1:=(h1.kept fs (cg _ om)).cell;have e2:=(U.kept fs (cg _ om)).cell;have cW:Below w.heap.size w (W.putObj D (.deferred none)):=hB.trans (belowK_b (w:=w) (ae _) W D _ _ om hK rfl rfl);refine⟨.tuple #[ir H 64 z,iw 0],?_,H,z,rfl,?_,S.n,by omega,hz.o.after cW,kh.dE cW⟩
  ·simp[results,f49,go_sem,e1,e2,kv]
  ·exact hQ.kj (aQ.dE cW No) (λ_ _ _=>id)
 case done=>
  rintro D ys W hD rfl I hK
  have hS:=qR ks p (Dt p) (λk hk e=>by obtain⟨i,hi,rfl⟩:=dI hk;obtain⟨y,hy,ds⟩:=cV.o i _ (av hi);refine I.1.1 (y,i) ?_ (by rw[ds];exact e);unfold oK;rw[List.mem_reverse];refine aZ (i:=i) ?_;rw[fM,hy];simp)
  rw[hA];have ba:Below w.heap.size w W:=cr.trans (I.2.mono om);have da:=HV.o W ba;have cd:=LH (show ∀ f,aQ No W.drew f->aQ No W f from λf h=>⟨h.os,h.tape,h.output,h.size,h.block⟩);have z0:=I.1.2.1.cell;have c7:=(da.fix.rest da.base.len).2.1;rw[<-cu.o,<-T.o] at c7;have fb:=LH (λf (h:aQ No W.drew f)=>(((cd.o f h).cell (p:=iu v 107) (kZ c7) id).trans c7));have M:=LH (λf (h:aQ No W.drew f)=>(((cd.o f h).cell (p:=iu w.heap.size 0) (kZ z0) id).trans z0));have fu:=LH (λf (h:aQ No W.drew f)=>c6.o f (ba.trans ((cd.o f h).no.mono ba.size)));have e8:=LH I;have eb:=LH hK;replace ba:=LH ba;clear c7 z0 I hK c6 HC da
  go_wp2_with fail
  refine RA.rt (aQ No) [1,1,1,1,1,1,4,1] [] (λ_=>True) trivial (λ_=>aQ.refl _ _) (λ_ _ _ h k=>h.trans k) (h:=?_);intro cx
  repeat refine RA.qq ?_
  refine RA.fk prog v 106 (h:=?_);refine RA.fk prog v 107 (h:=?_);refine RA.lk prog (iq m) (hc:=λf hp=>by exact fb.o _ hp.1) (h:=?_);refine RA.lk prog (iw p) (hc:=λf hp=>by exact M.o _ hp.1) (h:=?_);refine RA.kc (P:=prog) [iq m,iw p] (.bool true) (hr:=λf hp hH=>(fu.o f hp.1).mono (by rintro e w4 ⟨rfl,rfl⟩;exact⟨rfl,aQ.refl _ _,trivial⟩)) (hn:=?_);refine RA.nt (h:=?_);refine RA.RA.done rfl (λw6 hR hF hH=>?_);clear hF hH;simp only[RA.RP,cx]
  try simp only[cn]
  try simp only[cG]
  have b6:=cd.o _ hR;clear hR;have b8:Below w.heap.size w w6:=ba.o.trans (b6.no.mono ba.o.size);have bC:=(b6.block D (dD eb.o) id).trans eb.o;have a7:=e8.o;have z0:=(show Boxed w6 _ _ _ from (b6.block _ a7.1.2.1.lt id).trans a7.1.2.1);have z1:=(show Boxed w6 _ _ _ from (b6.block _ a7.1.2.2.1.lt id).trans a7.1.2.2.1);have z2:=(show Boxed w6 _ _ _ from (b6.block _ a7.1.2.2.2.lt id).trans a7.1.2.2.2);have hT:w.heap.size+4<=w6.heap.size:=by have:=a7.2.size;have:=b6.size;omega
  have J:=HV.o w6 b8;clear a7 b6 e8 fb M fu cd gv cU cV;have O:=LH (show ∀ f,aQ No w6.drew f->aQ No w6 f from λf h=>⟨h.os,h.tape,h.output,h.size,h.block⟩);have cA:=LH (λf (h:aQ No w6 f)=>J.below h.no);have y0:=LH (λf (h:aQ No w6 f)=>(show f.cell? (iu w.heap.size 0)=some (iw p) from (h.cell (p:=iu w.heap.size 0) z0.lt id).trans z0.cell));have d0:=LH (λf (h:aQ No w6 f)=>(show f.cell? (iu v 0)=some (iq G.d) by rw[T.o];exact (J.below h.no).fix.base (J.base.len) J.base.c0));have d104:=LH (λf (h:aQ No w6 f)=>(show f.cell? (iu v 104)=some (iw 60) by rw[T.o];exact (J.below h.no).fix.base (J.base.len) J.base.tz));have bB:=LH (λf (h:aQ No w6 f)=>Go.Proofs.YthmcbgidehjlbaaGreat.D.xk (J.below h.no).nE.at_ J.nE.none (60+p) (by rw[J.nE.size];omega));obtain⟨Z,hZ⟩:=Ex (S.X.at (60+p));have hJ:Z.length=64:=by rw[hZ];exact DB J.nE _ om
  rw[<-hZ] at bB;obtain⟨P6,c8⟩:=Ex (60+p);have cz:(60:Int)+p=P6:=om;have ec:P6<120:=om;rw[<-c8] at bB;refine G8 c8 hZ J b8 bC z1 z2 z0 ?_;clear c8 hZ J b8 bC z1 z2 z0;intro c8 hZ J b8 bC z1 z2 z0
  go_wp2_with fail
  refine RA.rt (aQ No) [1,1,1,1,1,1,1,1,1,1,1,1,1,3,1,1,1,1,1] [] (λ_=>True) trivial (λ_=>aQ.refl _ _) (λ_ _ _ h k=>h.trans k) (h:=?_);intro cx
  repeat refine RA.qq ?_
  refine RA.fk prog v 0 (h:=?_);refine RA.fk prog v 0 (h:=?_);refine RA.lk prog (iq G.d) (hc:=λf hp=>by exact d0.o _ (O.o _ hp.1)) (h:=?_)
  repeat refine RA.qq ?_
  refine RA.fk prog v 0 (h:=?_);refine RA.fk prog v 104 (h:=?_);refine RA.fk prog v 104 (h:=?_);refine RA.lk prog (iw 60) (hc:=λf hp=>by exact d104.o _ (O.o _ hp.1)) (h:=?_);refine RA.lk prog (iw p) (hc:=λf hp=>by exact y0.o _ (O.o _ hp.1)) (h:=?_);refine RA.ai (r:=(P6:Int)) (he:=cz) (h:=?_)
  refine RA.qc (P:=prog) [iq G.d,iw P6] (λv f=>∃ u,v=.tuple #[u,iw 0]/\f.ownsRow w6.heap.size 5 1 u 64 (dB Z)) (hs:=λv a b h U=>by
   obtain⟨u,k1,k2⟩:=U;exact⟨u,k1,gF k2 (λg hg=>h.block g (kp k2 g hg) id)⟩) (hr:=λf hp hH=>by
   refine (bB.o f (O.o _ hp.1)).mono ?_;rintro e w4 ⟨v,rfl,k1,k2⟩;exact⟨_,rfl,aQ.dE k2 _,⟨v,rfl,kT k1 (O.o _ hp.1).size⟩,trivial⟩) (hn:=λu=>?_)
  repeat refine RA.qq ?_
  refine RA.vk prog (kY u 0) (hr:=λf hp=>by obtain⟨v,rfl,_⟩:=hp.fact 0 rfl kr;clear hp;go_simp;rfl) (h:=?_)
  refine RA.vk prog (kY u 1) (hr:=λf hp=>by obtain⟨v,rfl,_⟩:=hp.fact 0 rfl kr;clear hp;go_simp;rfl) (h:=?_)
  repeat refine RA.qq ?_
  refine RA.RA.done rfl (λw8 hR hF hH=>?_);clear hH;simp only[RA.RP,cx];have a1:=O.o _ hR;obtain⟨uv,rfl,bR⟩:=hF _ (cq ..);clear hF hR;simp only[kY,TP];obtain⟨H,z,rfl,_⟩:=kz bR om;have V8:=cA.o w8 a1;have cb:Below w.heap.size w w8:=b8.o.trans (a1.no.mono b8.o.size);have bW:=(a1.block _ z0.o.lt id).trans z0.o;have cj:=(a1.block _ z1.o.lt id).trans z1.o;have ck:=(a1.block _ z2.o.lt id).trans z2.o;have K8:=(a1.block D (dD bC.o) id).trans bC.o;have hU:w.heap.size+4<=w8.heap.size:=am hT a1.size;clear a1 cA y0 d0 d104 bB O z0 z1 z2 bC b8 J;have af:=LH (show ∀ f,BX No G.b w8.drew f->BX No G.b w8 f from λf h=>⟨⟨_,V8.book⟩,h.b1,h.g.drew⟩)
  have c9:=LH (show ∀ f,BX No G.b w8 f->∃ n',lV G f L ks ki Dt { S with n:=n' } from λf h=>by obtain⟨n',hb⟩:=h.b1;exact⟨n',V8.pZ h.g hb⟩)
  have d106:=LH (λf (h:BX No G.b w8 f)=>(show f.cell? (iu v 106)=some (iq S.t) by obtain⟨n',hv⟩:=c9.o f h;rw[T.o];exact (hv.fix.rest hv.base.len).1))
  have cT:=LH (λf (h:BX No G.b w8 f)=>(show f.cell? (iu w.heap.size 0)=some (iw p) by rw[cell_of (h.g.at V8.book bW id de de)];rfl))
  have cK:=LH (λf (h:BX No G.b w8 f) (hB:Bk f G.b S.n)=>(show Calls prog 72 #[iq S.t,iw p,ir H 64 z] f λe w'=>e=.returned (.bool true)/\Bk w' G.b (S.n+1)/\kh No G.b f w' by obtain⟨n',hv⟩:=c9.o f h;have hW:=h.g.own V8.book bR (λ_ _=>id) de de;have hh:=cc.o;rw[<-hZ.o] at hh;exact K3 hv.tree hv.bN hv.l4 hB om p hp (by rw[hJ];exact hW) om om hh.2.1 hh.2.2))
  have a8:BX No G.b w8.drew w8.drew:=⟨⟨_,V8.book.dC (λ_ _ _=>rfl)⟩,⟨_,V8.book.dC (λ_ _ _=>rfl)⟩,kh.refl⟩;have a6:Bk w8.drew G.b S.n:=V8.book.dC (λ_ _ _=>rfl);refine G9 a8 a6 V8 cb bW cj ck K8 bR ?_;clear a8 a6 V8 cb bW cj ck K8 bR;intro a8 a6 V8 cb bW cj ck K8 bR
  go_wp2_with fail
  refine RA.region (BX No G.b) (λx y=>(∃ n,Bk x G.b n)/\aQ No x y) [1,1,1,1,1,1,1,4,1] (λ_ _ _=>True) (λf=>Bk f G.b S.n) kr a8.o (λ_ _ h=>by obtain⟨⟨n,h1⟩,U⟩:=h;exact BX.mw h1 U) (λ_ _ _=>BX.trans) (λ_ _ h k=>k.after h.2.no) a6.o kr ?_;intro cx
  repeat refine RA.qq ?_
  refine RA.fk prog v 106 (h:=?_);refine RA.fk prog v 106 (h:=?_);refine RA.lk prog (iq S.t) (hc:=λf hp=>by exact d106.o _ (af.o _ hp.1)) (h:=?_);refine RA.lk prog (iw p) (hc:=λf hp=>by exact cT.o _ (af.o _ hp.1)) (h:=?_)
  repeat refine RA.qq ?_
  refine RA.kc (P:=prog) [iq S.t,iw p,ir H 64 z] (.bool true) (λf=>Bk f G.b (S.n+1)) (he:=λ_ _ h k=>k.after h.2.no) (hr:=(λf hp hH=>by have R:Bk f G.b S.n:=hH;refine (cK.o f (af.o _ hp.1) R).mono ?_;rintro e w4 ⟨rfl,k1,k2⟩;exact⟨rfl,⟨⟨_,R⟩,⟨_,k1⟩,k2⟩,k1⟩)) (hn:=?_)
  refine RA.nt (h:=?_);refine RA.RA.done rfl (λN hR hF hH=>?_);clear hF;simp only[RA.RP,cx]
  try simp only[cn]
  have aa:=af.o _ hR;have V:Bk N G.b (S.n+1):=hH;clear hR hH;have V9:=V8.o.pZ aa.g V;have dT:=aa.g.at V8.o.book bW.o id de de;have b4:=aa.g.at V8.o.book cj.o id de de;have b5:=aa.g.at V8.o.book ck.o id de de
  have K9:N.heap[D]?=some (.deferred (some [])):=(aa.g.block D (dD K8.o) (λe=>e.elim id (λe=>by obtain⟨cs,ty,m',hc,_⟩:=ku.obj V8.o.book e;rw[K8.o] at hc;cases hc))).trans K8.o
  have iB:w.heap.size+4<=N.heap.size:=am hU aa.g.size;have G9:kh No G.b w N:=(kh.dE (aQ.dE cb.o No).no).trans aa.g;clear aa af c9 d106 cT cK a8 a6 V8 cb bW cj ck K8 bR;obtain⟨s1,dn⟩:=Ex (w.heap.size+1);obtain⟨C,hC⟩:=Ex (λg=>g=w.heap.size+1\/g=w.heap.size+1+1:Nat->Prop)
  have b7:∀ g,g<w.heap.size+1->¬ C g:=λg hg=>by rw[hC];rintro (e|e)<;>omega
  have bz:∀ g,N.heap.size<=g->¬ C g:=λg hg=>by rw[hC];rintro (e|e)<;>omega
  have V0:=HV.o w (ag _ _);have cP:=T.o;have ed:=LH (λf (h:aQ C N f)=>(show mS f G.v (nb G.xs S.t S.m S.num G.r) from V9.fix.kept (λj _ _=>h.cell (p:=iu G.v j) V9.zD (b7 _ (by show G.v<_;omega)))));have gb:=LH (λf (h:aQ C N f)=>(ed.o f h).load V9.base.len);have d104:=LH (λf (h:aQ C N f)=>(show f.cell? (iu v 104)=some (iw 60) by rw[cP];exact (ed.o f h).base V9.base.len V9.base.tz))
  have gA:=LH (λf (h:aQ C N f)=>(show f.cell? (iu w.heap.size 0)=some (iw p) by rw[cell_of ((h.block _ (dD dT) (b7 _ om)).trans dT)];rfl))
  have dg:=LH (λf (h:aQ C N f)=>(show Calls prog 73 #[.agg G.xs.toArray,iw P6] f λe w'=>∃ u,e=.returned (.tuple #[u,iw 0])/\w'.ownsRow f.heap.size 5 1 u 64 (dB (Dt p))/\Below f.heap.size f w' by
   have iC:=dD V0.su;have ic:=V0.nE.self;have ho:=Lr (w:=f) V9.base ((h.block _ (dD V9.su) (b7 _ om)).trans V9.su) (V9.nE.dC h.size (λg hg=>h.block g (by have:=V9.nE.self;rcases hg with rfl|rfl;exact this.1;exact this.2) (b7 _ (by rcases hg with rfl|rfl<;>omega)))) P6 ec
   have e1:sl G.A P6 (S.X.at P6)=Dt p:=by rw[c8.o,cc.o.1,Lo (by rw[V0.cont.len])]
   rw[e1] at ho;exact ho))
  have fi:=V0.cont.len p;have bA:=LH (show ∀ f,aQ C N.drew f->aQ C N f from λf h=>⟨h.os,h.tape,h.output,h.size,h.block⟩);have cl:C (w.heap.size+1)/\C (w.heap.size+1+1):=by rw[hC];exact⟨.inl rfl,.inr rfl⟩
  obtain⟨c,ct⟩:=Ex G.xs.toArray;rw[<-ct] at gb dg;obtain⟨Z9,ca⟩:=Ex (Dt p);rw[<-ca] at dg fi;refine G8 ca ct hC b7 bz dn G9 V ?_;clear ca ct hC b7 bz dn G9 V;intro ca ct hC b7 bz dn G9 V;refine G4 V9 b4 b5 K9 ?_;clear V9 b4 b5 K9;intro V9 b4 b5 K9;clear cP V0 dT
  go_wp2_with fail
  refine RA.region (aQ C) (·=·) [1,1,1,1,1,1,1,1,1,1,1,1,3,1,1,4,4] (λ_ _ _=>True) (λx=>aQ No N x) kr (aQ.refl _ _) (λ_ _ e=>e ▸ aQ.refl _ _) (λ_ _ _ h k=>h.trans k) (λ_ _ e k=>e ▸ k) ((aQ.refl _ _).drew) kr ?_;intro cx
  repeat refine RA.qq ?_
  refine RA.fk prog v 0 (h:=?_)
  refine RA.ld (y':=.agg c) (hr:=λf hp=>by have h:=gb.o f (bA.o _ hp.1);rw[<-T.o] at h;exact h) (h:=?_)
  repeat refine RA.qq ?_
  refine RA.fk prog v 0 (h:=?_);refine RA.fk prog v 104 (h:=?_);refine RA.fk prog v 104 (h:=?_);refine RA.lk prog (iw 60) (hc:=λf hp=>by exact d104.o _ (bA.o _ hp.1)) (h:=?_);refine RA.lk prog (iw p) (hc:=λf hp=>by exact gA.o _ (bA.o _ hp.1)) (h:=?_);refine RA.ai (r:=(P6:Int)) (he:=cz) (h:=?_)
  refine RA.qc (P:=prog) [.agg c,iw P6] (λv f=>∃ H z,v=.tuple #[ir H 64 z,iw 0]/\f.ownsRow N.heap.size 5 1 (ir H 64 z) 64 (dB Z9)) (λv f=>aQ No N f) (hs:=λv x y hr hk=>by
   obtain⟨H,z,h1,U⟩:=hk;exact⟨H,z,h1,gF U (λg hg=>hr.block g (kp U g hg) (bz.o g (kK U g hg)))⟩) (hr:=(λf hp hH=>by
   have R:aQ No N f:=hH;refine (dg.o f (bA.o _ hp.1)).mono ?_;rintro e w4 ⟨u,rfl,k1,k2⟩;obtain⟨H,z,rfl,_⟩:=kz k1 om;exact⟨_,rfl,aQ.dE k2 _,⟨H,z,rfl,kT k1 R.size⟩,R.trans (aQ.dE k2 No)⟩)) (hn:=λu=>?_)
  refine RA.vk prog (kY u 0) (hr:=λf hp=>by obtain⟨H,z,rfl,_⟩:=hp.fact 0 rfl kr;clear hp;go_simp;rfl) (h:=?_)
  refine RA.vk prog (kY u 1) (hr:=λf hp=>by obtain⟨H,z,rfl,_⟩:=hp.fact 0 rfl kr;clear hp;go_simp;rfl) (h:=?_)
  refine RA.st (λx=>∃ x0 H z,aQ No N x0/\u=.tuple #[ir H 64 z,iw 0]/\x0.ownsRow N.heap.size 5 1 (ir H 64 z) 64 (dB Z9)/\x=x0.setCell (iu (w.heap.size+1) 0) (ir H 64 z)) (hr:=(λf hp hH=>by obtain⟨H,z,rfl,h5⟩:=hp.fact 0 rfl kr;have R:aQ No N f:=hH;have hb:=(show Boxed f _ _ _ from (R.block _ (dD b4.o) id).trans b4.o);have e1:=hb.cell;have e2:=hb.frozen;refine⟨f.setCell (iu (w.heap.size+1) 0) (ir H 64 z),RA.kL rf rf ?_,(aQ.refl C f).setCell (λ_=>cl.1) _,f,H,z,R,rfl,h5,rfl⟩;clear hp R h5;show (Instr.storeAt 42 (iq (w.heap.size+1)) (ir H 64 z)).run prog f=_;go_simp)) (hn:=?_)
  refine RA.st (λx=>∃ x0 H z,aQ No N x0/\x0.ownsRow N.heap.size 5 1 (ir H 64 z) 64 (dB Z9)/\x=(x0.setCell (iu (w.heap.size+1) 0) (ir H 64 z)).setCell (iu (w.heap.size+1+1) 0) (iw 0)) (hr:=λf hp hH=>by obtain⟨x0,H,z,M,rfl,h5,rfl⟩:=hH;have en:=(show Boxed x0 _ _ _ from (M.block _ (dD b5.o) id).trans b5.o);have hb:=en.kept (grownBy_setCell' x0 (w.heap.size+1) (ir H 64 z)) sm;have e1:=hb.cell;have e2:=hb.frozen;refine⟨(x0.setCell (iu (w.heap.size+1) 0) (ir H 64 z)).setCell (iu (w.heap.size+1+1) 0) (iw 0),RA.kL rf rf ?_,(aQ.refl C _).setCell (λ_=>cl.2) _,x0,H,z,M,h5,rfl⟩;clear hp M h5 hb en;generalize x0.setCell (iu (w.heap.size+1) 0) (ir H 64 z)=x1 at*;show (Instr.storeAt 47 (iq (w.heap.size+1+1)) (iw 0)).run prog x1=_;go_simp) (hn:=?_)
  refine RA.RA.done rfl (λQ hR hF hH=>?_);clear hF hR;simp only[RA.RP,cx];obtain⟨x0,H,z,M,h5,b3⟩:=hH
  have hL:Boxed Q (w.heap.size+1) 42 (ir H 64 z):=by rw[b3];exact ((show Boxed x0 _ _ _ from (M.block _ (dD b4.o) id).trans b4.o).set (ir H 64 z)).kept (grownBy_setCell' _ _ (iw 0)) sm
  have hM:Boxed Q (w.heap.size+1+1) 47 (iw 0):=by rw[b3];exact ((show Boxed x0 _ _ _ from (M.block _ (dD b5.o) id).trans b5.o).kept (grownBy_setCell' _ _ (ir H 64 z)) sm).set (iw 0)
  have bl:∀ g,g≠w.heap.size+1->g≠w.heap.size+1+1->Q.heap[g]?=x0.heap[g]?:=λg h1 U=>by rw[b3,kA _ _ _ (by simpa using U),kA _ _ _ (by simpa using h1)]
  have c5:aQ C N Q:=by rw[b3];exact ((aQ.mono M (λ_ _ e=>e.elim)).setCell (λ_=>cl.1) _).setCell (λ_=>cl.2) _
  have e5:D≠w.heap.size+1/\D≠w.heap.size+1+1:=om;have e0:Q.heap[D]?=some (.deferred (some [])):=(bl D e5.1 e5.2).trans ((M.block D (dD K9.o) id).trans K9.o);have e4:Q.ownsRow N.heap.size 5 1 (ir H 64 z) 64 (dB Z9):=gF h5 (λg hg=>bl g (by have:=kK h5 g hg;omega) (by have:=kK h5 g hg;omega));clear b3 bl
  go_wp2_with fail
  refine⟨by simp,.inl ⟨_,_,rfl,run_takeDeferred e0,?_⟩⟩;have an:=grownBy_putObj' Q D (.deferred none);have cg:∀ k,k<w.heap.size+4->some k≠some D:=λk hk e=>by simp at e;omega
  have e1:=(hL.kept an (cg _ om)).cell;have e2:=(hM.kept an (cg _ om)).cell
  have hE:aQ (λg=>w.heap.size<=g) N (Q.putObj D (.deferred none)):=(aQ.mono c5 (λg _ e=>by rw[hC.o] at e;show w.heap.size<=g;rcases e with e|e<;>omega)).grown an (λk e _=>by cases e;show w.heap.size<=_;omega)
  have GF:kh No G.b w (Q.putObj D (.deferred none)):=G9.o.then hE (λg hg e=>by have:w.heap.size<=g:=e;omega) (λ_ e=>by have:w.heap.size<=G.b:=e;omega)
  have BF:Bk (Q.putObj D (.deferred none)) G.b (S.n+1):=V.o.dC (λg hg hl=>by
   refine (an.block g (aH hl c5.size) (λe=>?_)).trans (c5.block g hl (λe=>?_))
   ·obtain⟨cs,ty,m',hc,_⟩:=ku.obj V.o hg;cases e
    rw[K9.o] at hc;cases hc
   ·rw[hC.o] at e;rcases e with e|e
    ·exact ku.type V.o b4.o de de (e ▸ hg)
    ·exact ku.type V.o b5.o de de (e ▸ hg))
  have hG:(ir H 64 z).ownBlock≠some D:=λe=>by obtain⟨cur,hc⟩:=kx e4 e;rw[e0] at hc;cases hc
  have e7:=e4.kept an (.inr hG);refine⟨.tuple #[ir H 64 z,iw 0],?_,H,z,S.n+1,rfl,?_,ae _,BF,GF⟩
  ·simp[results,f49,go_sem,e1,e2]
  ·rw[hS,<-ca.o];show Cells _ _ _ _ _ _;rw[fi];exact (Cells.own e7).mono (λ_ _ _=>trivial)
end Go.Proofs.YthmcbgidehjlbaaGreat.Fd
namespace Go.Proofs.YthmcbgidehjlbaaGreat.Fd
open _root_.Go.Proofs.Tryz
open Go Go.RowKit K
section
variable {G:VG}{w w':World}{L:iz}{ks:List (Nat×iz)}{ki:Bool}{Dt:Nat->iz}{S:VT}
theorem Lu (hV:lV G w L ks ki Dt S) (hn:S.n<800000) (p:Nat) (hp:p<50):
  Calls prog 49 #[iq G.v,iw p] w λe w'=>∃ g c n',e=.returned (.tuple #[ir g 64 c,iw 0])/\Bytes w' (λ_=>True) (ir g 64 c) (kQ ks p (Dt p))/\n'<=S.n+1/\Bk w' G.b n'/\kh No G.b w w':=by
 cases h0:nB L p with
 | true=>exact Lt hV hn p hp h0
 | false=>refine (CT hV.kC p hp h0).mono ?_;rintro e w' ⟨g,c,rfl,h1,a⟩;rw[<-hV.cont.Dh p hp h0] at h1;exact⟨g,c,S.n,rfl,h1,by omega,hV.book.after a,kh.dE a⟩
def rI (ks:List (Nat×iz)) (Dt:Nat->iz) (i:Nat):Nat->iz
 | 0=>[]
 | n+1=>rI ks Dt i n++kQ ks (i+n) (Dt (i+n))
theorem lV.zL (h:lV G w L ks ki Dt S) (p:Nat):(kQ ks p (Dt p)).length=64:=xB ks p _ 64 (h.cont.len p) h.kC.lens
theorem DC (h:lV G w L ks ki Dt S) (i:Nat):∀ n,(rI ks Dt i n).length=n*64
 | 0=>rfl
 | n+1=>by rw[rI,aE,DC h i n,h.zL];omega
theorem Lv (hV:lV G w L ks ki Dt S) (hn:S.n<700000) (i n:Nat) (hin:i+n<=50):
  Calls prog 18 #[iq G.v,iw i,iw n] w λe w'=>∃ u n',e=.returned (.tuple #[u,iw 0])/\w'.ownsRow w.heap.size 5 1 u (n*64) (dB (rI ks Dt i n))/\n'<=S.n+n/\Bk w' G.b n'/\kh No G.b w w':=by
 have P:(iy 0).cells.size=1:=rfl;have A:=LH (yY hV.kC i n hin);have t:=LH (λQ (n1:Nat) (Y:Bk Q G.b n1) (hg:kh No G.b w Q) (h1:n1<800000) (p:Nat) (hp:p<50)=>Lu (hV.pZ hg Y) h1 p hp);have hlen:=LH (DC hV i);have O:=LH hV.zL;have Z:=LH (λ(j:Nat)=>(show rI ks Dt i (j+1)=rI ks Dt i j++kQ ks (i+j) (Dt (i+j)) from rfl));have X:=LH (show rI ks Dt i 0=[] from rfl);have a1:=hV.blt;have H:=LH hV.book;have T:¬ (64:Int)<n:=om;obtain⟨v,hv⟩:=Ex G.v;rw[<-hv] at A t ⊢;replace hv:=LH hv;replace hV:=LH hV;go_enter func18,ntmps18
 go_wp2_with fail
 refine A.o.mono ?_;rintro e Q ⟨rfl,l⟩;replace l:=LH l;clear A;go_wp2
 go_loopg [6,25] n (λg o ix wr=>∃ (j n1:Nat),j+g=n/\ix=iw j/\n1<=S.n+j/\Hd (wr.ownsRow w.heap.size 5 1 o (j*64) (dB (rI ks Dt i j)))/\Hd (Bk wr G.b n1)/\Hd (kh No G.b w wr))
 case atStart=>exact⟨0,S.n,by omega,rfl,by omega,by show World.ownsRow _ _ _ _ _ _ _;rw[X.o];exact aS _ _ _ _,H.o.after l.o,kh.dE l.o⟩
 case round=>
  obtain⟨j,n1,I,rfl,N,F,D,E⟩:=hrel;clear l;by_cases M:j<n
  ·obtain⟨g1,rfl⟩:∃ i,gk=i+1:=⟨gk - 1,by omega⟩;have J:(j:Int)<n:=om;obtain⟨p,hp⟩:=Ex (i+j);have hs:=LH (t.o wr n1 D.o E.o om p om);have a7:(i:Int)+j=p:=om;have a:=Z.o j;have f:=O.o p;rw[<-hp] at a;obtain⟨PP,q⟩:=Ex (kQ ks p (Dt p));rw[<-q] at hs a f;refine G4 q a f hp ?_;clear q a f hp;intro q a f hp
   go_wp2_with fail
   refine hs.o.mono ?_;rintro e R ⟨ug,uc,U,rfl,s,a6,d,y⟩;have m:=y.own D.o F.o (λ_ _=>id) de de;have c:=E.o.trans y;have B:=LH (λg=>kK m g)
   have C:=LH (show ∀ (o:Value) (k:Nat) (xs:List Value),R.ownsRow w.heap.size 5 1 o k xs->∀ g,o.ownBlock=some g->¬ ku R G.b g from λo k xs ho g hg=>by obtain⟨cur,hc⟩:=kx ho hg;exact ku.type d hc de de)
   have r:=C.o _ _ _ m;have a8:=c.size;refine G4 s c d r ?_;clear s c d r;intro s c d r;clear hs y F D E C
   go_wp2_with (at_builtin;refine K.append ?_ (.tmp 39) (.tmp 40) 42 ?_ w.heap.size 5 (iy 0) 1 1 underlying42 np P om _ (j*64) _ ?_ m (λ_=>True) _ 64 (dB PP) ?_ (by have h:=s.o;unfold Bytes at h;rw[f.o] at h;exact h) (K.nO PP) mx om ?_ ?_)
   any_goals (first|rfl|omega)
   intro v3 V y1 y2 y3 y4;have W:=LH y1;have z:kh No G.b w V:=c.o.then ((aQ.refl _ R).grown y2 (λ_ h _=>h)) (λg hg e=>absurd (B.o g e) om) (λ_ e=>absurd (B.o _ e) om);have x:Bk V G.b U:=d.o.dC (λg hg hl=>y2.block g hl (λe=>r.o g e.symm hg));replace z:=LH z;replace x:=LH x;clear y1 y2 y3 y4 m;go_wp2;go_roundg g1
   case measure=>omega
   case rel=>refine⟨j+1,U,by omega,by go_num,by omega,?_,x.o,z.o⟩;show World.ownsRow _ _ _ _ _ _ _;have h:=W.o;rw[a.o,nH,show (j+1)*64=j*64+64 by omega];exact h
  ·obtain rfl:gk=0:=om;obtain rfl:j=n:=om;have J:¬ (j:Int)<j:=om;clear I M;go_wp2;go_ret2;exact⟨_,rfl,F.o,n1,N,D.o,E.o⟩
end
variable {w:World}
structure kJ where
 L:iz
 ks:List (Nat×iz)
 ki:Bool
 Dt:Nat->iz
def kJ.sync (s:kJ):kJ:=⟨lp s.L s.ks,[],s.ki,λp=>kQ s.ks p (s.Dt p)⟩
def kJ.full (s:kJ):kJ:=if 64<=s.ks.length then s.sync else s
def kJ.push (s:kJ) (i:Nat) (l:iz) (n:Nat):kJ:=⟨s.L,s.ks++lU i l n,s.ki,s.Dt⟩
def kJ.pj (s:kJ):kJ:=⟨s.L,s.ks,true,s.Dt⟩
def kJ.c (s:kJ) (p:Nat):iz:=kQ s.ks p (s.Dt p)
def kJ.wm (s:kJ):iz:=lp s.L s.ks
abbrev mM (G:VG) (w:World) (s:kJ) (S:VT):Prop:=lV G w s.L s.ks s.ki s.Dt S
def sn (w:World) (m g:Nat):Prop:=∃ n c,w.cell? (iu m 1)=some (ir g n c)
structure Step (G:VG) (w w':World) (S S':VT) (k:Nat):Prop where
 lR:l3 G w w'
 xM:∀ g,sn w' S'.m g->sn w S.m g\/w.heap.size<=g
 n:S'.n<=S.n+9*k
 num:S'.num<=S.num+k
 my:S'.my<=S.my+k
section
variable {G:VG}{w w' w2:World}{s:kJ}{S S' S2:VT}{k j:Nat}
theorem Step.trans (h:Step G w w' S S' k) (h2:Step G w' w2 S' S2 j):Step G w w2 S S2 (k+j):=⟨h.lR.trans h2.lR,λg hg=>(h2.xM g hg).elim (h.xM g) (λe=>.inr (am h.lR.kj.size e)),by have:=h.n;have:=h2.n;omega,by have:=h.num;have:=h2.num;omega,by have:=h.my;have:=h2.my;omega⟩
theorem Step.mono (h:Step G w w' S S' k) (hj:k<=j):Step G w w' S S' j:=⟨h.lR,h.xM,by have:=h.n;omega,by have:=h.num;omega,by have:=h.my;omega⟩
theorem sn.same (hm:w'.heap[S.m]?=w.heap[S.m]?){g:Nat}(h:sn w' S.m g):sn w S.m g:=by obtain⟨n,c,e⟩:=h;exact⟨n,c,(az (w:=w) (a:=iu S.m 1) hm).symm.trans e⟩
theorem nn.obj {L:iz}{ks:List (Nat×iz)}{ki:Bool}{Dt:Nat->iz}(h:lV G w L ks ki Dt S){g:Nat}(hg:nn G w g):∃ cs t,w.heap[g]?=some (.cells cs t (0,0))/\(t=104\/t=111\/t=223\/t=145\/t=122\/t=5\/t=176)/\(t=5->g=G.sb):=by
 rcases hg with e|e|rfl|rfl|rfl
 ·obtain⟨cs,t,h1,a⟩:=kF.type h.kC e;exact⟨cs,t,h1,by rcases a with a|a<;>simp[a],λe=>by rcases a with rfl|rfl<;>exact absurd e de⟩
 ·rcases e with rfl|e
  ·obtain⟨lv,hb⟩:=h.book.box;exact⟨_,_,hb,by simp,λe=>absurd e de⟩
  ·obtain⟨lv,hb⟩:=h.book;have b:=wU hb e.2;obtain⟨xs,a⟩:=hb.row;obtain⟨cur,hc⟩:=kx a b;exact⟨_,_,hc,by simp,λe=>absurd e de⟩
 ·obtain⟨⟨cs,e⟩,_⟩:=h.nE.types;exact⟨_,_,e,by simp,λe=>absurd e de⟩
 ·obtain⟨_,cs,e⟩:=h.nE.types;exact⟨_,_,e,by simp,λ_=>rfl⟩
 ·obtain⟨dv,mv,e,_⟩:=h.ring;exact⟨_,_,e,by simp,λe=>absurd e de⟩
theorem nn.lt {L:iz}{ks:List (Nat×iz)}{ki:Bool}{Dt:Nat->iz}(h:lV G w L ks ki Dt S){g:Nat}(hg:nn G w g):g<w.heap.size:=by obtain⟨cs,t,e,_⟩:=nn.obj h hg;exact dD e
theorem l3.at {L:iz}{ks:List (Nat×iz)}{ki:Bool}{Dt:Nat->iz}(h:lV G w L ks ki Dt S) (hs:l3 G w w'){g:Nat}{cs:Array Value}{t:TypeId}{m:Nat×Nat}(hg:w.heap[g]?=some (.cells cs t m)) (ht:t≠104/\t≠111/\t≠223/\t≠145/\t≠122/\t≠5/\t≠176):w'.heap[g]?=w.heap[g]?:=by refine hs.kj.block g (dD hg) (λe=>?_);obtain⟨j,k,h1,i,_⟩:=nn.obj h e;rw[hg] at h1;simp only[IJ] at h1;obtain⟨_,rfl,_⟩:=h1;obtain⟨a,b,c,d,e,f,g⟩:=ht;rcases i with i|i|i|i|i|i|i<;>contradiction
theorem lV.vN {L:iz}{ks ks':List (Nat×iz)}{ki lat':Bool}{Dt:Nat->iz}(h:lV G w L ks ki Dt S) (hv:kI w' G.v S.m L ks' lat') (hc:aQ (kF w G.v) w w') (hk:oF G.v w w'):lV G w' L ks' lat' Dt S:=by
 have b:∀ (g:Nat) (cs:Array Value) (ty:TypeId) (m:Nat×Nat),w.heap[g]?=some (.cells cs ty m)->ty≠104->ty≠111->w'.heap[g]?=w.heap[g]?:=λg cs ty m hg h1 d=>hc.block g (dD hg) (λe=>by obtain⟨f,t,c,l⟩:=kF.type h.kC e;rw[hg] at c;simp only[IJ] at c;obtain⟨_,rfl,_⟩:=c;exact l.elim h1 d)
 obtain⟨⟨o,k⟩,⟨n,j⟩⟩:=h.nE.types
 refine⟨hv,h.base,h.fix.kept hk,(b _ _ _ _ h.su de de).trans h.su,h.tree.exact (λg hg=>?_),h.bN,h.l4,h.marks.dC (λg cs ty _ a hg=>b g _ _ _ hg (by rcases a with rfl|rfl<;>decide) (by rcases a with rfl|rfl<;>decide)),h.ring.dC h.br (λg cs ty _ a hg=>b g _ _ _ hg (by rcases a with rfl|rfl<;>decide) (by rcases a with rfl|rfl<;>decide)),h.br,
  h.nE.dC hc.size (λg hg=>by
   rcases hg with rfl|rfl
   ·exact b _ _ _ _ k de de
   ·exact b _ _ _ _ j de de),h.db,h.rH,h.bv,h.book.dC (λg hg _=>?_),h.cont,h.al,h.ml⟩
 ·rcases h.tree.dep hg with ⟨_,e⟩|⟨_,_,e⟩|⟨_,e⟩|⟨_,_,_,_,e⟩|⟨_,_,_,e⟩
  ·exact b _ _ _ _ e de de
  ·exact b _ _ _ _ e de de
  ·exact b _ _ _ _ e de de
  ·exact b _ _ _ _ (show w.heap[g]?=_ from e) de de
  ·exact hc.block g (bm.1 e).1 (λi=>by obtain⟨f,t,c,_⟩:=kF.type h.kC i;rw[e] at c;cases c)
 ·obtain⟨cs,t,m,h1,d⟩:=ku.obj h.book hg;exact b _ _ _ _ h1 (by rcases d with rfl|rfl<;>decide) (by rcases d with rfl|rfl<;>decide)
def DG (t:TypeId):Prop:=Cp t\/tu t\/t=127\/t=176\/t=122\/t=145\/t=223
def Lw (o:Obj):Prop:=(∃ cs t,DG t/\o=.cells cs t (0,0))\/∃ es c,o=.map es c
theorem lV.other {L:iz}{ks:List (Nat×iz)}{ki:Bool}{Dt:Nat->iz}(h:lV G w L ks ki Dt S) (hs:w.heap.size<=w'.heap.size) (hk:∀ (g:Nat) (o:Obj),w.heap[g]?=some o->Lw o->w'.heap[g]?=w.heap[g]?):lV G w' L ks ki Dt S:=by
 have b:∀ (g:Nat) (cs:Array Value) (ty:TypeId),w.heap[g]?=some (.cells cs ty (0,0))->DG ty->w'.heap[g]?=w.heap[g]?:=λg cs ty hg ht=>hk g _ hg (.inl ⟨cs,ty,ht,rfl⟩)
 obtain⟨⟨p,k⟩,⟨n,i⟩⟩:=h.nE.types;obtain⟨⟨r,pv,hv,_⟩,_⟩:=h.kC
 refine⟨h.kC.dC (λg cs t ht hg=>b g cs t hg (.inl ht)),h.base,h.fix.kept (λj _ _=>az (w:=w) (a:=iu G.v j) (b _ _ _ hv (.inl (.inl rfl)))),(b _ _ _ h.su (.inr (.inr (.inl rfl)))).trans h.su,h.tree.dC h.bN (λg o _ hg m=>hk g o hg ?_),h.bN,h.l4,h.marks.dC (λg cs ty _ c hg=>b g _ _ hg (by rcases c with rfl|rfl;exact .inl (.inr (.inr (.inr rfl)));exact .inl (.inr (.inr (.inl rfl))))),h.ring.dC h.br (λg cs ty _ c hg=>b g _ _ hg (by rcases c with rfl|rfl;exact .inr (.inr (.inr (.inl rfl)));exact .inl (.inr (.inr (.inl rfl))))),h.br,
  h.nE.dC hs (λg hg=>by
   rcases hg with rfl|rfl
   ·exact b _ _ _ k (.inr (.inr (.inr (.inr (.inl rfl)))))
   ·exact b _ _ _ i (.inl (.inr (.inr (.inl rfl))))),h.db,h.rH,h.bv,h.book.dC (λg hg _=>?_),h.cont,h.al,h.ml⟩
 ·rcases m with ⟨cs,ty,h1,e⟩|h1
  ·exact .inl ⟨cs,ty,.inr (.inl h1),e⟩
  ·exact .inr h1
 ·obtain⟨cs,t,h1,e,_⟩:=nn.obj h (.inr (.inl hg));obtain⟨f,q,m',d,l⟩:=ku.obj h.book hg;rw[h1] at d;simp only[IJ] at d;obtain⟨_,rfl,_⟩:=d;exact b _ _ _ h1 (by rcases l with rfl|rfl;exact .inr (.inr (.inr (.inr (.inr (.inr rfl)))));exact .inr (.inr (.inr (.inr (.inr (.inl rfl))))))
theorem Step.vN {L:iz}{ks:List (Nat×iz)}{ki:Bool}{Dt:Nat->iz}(h:lV G w L ks ki Dt S) (hc:aQ (kF w G.v) w w') (hb:∀ g,kF w' G.v g->kF w G.v g\/w.heap.size<=g) (hp:∀ x,oU w' G.v x->oU w G.v x\/w.heap.size<=x):Step G w w' S S 0:=by
 have b:∀ (g:Nat) (cs:Array Value) (ty:TypeId) (m:Nat×Nat),w.heap[g]?=some (.cells cs ty m)->ty≠104->ty≠111->w'.heap[g]?=w.heap[g]?:=λg cs ty m hg h1 d=>hc.block g (dD hg) (λe=>by obtain⟨c,t,a,f⟩:=kF.type h.kC e;rw[hg] at a;simp only[IJ] at a;obtain⟨_,rfl,_⟩:=a;exact f.elim h1 d)
 obtain⟨lv,i⟩:=h.book.box;obtain⟨j,hm⟩:=h.marks.box;exact⟨⟨aQ.mono hc (λ_ _ e=>.inl e),hb,λg _ _ e=>mJ.block (b _ _ _ _ i de de) e,hp⟩,λg hg=>.inl (sn.same (b _ _ _ _ hm de de) hg),by omega,by omega,by omega⟩
theorem Step.book (h:mM G w s S) (hg:kh No G.b w w'){n' k:Nat}(hn:n'<=S.n+9*k):Step G w w' S { S with n:=n' } k:=by obtain⟨c,hm⟩:=h.marks.box;exact⟨h.lR hg,λg a=>.inl (sn.same ((hg.at h.book hm id de de).trans hm.symm) a),hn,by show S.num<=_;omega,by show S.my<=_;omega⟩
theorem Step.below (h:mM G w s S) (hb:Below w.heap.size w w'):Step G w w' S S 0:=by have:=Step.book (k:=0) (n':=S.n) h (kh.dE hb) om;exact this
end
theorem DH {G:VG}{s:kJ}{S:VT}(h:mM G w s S) (hn:S.n+9*s.ks.length<700000) (hnum:S.num+s.ks.length<800000) (hrn:S.my+s.ks.length<800000):
  Calls prog 20 #[iq G.v] w λe w'=>e=.returned (iw 0)/\∃ S':VT,mM G w' s.sync S'/\Step G w w' S S' s.ks.length:=by
 refine (KV h hn hnum hrn).mono ?_;rintro e w' ⟨rfl,S',h1,i,j,k,b,a⟩;refine⟨rfl,S',h1,b,λg hg=>?_,i,j,k⟩;rcases a with a|a
 ·left;rw[a] at hg;obtain⟨l,hm⟩:=h.marks.box;exact sn.same (b.at h hm de) hg
 ·right;obtain⟨n,c,hg⟩:=hg;obtain⟨_,sv,d,f⟩:=h1.marks;rw[cell_of d] at hg;simp at hg;subst hg;exact am a (kK f g rfl)
theorem Lx {v m:Nat}{L:iz}{ks:List (Nat×iz)}{ki:Bool}(h:kI w v m L ks ki):Calls prog 31 #[iq v] w λe w'=>e=.returned (.tuple #[])/\w'=w.setCell (iu v 111) (.bool true):=by obtain⟨a,pc,_,_,_,_,c,_,f⟩:=h.cells;clear h;go_enter func31,ntmps31;go_wp2;go_end0;exact⟨rfl,rfl⟩
theorem Ly {G:VG}{s:kJ}{S:VT}(h:mM G w s S):Calls prog 31 #[iq G.v] w λe w'=>e=.returned (.tuple #[])/\mM G w' s.pj S/\Step G w w' S S 0/\w'=w.setCell (iu G.v 111) (.bool true):=by
 refine (Lx h.kC).mono ?_;rintro e w' ⟨rfl,rfl⟩;obtain⟨⟨cs,pv,h1,_,_,_,_,_,_,t,_,vs,q,d,_⟩,_⟩:=h.kC;have hc:aQ (kF w G.v) w (w.setCell (iu G.v 111) (.bool true)):=(aQ.refl _ w).setCell (p:=iu G.v 111) (λ_=>.inl rfl) _
 have k:(w.setCell (iu G.v 111) (.bool true)).cell? (iu G.v 110)=w.cell? (iu G.v 110):=by rw[cell_of (lr h1 111 _),bH de,cell_of h1]
 have hk:oF G.v w (w.setCell (iu G.v 111) (.bool true)):=λj _ r=>by rw[cell_of (lr h1 111 _),bH (bY r),cell_of h1]
 refine⟨rfl,h.vN h.kC.pj hc hk,Step.vN h hc (λg hg=>.inl ?_) (λx u=>.inl ?_),rfl⟩
 ·exact hg.imp id (λ⟨n,pc,e⟩=>⟨n,pc,k ▸ e⟩)
 ·obtain⟨pg,n,pc,j,n',l,c,m,o⟩:=u;rw[k] at c;refine⟨pg,n,pc,j,n',l,c,m,?_⟩;have i:=c.symm.trans ((cell_of h1 110).trans t);obtain rfl:=aF i;obtain⟨cur,b⟩:=kx d (g:=pg) rfl
  have f:pg≠G.v:=by intro e;rw[e,h1] at b;simp only[IJ] at b;exact absurd b.2.1 de
  rw[<-az (w:=w) (a:=iu pg (j*2+1)) (kA w (iu G.v 111) (.bool true) f)];exact o
theorem Step.refl {G:VG}{w:World}{S:VT}:Step G w w S S 0:=⟨l3.refl,λ_=>.inl,by omega,by omega,by omega⟩
theorem kJ.zM (s:kJ):s.full.ki=s.ki:=by unfold kJ.full;split<;>rfl
theorem kJ.DI (s:kJ):s.full.ks.length<64:=by
 unfold kJ.full;split
 ·exact (by decide:0<64)
 ·omega
theorem Lz {G:VG}{w:World}{s:kJ}{S:VT}(hV:mM G w s S) (hlat:s.ki=false){Sx:Nat->Prop}{da:Option Addr}{N dcap:Nat}{l:iz}(hd:Bytes w Sx (.slice da N dcap) l) (hSx:∀ g,Sx g->¬ nn G w g) (i n:Nat) (hl:l.length=n*64) (hin:i+n<=50)
  (hn:S.n+9*s.ks.length<700000) (hnum:S.num+s.ks.length<800000) (hrn:S.my+s.ks.length<800000):
  Calls prog 26 #[iq G.v,iw i,.slice da N dcap] w λe w'=>e=.returned (iw 0)/\∃ S',mM G w' (s.full.push i l n) S'/\Step G w w' S S' s.ks.length:=by
 have X:N=l.length:=by obtain⟨a,c,e,_⟩:=hd.shape;simp only[IJ] at e;exact e.2.1
 have ad:N<=dcap/\N<=maxLen:=by obtain⟨a,c,e,h1,h2⟩:=hd.shape;simp only[IJ] at e;obtain⟨rfl,h3,rfl⟩:=e;exact⟨by omega,by omega⟩
 have A:=DF hV.kC i da N dcap ad.2
 have ba:lN s.ki i N=0:=by unfold lN;rw[hlat,ah de,ah (by rintro (e|e)<;>omega),ak];exact dN ⟨by omega,by omega,by omega,by omega⟩
 rw[ba] at A;replace A:=LH A;obtain⟨s1,C⟩:=Ex s.full;rw[<-C];have cu:s1.ks.length<64:=C ▸ s.DI;have U:s1.ki=false:=by rw[C,kJ.zM,hlat]
 have e1:(N:Int) / 64=n:=om;have a1:N=n*64:=om;have cz:n<=50:=om
 have B:∀ ws,aQ (nn G w) w ws->Bytes ws (λg=>g<w.heap.size/\¬ nn G w g) (.slice da N dcap) l:=λws hc=>by refine (Bytes.mono (S':=λg=>g<w.heap.size/\¬ nn G w g) hd (λg hg hx=>⟨hg,hSx g hx⟩)).kj hc (λg _ hg=>hg.2)
 have b7:∀ ws,l3 G w ws->∀ g,kF ws G.v g->g<w.heap.size->nn G w g:=λws hc g hg cU=>(hc.vK g hg).elim (λe=>.inl e) (λe=>by omega)
 revert hl X ad ba a1 B b7;refine H7 ?_;intro hl X ad ba a1 B b7;clear hd hSx;have z:=LH (λM (h1:mM G M s S)=>DH h1 hn hnum hrn);have bR:=LH (λM (hb:Below w.heap.size w M)=>hV.below hb);have ax:=LH (λM (hb:Below w.heap.size w M)=>Step.below hV hb);have aa:=LH (λM (hb:Below w.heap.size w M)=>(hV.below hb).kC.cells);obtain⟨v,hv⟩:=Ex G.v;rw[<-hv] at A z aa ⊢;replace hv:=LH hv;obtain⟨K0,H⟩:=Ex s.ks.length;rw[<-H] at hn hnum hrn z aa ⊢;have cP:=LH hV;clear hV;go_enter func26,ntmps26
 go_wp2_with fail
 refine A.o.mono ?_;rintro e M ⟨rfl,I⟩;have J:=LH (ax.o M I);have a7:=LH (bR.o M I);obtain⟨pa,pc,_,_,_,f,_⟩:=aa.o M I;replace I:=LH I;clear A ax bR aa;by_cases T:64<=K0;have c7:(64:Int)<=(K0:Int):=om;have c8:=LH (z.o M a7.o);have y:s1=s.sync:=by rw[C];unfold kJ.full;rw[<-H,ak T]
 replace C:=LH C;replace H:=LH H;clear z
 go_wp2_with fail
 refine c8.o.mono ?_;rintro e ws ⟨rfl,S1,t,q⟩;have q:=J.o.trans q;rw[aw] at q;rw[<-y] at t;revert y t q;refine H3 ?_;intro y t q;clear f c8 J a7 I;go_wp2
 rotate_left
 have c7:¬ (64:Int)<=(K0:Int):=om;have y:s1=s:=by rw[C];unfold kJ.full;rw[<-H,ah T]
 have t:=a7.o;rw[<-y] at t;have q:=J.o.mono (j:=K0) om;obtain⟨ws,bp⟩:=Ex M;obtain⟨S1,b6⟩:=Ex S;rw[<-bp,<-b6] at t;rw[<-bp] at q;have q:Step G w ws S S1 K0:=b6 ▸ q;revert C H y t q;refine H5 ?_;intro C H y t q;clear z J a7 I;go_wp2;subst bp;clear f b6
 rotate_left
 all_goals
  have bD:=LH (show kI ws G.v S1.m s1.L s1.ks false from U ▸ t.o.kC);rw[<-hv.o] at bD
  go_loopg [31] n (λg ix wr=>∃ j:Nat,j+g=n/\ix=iw j/\Hd (kI wr v S1.m s1.L (s1.ks++lU i l j) false)/\Hd (aQ (kF ws v) ws wr)/\Hd (VB ws v wr)/\Hd (∀ x,oU wr v x->oU ws v x\/ws.heap.size<=x))
  case atStart=>exact⟨0,by omega,rfl,by show kI _ _ _ _ _ _;simpa [lU] using bD.o,aQ.refl _ _,⟨λ_=>.inl,λ_ _ _=>rfl⟩,λ_=>.inl⟩
  case round=>
   obtain⟨j,cc,rfl,V,HC,HB,HP⟩:=hrel;by_cases cf:j<n
   ·obtain⟨g1,rfl⟩:∃ i,gk=i+1:=⟨gk - 1,by omega⟩;have cd:(j:Int)<n:=om;obtain⟨E,rfl⟩:=Ex (wr:World);have bW:=B.o ws q.o.lR.kj;have bC:0<l.length:=by have:=X.o;have:=a1.o;omega
    obtain⟨db,d,cA,e5,cr,ct,a6,c6,Q⟩:=Cells.at bW bC;simp only[IJ] at e5;obtain⟨rfl,-,rfl⟩:=e5;have b8:∀ j u,(dB l)[j]?=some u->E.cell? (iu db (d+j))=some u:=λj u hu=>(HC.o.cell (p:=iu db (d+j)) c6 (λe=>a6.2 (b7.o ws q.o.lR db (hv.o ▸ e) a6.1))).trans (Q j u hu)
    have an:db<E.heap.size:=aH c6 HC.o.size;obtain⟨Y,hY⟩:=Ex (i+j);have cT:(i:Int)+j=Y:=om;obtain⟨F,b5⟩:=Ex (j*64);obtain⟨HI,bz⟩:=Ex ((j+1)*64);have cl:(j:Int)*64=F:=om;have ck:((j:Int)+1)*64=HI:=om;have b4:HI - F=64:=om;have bB:=a1.o;have cK:HI<=N:=om;have cm:=ad.o.1;have i1:(F:Int)<=HI:=om;have i2:(HI:Int)<=dcap:=om;have i3:(0:Int)<=F:=om;obtain⟨Z,hZ⟩:=Ex ((l.drop (j*64)).take 64);have cb:=X.o;have a8:Z.length=64:=by rw[hZ,aR,bM];omega
    have af:∀ r,aQ No E r->Bytes r (λ_=>True) (.slice (some (iu db (d+F))) 64 (dcap - F)) Z:=λr hc=>by
     refine⟨by rw[kn,aY],_,_,by rw[a8],by omega,by omega,λh=>(by cases h),.inr ⟨db,d+F,rfl,trivial,aH an hc.size,λk u hu=>?_⟩⟩;have hk:k<64:=by have:=(aD.1 hu).1;rw[kn,a8] at this;exact this
     rw[cy,hc.cell (p:=iu db (d+(F+k))) an id];refine b8 _ _ ?_;rw[<-hu,hZ,b5];simp[dB,hk]
    have bl:∀ r,(Instr.sliceAt 42 (.slice (some (iu db d)) N dcap) (some (iw F)) (some (iw HI)) none).run prog r=.ok (.slice (some (iu db (d+F))) 64 (dcap - F)) r:=λr=>by have h1:=uO (P:=prog) r underlying42 D.uz (some (iu db d)) N dcap F HI om om;rw[po _ _ _ _ _ _ om] at h1;simp only[b4,aY] at h1;exact h1
    replace bl:=LH bl;have c5:=LH (λr (hc:aQ No E r)=>ri (af r hc) om);rw[a8] at c5;obtain⟨pa,pc,_,_,_,f,_⟩:=V.o.cells;obtain⟨KJ,W⟩:=Ex ((s1.ks++lU i l j).length);rw[<-W] at f;have bA:(s1.ks++lU i l j).length<1000:=by rw[aE,zh];omega
    have ca:=LH (kZ f);have K:=Dr E
    revert a6 Q b8 hY b5 bz b4 hZ;refine H8 ?_;intro a6 Q b8 hY b5 bz b4 hZ;revert f W K;refine H3 ?_;intro f W K;clear af cb bB bW bC;go_wp2;refine RA.rt (aQ No) [5,1,1,1,1,1,1,1,1,1,1,1,1,1,1,3,1,3,6,5,5,7] [18,21] (λ_=>True) trivial (λ_=>aQ.refl _ _) (λ_ _ _ h k=>h.trans k) (h:=?_);intro cx;refine RA.pq ?_
    repeat refine RA.qq ?_
    refine RA.fk prog v 110 (h:=?_);refine RA.lk prog (.slice pa KJ pc) (hc:=λr hp=>by exact ((K.o _ hp.1).cell (p:=iu v 110) ca.o id).trans f.o) (h:=?_)
    repeat refine RA.qq ?_
    refine RA.vw prog (iw Y) (h:=?_)
    repeat refine RA.qq ?_
    refine RA.vw prog (iw F) (h:=?_)
    repeat refine RA.qq ?_
    refine RA.vw prog (iw (j+1:Nat)) (h:=?_);refine RA.vw prog (iw HI) (h:=?_);refine RA.uS (y':=.slice (some (iu db (d+F))) 64 (dcap - F)) (hr:=λr hp=>bl.o r) (h:=?_)
    refine RA.qc (P:=prog) [.slice (some (iu db (d+F))) 64 (dcap - F)] (λv r=>r.ownsRow E.heap.size 5 1 v 64 (dB Z)) (hs:=λv a b h h2=>gF h2 (λg hg=>h.block g (kp h2 g hg) id)) (hr:=λr hp hH=>by refine (c5.o r (K.o _ hp.1)).mono ?_;rintro e O ⟨v,rfl,k1,k2,-⟩;exact⟨v,rfl,aQ.dE k2 _,kT k1 (K.o _ hp.1).size,trivial⟩) (hn:=λu=>?_)
    refine RA.vk prog (.agg #[iw Y,u]) (hr:=λr hp=>by obtain⟨g,cp,rfl,_⟩:=kz (show r.ownsRow E.heap.size 5 1 u 64 (dB Z) from hp.fact 0 rfl kr) om;clear hp;go_simp) (h:=?_)
    refine RA.bq (λx r=>Cells r (λ_=>True) x 1 2 [iw Y,u]) (hs:=λ_ _ _ h k=>k.kj h (λ_ _ _=>id)) (he:=λ_ _ _ _ _=>trivial) (hr:=λr hp _=>by refine⟨ir r.heap.size 1 1,r.alloc (.cells #[iw Y,u] 111),?_,(aQ.refl _ _).alloc _,l9 r #[iw Y,u] 111 1 2 rfl mx,trivial⟩;exact wN (RA.kG rf) underlying102 xy (by show 0<2;omega) (by show 2<=1000;omega) rfl) (hn:=λx=>?_)
    refine RA.oG (λv' O=>O.cell? (iu v 110)=some (.slice pa KJ pc)/\O.frozen? (iu v 110)=false/\(∃ g cp,v'=ir g (KJ+1) cp)/\kI (O.setCell (iu v 110) v') v S1.m s1.L (s1.ks++lU i l (j+1)) false/\aQ (kF E v) E (O.setCell (iu v 110) v')/\VB E v (O.setCell (iu v 110) v')/\∀ x,oU (O.setCell (iu v 110) v') v x->oU E v x\/E.heap.size<=x) (hr:=(λr cg _=>by have hp:=cg.first kr;have cj:v<=E.heap.size:=cE ca.o;obtain⟨pv,v',O,q1,q2,q3,q4,q5,q6,q7,q8,q9⟩:=V.o.push bA (K.o _ hp.1) a8 cj (show r.ownsRow E.heap.size 5 1 u 64 (dB Z) from hp.fact 1 rfl kr) Y om (hp.fact 0 rfl kr);rw[f.o] at q1;obtain rfl:=aF q1;rw[<-W.o] at q5;refine⟨v',O,RA.nP rf rf q2,q3,q4,q5,?_,q7,q8,q9⟩;rw[zf,<-hY.o,<-hZ.o,<-cC];exact q6)) (hn:=λv'=>?_)
    refine RA.pq ?_;refine RA.pk prog v 110 (h:=?_)
    refine RA.lj (λw5=>kI w5 v S1.m s1.L (s1.ks++lU i l (j+1)) false/\aQ (kF E v) E w5/\VB E v w5/\∀ x,oU w5 v x->oU E v x\/E.heap.size<=x) (hr:=λO _ hH=>by obtain⟨f1,f2,⟨g',cp,rfl⟩,f3,f4,f5,f6⟩:=hH;refine⟨_,RA.kL rf rf (w':=O.setCell (iu v 110) (ir g' (KJ+1) cp)) ?_,f3,f4,f5,f6⟩;clear f3 f4 f5 f6;show (Instr.storeAt _ _ _).run prog O=_;go_simp) (hn:=?_)
    refine RA.RA.kW (λw5 hH=>?_);simp only[RA.RP,cx];obtain⟨z1,z2,z3,z4⟩:=hH;have b2:aQ (kF ws v) ws w5:=HC.o.then z2 (λg hg e=>(HB.o.1 g e).elim id (λe=>by omega));have ay:VB ws v w5:=⟨λg hg=>(z3.1 g hg).elim (HB.o.1 g) (λe=>.inr (am HC.o.size e)),HB.o.2.trans z3.2⟩;have b3:∀ x,oU w5 v x->oU ws v x\/ws.heap.size<=x:=λx hx=>(z4 x hx).elim (HP.o x) (λe=>.inr (am HC.o.size e))
    revert z1 b2 ay b3;refine H4 ?_;intro z1 b2 ay b3;clear z2 z3 z4;go_wp2;go_roundg g1
    case measure=>omega
    case rel=>exact⟨j+1,by omega,by go_num,z1.o,b2.o,ay.o,b3.o⟩
   ·obtain rfl:gk=0:=om;obtain rfl:j=n:=om;have cd:¬ (j:Int)<j:=om
    have R:∃ S',mM G wr (s1.push i l j) S'/\Step G w wr S S' K0:=by
     have hc:=HC.o;have hb:=HB.o;have hp:=HP.o;have c9:=V.o;rw[hv.o] at hc hb hp c9;refine⟨S1,?_,?_⟩
     ·have:=t.o.vN c9 hc hb.2;show lV G wr s1.L (s1.ks++lU i l j) s1.ki s1.Dt S1;rw[U];exact this
     ·have:=q.o.trans (Step.vN t.o hc hb.1 hp);exact this
    replace R:=LH R;clear cf cc;go_wp2;go_ret;exact⟨rfl,R.o⟩
def mO (w:World) (k v:Nat) (la:List P.Ar) (trip:Bool):Prop:=∃ a cap,w.heap[k]?=some (.cells #[iq v,.slice a la.length cap,.bool trip] 52 (0,0))/\Cells w (λg=>∃ cs,w.heap[g]?=some (.cells cs 27 (0,0))) (.slice a la.length cap) la.length 2 (P.lP la)
section
variable {w w':World}{k v:Nat}{la:List P.Ar}{trip:Bool}
theorem mO.dC (h:mO w k v la trip) (hs:w.heap.size<=w'.heap.size) (hk:∀ (g:Nat) (cs:Array Value) (t:TypeId),t=52\/t=27->w.heap[g]?=some (.cells cs t (0,0))->w'.heap[g]?=w.heap[g]?):mO w' k v la trip:=by obtain⟨a,cap,h1,c⟩:=h;refine⟨a,cap,(hk _ _ _ (.inl rfl) h1).trans h1,?_⟩;refine Cells.mono (Cells.dC c hs (λb ⟨cs,hb⟩ _=>hk b cs _ (.inr rfl) hb)) (λb _ ⟨cs,hb⟩=>⟨cs,(hk b cs _ (.inr rfl) hb).trans hb⟩)
theorem mO.after (h:mO w k v la trip) (hb:Below w.heap.size w w'):mO w' k v la trip:=h.dC hb.size (λg _ _ _ hg=>hb.block g (dD hg))
theorem mO.lR (h:mO w k v la trip){G:VG}{s:kJ}{S:VT}(hV:mM G w s S) (hs:l3 G w w'):mO w' k v la trip:=h.dC hs.kj.size (λg cs t ht hg=>hs.at hV hg (by rcases ht with rfl|rfl<;>decide))
theorem mO.of (h:GuardAt w k v la trip):mO w k v la trip:=by obtain⟨g,cap,h1,a⟩:=h;refine⟨some (iu g 0),cap,h1,Cells.mono a.cells (λb _ e=>?_)⟩;obtain⟨cur,c,_⟩:=a;exact⟨cur,e ▸ c⟩
theorem mO.lt (h:mO w k v la trip):k<w.heap.size:=by obtain⟨a,cap,h1,_⟩:=h;exact dD h1
theorem mO.c0 (h:mO w k v la trip):w.cell? (iu k 0)=some (iq v):=by obtain⟨a,cap,h1,_⟩:=h;exact cell_of h1 0
theorem mO.LB (h:mO w k v la trip):mO (w.setCell (iu k 2) (.bool true)) k v la true:=by
 obtain⟨c,cap,h1,d⟩:=h
 have a:∀ (g:Nat) (cs:Array Value) , w.heap[g]?=some (.cells cs 27 (0,0))->(w.setCell (iu k 2) (.bool true)).heap[g]?=w.heap[g]?:=λg cs hg=>kA _ _ _ (by rintro rfl;rw[h1] at hg;simp only[IJ] at hg;exact absurd hg.2.1 de)
 refine⟨c,cap,lr h1 2 (.bool true),?_⟩;exact Cells.mono (Cells.dC d (by rw[ff];exact ae _) (λb ⟨cs,hb⟩ _=>a b cs hb)) (λb _ ⟨cs,hb⟩=>⟨cs,(a b cs hb).trans hb⟩)
theorem LC (h:mO w k v la trip):Calls prog 21 #[iq k] w λe w'=>e=.returned (.bool trip)/\w=w':=by obtain⟨a,cap,h1,_⟩:=h;have c2:=cell_of h1 2;clear h1;go_enter func21,ntmps21;go_wp2;go_ret;exact⟨rfl,rfl⟩
end
theorem l3.back {G:VG}{w w':World}(h:l3 G w w'){g:Nat}(hg:g<w.heap.size) (e:nn G w' g):nn G w g:=by
 rcases e with e|e|e
 ·exact (h.vK g e).elim .inl (λe=>absurd hg om)
 ·exact .inr (.inl (e.imp id (λe=>⟨e.1,h.row g hg e.1 e.2⟩)))
 ·exact .inr (.inr e)
theorem xN (ki:Bool) (i:Int) (N:Nat):lN ki i N=6\/lN ki i N=1\/lN ki i N=3\/(lN ki i N=0/\ki=false/\N % 64=0/\0<=i/\i+(N / 64:Nat)<=50):=by
 unfold lN;by_cases h1:ki=true
 ·rw[ak h1];exact .inl rfl
 ·rw[ah h1];by_cases b:N % 64≠0\/64<N / 64
  ·rw[ak b];exact .inr (.inl rfl)
  ·rw[ah b];by_cases a:mz i (N / 64:Nat)=true
   ·rw[ak a];have:=dw a;exact .inr (.inr (.inr ⟨rfl,by simpa using h1,by omega,by omega,by omega⟩))
   ·rw[ah a];exact .inr (.inr (.inl rfl))
def ow (la:List P.Ar) (ki:Bool) (i:Int) (N:Nat):Int:=if lN ki i N=0 then (if la.any (λa=>P.ob a (60+i,(N / 64:Nat)))=true then 7 else 0) else lN ki i N
theorem LD {G:VG}{w:World}{s:kJ}{S:VT}{k:Nat}{la:List P.Ar}{trip:Bool}(hk:mO w k G.v la trip) (hV:mM G w s S){Sx:Nat->Prop}{da:Option Addr}{N dcap:Nat}{l:iz}(hd:Bytes w Sx (.slice da N dcap) l) (hSx:∀ g,Sx g->¬ nn G w g) (i:Int)
  (hlb:∀ a ∈ la,0<=a.1/\a.1<=1000000000/\a.2<=1000000000) (hn:S.n+9*s.ks.length<700000) (hnum:S.num+s.ks.length<800000) (hrn:S.my+s.ks.length<800000):
  Calls prog 17 #[iq k,iw i,.slice da N dcap] w λe w'=>e=.returned (iw (ow la s.ki i N))/\
   ((ow la s.ki i N≠0/\ow la s.ki i N≠7/\mM G w' s S/\mO w' k G.v la trip/\Step G w w' S S 0)\/
   (ow la s.ki i N=7/\mM G w' s.pj S/\mO w' k G.v la true/\aQ (λg=>g=G.v\/g=k) w w')\/
   (ow la s.ki i N=0/\∃ S',mM G w' (s.full.push i.toNat l (N / 64)) S'/\mO w' k G.v la trip/\Step G w w' S S' s.ks.length)):=by
 have O:N=l.length:=by obtain⟨a,c,e,_⟩:=hd.shape;simp only[IJ] at e;exact e.2.1
 have bA:N<=dcap/\N<=maxLen:=by obtain⟨a,c,e,h1,h2⟩:=hd.shape;simp only[IJ] at e;obtain⟨rfl,h3,rfl⟩:=e;exact⟨by omega,by omega⟩
 have f:=DF hV.kC i da N dcap bA.2;have b4:=hk.lt;have a1:=hk.c0;have u:=LH (λh (hb:Below w.heap.size w h)=>Step.below hV hb);have U:=LH (λh (hb:Below w.heap.size w h)=>hV.below hb);have M:=LH (λh (hb:Below w.heap.size w h)=>hk.after hb);rcases xN s.ki i N with K|K|K|⟨K,J,hN0,hi0,hi1⟩
 rotate_right
 ·
  obtain⟨I,rfl⟩:∃ I:Nat,i=I:=⟨i.toNat,by omega⟩;obtain⟨n,Y⟩:=Ex (N / 64);obtain⟨p,hp⟩:=Ex (60+I:Int);obtain⟨any,B⟩:=Ex (la.any (λa=>P.ob a (p,n)));have x:ow la s.ki I N=if any=true then 7 else 0:=by unfold ow;rw[ak K,B,hp,Y]
  rw[K] at f;rw[x,show (I:Int).toNat=I from rfl,<-Y];have X:=LH (λh (hb:Below w.heap.size w h)=>xw (hV.kC.after hb));have bD:=Da 60 50;obtain⟨ad,cap,hg,W⟩:=hk;have ay:=cell_of hg 1;have L:=LH (λh (hb:Below w.heap.size w h)=>(hb.block k b4).trans hg);have a7:=LH (λh (hb:Below w.heap.size w h)=>Cells.dC W hb.size (λb ⟨cs,bz⟩ _=>hb.block b (dD bz)));have b3:=LH (λh (hb:Below w.heap.size w h)=>(Bytes.mono (S':=λg=>g<w.heap.size/\¬ nn G w g) hd (λg hg hx=>⟨hg,hSx g hx⟩)).kj (aQ.dE hb No) (λ_ _ _=>id));have b2:=LH (λh (hb:Below w.heap.size w h) g (hs:g<w.heap.size/\¬ nn G w g) (hB:nn G h g)=>hs.2 ((u.o h hb).lR.back hs.1 hB));have e1:(N:Int) / 64=n:=om;have hl:l.length=n*64:=om;have bB:I+n<=50:=om;obtain⟨v,hv⟩:=Ex G.v;rw[<-hv] at f a1 L M X;refine G9 hp Y hl O hg W hd hSx K ?_;clear hp Y hl O hg W hd hSx K;intro hp Y hl O hg W hd hSx K;refine G4 x hV J f ?_;clear x hV J f;intro x hV J f;have R:=LH (λh (hb:Below w.heap.size w h)=>(hb.cell (p:=iu k 0) b4).trans a1);have af:=LH (λh (hb:Below w.heap.size w h)=>(hb.cell (p:=iu k 1) b4).trans ay);replace hv:=LH hv;obtain⟨ln,b5⟩:=Ex la.length;rw[<-b5] at ay af a7 L hg W;replace b5:=LH b5;clear ay;go_enter func17,ntmps17
  go_wp2_with fail
  refine f.o.mono ?_;rintro e h ⟨rfl,m⟩;have f0:=R.o h m;have b8:=LH (X.o h m);replace m:=LH m;clear a1 f
  go_wp2_with fail
  refine b8.o.mono ?_;rintro e w2 ⟨rfl,b6⟩;have Q:=m.o.trans (b6.mono m.o.size);obtain⟨w3,aa⟩:=Ex (w2.alloc (.cells #[iw p,iw n] 27));have F:Below w.heap.size w w3:=by rw[aa];exact Q.alloc Q.size _
  have x3:w3.heap[w2.heap.size]?=some (.cells #[iw p,iw n] 27 (0,0)):=by rw[aa];exact aj w2 _
  have f1:=af.o w3 F;have f0:=R.o w2 Q;have bR:(60:Int)+I=p:=hp.o.symm;have r:=P.C9 (mb:=w2.heap.size) (q:=λa=>P.ob a (p,n)) (a7.o w3 F) (λa ha w4 V=>Db ((V.block _ (dD x3)).trans x3) (hlb a ha) (by rw[hp.o];omega));rw[<-B] at r;refine G5 r B F Q x3 ?_;clear r B F Q x3;intro r B F Q x3;have bC:=LH aa;subst aa;have ba:=LH (λh (hb:Below w.heap.size w h)=>lh (L.o h hb) 2);clear b6 b8 X
  go_wp2_with fail
  refine r.o.mono ?_;rintro e w4 ⟨rfl,V⟩;have d:=F.o.trans (V.mono F.o.size);have f0:=R.o w4 d;have j:=U.o w4 d;have C:=u.o w4 d;have y:=M.o w4 d;cases any with
  | false=>
   have Z:=Lz j J.o (b3.o w4 d) (b2.o w4 d) I n hl.o bB hn hnum hrn;rw[<-hv.o] at Z;refine G5 Z y j C d ?_;clear Z y j C d;intro Z y j C d;clear V r b3 b2 a7 L ba u U M
   go_wp2_with fail
   refine Z.o.mono ?_;rintro e w5 ⟨rfl,S',E,D⟩;have z:=y.o.lR j.o D.lR;have A:=C.o.trans D;rw[aw] at A;rw[hv.o] at z;replace E:=LH E;replace z:=LH z;replace A:=LH A;clear D;go_wp2;go_ret
   first|exact⟨rfl,S',E.o,z.o,A.o⟩|exact⟨rfl,.inr (.inr ⟨rfl,S',E.o,z.o,A.o⟩)⟩
  | true=>
   have H:=Ly j;rw[<-hv.o] at H;replace H:=LH H;have an:=LH (L.o w4 d);refine G4 y j C d ?_;clear y j C d;intro y j C d;clear V r b3 b2 a7 L ba u U M
   go_wp2_with fail
   refine H.o.mono ?_;rintro e w5 ⟨rfl,E,D,bp⟩;have z:=y.o.lR j.o D.lR;have g5:=D.lR.at j.o an.o de;rw[an.o] at g5;have fz:=lh g5 2;have c2:=cell_of g5 2;have T:=z.LB
   have b7:aQ (λg=>g=G.v\/g=k) w w5:=by rw[bp];exact (aQ.dE d.o _).setCell (p:=iu v 111) (λ_=>Or.inl hv.o) _
   have a6:aQ (λg=>g=G.v\/g=k) w (w5.setCell (iu k 2) (.bool true)):=b7.setCell (p:=iu k 2) (λ_=>.inr rfl) _
   have a8:mM G (w5.setCell (iu k 2) (.bool true)) s.pj S:=by
    refine E.other (by rw[ff];exact ae _) (λg' o bl ho=>kA _ _ _ ?_);rintro rfl;rw[g5] at bl;obtain rfl:=aF bl;rcases ho with ⟨cs,t,ht,e⟩|⟨es,c,e⟩
    ·simp only[IJ] at e;obtain⟨_,rfl,_⟩:=e;rcases ht with (e|e|e|e)|(e|e|e|e)|e|e|e|e|e<;>exact absurd e de
    ·cases e
   rw[hv.o] at T;replace a8:=LH a8;replace T:=LH T;replace a6:=LH a6;clear E D g5 z b7 bp;go_wp2;go_ret
   first|exact⟨rfl,a8.o,T.o,a6.o⟩|exact⟨rfl,.inr (.inl ⟨rfl,a8.o,T.o,a6.o⟩)⟩
 all_goals
  have x:ow la s.ki i N=lN s.ki i N:=by unfold ow;rw[ah (by rw[K];decide)]
  rw[x];rw[K] at f ⊢;obtain⟨v,hv⟩:=Ex G.v;rw[<-hv] at f a1 ⊢;refine G9 hv f hV hk hd K x hSx O ?_;clear hv f hV hk hd K x hSx O;intro hv f hV hk hd K x hSx O;go_enter func17,ntmps17
  go_wp2_with fail
  refine f.o.mono ?_;rintro e h ⟨rfl,m⟩;have ax:=LH (show mM G h s S/\mO h k G.v la trip/\Step G w h S S 0 from ⟨U.o h m,M.o h m,u.o h m⟩);rw[<-hv.o] at ax;clear m U M u;go_wp2;go_ret;exact⟨rfl,.inl ⟨by decide,by decide,ax.o⟩⟩
end Go.Proofs.YthmcbgidehjlbaaGreat.Fd

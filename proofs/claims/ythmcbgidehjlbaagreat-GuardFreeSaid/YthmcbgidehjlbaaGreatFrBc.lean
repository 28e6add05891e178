/-
 Parts of the proof. No condition beyond what each theorem names.
-/
import Derived.Test.YthmcbgidehjlbaaGreatFrAh
import Derived.Test.YthmcbgidehjlbaaGreatFrAm
import Derived.Test.YthmcbgidehjlbaaGreatFrAv
import Derived.Test.YthmcbgidehjlbaaGreatFrBa
import Derived.Test.YthmcbgidehjlbaaGreatFrBb
set_option maxRecDepth 100000
set_option maxHeartbeats 16000000
namespace Go.Proofs.YthmcbgidehjlbaaGreat.Fd
open _root_.Go.Proofs.Tryz
open Go Go.RowKit K
theorem KB {G:VG}{w:World}{L:iz}{ks:List (Nat×iz)}{kh:Bool}{Dt:Nat->iz}{S:VT}(h:lT G w L ks kh Dt S) (hn:S.n+9*ks.length<700000) (hnum:S.num+ks.length<800000) (hrn:S.l8+ks.length<800000):
  Calls prog 20 #[iq G.v] w λe w'=>e=.returned (iw 0)/\∃ S':VT,lT G w' (lh L ks) [] kh (λp=>kX ks p (Dt p)) S'/\S'.n<=S.n+9*ks.length/\S'.num<=S.num+ks.length/\S'.l8<=S.l8+ks.length/\lL G w w'/\(S'.m=S.m\/w.heap.size<=S'.N):=by
 obtain⟨nk,cg⟩:=Ex ks.length;have hN:=h.Dq;have gh:=h.kx.mL
 have e8:∀ k ∈ ks,k.1<50/\k.2.length=64:=λk hk=>by obtain⟨⟨cs,pv,_,_,_,_,_,_,_,_,_,vs,g1,g2,g3⟩,_,_,hp⟩:=h.kx;obtain⟨j,H⟩:=cM hk;have hl:=(aD.1 H).1;exact⟨hp k hk,(g3 j k _ H (av om)).1⟩
 rw[<-cg] at hn hnum hrn gh ⊢;replace e8:=LH e8;replace cg:=LH cg;replace h:=LH h;go_enter func20,ntmps20;go_wp2
 go_loopg [3] nk (λg _x wr=>∃ (i:Nat) (S1:VT),i+g=nk/\Hd (lT G wr (lh L (ks.take i)) (ks.drop i) kh (λp=>kX (ks.take i) p (Dt p)) S1)/\S1.n<=S.n+9*i/\S1.num<=S.num+i/\S1.l8<=S.l8+i/\Hd (lL G w wr)/\(S1.m=S.m\/w.heap.size<=S1.N))
 case atStart=>exact⟨0,S,by omega,h.o,by omega,by omega,by omega,lL.refl,.inl rfl⟩
 case round=>
  obtain⟨i,S1,hQ,HV,hT,hD,hL,HG,hB⟩:=hrel;obtain⟨wo,rfl⟩:=Ex (wr:World);obtain⟨kd,A⟩:=Ex (ks.drop i);obtain⟨L1,Y⟩:=Ex (lh L (ks.take i));obtain⟨D1,W⟩:=Ex (λp=>kX (ks.take i) p (Dt p):Nat->iz)
  rw[<-A,<-Y,<-W] at HV;have bB:kd.length=gk:=by rw[A,bM,<-cg.o];omega
  obtain⟨pa,pc,tt,rT,en,J,er,f110,f111⟩:=HV.o.kx.cells;have hK:=(HV.o.fix.rest HV.o.base.len).2.2.2;rw[bB] at J;by_cases hS:0<gk
  ·have hA:(0:Int)<gk:=om;have E:=JG HV.o.kx HV.o.base HV.o.fix HV.o.ring HV.o.br om;refine G4 E A Y W ?_;clear E A Y W;intro E A Y W
   go_wp2_with fail
   refine E.o.mono ?_;rintro e w1 ⟨q,rfl,hV,hW,h0,O⟩;have c:=HV.o.below O
   have cK:lL G wo w1:=lL.ow (kf.dD (C:=No) O) (λ_ e=>e.elim) (O.block _ HV.o.zw) (λpg n pc' hc=>by rw[J] at hc;simp only[IJ] at hc;obtain⟨rfl,rfl,rfl⟩:=hc;obtain⟨⟨cs,pv,g1,_,_,_,_,_,_,g8,_,vs,_,g11,_⟩,_⟩:=HV.o.kx;have e:=(cell_of g1 110).trans g8;rw[J] at e;obtain rfl:=aF e;exact O.block pg (kt g11 pg rfl))
   have d110:=(O.cell (p:=iu G.v 110) HV.o.zw).trans J
   obtain⟨pg,rfl,hX⟩:∃ pg,pa=some (iu pg 0)/\gk<=pc:=by obtain⟨⟨cs,pv,g1,_,_,_,_,_,_,g8,_,vs,_,g11,_⟩,_⟩:=HV.o.kx;have e:=(cell_of g1 110).trans g8;rw[J] at e;obtain rfl:=aF e;obtain⟨g',c',e',U,f⟩:=kz g11 om;simp only[IJ] at e';obtain⟨rfl,_,rfl⟩:=e';exact⟨g',rfl,by omega⟩
   have h5:(prog.info? 111).map (·.size)=some 2:=kr
   have gf:∀ x:World,(Instr.sliceAt 102 (ir pg gk pc) none (some (iw q)) none).run prog x=.ok (ir pg q pc) x:=λx=>by
    have h:=vV (P:=prog) x underlying102 h5 (some (iu pg 0)) gk pc q om;rw[pK _ _ _ _ _ _ om] at h
    simpa using h
   have D:=JT c.kx c.base c.fix c.su c.tree c.bN c.l4 c.marks c.book om om (by omega:q<=kd.length) (pg:=pg) (pc:=pc) (pc':=pc) (by rw[bB];exact d110);refine G4 D c cK O ?_;clear D c cK O;intro D c cK O;clear tt rT en J er f110 f111 E
   go_wp2_with fail
   refine D.o.mono ?_;rintro e w2 ⟨t',m',ov,fi,Ls',Tx',Cs,n',rfl,T2,hI,M2,F2,bW,O2,E2,hU,B2,G2⟩;have K:∀ (g:Nat) (cs:Array Value) (ty:TypeId) (m:Nat×Nat),w1.heap[g]?=some (.cells cs ty m)->ty≠223->ty≠145->w2.heap[g]?=w1.heap[g]?:=λg cs ty m hg h1 h2=>(G2.at c.o.book hg id h1 h2).trans hg.symm
   have A2:kF w2 G.v S1.m L1 kd kh:=c.o.kx.dB (λg cs ty ht hg=>K g cs ty _ hg (by rcases ht with rfl|rfl|rfl|rfl<;>decide) (by rcases ht with rfl|rfl|rfl|rfl<;>decide));obtain⟨ic,ib,bR,ed,_⟩:=c.o.kx.box;have an:=(K _ _ _ _ bR de de).trans bR;have X2:mP w2 G.v (mX G.xs S1.t S1.m S1.num G.r):=c.o.fix.kept (λj _ _=>az (w:=w1) (a:=iu G.v j) (an.trans bR.symm));have U2:kR w2 G.s none G.tp:=(K _ _ _ _ c.o.su de de).trans c.o.su;have R2:=c.o.ring.dB (w':=w2) c.o.br (λg cs ty _ ht hg=>K g cs ty _ hg (by rcases ht with rfl|rfl<;>decide) (by rcases ht with rfl|rfl<;>decide));have dp:=c.o.mF.self;have D2:=c.o.mF.dB (w':=w2) G2.size (λg hg=>G2.block g (by rcases hg with rfl|rfl;exact dp.1;exact dp.2) (λe=>e.elim id (λe=>by have:=e.ge;have:=c.o.db;have:=c.o.qM;rcases hg with rfl|rfl<;>omega)))
   have ds:∀ b2 n pc',w1.cell? (iu G.v 110)=some (ir b2 n pc')->w2.heap[b2]?=w1.heap[b2]?:=λb2 n pc' hc=>by obtain⟨⟨cs,pv,g1,_,_,_,_,_,_,g8,_,vs,_,g11,_⟩,_⟩:=c.o.kx;have e:=(cell_of g1 110).trans g8;rw[hc] at e;obtain rfl:=aF e;obtain⟨cur,cT⟩:=kA g11 (g:=b2) rfl;exact K _ _ _ _ cT de de
   have c9:lL G w1 w2:=lL.ow G2 (λ_ e=>e.elim) (an.trans bR.symm) ds;have cY:Cs.length<=15:=am (F2.mL bW) h0
   have e5:0<Cs.length:=by
    obtain⟨k,hk⟩:∃ k,kd[0]?=some k:=⟨kd[0]'om,av om⟩
    have hm:k ∈ kd.take q:=by refine aZ (i:=0) ?_;rw[dV om];exact hk
    obtain⟨u,hu⟩:=F2.has k.1 (aO.2 ⟨k,hm,rfl⟩);exact gC hu
   obtain⟨og,oc,rfl,hE,_⟩:=kz O2 e5;obtain⟨nC,bC⟩:=Ex Cs.length;rw[<-bC] at O2 cY e5 hE ⊢;obtain⟨ps,af⟩:∃ ps,ps=Cs.map λq=>(q.1,q.2.2):=⟨_,rfl⟩
   have cj:ps.length=nC:=by rw[af,df,bC]
   have P2:lP w2 w1.heap.size 142 (ir og nC oc) ps:=by
    refine⟨Cs.map λq=>(q.1,q.2.1),by rw[df,cj,bC],by rw[cj];exact O2,λj p' q' R ck=>?_⟩;rw[af] at ck;rw[bf] at R ck;cases H:Cs[j]? with
    | none=>rw[H] at R;cases R
    | some c0=>rw[H] at R ck;simp only[dr,ao] at R ck;subst R ck;obtain⟨z1,z2,z3⟩:=E2 c0 (aZ H);exact⟨rfl,z1,z2,z3⟩
   obtain⟨p4,bD⟩:=Ex w2.heap.size;obtain⟨NM,ca⟩:=Ex (S1.num+1);rw[<-ca];obtain⟨F,ay⟩:=Ex (w2.alloc (.cells #[iq t',iq m',iw NM] 100));have I:Below w2.heap.size w2 F:=by rw[ay];exact (ag _ _).alloc (ae _) _
   have x3:F.heap[p4]?=some (.cells #[iq t',iq m',iw NM] 100 (0,0)):=by rw[ay,bD];exact aj w2 _
   have e0:w1.heap.size<=w2.heap.size:=G2.size
   have aa:=Kj (w:=F) (k:=n') (tp:=G.tp) (B:=w1.heap.size) (R2.dB c.o.br (λg cs ty _ _ hg=>I.block g (dC hg))) c.o.br c.o.al c.o.ml om ((I.block _ (dC U2)).trans U2) (B2.after I) om (D2.dB I.size (λg hg=>I.block g (by have:=D2.self;rcases hg with rfl|rfl;exact this.1;exact this.2))) c.o.db c.o.qM (cE c.o.blt) (am e0 I.size) (P2.dB (λg _ hg=>I.block g hg)) cj e5 cY (λp' R=>by
    rw[af] at R;obtain⟨c0,hh,rfl⟩:=aO.1 R;exact (F2.only c0 hh).1) (by
    rw[af,cO];exact bW)
   have fb:w2.cell? (iu G.v 109)=some (iq G.r):=(X2.rest c.o.base.len).2.2.2;have c6:w2.cell? (iu G.v 110)=some (ir pg gk pc):=(az (w:=w1) (a:=iu G.v 110) (an.trans bR.symm)).trans d110;have cm:G.v<w2.heap.size:=dC an;refine G9 aa ay bD af bC ca A2 X2 U2 ?_;clear aa ay bD af bC ca A2 X2 U2;intro aa ay bD af bC ca A2 X2 U2;refine G6 D2 T2 M2 F2 bW c9 ?_;clear D2 T2 M2 F2 bW c9;intro D2 T2 M2 F2 bW c9;refine G4 x3 I an ed ?_;clear x3 I an ed;intro x3 I an ed
   have cz:∃ cr,F.heap[G.r]?=some (.cells cr 176 (0,0)):=by obtain⟨_,_,_,_,g1,_⟩:=R2.cells;exact⟨_,(I.o.block _ (dC g1)).trans g1⟩
   have B3:=B2.after I.o;replace B3:=LH B3;clear K ds O2 E2 P2 R2 B2 G2 D d110 bR
   go_wp2_with fail
   rw[<-ay.o,<-bD.o];refine aa.o.mono ?_;rintro e d ⟨rfl,⟨X',D4,cP⟩,R4,B4,G4⟩;obtain⟨cr,cz⟩:=cz;have cb:=c.o.bv
   have b8:∀ (g:Nat) (o:Obj),G.b<=g->F.heap[g]?=some o->(∀ cs ty m,o=.cells cs ty m->ty≠223/\ty≠145/\ty≠176)->d.heap[g]?=F.heap[g]?:=λg o bA hg ho=>by
    refine G4.block g (bm.1 hg).1 ?_;rintro ((e|e|e)|e)
    ·subst e;rw[cz] at hg;obtain rfl:=aF hg;exact (ho _ _ _ rfl).2.2 rfl
    ·have:=c.o.db;omega
    ·have:=c.o.qM;omega
    ·obtain⟨cs,ty,m,hc,ht⟩:=kn.obj B3.o e;rw[hg] at hc;obtain rfl:=aF hc;have:=ho _ _ _ rfl;rcases ht with e|e
     ·exact this.1 e
     ·exact this.2.1 e
   have M:∀ (g:Nat) (o:Obj),G.b<=g->w2.heap[g]?=some o->(∀ cs ty m,o=.cells cs ty m->ty≠223/\ty≠145/\ty≠176)->d.heap[g]?=w2.heap[g]?:=λg o bA hg ho=>by have e3:=I.o.block g (bm.1 hg).1;exact (b8 g o bA (e3.trans hg) ho).trans e3
   obtain⟨⟨vc,pv,a1,a2,a3,a4,a5,a6,a7,a8,a9,vs,b4,T,a12⟩,-,b7,cA⟩:=A2.o
   have hG:pv=ir pg gk pc:=by have e:=(cell_of a1 110).trans a8;rw[c6] at e;exact (aF e).symm
   subst hG;rw[bB] at b4 T;have v4:d.heap[G.v]?=some (.cells vc 104 (0,0)):=(M G.v _ cb a1 (λcs ty m e=>by cases e;decide)).trans a1
   have K4:d.ownsRow G.v 111 2 (ir pg gk pc) gk (my kd vs):=dE T (λg hg=>by obtain⟨cur,hc⟩:=kA T hg;exact M g _ (am cb (kJ T g hg)) hc (λcs ty m e=>by cases e;decide))
   have Q4:∀ (j:Nat) (k:Nat×iz) (u:Value),kd[j]?=some k->vs[j]?=some u->k.2.length=64/\d.ownsRow G.v 5 1 u 64 (aQ k.2):=λj k u H hu=>by
    obtain⟨g1,g2⟩:=a12 j k u H hu
    exact⟨g1,dE g2 (λg hg=>by obtain⟨cur,hc⟩:=kA g2 hg;exact M g _ (am cb (kJ g2 g hg)) hc (λcs ty m e=>by cases e;decide))⟩
   have ax:G.b<=w1.heap.size:=cE c.o.blt
   have T4:=T2.o.dB (w':=d) ax (λg o bA hg ho=>M g o bA hg (λcs ty m e=>by
    rcases ho with ⟨bp,ha,U,f⟩|⟨es,c',f⟩
    ·rw[f] at e;simp only[IJ] at e;obtain⟨_,rfl,_⟩:=e;rcases U with rfl|rfl|rfl|rfl<;>decide
    ·rw[f] at e;cases e))
   have M4:=M2.o.dB (w':=d) (λg cs ty bA cl hg=>M g _ (am ax bA) hg (λbp ha m e=>by cases e;rcases cl with rfl|rfl<;>decide));have e7:=D2.o.types
   have U4:kR d G.s none G.tp:=by
    have e3:=I.o.block G.s (dC U2.o);refine fq (fq (G4.block G.s (by rw[ay.o];have:=dC U2.o;simp;omega) ?_) e3) U2.o;have cU:=e3.trans U2.o;rintro ((e|e|e)|e)
    ·rw[e,cz] at cU;simp only[IJ] at cU;exact absurd cU.2.1 de
    ·obtain⟨⟨cs,U⟩,_⟩:=e7;have f:=U2.o;unfold kR at f;rw[e,U] at f;simp only[IJ] at f;exact absurd f.2.1 de
    ·obtain⟨_,⟨cs,U⟩⟩:=e7;have f:=U2.o;unfold kR at f;rw[e,U] at f;simp only[IJ] at f;exact absurd f.2.1 de
    ·exact kn.type B3.o cU de de e
   have x4:d.heap[p4]?=some (.cells #[iq t',iq m',iw NM] 100 (0,0)):=(b8 p4 _ (by rw[bD.o];exact am ax e0) x3.o (λcs ty m e=>by cases e;decide)).trans x3.o
   have fs:lL G F d:=by have dd:=I.o.block G.v cm;refine lL.ow G4 (λg e=>by rcases e with e|e|e;exact .inr (.inr e);exact .inl e;exact .inr (.inl e)) (v4.trans (dd.trans a1).symm) (λb2 n pc' hc=>?_);rw[cell_of (dd.trans a1),a8] at hc;simp only[IJ] at hc;obtain⟨⟨rfl,_⟩,_⟩:=hc;obtain⟨cur,cT⟩:=kA T (g:=pg) rfl;exact b8 pg _ (am cb (kJ T pg rfl)) ((I.o.block pg (dC cT)).trans cT) (λcs ty m e=>by cases e;decide)
   have X:lL G wo d:=((cK.o.trans c9.o).trans (lL.ow (kf.dD (C:=No) I.o) (λ_ e=>e.elim) (I.o.block _ cm) (λb2 n pc' hc=>by rw[c6] at hc;simp only[IJ] at hc;obtain⟨⟨rfl,_⟩,_⟩:=hc;exact I.o.block pg (kt T pg rfl)))).trans fs
   have cu:wo.heap.size<=d.heap.size:=X.ki.size;have bl:G.v<d.heap.size:=dC v4;have cW:d.cell? (iu G.v 110)=some (ir pg gk pc):=(cell_of v4 110).trans a8;obtain⟨ad,cc,eb⟩:=Kz (iu pg 0) q gk pc 2
   have Q:∀ x:World,(Instr.sliceAt 102 (ir pg gk pc) (some (iw q)) none none).run prog x=.ok (.slice (some ad) (gk - q) cc) x:=λx=>by rw[rH (P:=prog) x underlying102 h5 (some (iu pg 0)) gk pc q om,eb]
   obtain⟨ys,b6⟩:=Ex (my (kd.drop q) (vs.drop q))
   have gb:∀ l,aA No d l->Cells l (λ_=>True) (.slice (some ad) (gk - q) cc) (gk - q) 2 ys:=λl hc=>by have h:=Cells.sliced (Cells.own (dE K4 (λg hg=>hc.block g (kt K4 g hg) id))) q gk om (ae _);have hlen:(my kd vs).length=gk*2:=K4.1;rw[eb,bh (by rw[bM,hlen,Nat.sub_mul];exact ae _),Ds q kd vs om,<-b6] at h;exact h.mono (λ_ _ _=>trivial)
   have h9:∀ u ∈ ys,u.oneCell'=true:=by
    rw[b6];refine KA (w:=d) (B:=G.v) (λj k u H hu=>Q4 (q+j) k u ?_ ?_)
    ·rw[bF] at H;exact H
    ·rw[bF] at hu;exact hu
   have Z:=λl (hc:aA No d l)=>Kx (gb l hc) h9 om
   have bz:=Dr d
   have h3:=LH (λl (hc:aA No d l)=>mE (P:=prog) (ty:=100) (g:=p4) (off:=0) (w:=l) (x:=[iq t',iq m',iw NM]) underlying100 kr (λj x H=>by
    rw[aw,cell_of ((hc.block p4 (dC x4) id).trans x4)]
    simpa using H))
   have cX:=LH (λl (hc:aA No d l)=>(hc.cell (p:=iu G.v 110) bl id).trans cW);have h4:=LH (λl (hc:aA No d l)=>tX (P:=prog) (w:=l) (ty:=100) (off:=106) (x:=[iq t',iq m',iw NM]) ((hc.block G.v bl id).trans v4) kr (by simp;omega) (by simp[Value.oneCell']));have X4:=LH (X2.o.kept (w':=d) (λj _ _=>az (w:=w2) (a:=iu G.v j) (v4.trans a1.symm)));have c7:=LH (And.intro a7 a8);refine G9 Z bz b6 X U4 T4 M4 D4 R4 ?_;clear Z bz b6 X U4 T4 M4 D4 R4;intro Z bz b6 X U4 T4 M4 D4 R4;refine G9 B4 v4 K4 Q4 cP a2 a3 a4 a5 ?_;clear B4 v4 K4 Q4 cP a2 a3 a4 a5;intro B4 v4 K4 Q4 cP a2 a3 a4 a5;refine G7 a6 a9 b4 b7 cA cu Q ?_;clear a6 a9 b4 b7 cA cu Q;intro a6 a9 b4 b7 cA cu Q;clear b8 M a12 T a8 a1 h9 gb x4 fs G4 aa cz e7 A2 an x3 fb c6 eb gf D2 T2 M2 c9 I ay U2 X2 a7 cW cm B3
   go_wp2_with fail
   refine RA.rt (aA No) [5,5,1,5,5,5,1,5,1,3,5,5,7,5,5,7] [12,15] (λ_=>True) trivial (λ_=>aA.refl _ _) (λ_ _ _ h k=>h.trans k) (h:=?_);intro cx;refine RA.pq ?_;refine RA.pq ?_;refine RA.ld (y':=.agg #[iq t',iq m',iw NM]) (hr:=λF hp=>h3.o F (bz.o _ hp.1)) (h:=?_);refine RA.pq ?_;refine RA.pq ?_;refine RA.pk prog (G.v) 110 (h:=?_);refine RA.lk prog (ir pg gk pc) (hc:=λF hp=>by exact cX.o _ (bz.o _ hp.1)) (h:=?_);refine RA.pq ?_;refine RA.tL (y':=.slice (some ad) (gk - q) cc) (hr:=λF hp=>Q.o F) (h:=?_)
   refine RA.qc (P:=prog) [.slice (some ad) (gk - q) cc] (λv F=>∃ g5 z,v=ir g5 (gk - q) z/\d.heap.size<=g5/\F.ownsRow d.heap.size 111 2 (ir g5 (gk - q) z) (gk - q) ys) (λv F=>aA No d F/\∃ g5 z,v=ir g5 (gk - q) z/\d.heap.size<=g5/\F.ownsRow d.heap.size 111 2 (ir g5 (gk - q) z) (gk - q) ys) (hs:=λv a b' h h2=>by
    obtain⟨g5,z,z1,z2,z3⟩:=h2;exact⟨g5,z,z1,z2,dE z3 (λg hg=>h.block g (kt z3 g hg) id)⟩) (hr:=λF hp hH=>by
    have cd:=bz.o _ hp.1;refine (Z.o F cd).mono ?_;rintro e l ⟨g5,z,rfl,z1,z2,z3⟩;have z4:=kU z2 cd.size;exact⟨_,rfl,aA.dD z3 No,⟨g5,z,rfl,am cd.size z1,z4⟩,cd.trans (aA.dD z3 No),g5,z,rfl,am cd.size z1,z4⟩) (hn:=λhJ=>?_)
   refine RA.pq ?_;refine RA.pk prog (G.v) 106 (h:=?_)
   refine RA.lr (λw6=>∃ l g5 z,aA No d l/\hJ=ir g5 (gk - q) z/\d.heap.size<=g5/\l.ownsRow d.heap.size 111 2 (ir g5 (gk - q) z) (gk - q) ys/\w6=l.setRow G.v (splice vc.toList 106 [iq t',iq m',iw NM]).toArray) (hr:=λF gA hH=>by obtain⟨z0,g5,z,rfl,z1,z2⟩:=hH;exact⟨_,RA.kL rf rf (h4.o F z0),F,g5,z,z0,rfl,z1,z2,rfl⟩) (hn:=?_)
   refine RA.pq ?_;refine RA.pk prog (G.v) 110 (h:=?_)
   refine RA.lr (λw7=>∃ l g5 z,aA No d l/\d.heap.size<=g5/\l.ownsRow d.heap.size 111 2 (ir g5 (gk - q) z) (gk - q) ys/\w7=(l.setRow G.v (splice vc.toList 106 [iq t',iq m',iw NM]).toArray).setCell (iu G.v 110) (ir g5 (gk - q) z)) (hr:=(λF gA hH=>by
    obtain⟨l,g5,z,z0,rfl,z1,z2,rfl⟩:=hH;have h8:=(z0.block G.v bl id).trans v4.o;have ec:=aJ l G.v vc (splice vc.toList 106 [iq t',iq m',iw NM]).toArray 104 (0,0) h8
    have fz:∃ x,(l.setRow G.v (splice vc.toList 106 [iq t',iq m',iw NM]).toArray).cell? (iu G.v 110)=some x:=by rw[cell_of ec];refine⟨_,Array.getElem?_eq_getElem (by rw[aT,length_splice _ _ _ (by have:=a2.o;simp;omega)];have:=a2.o;simp;omega)⟩
    obtain⟨x6,fz⟩:=fz;have hP:=kY ec 110;refine⟨_,RA.kL rf rf ?_,l,g5,z,z0,z1,z2,rfl⟩;clear z2 z0 h8 ec gA;show (Instr.storeAt _ _ _).run prog _=_;go_simp)) (hn:=?_)
   refine RA.RA.kZ (λw7 hH=>?_);simp only[RA.RP,cx];obtain⟨l,g5,z,z0,z1,z2,ct⟩:=hH
   have cV:w7.heap[G.v]?=some (.cells (uK vc t' m' NM (ir g5 (gk - q) z)) 104 (0,0)):=by rw[ct];exact lz (aJ l G.v vc _ 104 (0,0) ((z0.block G.v bl id).trans v4.o)) 110 _
   have cf:∀ g,g≠G.v->w7.heap[g]?=l.heap[g]?:=λg hg=>by rw[ct,kD _ _ _ (by simpa using hg)];exact aG _ _ _ _ hg
   have hY:l.heap.size<=w7.heap.size:=by rw[ct];exact am (by rw[eS];exact ae _) (KeepsWalks.setCell _ _ _).size
   have da:aA (λg=>g=G.v) l w7:=by rw[ct];exact ((aA.refl (λg=>g=G.v) l).setRow (λ_=>rfl) _).setCell (λ_=>rfl) _
   have V:aA (λg=>g=G.v) d w7:=aA.then (aA.mono z0 (λ_ _ e=>e.elim)) da (λ_ _ e=>e);clear ct
   have y:∀ (g:Nat) (o:Obj),d.heap[g]?=some o->(∀ cs m,o≠.cells cs 104 m)->w7.heap[g]?=d.heap[g]?:=λg o hg ho=>V.block g (bm.1 hg).1 (λe=>by subst e;rw[v4.o] at hg;obtain rfl:=aF hg;exact ho _ _ rfl)
   have ba:(kd.drop q).length=gk - q:=by rw[bM,bB]
   have dT:(vs.drop q).length=gk - q:=by rw[bM,b4.o]
   have fu:kF w7 G.v m' (lh L1 (kd.take q)) (kd.drop q) kh:=by
    refine⟨⟨_,ir g5 (gk - q) z,cV,Ky a2.o,?_,?_,?_,?_,?_,?_,?_,vs.drop q,by rw[dT,ba],?_,?_⟩,?_,?_,?_⟩
    ·rw[rZ a2.o,ah de,ah de];exact a3.o
    ·rw[rZ a2.o,ah de,ah de];exact a4.o
    ·rw[rZ a2.o,ah de,ah de];exact a5.o
    ·rw[rZ a2.o,ah de,ah de];exact a6.o
    ·rw[rZ a2.o,ah de,ak de];rfl
    ·rw[rZ a2.o,ak rfl]
    ·rw[rZ a2.o,ah de,ah de];exact a9.o
    ·rw[ba,<-b6.o];exact kU (dE z2 (λg hg=>cf g (by have:=kJ z2 g hg;omega))) om
    ·intro j k u H hu;rw[bF] at H hu;obtain⟨y1,y2⟩:=Q4.o (q+j) k u H hu;refine⟨y1,dE y2 (λg hg=>?_)⟩;obtain⟨cur,hc⟩:=kA y2 hg;exact y g _ hc (λcs m e=>by cases e)
    ·exact lI.at_ (M4.o.dB (λg cs ty _ cl hg=>y g _ hg (λbp m e=>by cases e;rcases cl with e|e<;>exact absurd e de)))
    ·rw[ba];have:=b7.o;omega
    ·exact λk hk=>cA.o k (ip hk)
   have dn:∀ (j:Nat) (u:Value),ys[j]?=some u->w7.cell? (iu g5 j)=some u:=λj u H=>by have hf:=dE (w':=w7) z2 (λg hg=>cf g (by have:=kJ z2 g hg;omega));have hy:=hf.1;have hR:=(aD.1 H).1;obtain⟨g',off,c',e,_,_,_,_,Z⟩:=Cells.at (Cells.own hf) om;simp only[IJ] at e;obtain⟨⟨rfl,rfl,_⟩,_,_⟩:=e;have:=Z j u H;rw[aw] at this;exact this
   have dg:∀ (j:Nat) (u:Value),(my kd vs)[j]?=some u->d.cell? (iu pg j)=some u:=λj u H=>by obtain⟨g',off,c',e,_,_,_,_,Z⟩:=Cells.at (Cells.own K4.o) om;simp only[IJ] at e;obtain⟨⟨rfl,rfl,_⟩,_,_⟩:=e;have:=Z j u H;rw[aw] at this;exact this
   have e4:=cX.o d (aA.refl _ _);have c8:w7.cell? (iu G.v 110)=some (ir g5 (gk - q) z):=by rw[cell_of cV,rZ a2.o,ak rfl]
   have dc:lL G d w7:=by
    refine⟨aA.mono V (λg _ e=>.inl (.inl e)),λg hg=>?_,λg hg hO e=>?_,λx hx=>?_⟩
    ·rcases hg with e|⟨n,pc',e⟩
     ·exact .inl (.inl e)
     ·rw[c8] at e;simp only[IJ] at e;obtain⟨⟨rfl,_⟩,_⟩:=e;exact .inr z1
    ·refine mw.block ?_ e;obtain⟨lv,hx⟩:=B4.o.box;exact y G.b _ hx (λcs m e=>by cases e)
    ·obtain⟨b2,n,pc',j,n',c',e1,e2,e3⟩:=hx;rw[c8] at e1;simp only[IJ] at e1;obtain⟨⟨rfl,_⟩,rfl,rfl⟩:=e1;have hl:q+j<vs.length:=by rw[b4.o];omega
     have hZ:ys.length=(gk - q)*2:=z2.1;obtain⟨u,hu⟩:∃ u,ys[j*2+1]?=some u:=⟨_,av om⟩;have h7:=dn _ _ hu;rw[e3] at h7;obtain rfl:=aF h7;rw[b6.o] at hu;have h6:=yZ _ _ j _ (by rw[dT,ba]) hu;rw[bF] at h6;refine .inl ⟨pg,gk,pc,q+j,n',c',e4,by omega,dg _ _ ?_⟩;have hq:q+j<kd.length:=om;obtain⟨u',y1,_,y3⟩:=yY kd vs (by rw[b4.o,bB]) (q+j) _ (av hq);rw[h6] at y1;obtain rfl:=aF y1;exact y3
   have hM:d.heap.size<=l.heap.size:=z0.size
   have e6:lT G w7 (lh L1 (kd.take q)) (kd.drop q) kh (λp=>kX (kd.take q) p (D1 p)) ⟨t',m',NM,S1.l8+1,n'+3,w1.heap.size,fi,Ls',Tx',X'⟩:=by
    refine⟨fu,c.o.base,X4.o.next c.o.base.len v4.o a2.o cV,?_,?_,ax,hI,?_,?_,c.o.br,?_,c.o.db,c.o.qM,cb,?_,?_,c.o.al,c.o.ml⟩
    ·exact (y G.s _ U4.o (λcs m e=>by cases e)).trans U4.o
    ·exact T4.o.dB ax (λg o _ hg ho=>y g o hg (λcs m e=>by
      rcases ho with ⟨bp,ha,U,f⟩|⟨es,c',f⟩
      ·rw[f] at e;simp only[IJ] at e;obtain⟨_,rfl,_⟩:=e;rcases U with e|e|e|e<;>exact absurd e de
      ·rw[f] at e;cases e))
    ·exact M4.o.dB (λg cs ty _ cl hg=>y g _ hg (λbp m e=>by cases e;rcases cl with e|e<;>exact absurd e de))
    ·exact R4.o.dB c.o.br (λg cs ty _ ht hg=>y g _ hg (λbp m e=>by cases e;rcases ht with e|e<;>exact absurd e de))
    ·refine D4.o.dB V.size (λg hg=>V.block g (by have:=D4.o.self;rcases hg with rfl|rfl;exact this.1;exact this.2) ?_);have:=c.o.db;have:=c.o.qM;rcases hg with rfl|rfl<;>omega
    ·exact B4.o.dB (λg hg _=>by obtain⟨cs,ty,m,hc,ht⟩:=kn.obj B4.o hg;exact y g _ hc (λbp m' e=>by cases e;rcases ht with e|e<;>exact absurd e de))
    ·refine c.o.cont.next F2.o bW.o (λp hp hF=>?_) c.o.Dq (λk hk=>e8.o k ?_)
     ·rw[cP.o p hp hF,af.o]
     ·have:=gJ hk;rw[A.o] at this;exact ip this
   have b5:=X.o.trans dc;clear z0 z2 cV cf da V y fu dn dg dc;replace e6:=LH e6;replace b5:=LH b5;go_wp2;go_roundg (gk - q)
   case measure=>omega
   case rel=>
    refine⟨i+q,(⟨t',m',NM,S1.l8+1,n'+3,w1.heap.size,fi,Ls',Tx',X'⟩:VT),by omega,?_,?_,?_,?_,HG.o.trans b5.o,?_⟩
    ·have e1:lh L (ks.take (i+q))=lh L1 (kd.take q):=by rw[fF,Y.o,A.o];unfold lh;rw[dL]
     have e2:ks.drop (i+q)=kd.drop q:=by rw[A.o,fB]
     have e3:(λp=>kX (ks.take (i+q)) p (Dt p))=λp=>kX (kd.take q) p (D1 p):=by
      funext p
      rw[fF,Dj,W.o,A.o]
     rw[e1,e2,e3];exact e6.o
    ·show n'+3<=_;omega
    ·show NM<=_;rw[ca.o];omega
    ·show S1.l8+1<=_;omega
    ·refine .inr ?_;show w.heap.size<=w1.heap.size;exact am HG.o.ki.size O.o.size
  ·obtain rfl:gk=0:=om;have hA:¬ (0:Int)<((0:Nat):Int):=om;replace A:=LH A;replace Y:=LH Y;replace W:=LH W;go_wp2;go_ret;refine⟨rfl,S1,?_,by omega,by omega,by omega,HG.o,hB⟩;have hz:ks.take i=ks:=bh (by rw[<-cg.o];omega);have gv:kd=[]:=cH bB;have h:=HV.o;rw[Y.o,W.o,hz,gv] at h;exact h
theorem KC:∀ a:Nat,a<256->bits .or .u8 0 (bits .xor .u8 (a:Int) (a:Int))=0:=by decide +kernel
theorem KD {w:World}{S S':Nat->Prop}{xv yv:Value}{l:iz}(hx:Bytes w S xv l) (hy:Bytes w S' yv l) (hl:l.length<=1000) (h0:0<l.length):
  Calls prog 134 #[xv,yv] w λe w'=>e=.returned (.bool true)/\∃ k,w'=w.drewN k:=by
 obtain⟨y,z,D,r,_,_,_,_,f⟩:=Cells.at hx (by simpa using h0);obtain⟨A,B,E,s,_,_,_,_,h⟩:=Cells.at hy (by simpa using h0);subst r s;obtain⟨n,q⟩:=Ex l.length
 have d:∀ j,j<n->∃ a:Nat,a<256/\w.cell? (iu y (z+j))=some (iy a)/\w.cell? (iu A (B+j))=some (iy a):=λj C=>by have h1:=pI l j om;exact⟨(l[j]'om).toNat,(l[j]'om).toNat_lt,f j _ h1,h j _ h1⟩
 rw[<-q] at hl h0 ⊢;replace q:=LH q;replace d:=LH d;clear f h hx hy;go_enter func134,ntmps134;go_wp2
 go_loopg [5,14] n (λg dv ix wr=>∃ j:Nat,j+g=n/\ix=iw j/\dv=iy 0/\Hd (∃ a,wr=w.drewN a))
 case atStart=>exact⟨0,by omega,rfl,rfl,0,rfl⟩
 case round=>
  obtain⟨j,v,rfl,rfl,t⟩:=hrel;by_cases p:j<n
  ·obtain⟨g1,rfl⟩:∃ i,gk=i+1:=⟨gk - 1,by omega⟩;have m:(j:Int)<n:=om;obtain⟨a,u,c0,c1⟩:=d.o j p;obtain⟨k,rfl⟩:=t.o
   go_wp2_with fail
   go_quiet (fail)
   rw[KC a u];obtain⟨x,c⟩:=Ex ((w.drewN k).drewN nq);have b:x=w.drewN (k+nq):=by rw[c];simp[World.drewN,cy]
   rw[<-c];replace b:=LH b;clear c c0 c1;go_wp2;go_roundg g1
   case measure=>omega
   case rel=>exact⟨j+1,by omega,by go_num,rfl,k+nq,b.o⟩
  ·obtain rfl:gk=0:=om;have m:¬ (j:Int)<n:=om;go_wp2;go_ret;obtain⟨k,rfl⟩:=t.o;exact⟨rfl,k,rfl⟩
theorem KF {w:World}{b n:Nat}{S S':Nat->Prop}{kv pv:Value}{key:iz}{parts:List iz}(hb:Bk w b n) (hn:n<1000000) (hk:Bytes w S kv key) (hl:key.length<=64) (hp:kP w S' pv parts) (hfew:parts.length<=10) (hlen:∀ x ∈ parts,x.length<=100000) (hfl:(mu parts).length<=100000):
  Calls prog 109 #[iq b,kv,.agg (aQ ((oM key [mu parts]).take 16)).toArray,pv] w λe w'=>e=.returned (.bool true)/\Bk w' b (n+1)/\kf No b w w':=by
 obtain⟨lv,I⟩:=hb;obtain⟨n0,V⟩:=Ex w.heap.size;have HN:=LH V;obtain⟨T,hT⟩:=Ex (mu parts);obtain⟨G,hG⟩:=Ex (oM key [T]);have a7:G.length=32:=hG ▸ rk;obtain⟨Q,hQ⟩:=Ex (G.take 16);have F:Q.length=16:=by rw[hQ,aR];omega
 obtain⟨wA,z⟩:=Ex (w.alloc (.cells (aQ Q).toArray 179));have D:Below w.heap.size w wA:=by rw[z];exact (ag _ _).alloc (ae _) _
 have xA:ke wA n0 179 Q:=by rw[z,V];exact aj w _
 have d:=Bv (Cells.dB hk D.size (λg _ hg=>D.block g hg):Bytes wA S kv key) hl (hp.dB D.size (λg _ hg=>D.block g hg)) hfew hlen hfl;rw[<-hT] at d hfl ⊢;rw[<-hG] at d ⊢;rw[<-hQ] at ⊢;obtain⟨C,hC⟩:=Ex (oq ⟨key.toArray⟩ ⟨T.toArray⟩ G false);have i:C.length=35:=hC ▸ uh a7;have E:∀ v ∈ C,v.oneCell'=true:=hC ▸ wY;have L:∀ j v,(aQ G)[j]?=some v->C.toArray[2+j]?=some v:=λj v h=>by rw[hC];exact Bx h
 rw[<-hC] at d;have hA:=I.after D;have a8:∀ g,nU b lv g->g<n0:=λg hg=>by rw[V];exact I.lt hg
 have M:∀ g,nU b lv g->kn w b g:=λg hg=>nU.yH I hg
 have p:∀ g,lv.ownBlock=some g->mw w b g:=λg hg=>yG I hg
 obtain⟨qc,Y⟩:=Ex ((aQ Q).toArray);rw[<-Y] at z ⊢;refine G9 Y p d D xA hA a8 M hG ?_;clear Y p d D xA hA a8 M hG;intro Y p d D xA hA a8 M hG;refine G6 hQ hT hC L E i ?_;clear hQ hT hC L E i;intro hQ hT hC L E i;clear hk hp hlen I;go_enter func109,ntmps109
 go_wp2_with fail
 rw[<-z,<-HN.o];replace z:=LH z;clear V;refine d.o.mono ?_;rintro e K ⟨rfl,N⟩;have h1:=hA.o.after N;have x1:ke K n0 179 Q:=xA.o.dB (N.block n0 (dC xA.o));have b1:Below w.heap.size w K:=D.o.trans (N.mono D.o.size);obtain⟨q,hq⟩:=Ex K.heap.size;have W:n0<q:=hq ▸ dC x1;have xq:(K.alloc (.cells pR 223)).heap[q]?=some (.cells pR 223 (0,0)):=by rw[hq];exact aj K _
 obtain⟨W2,k⟩:=Ex ((K.alloc (.cells pR 223)).setRow q C.toArray)
 have y:(Instr.storeAt 223 (iq q) (.agg C.toArray)).run prog (K.alloc (.cells pR 223))=.ok () W2:=by rw[k];exact mf xq (by rw[i.o];kernel_rfl) (by rw[i.o];rfl) E.o
 have x2:W2.heap[q]?=some (.cells C.toArray 223 (0,0)):=by rw[k];exact aJ _ q _ _ _ _ xq
 have b2:Below w.heap.size w W2:=by rw[k];exact below_setRow (b1.alloc b1.size _) (by rw[<-HN.o];omega) _
 have a1:Below K.heap.size K W2:=by rw[k];exact below_setRow ((ag _ _).alloc (ae _) _) om _
 have h2:=h1.after a1;have y2:ke W2 n0 179 Q:=x1.dB (a1.block n0 (dC x1))
 have c:(Instr.loadAt 209 (.pointer (some (iu q 2)))).run prog W2=.ok (.agg (aQ G).toArray) W2:=tW (x:=aQ G) underlying209 (by rw[km,a7];kernel_rfl) (λj v hv=>by rw[cell_of x2];exact L.o j v hv)
 have u:=yF a7 W2;rw[<-hQ.o] at u;obtain⟨gc,P⟩:=Ex ((aQ G).toArray);rw[<-P] at c u;refine G6 P y c u x2 y2 ?_;clear P y c u x2 y2;intro P y c u x2 y2;refine G4 h2 b2 k W ?_;clear h2 b2 k W;intro h2 b2 k W;clear N h1 x1 b1 xq a1 d D xA hA;subst hq
 go_wp2_with (first|(refine kI rfl 223 _ _ rfl _ _ rfl rfl y.o ?_)|(refine kQ rfl 209 _ rfl _ _ rfl c.o ?_)|fail)
 refine u.o.mono ?_;rintro e Z ⟨rfl,H⟩;obtain⟨q1,X⟩:=Ex K.heap.size;rw[<-X] at x2 c y W ⊢;obtain⟨q3,J⟩:=Ex Z.heap.size;have x3:=(H.block q1 (dC x2.o)).trans x2.o;have y3:ke Z n0 179 Q:=y2.o.dB (H.block n0 (dC y2.o));have h3:=h2.o.after H;have b3:Below w.heap.size w Z:=b2.o.trans (H.mono b2.o.size);have z3:ke (Z.alloc (.cells #[iy 0,iy 0,iy 0,iy 0,iy 0,iy 0,iy 0,iy 0,iy 0,iy 0,iy 0,iy 0,iy 0,iy 0,iy 0,iy 0] 179)) q3 179 (List.replicate 16 0):=by rw[J];exact aj Z _
 obtain⟨A,s⟩:=Ex ((Z.alloc (.cells #[iy 0,iy 0,iy 0,iy 0,iy 0,iy 0,iy 0,iy 0,iy 0,iy 0,iy 0,iy 0,iy 0,iy 0,iy 0,iy 0] 179)).setRow q3 (aQ Q).toArray)
 have f:(Instr.storeAt 179 (iq q3) (.agg (aQ Q).toArray)).run prog (Z.alloc (.cells #[iy 0,iy 0,iy 0,iy 0,iy 0,iy 0,iy 0,iy 0,iy 0,iy 0,iy 0,iy 0,iy 0,iy 0,iy 0,iy 0] 179))=.ok () A:=by rw[s];exact nn z3 sm Q F
 have B:Below Z.heap.size Z A:=by rw[s];exact below_setRow ((ag _ _).alloc (ae _) _) om _
 have z4:ke A q3 179 Q:=by rw[s];exact z3.setRow Q
 have x4:=(B.block q1 (dC x3)).trans x3;have y4:ke A n0 179 Q:=y3.dB (B.block n0 (dC y3));have h4:=h3.after B;have b4:Below w.heap.size w A:=b3.trans (B.mono b3.size);have O:∀ a:Nat,Below w.heap.size w (A.drewN a):=λa=>⟨b4.os,b4.tape,b4.output,b4.size,b4.block⟩
 have heq:=LH (show ∀ a:Nat,Calls prog 134 #[ir q3 16 16,ir n0 16 16] (A.drewN a) λe w'=>e=.returned (.bool true)/\∃ n,w'=(A.drewN a).drewN n from λa=>KD (w:=A.drewN a) (S:=λ_=>True) (S':=λ_=>True) (l:=Q) (by
   have h:=sw (w:=A.drewN a) (g:=q3) (t:=179) (l:=Q) z4 F mx;show Cells _ _ _ Q.length 1 _;rw[F];exact h) (by
   have h:=sw (w:=A.drewN a) (g:=n0) (t:=179) (l:=Q) y4 F mx;show Cells _ _ _ Q.length 1 _;rw[F];exact h) om om)
 refine G7 f s x4 h4 b4 O X ?_;clear f s x4 h4 b4 O X;intro f s x4 h4 b4 O X;clear H x3 y3 h3 b3 z3 B z4 y4 h2 y2 x2 c y b2
 go_wp2_with (first|(refine kI rfl 179 _ _ rfl _ _ rfl rfl (by first|exact f.o|(rw[<-J];exact f.o)) ?_)|fail)
 rw[<-J];replace J:=LH J
 go_quiet (first|(go_at_call 134;refine Calls.quiet_of (heq.o _)))
 obtain⟨w8,m⟩:=Ex (A.drewN nq);rw[<-m];have b8:Below w.heap.size w w8:=by rw[m];exact O.o _
 have aa:nO w8 b lv n:=by rw[m];exact h4.o.dB (λ_ _=>rfl)
 have x8:w8.heap[q1]?=some (.cells C.toArray 223 (0,0)):=by rw[m];exact x4.o
 have U:(Instr.loadAt 223 (iq q1)).run prog w8=.ok (.agg C.toArray) w8:=mE (x:=C) underlying223 (by rw[i.o];kernel_rfl) (λj v hv=>by rw[aw,cell_of x8];simpa using hv)
 have r:=Bq aa hn C.toArray (by simp[i.o]) (by simpa using E.o);refine G4 U r m b8 ?_;clear U r m b8;intro U r m b8;clear aa x8 heq
 go_wp2_with (first|(refine kQ rfl 223 _ rfl _ _ rfl U.o ?_)|fail)
 refine r.o.mono ?_;rintro e w9 ⟨rfl,an,R,ad,af⟩
 have a6:kf No b w w9:=by
  have hc:=(aA.dD b8.o (nU b lv)).then ad (λ_ _ e=>e);refine⟨hc.mono (λg _ h=>.inr (M.o g h)),λg hg ax e=>?_⟩;have e4:=wZ R e;rcases af with e5|⟨g',e5,hl⟩
  ·exact p.o g (by rw[<-e5];exact e4)
  ·rw[e4] at e5;obtain rfl:=aF e5;have:=b8.o.size;omega
 replace a6:=LH a6;replace R:=LH (⟨an,R⟩:Bk w9 b (n+1));clear ad af;go_wp2;go_ret;exact⟨rfl,R.o,a6.o⟩
variable {Ls:List iz}
theorem KG {p:Nat}(hL:800<=(Ls.getD 0 []).length) (hp:p<50):oA ((Ls.getD 0 []).take (kp (0:Nat)*16)) p=qp Ls p:=by
 unfold oA qp;have hw:kp (0:Nat)=50:=rfl;rw[hw,ak (by rw[aR];omega)];apply b9;intro j;rw[aU,aU,bF,bF,aU];by_cases a:j<16
 ·rw[ak a,ak a,ak om]
 ·rw[ah a,ah a]
theorem KH {w:World}{t b n N:Nat}{gs:Nat->Nat}{key:iz}{Tx:List (Int×Value)}(h:lx w t b N gs key Ls Tx) (_:b<=N) (h4:Ls.length=4) (hB:Bk w b n) (hn:n<900000) (i:Nat) (hi:i<50){xv:Value}{xl:iz}{B:Nat}(hx:w.ownsRow B 5 1 xv xl.length (aQ xl)) (hxl:xl.length<=1000) (hx0:0<xl.length)
  (htag:qp Ls i=qo key i xl) (htex:pW Tx i (.bool false)=.bool true):
  Calls prog 72 #[iq t,iw i,xv] w λe w'=>e=.returned (.bool true)/\Bk w' b (n+1)/\kf No b w w':=by
 obtain⟨kv,lv,mv,cs,j,F,a7,s,aa⟩:=h.tree;obtain⟨mb,ad,G,l⟩:=h.qI;have a1:key.length=32:=by have:=F.1;rw[km] at this;omega
 obtain⟨T,kc,rfl,_⟩:=kz F om;obtain⟨xg,xc,rfl,_⟩:=kz hx hx0
 have Y:800<=(Ls.getD 0 []).length:=by have h1:=s 0 _ (av om);rw[fN,av om];have h2:=h1.2.1;have h3:=h1.2.2;have hw:kp (0:Nat)=50:=rfl;rw[hw] at h3;simp only[Option.getD_some];omega
 have a8:mv=.map (some mb):=by
  rw[cell_of j] at G
  simpa using G
 subst a8;obtain⟨es,mc,O,_⟩:=l.box
 have Q:∀ a,BX No b w a->a.heap[mb]?=w.heap[mb]?:=λa hr=>hr.g.block mb (bm.1 O).1 (λe=>e.elim id (λe=>by obtain⟨U,ty,m,hc,_⟩:=kn.obj hB e;rw[O] at hc;cases hc))
 have r:∀ a,BX No b w a->a.heap[t]?=_:=λa hr=>hr.g.at hB j id de de
 have c:∀ a,BX No b w.drew a->BX No b w a:=λa h=>⟨⟨_,hB⟩,h.b1,h.g.drew⟩
 have D:∀ a,BX No b w a->lx a t b N gs key Ls Tx:=λa hr=>h.exact (λg hg=>by
  rcases h.dep hg with ⟨_,e⟩|⟨_,_,e⟩|⟨_,e⟩|⟨_,_,_,_,e⟩|⟨_,_,_,e⟩
  ·exact (hr.g.at hB e id de de).trans e.symm
  ·exact (hr.g.at hB e id de de).trans e.symm
  ·exact (hr.g.at hB e id de de).trans e.symm
  ·exact (hr.g.at hB e id de de).trans (show w.heap[g]?=_ from e).symm
  ·exact hr.g.block g (bm.1 e).1 (λV=>V.elim id (λV=>by obtain⟨U,ty,m,hc,_⟩:=kn.obj hB V;rw[e] at hc;cases hc)))
 have c0:=LH (λa (hr:BX No b w a)=>(show a.cell? (iu t 0)=some (iq b) by rw[cell_of (r a hr)];rfl));have c1:=LH (λa (hr:BX No b w a)=>(show a.cell? (iu t 1)=some (ir T 32 kc) by rw[cell_of (r a hr)];rfl));have c3:=LH (λa (hr:BX No b w a)=>(show a.cell? (iu t 3)=some (.map (some mb)) by rw[cell_of (r a hr)];rfl))
 have a6:=LH (λa (hr:BX No b w a)=>(show (Instr.lookup 153 (.map (some mb)) (iw i) false).run prog a=.ok (.bool true) a by have h:=(l.dB (w':=a) (Q a hr)).look (t:=153) underlying153 (z:=.bool false) rf (k:=i) (rp om);rw[htex] at h;exact h))
 have K:=LH (λa (hr:BX No b w a)=>C3 (D a hr).tree om i hi);have f:=LH (λa (hr:BX No b w a)=>BJ (D a hr).tree om i om);have R:∀ a,BX No b w a->Bytes a (λ_=>True) (ir xg xl.length xc) xl:=λa hr=>(Cells.own (hr.g.own hB hx (λ_ _=>id) de de)).mono (λ_ _ _=>trivial)
 have E:∀ a,BX No b w a->Bytes a (λ_=>True) (ir T 32 kc) key:=λa hr=>by show Cells a _ _ key.length 1 _;rw[a1];exact (Cells.own (hr.g.own hB F (λ_ _=>id) de de)).mono (λ_ _ _=>trivial)
 have M:=LH (λa (hr:BX No b w a)=>C5 i om (R a hr));rw[KG Y hi,htag] at f;have C:BX No b w.drew w.drew:=⟨⟨_,hB.dB (λ_ _ _=>rfl)⟩,⟨_,hB.dB (λ_ _ _=>rfl)⟩,kf.refl⟩;have A:Bk w.drew b n:=hB.dB (λ_ _ _=>rfl);obtain⟨lg,q⟩:=Ex ((aQ (qo key i xl)).toArray);rw[<-q] at f;obtain⟨XL,p⟩:=Ex xl.length;rw[<-p] at M hxl ⊢;revert c E C A q p;refine H6 ?_;intro c E C A q p;clear D r Q R l j a7 s G;go_enter func72,ntmps72
 go_wp2_with fail
 refine RA.region (BX No b) (λx y=>(∃ n,Bk x b n)/\aA No x y) [1,1,4,1,1,1,1,1,1,1,1,1,1,1,1,1,1,1,1,1,1,1,4,1,1,3,4,1,1] (λ_ _ _=>True) (λa=>Bk a b n) kr C.o (λ_ _ h=>by obtain⟨⟨n,h1⟩,h2⟩:=h;exact BX.mh h1 h2) (λ_ _ _=>BX.trans) (λ_ _ h k=>k.after h.2.no) A.o kr ?_;intro cx
 repeat refine RA.qq ?_
 refine RA.kc (P:=prog) [iq t,iw i] (.bool true) (λa=>Bk a b n) (he:=λ_ _ h k=>k.after h.2.no) (hr:=(λa hp hH=>by have d:Bk a b n:=hH;refine (K.o a (c.o _ hp.1)).mono ?_;rintro e w4 ⟨rfl,rfl⟩;exact⟨rfl,⟨⟨_,d⟩,⟨_,d⟩,kf.refl⟩,d⟩)) (hn:=?_)
 repeat refine RA.qq ?_
 refine RA.fk prog t 3 (h:=?_);refine RA.lk prog (.map (some mb)) (hc:=λa hp=>by exact c3.o _ (c.o _ hp.1)) (h:=?_)
 repeat refine RA.qq ?_
 refine RA.vk prog (.bool true) (hr:=λa hp=>by have hl:=a6.o a (c.o _ hp.1);clear hp;go_simp) (h:=?_)
 refine RA.pt kr rf rf rf ?_
 repeat refine RA.qq ?_
 refine RA.fk prog t 0 (h:=?_);refine RA.lk prog (iq b) (hc:=λa hp=>by exact c0.o _ (c.o _ hp.1)) (h:=?_)
 repeat refine RA.qq ?_
 refine RA.fk prog t 1 (h:=?_);refine RA.lk prog (ir T 32 kc) (hc:=λa hp=>by exact c1.o _ (c.o _ hp.1)) (h:=?_)
 repeat refine RA.qq ?_
 refine RA.kc (P:=prog) [iq t,iw i] (.agg lg) (λa=>Bk a b n) (he:=λ_ _ h k=>k.after h.2.no) (hr:=(λa hp hH=>by have d:Bk a b n:=hH;refine (f.o a (c.o _ hp.1)).mono ?_;rintro e w4 ⟨rfl,H⟩;exact⟨rfl,BX.mh d (aA.dD H No),d.after H⟩)) (hn:=?_)
 repeat refine RA.qq ?_
 refine RA.qc (P:=prog) [iw i,ir xg XL xc] (λ_ _=>True) (λv a=>Bk a b n/\kP a (λ_=>True) v [[108,101,97,102],kj i,xl]) (hs:=λ_ _ _ _ _=>trivial) (he:=λv x y hE hk=>⟨hk.1.after hE.2.no,kP.ki hk.2 hE.2⟩) (hr:=(λa hp hH=>by have d:Bk a b n:=hH;refine (M.o a (c.o _ hp.1)).mono ?_;rintro e w4 ⟨v,rfl,H,S⟩;exact⟨v,rfl,BX.mh d (aA.dD S No),trivial,d.after S,H⟩)) (hn:=λu=>?_)
 refine RA.kc (P:=prog) [iq b,ir T 32 kc,.agg lg,u] (.bool true) (λa=>Bk a b (n+1)) (he:=λ_ _ h k=>k.after h.2.no) (hr:=(λa hp hH=>by
  obtain⟨I,W⟩:=hH
  have hlen:∀ x ∈ [[108,101,97,102],kj i,xl],x.length<=9000:=by
   intro x hx;simp only[bi,bL,bS] at hx;rcases hx with rfl|rfl|rfl
   ·simp
   ·rw[nF];omega
   ·have:=p.o;omega
  have J:=KF I om (E.o a (c.o _ hp.1)) om W sm (λx hx=>by have:=hlen x hx;omega) (Di hlen sm);have L:lg=(aQ ((oM key [mu [[108,101,97,102],kj i,xl]]).take 16)).toArray:=q.o;rw[<-L] at J;refine J.mono ?_;rintro e w4 ⟨rfl,H,S⟩;exact⟨rfl,⟨⟨_,I⟩,⟨_,H⟩,S⟩,H⟩)) (hn:=?_)
 refine RA.pt kr rf rf rf ?_
 repeat refine RA.qq ?_
 refine RA.RA.done rfl (λw9 hR hF hH=>?_);clear hF;simp only[RA.RP,cx];have Z:=LH (c.o _ hR);have X:=LH (show Bk w9 b (n+1) from hH);clear hR hH;go_wp2;go_ret;exact⟨rfl,X.o,Z.o.g⟩
variable {w:World}{t:Option Addr}
theorem Lc {s:Nat}(hs:kR w s none t) (gH kv dv:Value) (unit:Int) (Q:Ending->World->Prop)
  (h:Calls prog 140 #[kv,iw unit,dv] w (B9 Q)):
  Calls prog 112 #[iq s,gH,kv,iw unit,dv] w Q:=by
 have hi:=LH (AD hs);replace h:=LH h;clear hs;go_enter func112,ntmps112
 go_wp2_with (first|(go_at_call 137;refine hi.o.mono ?_;rintro e w' ⟨rfl,rfl⟩)|fail)
 refine h.o.mono ?_;rintro e w' ⟨a,n,cp,c,rfl,b⟩;replace b:=LH b;go_wp2;exact b.o
theorem Ld {s:Nat}(hs:kR w s none t) (gH:Value){S S':Nat->Prop}{kv dv:Value}{key data:iz}(hk:Bytes w S kv key) (hkl:key.length=64) (hd:Bytes w S' dv data) (hdl:data.length=64) (unit:Nat) (hu:unit<=65536):
  Calls prog 112 #[iq s,gH,kv,iw unit,dv] w λe w'=>∃ v,e=.returned (.tuple #[v,iw 0])/\w'.ownsRow w.heap.size 5 1 v 64 (aQ (sc key unit data))/\Below w.heap.size w w':=
 Lc hs gH kv dv unit _ ((K7 hk unit ⟨.inr hkl,by omega,by omega⟩ hd om om).mono λe w' ⟨v,h1,a,b⟩=>by rw[hdl] at a;obtain⟨g,cp,rfl,_⟩:=kz a om;exact⟨_,_,_,_,h1,_,h1,a,b⟩)
theorem DJ {d sb:Nat}{X:D.Dk}(h:l6 w d sb X) (p:Nat) (hp:p<120):(X.at p).length=64:=by have:=h.len;unfold D.Dk.at;rw[aR,bM];omega
theorem Le {xs:List Value}{d sb s b:Nat}{gH:ByteArray}{A M:iz}{X:D.Dk}(h:ou xs d s b gH A M) (hs:kR w s none t) (hD:l6 w d sb X) (at':Nat) (hat:at'<120):
  Calls prog 73 #[.agg xs.toArray,iw at'] w λe w'=>∃ v,e=.returned (.tuple #[v,iw 0])/\w'.ownsRow w.heap.size 5 1 v 64 (aQ (sc A at' (X.at at')))/\Below w.heap.size w w':=by
 obtain⟨q,H⟩:=Ex w.heap.size;obtain⟨L,l⟩:=Ex (w.alloc (.cells xs.toArray 96));have E:mU L q xs:=by rw[l,H];exact rU w xs
 have b1:Below w.heap.size w L:=by rw[l];exact (ag _ _).alloc (ae _) _
 have f:=D.yR (w:=L) (hD.at_.ki (aA.dD b1 No) (λ_ _=>id)) hD.none at' (by rw[hD.size];exact hat);have z:=DJ hD at' hat;obtain⟨Z,J⟩:=Ex (X.at at');rw[<-J] at f z ⊢;have s1:kR L s none t:=(b1.block s (dC hs)).trans hs;obtain⟨c,hc⟩:=Ex xs.toArray;rw[<-hc] at l ⊢;have O:(w.alloc (.cells c 96)).cell? (iu w.heap.size 0)=some (iq d):=by rw[<-l,<-H];exact E.get h.c0
 refine G7 hc E b1 s1 J f h ?_;clear hc E b1 s1 J f h;intro hc E b1 s1 J f h;clear hs hD;go_enter func73,ntmps73
 go_wp2_with fail
 rw[<-l];refine f.o.mono ?_;rintro e n ⟨zv,rfl,B,y⟩;obtain⟨S,T,rfl,_⟩:=kz B om
 have I:Bytes n (λ_=>True) (ir S 64 T) Z:=by have h:=(Cells.own B).mono (S':=λ_=>True) (λ_ _ _=>trivial);show Cells n _ _ Z.length 1 _;rw[z];exact h
 have m:=E.o.ki (aA.dD y No);have R:kR n s none t:=(y.block s (dC s1.o)).trans s1.o;have C:=b1.o.trans (y.mono b1.o.size)
 have G:∀ p,aA No n p->Bytes p (λ_=>True) (.slice (some (iu q 5)) 64 64) A:=λp hc=>by refine⟨by rw[km,aY],_,_,by rw[h.o.dl],cJ h.o.dl,by unfold maxLen;omega,λh=>(by cases h),.inr ⟨q,5,rfl,trivial,dC (m.ki hc).at_,λj u hu=>(m.ki hc).get (h.o.BO j u hu)⟩⟩
 have x:∀ p,aA No n p->Calls prog 112 #[iq s,.string gH,.slice (some (iu q 5)) 64 64,iw at',ir S 64 T] p λe w'=>∃ v,e=.returned (.tuple #[v,iw 0])/\w'.ownsRow p.heap.size 5 1 v 64 (aQ (sc A at' Z))/\Below p.heap.size p w':=λp hc=>Ld (w:=p) ((hc.block s (dC R) id).trans R) _ (G p hc) h.o.dl (Bytes.ki I hc (λ_ _ _=>id)) z at' om
 have i:=Dr n
 obtain⟨W,r⟩:=Ex (sc A at' Z);rw[<-r] at x;refine G5 r x i m C ?_;clear r x i m C;intro r x i m C;rw[<-H];replace l:=LH l;have a1:=LH H;clear H y B I R G f E s1 b1 O
 go_wp2_with fail
 refine RA.rt (aA No) [1,1,1,1,1,1,1,1,1,3,1,1,1,1] [] (λ_=>True) trivial (λ_=>aA.refl _ _) (λ_ _ _ h k=>h.trans k) (h:=?_);intro cx;refine RA.fk prog q 1 (h:=?_);refine RA.lk prog (iq s) (hc:=λn hp=>by exact (m.o.ki (i.o _ hp.1)).get h.o.c1) (h:=?_);refine RA.fk prog q 2 (h:=?_);refine RA.lk prog (.string gH) (hc:=λn hp=>by exact (m.o.ki (i.o _ hp.1)).get h.o.c2) (h:=?_);refine RA.fk prog q 3 (h:=?_);refine RA.fk prog q 5 (h:=?_);refine RA.vk prog (.slice (some (iu q 5)) 64 64) (h:=?_)
 repeat refine RA.qq ?_
 refine RA.qc (P:=prog) [iq s,.string gH,.slice (some (iu q 5)) 64 64,iw at',ir S 64 T] (λv n=>∃ u,v=.tuple #[u,iw 0]/\n.ownsRow w.heap.size 5 1 u 64 (aQ W)) (hs:=λv a b h Y=>by
  obtain⟨u,Q,K⟩:=Y;exact⟨u,Q,dE K (λg hg=>h.block g (kt K g hg) id)⟩) (hr:=λn hp hH=>by
  refine (x.o n (i.o _ hp.1)).mono ?_;rintro e p ⟨v,rfl,Q,K⟩;exact⟨_,rfl,aA.dD K _,⟨v,rfl,kU Q (am C.o.size (i.o _ hp.1).size)⟩,trivial⟩) (hn:=λu=>?_)
 repeat refine RA.qq ?_
 refine RA.vk prog (kW u 0) (hr:=λn hp=>by obtain⟨v,rfl,_⟩:=hp.fact 0 rfl kr;clear hp;go_simp;rfl) (h:=?_)
 refine RA.vk prog (kW u 1) (hr:=λn hp=>by obtain⟨v,rfl,_⟩:=hp.fact 0 rfl kr;clear hp;go_simp;rfl) (h:=?_)
 repeat refine RA.qq ?_
 refine RA.RA.done rfl (λw5 V U hH=>?_);clear hH;simp only[RA.RP,cx];have F:=i.o _ V;obtain⟨v,rfl,hv⟩:=U _ (cq ..);obtain⟨vg,vc,rfl,_⟩:=kz hv om;simp only[kW,TP];have N:=LH (C.o.trans (F.no.mono C.o.size));replace hv:=LH hv;clear F V U;go_wp2;refine aI (results_tmp2 rfl _ _ _) rfl ⟨_,rfl,?_,N.o⟩;rw[<-r.o];exact hv.o
end Go.Proofs.YthmcbgidehjlbaaGreat.Fd
namespace Go.Proofs.YthmcbgidehjlbaaGreat.Fd
open _root_.Go.Proofs.Tryz
open Go Go.RowKit Go.Shelf K
attribute [local go_sem] Oper.semAt_some
section
variable {G:VG}{w w':World}{L:iz}{ks:List (Nat×iz)}{kh:Bool}{Dt:Nat->iz}{S:VT}
theorem lT.pb (h:lT G w L ks kh Dt S) (hg:kf No G.b w w'){n':Nat}(hB:Bk w' G.b n'):lT G w' L ks kh Dt { S with n:=n' }:=by
 have hk:∀ (g:Nat) (cs:Array Value) (ty:TypeId) (m:Nat×Nat),w.heap[g]?=some (.cells cs ty m)->ty≠223->ty≠145->w'.heap[g]?=w.heap[g]?:=λg cs ty m c h1 l=>(hg.at h.book c id h1 l).trans c.symm
 obtain⟨⟨o,pv,hv,_⟩,_⟩:=h.kx;have d:=h.mF.self;refine⟨h.kx.dB (λg cs ty ht hg=>hk g cs ty _ hg (by rcases ht with rfl|rfl|rfl|rfl<;>decide) (by rcases ht with rfl|rfl|rfl|rfl<;>decide)),h.base,h.fix.kept (λj _ _=>az (w:=w) (a:=iu G.v j) (hk _ _ _ _ hv de de)),(hk _ _ _ _ h.su de de).trans h.su,?_,h.bN,h.l4,h.marks.dB (λg cs ty _ f hg=>hk g cs ty _ hg (by rcases f with rfl|rfl<;>decide) (by rcases f with rfl|rfl<;>decide)),h.ring.dB h.br (λg cs ty _ ht hg=>hk g cs ty _ hg (by rcases ht with rfl|rfl<;>decide) (by rcases ht with rfl|rfl<;>decide)),h.br,h.mF.dB hg.size (λg c=>hg.block g (by rcases c with rfl|rfl;exact d.1;exact d.2) (λe=>e.elim id (λe=>by have:=e.ge;have:=h.db;have:=h.qM;rcases c with rfl|rfl<;>omega))),h.db,h.qM,h.bv,hB,h.cont,h.al,h.ml⟩;refine h.tree.exact (λg c=>?_);rcases h.tree.dep c with ⟨_,e⟩|⟨_,_,e⟩|⟨_,e⟩|⟨_,_,_,_,e⟩|⟨_,_,_,e⟩
 ·exact hk _ _ _ _ e de de
 ·exact hk _ _ _ _ e de de
 ·exact hk _ _ _ _ e de de
 ·exact hk _ _ _ _ (show w.heap[g]?=_ from e) de de
 ·exact hg.block g (bm.1 e).1 (λi=>i.elim id (λi=>by obtain⟨k,ty,m,hc,_⟩:=kn.obj h.book i;rw[e] at hc;cases hc))
theorem lT.kO (h:lT G w L ks kh Dt S) (hg:kf No G.b w w'):lL G w w':=by obtain⟨⟨f,pv,hv,_,_,_,_,_,_,d,_,vs,_,c,_⟩,_⟩:=h.kx;refine lL.ow hg (λ_ e=>e.elim) ((hg.at h.book hv id de de).trans hv.symm) (λpg n pc hc=>?_);have e:=(cell_of hv 110).trans d;rw[hc] at e;obtain rfl:=aF e;obtain⟨cur,a⟩:=kA c (g:=pg) rfl;exact (hg.at h.book a id de de).trans a.symm
end
theorem Lf {G:VG}{w:World}{L:iz}{ks:List (Nat×iz)}{kh:Bool}{Dt:Nat->iz}{S:VT}(hV:lT G w L ks kh Dt S) (hn:S.n<800000) (p:Nat) (hp:p<50) (h0:nf L p=true):
  Calls prog 49 #[iq G.v,iw p] w λe w'=>∃ g c n',e=.returned (.tuple #[ir g 64 c,iw 0])/\Bytes w' (λ_=>True) (ir g 64 c) (kX ks p (Dt p))/\n'<=S.n+1/\Bk w' G.b n'/\kf No G.b w w':=by
 have h:=hV.kx;obtain⟨v,T⟩:=Ex G.v;rw[<-T] at h ⊢;obtain⟨m,cu⟩:=Ex S.m;rw[<-cu] at h;obtain⟨pa,pc,bp,gh⟩:=h.kC;have cf:=h.mL
 obtain⟨E,cm,cX⟩:=CB ks (λ(j:Nat) (k:Nat×iz) (x:KE)=>x.1=k.1/\k.2.length=64/\(∃ pg,pa=some (iu pg 0)/\pg<w.heap.size/\w.cell? (iu pg (j*2))=some (iw x.1)/\w.cell? (iu pg (j*2+1))=some (kv x))/\Bytes w (λ_=>True) (kv x) k.2) (λj k hk=>by obtain⟨pg,H,z,h1,U,h3,h4,h5,h6⟩:=gh j k hk;exact⟨(k.1,H,z),rfl,h5,⟨pg,h1,U,h3,h4⟩,h6⟩)
 rw[<-cm] at bp cf
 have e6:∀ (j:Nat) (x:KE),E[j]?=some x->∃ k:Nat×iz,ks[j]?=some k/\x.1=k.1/\k.2.length=64/\(∃ pg,pa=some (iu pg 0)/\pg<w.heap.size/\w.cell? (iu pg (j*2))=some (iw x.1)/\w.cell? (iu pg (j*2+1))=some (kv x))/\Bytes w (λ_=>True) (kv x) k.2:=λj x hx=>by
  have hj:j<ks.length:=by rw[<-cm];exact (aD.1 hx).1
  exact⟨ks[j],av hj,cX j _ x (av hj) hx⟩
 have fz:∀ (j:Nat) (k:Nat×iz),ks[j]?=some k->∃ x:KE,E[j]?=some x/\x.1=k.1:=λj k hk=>by
  have hj:j<E.length:=by rw[cm];exact (aD.1 hk).1
  exact⟨E[j],av hj,(cX j k _ hk (av hj)).1⟩
 obtain⟨ln,ay⟩:=Ex E.length;rw[<-ay] at bp cf;replace ay:=LH ay;have cU:=LH e6;have cV:=LH fz;have c6:=LH (λw1 (hb:Below w.heap.size w w1)=>xd (h.after hb).marks p hp);rw[h0] at c6;have HC:=LH (λw1 (hb:Below w.heap.size w w1)=>(h.after hb).cells);have HV:=LH (λw1 (hb:Below w.heap.size w w1)=>hV.below hb);have hz:=LH hV.book;have cc:=LH (hV.cont.Dn p hp h0);replace cu:=LH cu;replace T:=LH T;have hX:=lq bp;have hY:=hV.blt;clear gh cX e6 fz h cm h0 hV;refine (dJ (n:=3)).1 ?_;refine callsIn_of_wp_marks func49 rfl trivial ?_ rfl;simp only[ntmps49,NT,Nat.reduceAdd,Nat.reduceSub];refine dU.2 ?_;have b0:=((Boxed.new w 3 (iw p)).alloc (.cells #[.slice none 0 0] 42)).alloc (.cells #[iw 0] 47);have b1:=(Boxed.new (w.alloc (.cells #[iw p] 3)) 42 (.slice none 0 0)).alloc (.cells #[iw 0] 47);have b2:=Boxed.new ((w.alloc (.cells #[iw p] 3)).alloc (.cells #[.slice none 0 0] 42)) 47 (iw 0);have ad:Below w.heap.size w (((w.alloc (.cells #[iw p] 3)).alloc (.cells #[.slice none 0 0] 42)).alloc (.cells #[iw 0] 47)):=((((ag _ w).alloc (ae _) _).alloc sm _).alloc (by simp;omega) _);simp only[aN] at b1 b2;have bD:(((w.alloc (.cells #[iw p] 3)).alloc (.cells #[.slice none 0 0] 42)).alloc (.cells #[iw 0] 47)).heap.size=w.heap.size+3:=by simp
 have hf:=(ad.cell (p:=iu v 110) hX).trans bp;refine G6 b0 b1 b2 ad bD ay ?_;clear b0 b1 b2 ad bD ay;intro b0 b1 b2 ad bD ay
 go_wp2_with fail
 refine (Cw _ _ _ _).mono ?_;rintro e w1 ⟨rfl,rfl⟩;clear hf;replace b0:=b0.o;replace b1:=b1.o;replace b2:=b2.o;replace ad:=ad.o;replace bD:=bD.o;generalize (((w.alloc (.cells #[iw p] 3)).alloc (.cells #[.slice none 0 0] 42)).alloc (.cells #[iw 0] 47))=W3 at*;have bk:=Boxed.new W3 102 (.slice pa ln pc);have cr:Below w.heap.size w (W3.alloc (.cells #[.slice pa ln pc] 102)):=ad.alloc om _;have h7:=b0.alloc (.cells #[.slice pa ln pc] 102);have h8:=b1.alloc (.cells #[.slice pa ln pc] 102);have h9:=b2.alloc (.cells #[.slice pa ln pc] 102);have iA:(W3.alloc (.cells #[.slice pa ln pc] 102)).heap.size=w.heap.size+4:=by simp;omega
 have e3:=bk.cell;have ha:=bk.lt;rw[bD] at e3 ha ⊢;generalize (W3.alloc (.cells #[.slice pa ln pc] 102))=W4 at*;clear b0 b1 b2 ad bk
 have gv:=Cz .wide 2 trivial rfl om (w.heap.size+3) (w.heap.size+4) pa pc E (by rw[<-ay.o];exact cf) W4 om om (by rw[<-ay.o];exact e3) (λj x hx=>by obtain⟨k,_,_,_,⟨pg,h1,U,h3,h4⟩,_⟩:=cU.o j x hx;exact⟨pg,h1,by omega,(cr.cell (p:=iu pg (j*2)) U).trans h3,(cr.cell (p:=iu pg (j*2+1)) U).trans h4⟩)
 go_wp2_with fail
 refine (dU (n:=3)).1 ?_;refine ze (λA hA=>?_)
 refine wpIn_rangeFunc_ownH (F:=.wide) (n:=3) (P:=prog) (α:=KR) rfl om (gf:=107) (lb:=#[iq (w.heap.size+3)]) (by rw[hA];rfl) trivial (enters_of func107 kr rfl) gv belowK_t (belowK_b om) (ag _ _) (λx=>rfl)
  (CC w.heap.size p W4) (CD w.heap.size p w)
  (OwnFrom.and (Own.from (λs A B row hs hg hr=>⟨hs.1,boxed_own _ _ (λ_=>_) s A B row hs.2.1 hg hr,boxed_own _ _ (λ_=>_) s A B row hs.2.2.1 hg hr,boxed_own _ _ (λ_=>_) s A B row hs.2.2.2 hg hr⟩) _) (ownFrom_below om om))
  (λc=>OwnFrom.and (Own.from (λs A B row hs hg hr=>by obtain⟨hc,q,x,h1,U,h3,h4,h5⟩:=hs;exact⟨hc,q,x,h1,U,h3,boxed_own _ _ (λ_=>_) s A B row h4 hg hr,boxed_own _ _ (λ_=>_) s A B row h5 hg hr⟩) _) (ownFrom_below (ae _) om))
  ⟨⟨by simp,h7,h8,h9⟩,ag _ _⟩
  (CE A)
  ?ax ?assign ?body ?done ?stop
 case ax=>
  rintro x a' _ X Y row ⟨g,e,hg⟩ hN hr;refine⟨g,e,(hN.block g (dC hg) (λer=>?_)).trans hg⟩;obtain⟨_,o,ho,hc⟩:=hr g er.symm;rw[hg] at ho;cases ho
  cases hc
 case assign=>
  rintro l pre ⟨⟨q,H,z⟩,j⟩ W K I hK;have dc:w.heap.size+4<=W.heap.size:=by have:=I.2.size;omega
  have cY:=hK _ (W.alloc (.cells #[iw q,ir H 64 z] 111)) ((KeepsOthers.alloc W _).from _) ((ag _ _).alloc dc _) ⟨⟨I.1.1,I.1.2.1.alloc _,I.1.2.2.1.alloc _,I.1.2.2.2.alloc _⟩,I.2.alloc dc _⟩ ⟨W.heap.size,rfl,aj W _⟩;rw[hA] at cY;replace hK:=LH cY;rw[hA];unfold vM;clear cY
  gi_wp2
  exact hK.o
 case body=>
  rintro l pre ⟨⟨q,H,z⟩,j⟩ a' W - - I ⟨g,rfl,hg⟩ -;rw[hA];have dc:w.heap.size+4<=W.heap.size:=by have:=I.2.size;omega
  have M:=cell_of hg 0;have ib:=cell_of hg 1;have z0:=I.1.2.1.cell;have z1:=I.1.2.2.1.cell;have f1:=I.1.2.2.1.frozen;have z2:=I.1.2.2.2.cell;have f2:=I.1.2.2.2.frozen;replace I:=LH I
  gi_wp2
  ·rename_i hx
   have dp:q=p:=by
    have:(q:Int)=p:=by simpa using hx
    omega
   have I:=I.o;have e1:Boxed ((W.setCell (iu (w.heap.size+1) 0) (kv (q,H,z))).setCell (iu (w.heap.size+1+1) 0) (iw 0)) _ _ _:=(I.1.2.2.1.set (kv (q,H,z))).kept (grownBy_setCell' _ _ (iw 0)) sm;have e2:Boxed ((W.setCell (iu (w.heap.size+1) 0) (kv (q,H,z))).setCell (iu (w.heap.size+1+1) 0) (iw 0)) _ _ _:=(I.1.2.2.2.kept (grownBy_setCell' _ _ (kv (q,H,z))) sm).set (iw 0);refine⟨((KeepsOthers.setCell _ _ _).trans (KeepsOthers.setCell _ _ _)).from _,⟨rfl,pre,_,rfl,I.1.1,dp,e1,e2⟩,?_⟩;exact ((cr.trans (I.2.mono om)).setCell (p:=iu (w.heap.size+1) 0) sm _).setCell (p:=iu (w.heap.size+1+1) 0) (by simp;omega) _
  ·rename_i hx
   have dp:q≠p:=by
    have:¬ (q:Int)=p:=by simpa using hx
    omega
   have I:=I.o;refine⟨KeepsFrom.refl _ _,ag _ _,⟨λx hm=>?_,I.1.2⟩,I.2⟩;rcases bw.1 hm with h|h
   ·exact I.1.1 x h
   ·simp at h;subst h;exact dp
 case stop=>
  rintro D c pre W hD gk ⟨⟨rfl,q,x,rfl,hq,hx,h1,U⟩,hB⟩ hK;rw[hA];obtain⟨he,dd⟩:=back_mem gk;obtain⟨k,hk,hP,ig,_,hQ⟩:=cU.o _ _ he
  have ih:=zd ks p (Dt p) _ k hk (by rw[<-hP];exact hx) (λi k' hi hO e=>by obtain⟨y,hy,ds⟩:=cV.o i k' hO;exact hq _ (dd i y hi hy) (by rw[ds];exact e))
  obtain⟨⟨q1,H,z⟩,j⟩:=x
  gi_wp2
  refine⟨by simp,.inl ⟨_,_,rfl,run_takeDeferred hK,?_⟩⟩;have fs:=grownBy_putObj' W D (.deferred none);have cg:∀ k,k<w.heap.size+4->some k≠some D:=λk hk e=>by simp at e;omega
  have e1:=(h1.kept fs (cg _ om)).cell;have e2:=(U.kept fs (cg _ om)).cell;have cW:Below w.heap.size w (W.putObj D (.deferred none)):=hB.trans (belowK_b (w:=w) (ae _) W D _ _ om hK rfl rfl);refine⟨.tuple #[ir H 64 z,iw 0],?_,H,z,rfl,?_,S.n,by omega,hz.o.after cW,kf.dD cW⟩
  ·simp[results,f49,go_sem,e1,e2,kv]
  ·exact hQ.ki (aA.dD cW No) (λ_ _ _=>id)
 case done=>
  rintro D ys W hD rfl I hK
  have hS:=qK ks p (Dt p) (λk hk e=>by obtain⟨i,hi,rfl⟩:=dI hk;obtain⟨y,hy,ds⟩:=cV.o i _ (av hi);refine I.1.1 (y,i) ?_ (by rw[ds];exact e);unfold oE;rw[List.mem_reverse];refine aZ (i:=i) ?_;rw[fM,hy];simp)
  rw[hA];have ba:Below w.heap.size w W:=cr.trans (I.2.mono om);have da:=HV.o W ba;have cd:=LH (show ∀ f,aA No W.drew f->aA No W f from λf h=>⟨h.os,h.tape,h.output,h.size,h.block⟩);have z0:=I.1.2.1.cell;have c7:=(da.fix.rest da.base.len).2.1;rw[<-cu.o,<-T.o] at c7;have fb:=LH (λf (h:aA No W.drew f)=>(((cd.o f h).cell (p:=iu v 107) (lq c7) id).trans c7));have M:=LH (λf (h:aA No W.drew f)=>(((cd.o f h).cell (p:=iu w.heap.size 0) (lq z0) id).trans z0));have fu:=LH (λf (h:aA No W.drew f)=>c6.o f (ba.trans ((cd.o f h).no.mono ba.size)));have e8:=LH I;have eb:=LH hK;replace ba:=LH ba;clear c7 z0 I hK c6 HC da
  go_wp2_with fail
  refine RA.rt (aA No) [1,1,1,1,1,1,4,1] [] (λ_=>True) trivial (λ_=>aA.refl _ _) (λ_ _ _ h k=>h.trans k) (h:=?_);intro cx
  repeat refine RA.qq ?_
  refine RA.fk prog v 106 (h:=?_);refine RA.fk prog v 107 (h:=?_);refine RA.lk prog (iq m) (hc:=λf hp=>by exact fb.o _ hp.1) (h:=?_);refine RA.lk prog (iw p) (hc:=λf hp=>by exact M.o _ hp.1) (h:=?_);refine RA.kc (P:=prog) [iq m,iw p] (.bool true) (hr:=λf hp hH=>(fu.o f hp.1).mono (by rintro e w4 ⟨rfl,rfl⟩;exact⟨rfl,aA.refl _ _,trivial⟩)) (hn:=?_);refine RA.nt (h:=?_);refine RA.RA.done rfl (λw6 hR hF hH=>?_);clear hF hH;simp only[RA.RP,cx]
  try simp only[cn]
  try simp only[cG]
  have b6:=cd.o _ hR;clear hR;have b8:Below w.heap.size w w6:=ba.o.trans (b6.no.mono ba.o.size);have bC:=(b6.block D (dC eb.o) id).trans eb.o;have a7:=e8.o;have z0:=(show Boxed w6 _ _ _ from (b6.block _ a7.1.2.1.lt id).trans a7.1.2.1);have z1:=(show Boxed w6 _ _ _ from (b6.block _ a7.1.2.2.1.lt id).trans a7.1.2.2.1);have z2:=(show Boxed w6 _ _ _ from (b6.block _ a7.1.2.2.2.lt id).trans a7.1.2.2.2);have hT:w.heap.size+4<=w6.heap.size:=by have:=a7.2.size;have:=b6.size;omega
  have J:=HV.o w6 b8;clear a7 b6 e8 fb M fu cd gv cU cV;have O:=LH (show ∀ f,aA No w6.drew f->aA No w6 f from λf h=>⟨h.os,h.tape,h.output,h.size,h.block⟩);have cA:=LH (λf (h:aA No w6 f)=>J.below h.no);have y0:=LH (λf (h:aA No w6 f)=>(show f.cell? (iu w.heap.size 0)=some (iw p) from (h.cell (p:=iu w.heap.size 0) z0.lt id).trans z0.cell));have d0:=LH (λf (h:aA No w6 f)=>(show f.cell? (iu v 0)=some (iq G.d) by rw[T.o];exact (J.below h.no).fix.base (J.base.len) J.base.c0));have d104:=LH (λf (h:aA No w6 f)=>(show f.cell? (iu v 104)=some (iw 60) by rw[T.o];exact (J.below h.no).fix.base (J.base.len) J.base.tt));have bB:=LH (λf (h:aA No w6 f)=>Go.Proofs.YthmcbgidehjlbaaGreat.D.yR (J.below h.no).mF.at_ J.mF.none (60+p) (by rw[J.mF.size];omega));obtain⟨Z,hZ⟩:=Ex (S.X.at (60+p));have hJ:Z.length=64:=by rw[hZ];exact DJ J.mF _ om
  rw[<-hZ] at bB;obtain⟨P6,c8⟩:=Ex (60+p);have cz:(60:Int)+p=P6:=om;have ec:P6<120:=om;rw[<-c8] at bB;refine G8 c8 hZ J b8 bC z1 z2 z0 ?_;clear c8 hZ J b8 bC z1 z2 z0;intro c8 hZ J b8 bC z1 z2 z0
  go_wp2_with fail
  refine RA.rt (aA No) [1,1,1,1,1,1,1,1,1,1,1,1,1,3,1,1,1,1,1] [] (λ_=>True) trivial (λ_=>aA.refl _ _) (λ_ _ _ h k=>h.trans k) (h:=?_);intro cx
  repeat refine RA.qq ?_
  refine RA.fk prog v 0 (h:=?_);refine RA.fk prog v 0 (h:=?_);refine RA.lk prog (iq G.d) (hc:=λf hp=>by exact d0.o _ (O.o _ hp.1)) (h:=?_)
  repeat refine RA.qq ?_
  refine RA.fk prog v 0 (h:=?_);refine RA.fk prog v 104 (h:=?_);refine RA.fk prog v 104 (h:=?_);refine RA.lk prog (iw 60) (hc:=λf hp=>by exact d104.o _ (O.o _ hp.1)) (h:=?_);refine RA.lk prog (iw p) (hc:=λf hp=>by exact y0.o _ (O.o _ hp.1)) (h:=?_);refine RA.ai (r:=(P6:Int)) (he:=cz) (h:=?_)
  refine RA.qc (P:=prog) [iq G.d,iw P6] (λv f=>∃ u,v=.tuple #[u,iw 0]/\f.ownsRow w6.heap.size 5 1 u 64 (aQ Z)) (hs:=λv a b h U=>by
   obtain⟨u,k1,k2⟩:=U;exact⟨u,k1,dE k2 (λg hg=>h.block g (kt k2 g hg) id)⟩) (hr:=λf hp hH=>by
   refine (bB.o f (O.o _ hp.1)).mono ?_;rintro e w4 ⟨v,rfl,k1,k2⟩;exact⟨_,rfl,aA.dD k2 _,⟨v,rfl,kU k1 (O.o _ hp.1).size⟩,trivial⟩) (hn:=λu=>?_)
  repeat refine RA.qq ?_
  refine RA.vk prog (kW u 0) (hr:=λf hp=>by obtain⟨v,rfl,_⟩:=hp.fact 0 rfl kr;clear hp;go_simp;rfl) (h:=?_)
  refine RA.vk prog (kW u 1) (hr:=λf hp=>by obtain⟨v,rfl,_⟩:=hp.fact 0 rfl kr;clear hp;go_simp;rfl) (h:=?_)
  repeat refine RA.qq ?_
  refine RA.RA.done rfl (λw8 hR hF hH=>?_);clear hH;simp only[RA.RP,cx];have a1:=O.o _ hR;obtain⟨uv,rfl,bR⟩:=hF _ (cq ..);clear hF hR;simp only[kW,TP];obtain⟨H,z,rfl,_⟩:=kz bR om;have V8:=cA.o w8 a1;have cb:Below w.heap.size w w8:=b8.o.trans (a1.no.mono b8.o.size);have bW:=(a1.block _ z0.o.lt id).trans z0.o;have cj:=(a1.block _ z1.o.lt id).trans z1.o;have ck:=(a1.block _ z2.o.lt id).trans z2.o;have K8:=(a1.block D (dC bC.o) id).trans bC.o;have hU:w.heap.size+4<=w8.heap.size:=am hT a1.size;clear a1 cA y0 d0 d104 bB O z0 z1 z2 bC b8 J;have af:=LH (show ∀ f,BX No G.b w8.drew f->BX No G.b w8 f from λf h=>⟨⟨_,V8.book⟩,h.b1,h.g.drew⟩)
  have c9:=LH (show ∀ f,BX No G.b w8 f->∃ n',lT G f L ks kh Dt { S with n:=n' } from λf h=>by obtain⟨n',hb⟩:=h.b1;exact⟨n',V8.pb h.g hb⟩)
  have d106:=LH (λf (h:BX No G.b w8 f)=>(show f.cell? (iu v 106)=some (iq S.t) by obtain⟨n',hv⟩:=c9.o f h;rw[T.o];exact (hv.fix.rest hv.base.len).1))
  have cT:=LH (λf (h:BX No G.b w8 f)=>(show f.cell? (iu w.heap.size 0)=some (iw p) by rw[cell_of (h.g.at V8.book bW id de de)];rfl))
  have cK:=LH (λf (h:BX No G.b w8 f) (hB:Bk f G.b S.n)=>(show Calls prog 72 #[iq S.t,iw p,ir H 64 z] f λe w'=>e=.returned (.bool true)/\Bk w' G.b (S.n+1)/\kf No G.b f w' by obtain⟨n',hv⟩:=c9.o f h;have hW:=h.g.own V8.book bR (λ_ _=>id) de de;have hh:=cc.o;rw[<-hZ.o] at hh;exact KH hv.tree hv.bN hv.l4 hB om p hp (by rw[hJ];exact hW) om om hh.2.1 hh.2.2))
  have a8:BX No G.b w8.drew w8.drew:=⟨⟨_,V8.book.dB (λ_ _ _=>rfl)⟩,⟨_,V8.book.dB (λ_ _ _=>rfl)⟩,kf.refl⟩;have a6:Bk w8.drew G.b S.n:=V8.book.dB (λ_ _ _=>rfl);refine G9 a8 a6 V8 cb bW cj ck K8 bR ?_;clear a8 a6 V8 cb bW cj ck K8 bR;intro a8 a6 V8 cb bW cj ck K8 bR
  go_wp2_with fail
  refine RA.region (BX No G.b) (λx y=>(∃ n,Bk x G.b n)/\aA No x y) [1,1,1,1,1,1,1,4,1] (λ_ _ _=>True) (λf=>Bk f G.b S.n) kr a8.o (λ_ _ h=>by obtain⟨⟨n,h1⟩,U⟩:=h;exact BX.mh h1 U) (λ_ _ _=>BX.trans) (λ_ _ h k=>k.after h.2.no) a6.o kr ?_;intro cx
  repeat refine RA.qq ?_
  refine RA.fk prog v 106 (h:=?_);refine RA.fk prog v 106 (h:=?_);refine RA.lk prog (iq S.t) (hc:=λf hp=>by exact d106.o _ (af.o _ hp.1)) (h:=?_);refine RA.lk prog (iw p) (hc:=λf hp=>by exact cT.o _ (af.o _ hp.1)) (h:=?_)
  repeat refine RA.qq ?_
  refine RA.kc (P:=prog) [iq S.t,iw p,ir H 64 z] (.bool true) (λf=>Bk f G.b (S.n+1)) (he:=λ_ _ h k=>k.after h.2.no) (hr:=(λf hp hH=>by have R:Bk f G.b S.n:=hH;refine (cK.o f (af.o _ hp.1) R).mono ?_;rintro e w4 ⟨rfl,k1,k2⟩;exact⟨rfl,⟨⟨_,R⟩,⟨_,k1⟩,k2⟩,k1⟩)) (hn:=?_)
  refine RA.nt (h:=?_);refine RA.RA.done rfl (λN hR hF hH=>?_);clear hF;simp only[RA.RP,cx]
  try simp only[cn]
  have aa:=af.o _ hR;have V:Bk N G.b (S.n+1):=hH;clear hR hH;have V9:=V8.o.pb aa.g V;have dT:=aa.g.at V8.o.book bW.o id de de;have b4:=aa.g.at V8.o.book cj.o id de de;have b5:=aa.g.at V8.o.book ck.o id de de
  have K9:N.heap[D]?=some (.deferred (some [])):=(aa.g.block D (dC K8.o) (λe=>e.elim id (λe=>by obtain⟨cs,ty,m',hc,_⟩:=kn.obj V8.o.book e;rw[K8.o] at hc;cases hc))).trans K8.o
  have iB:w.heap.size+4<=N.heap.size:=am hU aa.g.size;have G9:kf No G.b w N:=(kf.dD (aA.dD cb.o No).no).trans aa.g;clear aa af c9 d106 cT cK a8 a6 V8 cb bW cj ck K8 bR;obtain⟨s1,dn⟩:=Ex (w.heap.size+1);obtain⟨C,hC⟩:=Ex (λg=>g=w.heap.size+1\/g=w.heap.size+1+1:Nat->Prop)
  have b7:∀ g,g<w.heap.size+1->¬ C g:=λg hg=>by rw[hC];rintro (e|e)<;>omega
  have bz:∀ g,N.heap.size<=g->¬ C g:=λg hg=>by rw[hC];rintro (e|e)<;>omega
  have V0:=HV.o w (ag _ _);have cP:=T.o;have ed:=LH (λf (h:aA C N f)=>(show mP f G.v (mX G.xs S.t S.m S.num G.r) from V9.fix.kept (λj _ _=>h.cell (p:=iu G.v j) V9.zw (b7 _ (by show G.v<_;omega)))));have gb:=LH (λf (h:aA C N f)=>(ed.o f h).load V9.base.len);have d104:=LH (λf (h:aA C N f)=>(show f.cell? (iu v 104)=some (iw 60) by rw[cP];exact (ed.o f h).base V9.base.len V9.base.tt))
  have gA:=LH (λf (h:aA C N f)=>(show f.cell? (iu w.heap.size 0)=some (iw p) by rw[cell_of ((h.block _ (dC dT) (b7 _ om)).trans dT)];rfl))
  have dg:=LH (λf (h:aA C N f)=>(show Calls prog 73 #[.agg G.xs.toArray,iw P6] f λe w'=>∃ u,e=.returned (.tuple #[u,iw 0])/\w'.ownsRow f.heap.size 5 1 u 64 (aQ (Dt p))/\Below f.heap.size f w' by
   have iC:=dC V0.su;have ic:=V0.mF.self;have ho:=Le (w:=f) V9.base ((h.block _ (dC V9.su) (b7 _ om)).trans V9.su) (V9.mF.dB h.size (λg hg=>h.block g (by have:=V9.mF.self;rcases hg with rfl|rfl;exact this.1;exact this.2) (b7 _ (by rcases hg with rfl|rfl<;>omega)))) P6 ec
   have e1:sc G.A P6 (S.X.at P6)=Dt p:=by rw[c8.o,cc.o.1,Lb (by rw[V0.cont.len])]
   rw[e1] at ho;exact ho))
  have fi:=V0.cont.len p;have bA:=LH (show ∀ f,aA C N.drew f->aA C N f from λf h=>⟨h.os,h.tape,h.output,h.size,h.block⟩);have cl:C (w.heap.size+1)/\C (w.heap.size+1+1):=by rw[hC];exact⟨.inl rfl,.inr rfl⟩
  obtain⟨c,ct⟩:=Ex G.xs.toArray;rw[<-ct] at gb dg;obtain⟨Z9,ca⟩:=Ex (Dt p);rw[<-ca] at dg fi;refine G8 ca ct hC b7 bz dn G9 V ?_;clear ca ct hC b7 bz dn G9 V;intro ca ct hC b7 bz dn G9 V;refine G4 V9 b4 b5 K9 ?_;clear V9 b4 b5 K9;intro V9 b4 b5 K9;clear cP V0 dT
  go_wp2_with fail
  refine RA.region (aA C) (·=·) [1,1,1,1,1,1,1,1,1,1,1,1,3,1,1,4,4] (λ_ _ _=>True) (λx=>aA No N x) kr (aA.refl _ _) (λ_ _ e=>e ▸ aA.refl _ _) (λ_ _ _ h k=>h.trans k) (λ_ _ e k=>e ▸ k) ((aA.refl _ _).drew) kr ?_;intro cx
  repeat refine RA.qq ?_
  refine RA.fk prog v 0 (h:=?_)
  refine RA.ld (y':=.agg c) (hr:=λf hp=>by have h:=gb.o f (bA.o _ hp.1);rw[<-T.o] at h;exact h) (h:=?_)
  repeat refine RA.qq ?_
  refine RA.fk prog v 0 (h:=?_);refine RA.fk prog v 104 (h:=?_);refine RA.fk prog v 104 (h:=?_);refine RA.lk prog (iw 60) (hc:=λf hp=>by exact d104.o _ (bA.o _ hp.1)) (h:=?_);refine RA.lk prog (iw p) (hc:=λf hp=>by exact gA.o _ (bA.o _ hp.1)) (h:=?_);refine RA.ai (r:=(P6:Int)) (he:=cz) (h:=?_)
  refine RA.qc (P:=prog) [.agg c,iw P6] (λv f=>∃ H z,v=.tuple #[ir H 64 z,iw 0]/\f.ownsRow N.heap.size 5 1 (ir H 64 z) 64 (aQ Z9)) (λv f=>aA No N f) (hs:=λv x y hr hk=>by
   obtain⟨H,z,h1,U⟩:=hk;exact⟨H,z,h1,dE U (λg hg=>hr.block g (kt U g hg) (bz.o g (kJ U g hg)))⟩) (hr:=(λf hp hH=>by
   have R:aA No N f:=hH;refine (dg.o f (bA.o _ hp.1)).mono ?_;rintro e w4 ⟨u,rfl,k1,k2⟩;obtain⟨H,z,rfl,_⟩:=kz k1 om;exact⟨_,rfl,aA.dD k2 _,⟨H,z,rfl,kU k1 R.size⟩,R.trans (aA.dD k2 No)⟩)) (hn:=λu=>?_)
  refine RA.vk prog (kW u 0) (hr:=λf hp=>by obtain⟨H,z,rfl,_⟩:=hp.fact 0 rfl kr;clear hp;go_simp;rfl) (h:=?_)
  refine RA.vk prog (kW u 1) (hr:=λf hp=>by obtain⟨H,z,rfl,_⟩:=hp.fact 0 rfl kr;clear hp;go_simp;rfl) (h:=?_)
  refine RA.st (λx=>∃ x0 H z,aA No N x0/\u=.tuple #[ir H 64 z,iw 0]/\x0.ownsRow N.heap.size 5 1 (ir H 64 z) 64 (aQ Z9)/\x=x0.setCell (iu (w.heap.size+1) 0) (ir H 64 z)) (hr:=(λf hp hH=>by obtain⟨H,z,rfl,h5⟩:=hp.fact 0 rfl kr;have R:aA No N f:=hH;have hb:=(show Boxed f _ _ _ from (R.block _ (dC b4.o) id).trans b4.o);have e1:=hb.cell;have e2:=hb.frozen;refine⟨f.setCell (iu (w.heap.size+1) 0) (ir H 64 z),RA.kL rf rf ?_,(aA.refl C f).setCell (λ_=>cl.1) _,f,H,z,R,rfl,h5,rfl⟩;clear hp R h5;show (Instr.storeAt 42 (iq (w.heap.size+1)) (ir H 64 z)).run prog f=_;go_simp)) (hn:=?_)
  refine RA.st (λx=>∃ x0 H z,aA No N x0/\x0.ownsRow N.heap.size 5 1 (ir H 64 z) 64 (aQ Z9)/\x=(x0.setCell (iu (w.heap.size+1) 0) (ir H 64 z)).setCell (iu (w.heap.size+1+1) 0) (iw 0)) (hr:=λf hp hH=>by obtain⟨x0,H,z,M,rfl,h5,rfl⟩:=hH;have en:=(show Boxed x0 _ _ _ from (M.block _ (dC b5.o) id).trans b5.o);have hb:=en.kept (grownBy_setCell' x0 (w.heap.size+1) (ir H 64 z)) sm;have e1:=hb.cell;have e2:=hb.frozen;refine⟨(x0.setCell (iu (w.heap.size+1) 0) (ir H 64 z)).setCell (iu (w.heap.size+1+1) 0) (iw 0),RA.kL rf rf ?_,(aA.refl C _).setCell (λ_=>cl.2) _,x0,H,z,M,h5,rfl⟩;clear hp M h5 hb en;generalize x0.setCell (iu (w.heap.size+1) 0) (ir H 64 z)=x1 at*;show (Instr.storeAt 47 (iq (w.heap.size+1+1)) (iw 0)).run prog x1=_;go_simp) (hn:=?_)
  refine RA.RA.done rfl (λQ hR hF hH=>?_);clear hF hR;simp only[RA.RP,cx];obtain⟨x0,H,z,M,h5,b3⟩:=hH
  have hL:Boxed Q (w.heap.size+1) 42 (ir H 64 z):=by rw[b3];exact ((show Boxed x0 _ _ _ from (M.block _ (dC b4.o) id).trans b4.o).set (ir H 64 z)).kept (grownBy_setCell' _ _ (iw 0)) sm
  have hM:Boxed Q (w.heap.size+1+1) 47 (iw 0):=by rw[b3];exact ((show Boxed x0 _ _ _ from (M.block _ (dC b5.o) id).trans b5.o).kept (grownBy_setCell' _ _ (ir H 64 z)) sm).set (iw 0)
  have bl:∀ g,g≠w.heap.size+1->g≠w.heap.size+1+1->Q.heap[g]?=x0.heap[g]?:=λg h1 U=>by rw[b3,kD _ _ _ (by simpa using U),kD _ _ _ (by simpa using h1)]
  have c5:aA C N Q:=by rw[b3];exact ((aA.mono M (λ_ _ e=>e.elim)).setCell (λ_=>cl.1) _).setCell (λ_=>cl.2) _
  have e5:D≠w.heap.size+1/\D≠w.heap.size+1+1:=om;have e0:Q.heap[D]?=some (.deferred (some [])):=(bl D e5.1 e5.2).trans ((M.block D (dC K9.o) id).trans K9.o);have e4:Q.ownsRow N.heap.size 5 1 (ir H 64 z) 64 (aQ Z9):=dE h5 (λg hg=>bl g (by have:=kJ h5 g hg;omega) (by have:=kJ h5 g hg;omega));clear b3 bl
  go_wp2_with fail
  refine⟨by simp,.inl ⟨_,_,rfl,run_takeDeferred e0,?_⟩⟩;have an:=grownBy_putObj' Q D (.deferred none);have cg:∀ k,k<w.heap.size+4->some k≠some D:=λk hk e=>by simp at e;omega
  have e1:=(hL.kept an (cg _ om)).cell;have e2:=(hM.kept an (cg _ om)).cell
  have hE:aA (λg=>w.heap.size<=g) N (Q.putObj D (.deferred none)):=(aA.mono c5 (λg _ e=>by rw[hC.o] at e;show w.heap.size<=g;rcases e with e|e<;>omega)).grown an (λk e _=>by cases e;show w.heap.size<=_;omega)
  have GF:kf No G.b w (Q.putObj D (.deferred none)):=G9.o.then hE (λg hg e=>by have:w.heap.size<=g:=e;omega) (λ_ e=>by have:w.heap.size<=G.b:=e;omega)
  have BF:Bk (Q.putObj D (.deferred none)) G.b (S.n+1):=V.o.dB (λg hg hl=>by
   refine (an.block g (aH hl c5.size) (λe=>?_)).trans (c5.block g hl (λe=>?_))
   ·obtain⟨cs,ty,m',hc,_⟩:=kn.obj V.o hg;cases e
    rw[K9.o] at hc;cases hc
   ·rw[hC.o] at e;rcases e with e|e
    ·exact kn.type V.o b4.o de de (e ▸ hg)
    ·exact kn.type V.o b5.o de de (e ▸ hg))
  have hG:(ir H 64 z).ownBlock≠some D:=λe=>by obtain⟨cur,hc⟩:=kA e4 e;rw[e0] at hc;cases hc
  have e7:=e4.kept an (.inr hG);refine⟨.tuple #[ir H 64 z,iw 0],?_,H,z,S.n+1,rfl,?_,ae _,BF,GF⟩
  ·simp[results,f49,go_sem,e1,e2]
  ·rw[hS,<-ca.o];show Cells _ _ _ _ _ _;rw[fi];exact (Cells.own e7).mono (λ_ _ _=>trivial)
end Go.Proofs.YthmcbgidehjlbaaGreat.Fd
namespace Go.Proofs.YthmcbgidehjlbaaGreat.Fd
open _root_.Go.Proofs.Tryz
open Go Go.RowKit K
section
variable {G:VG}{w w':World}{L:iz}{ks:List (Nat×iz)}{kh:Bool}{Dt:Nat->iz}{S:VT}
theorem Lg (hV:lT G w L ks kh Dt S) (hn:S.n<800000) (p:Nat) (hp:p<50):
  Calls prog 49 #[iq G.v,iw p] w λe w'=>∃ g c n',e=.returned (.tuple #[ir g 64 c,iw 0])/\Bytes w' (λ_=>True) (ir g 64 c) (kX ks p (Dt p))/\n'<=S.n+1/\Bk w' G.b n'/\kf No G.b w w':=by
 cases h0:nf L p with
 | true=>exact Lf hV hn p hp h0
 | false=>refine (CF hV.kx p hp h0).mono ?_;rintro e w' ⟨g,c,rfl,h1,a⟩;rw[<-hV.cont.Dp p hp h0] at h1;exact⟨g,c,S.n,rfl,h1,by omega,hV.book.after a,kf.dD a⟩
def rE (ks:List (Nat×iz)) (Dt:Nat->iz) (i:Nat):Nat->iz
 | 0=>[]
 | n+1=>rE ks Dt i n++kX ks (i+n) (Dt (i+n))
theorem lT.DK (h:lT G w L ks kh Dt S) (p:Nat):(kX ks p (Dt p)).length=64:=xF ks p _ 64 (h.cont.len p) h.kx.lens
theorem DL (h:lT G w L ks kh Dt S) (i:Nat):∀ n,(rE ks Dt i n).length=n*64
 | 0=>rfl
 | n+1=>by rw[rE,aE,DL h i n,h.DK];omega
theorem Lh (hV:lT G w L ks kh Dt S) (hn:S.n<700000) (i n:Nat) (hin:i+n<=50):
  Calls prog 18 #[iq G.v,iw i,iw n] w λe w'=>∃ u n',e=.returned (.tuple #[u,iw 0])/\w'.ownsRow w.heap.size 5 1 u (n*64) (aQ (rE ks Dt i n))/\n'<=S.n+n/\Bk w' G.b n'/\kf No G.b w w':=by
 have P:(iy 0).cells.size=1:=rfl;have A:=LH (yX hV.kx i n hin);have t:=LH (λQ (n1:Nat) (Y:Bk Q G.b n1) (hg:kf No G.b w Q) (h1:n1<800000) (p:Nat) (hp:p<50)=>Lg (hV.pb hg Y) h1 p hp);have hlen:=LH (DL hV i);have O:=LH hV.DK;have Z:=LH (λ(j:Nat)=>(show rE ks Dt i (j+1)=rE ks Dt i j++kX ks (i+j) (Dt (i+j)) from rfl));have X:=LH (show rE ks Dt i 0=[] from rfl);have a1:=hV.blt;have H:=LH hV.book;have T:¬ (64:Int)<n:=om;obtain⟨v,hv⟩:=Ex G.v;rw[<-hv] at A t ⊢;replace hv:=LH hv;replace hV:=LH hV;go_enter func18,ntmps18
 go_wp2_with fail
 refine A.o.mono ?_;rintro e Q ⟨rfl,l⟩;replace l:=LH l;clear A;go_wp2
 go_loopg [6,25] n (λg o ix wr=>∃ (j n1:Nat),j+g=n/\ix=iw j/\n1<=S.n+j/\Hd (wr.ownsRow w.heap.size 5 1 o (j*64) (aQ (rE ks Dt i j)))/\Hd (Bk wr G.b n1)/\Hd (kf No G.b w wr))
 case atStart=>exact⟨0,S.n,by omega,rfl,by omega,by show World.ownsRow _ _ _ _ _ _ _;rw[X.o];exact aS _ _ _ _,H.o.after l.o,kf.dD l.o⟩
 case round=>
  obtain⟨j,n1,I,rfl,N,F,D,E⟩:=hrel;clear l;by_cases M:j<n
  ·obtain⟨g1,rfl⟩:∃ i,gk=i+1:=⟨gk - 1,by omega⟩;have J:(j:Int)<n:=om;obtain⟨p,hp⟩:=Ex (i+j);have hs:=LH (t.o wr n1 D.o E.o om p om);have a7:(i:Int)+j=p:=om;have a:=Z.o j;have f:=O.o p;rw[<-hp] at a;obtain⟨PP,q⟩:=Ex (kX ks p (Dt p));rw[<-q] at hs a f;refine G4 q a f hp ?_;clear q a f hp;intro q a f hp
   go_wp2_with fail
   refine hs.o.mono ?_;rintro e R ⟨ug,uc,U,rfl,s,a6,d,y⟩;have m:=y.own D.o F.o (λ_ _=>id) de de;have c:=E.o.trans y;have B:=LH (λg=>kJ m g)
   have C:=LH (show ∀ (o:Value) (k:Nat) (xs:List Value),R.ownsRow w.heap.size 5 1 o k xs->∀ g,o.ownBlock=some g->¬ kn R G.b g from λo k xs ho g hg=>by obtain⟨cur,hc⟩:=kA ho hg;exact kn.type d hc de de)
   have r:=C.o _ _ _ m;have a8:=c.size;refine G4 s c d r ?_;clear s c d r;intro s c d r;clear hs y F D E C
   go_wp2_with (at_builtin;refine K.append ?_ (.tmp 39) (.tmp 40) 42 ?_ w.heap.size 5 (iy 0) 1 1 underlying42 nu P om _ (j*64) _ ?_ m (λ_=>True) _ 64 (aQ PP) ?_ (by have h:=s.o;unfold Bytes at h;rw[f.o] at h;exact h) (K.nJ PP) mx om ?_ ?_)
   any_goals (first|rfl|omega)
   intro v3 V y1 y2 y3 y4;have W:=LH y1;have z:kf No G.b w V:=c.o.then ((aA.refl _ R).grown y2 (λ_ h _=>h)) (λg hg e=>absurd (B.o g e) om) (λ_ e=>absurd (B.o _ e) om);have x:Bk V G.b U:=d.o.dB (λg hg hl=>y2.block g hl (λe=>r.o g e.symm hg));replace z:=LH z;replace x:=LH x;clear y1 y2 y3 y4 m;go_wp2;go_roundg g1
   case measure=>omega
   case rel=>refine⟨j+1,U,by omega,by go_num,by omega,?_,x.o,z.o⟩;show World.ownsRow _ _ _ _ _ _ _;have h:=W.o;rw[a.o,nI,show (j+1)*64=j*64+64 by omega];exact h
  ·obtain rfl:gk=0:=om;obtain rfl:j=n:=om;have J:¬ (j:Int)<j:=om;clear I M;go_wp2;go_ret2;exact⟨_,rfl,F.o,n1,N,D.o,E.o⟩
end
variable {w:World}
structure kS where
 L:iz
 ks:List (Nat×iz)
 kh:Bool
 Dt:Nat->iz
def kS.sync (s:kS):kS:=⟨lh s.L s.ks,[],s.kh,λp=>kX s.ks p (s.Dt p)⟩
def kS.full (s:kS):kS:=if 64<=s.ks.length then s.sync else s
def kS.push (s:kS) (i:Nat) (l:iz) (n:Nat):kS:=⟨s.L,s.ks++nz i l n,s.kh,s.Dt⟩
def kS.pd (s:kS):kS:=⟨s.L,s.ks,true,s.Dt⟩
def kS.c (s:kS) (p:Nat):iz:=kX s.ks p (s.Dt p)
def kS.wm (s:kS):iz:=lh s.L s.ks
abbrev ly (G:VG) (w:World) (s:kS) (S:VT):Prop:=lT G w s.L s.ks s.kh s.Dt S
def ph (w:World) (m g:Nat):Prop:=∃ n c,w.cell? (iu m 1)=some (ir g n c)
structure Step (G:VG) (w w':World) (S S':VT) (k:Nat):Prop where
 kO:lL G w w'
 uO:∀ g,ph w' S'.m g->ph w S.m g\/w.heap.size<=g
 n:S'.n<=S.n+9*k
 num:S'.num<=S.num+k
 l8:S'.l8<=S.l8+k
section
variable {G:VG}{w w' w2:World}{s:kS}{S S' S2:VT}{k j:Nat}
theorem Step.trans (h:Step G w w' S S' k) (h2:Step G w' w2 S' S2 j):Step G w w2 S S2 (k+j):=⟨h.kO.trans h2.kO,λg hg=>(h2.uO g hg).elim (h.uO g) (λe=>.inr (am h.kO.ki.size e)),by have:=h.n;have:=h2.n;omega,by have:=h.num;have:=h2.num;omega,by have:=h.l8;have:=h2.l8;omega⟩
theorem Step.mono (h:Step G w w' S S' k) (hj:k<=j):Step G w w' S S' j:=⟨h.kO,h.uO,by have:=h.n;omega,by have:=h.num;omega,by have:=h.l8;omega⟩
theorem ph.same (hm:w'.heap[S.m]?=w.heap[S.m]?){g:Nat}(h:ph w' S.m g):ph w S.m g:=by obtain⟨n,c,e⟩:=h;exact⟨n,c,(az (w:=w) (a:=iu S.m 1) hm).symm.trans e⟩
theorem lp.obj {L:iz}{ks:List (Nat×iz)}{kh:Bool}{Dt:Nat->iz}(h:lT G w L ks kh Dt S){g:Nat}(hg:lp G w g):∃ cs t,w.heap[g]?=some (.cells cs t (0,0))/\(t=104\/t=111\/t=223\/t=145\/t=122\/t=5\/t=176)/\(t=5->g=G.sb):=by
 rcases hg with e|e|rfl|rfl|rfl
 ·obtain⟨cs,t,h1,a⟩:=ku.type h.kx e;exact⟨cs,t,h1,by rcases a with a|a<;>simp[a],λe=>by rcases a with rfl|rfl<;>exact absurd e de⟩
 ·rcases e with rfl|e
  ·obtain⟨lv,hb⟩:=h.book.box;exact⟨_,_,hb,by simp,λe=>absurd e de⟩
  ·obtain⟨lv,hb⟩:=h.book;have b:=wZ hb e.2;obtain⟨xs,a⟩:=hb.row;obtain⟨cur,hc⟩:=kA a b;exact⟨_,_,hc,by simp,λe=>absurd e de⟩
 ·obtain⟨⟨cs,e⟩,_⟩:=h.mF.types;exact⟨_,_,e,by simp,λe=>absurd e de⟩
 ·obtain⟨_,cs,e⟩:=h.mF.types;exact⟨_,_,e,by simp,λ_=>rfl⟩
 ·obtain⟨dv,mv,e,_⟩:=h.ring;exact⟨_,_,e,by simp,λe=>absurd e de⟩
theorem lp.lt {L:iz}{ks:List (Nat×iz)}{kh:Bool}{Dt:Nat->iz}(h:lT G w L ks kh Dt S){g:Nat}(hg:lp G w g):g<w.heap.size:=by obtain⟨cs,t,e,_⟩:=lp.obj h hg;exact dC e
theorem lL.at {L:iz}{ks:List (Nat×iz)}{kh:Bool}{Dt:Nat->iz}(h:lT G w L ks kh Dt S) (hs:lL G w w'){g:Nat}{cs:Array Value}{t:TypeId}{m:Nat×Nat}(hg:w.heap[g]?=some (.cells cs t m)) (ht:t≠104/\t≠111/\t≠223/\t≠145/\t≠122/\t≠5/\t≠176):w'.heap[g]?=w.heap[g]?:=by refine hs.ki.block g (dC hg) (λe=>?_);obtain⟨j,k,h1,i,_⟩:=lp.obj h e;rw[hg] at h1;simp only[IJ] at h1;obtain⟨_,rfl,_⟩:=h1;obtain⟨a,b,c,d,e,f,g⟩:=ht;rcases i with i|i|i|i|i|i|i<;>contradiction
theorem lT.vQ {L:iz}{ks ks':List (Nat×iz)}{kh lat':Bool}{Dt:Nat->iz}(h:lT G w L ks kh Dt S) (hv:kF w' G.v S.m L ks' lat') (hc:aA (ku w G.v) w w') (hk:ox G.v w w'):lT G w' L ks' lat' Dt S:=by
 have b:∀ (g:Nat) (cs:Array Value) (ty:TypeId) (m:Nat×Nat),w.heap[g]?=some (.cells cs ty m)->ty≠104->ty≠111->w'.heap[g]?=w.heap[g]?:=λg cs ty m hg h1 d=>hc.block g (dC hg) (λe=>by obtain⟨f,t,c,l⟩:=ku.type h.kx e;rw[hg] at c;simp only[IJ] at c;obtain⟨_,rfl,_⟩:=c;exact l.elim h1 d)
 obtain⟨⟨o,k⟩,⟨n,j⟩⟩:=h.mF.types
 refine⟨hv,h.base,h.fix.kept hk,(b _ _ _ _ h.su de de).trans h.su,h.tree.exact (λg hg=>?_),h.bN,h.l4,h.marks.dB (λg cs ty _ a hg=>b g _ _ _ hg (by rcases a with rfl|rfl<;>decide) (by rcases a with rfl|rfl<;>decide)),h.ring.dB h.br (λg cs ty _ a hg=>b g _ _ _ hg (by rcases a with rfl|rfl<;>decide) (by rcases a with rfl|rfl<;>decide)),h.br,
  h.mF.dB hc.size (λg hg=>by
   rcases hg with rfl|rfl
   ·exact b _ _ _ _ k de de
   ·exact b _ _ _ _ j de de),h.db,h.qM,h.bv,h.book.dB (λg hg _=>?_),h.cont,h.al,h.ml⟩
 ·rcases h.tree.dep hg with ⟨_,e⟩|⟨_,_,e⟩|⟨_,e⟩|⟨_,_,_,_,e⟩|⟨_,_,_,e⟩
  ·exact b _ _ _ _ e de de
  ·exact b _ _ _ _ e de de
  ·exact b _ _ _ _ e de de
  ·exact b _ _ _ _ (show w.heap[g]?=_ from e) de de
  ·exact hc.block g (bm.1 e).1 (λi=>by obtain⟨f,t,c,_⟩:=ku.type h.kx i;rw[e] at c;cases c)
 ·obtain⟨cs,t,m,h1,d⟩:=kn.obj h.book hg;exact b _ _ _ _ h1 (by rcases d with rfl|rfl<;>decide) (by rcases d with rfl|rfl<;>decide)
def DO (t:TypeId):Prop:=Cm t\/tk t\/t=127\/t=176\/t=122\/t=145\/t=223
def Lj (o:Obj):Prop:=(∃ cs t,DO t/\o=.cells cs t (0,0))\/∃ es c,o=.map es c
theorem lT.other {L:iz}{ks:List (Nat×iz)}{kh:Bool}{Dt:Nat->iz}(h:lT G w L ks kh Dt S) (hs:w.heap.size<=w'.heap.size) (hk:∀ (g:Nat) (o:Obj),w.heap[g]?=some o->Lj o->w'.heap[g]?=w.heap[g]?):lT G w' L ks kh Dt S:=by
 have b:∀ (g:Nat) (cs:Array Value) (ty:TypeId),w.heap[g]?=some (.cells cs ty (0,0))->DO ty->w'.heap[g]?=w.heap[g]?:=λg cs ty hg ht=>hk g _ hg (.inl ⟨cs,ty,ht,rfl⟩)
 obtain⟨⟨p,k⟩,⟨n,i⟩⟩:=h.mF.types;obtain⟨⟨r,pv,hv,_⟩,_⟩:=h.kx
 refine⟨h.kx.dB (λg cs t ht hg=>b g cs t hg (.inl ht)),h.base,h.fix.kept (λj _ _=>az (w:=w) (a:=iu G.v j) (b _ _ _ hv (.inl (.inl rfl)))),(b _ _ _ h.su (.inr (.inr (.inl rfl)))).trans h.su,h.tree.dB h.bN (λg o _ hg m=>hk g o hg ?_),h.bN,h.l4,h.marks.dB (λg cs ty _ c hg=>b g _ _ hg (by rcases c with rfl|rfl;exact .inl (.inr (.inr (.inr rfl)));exact .inl (.inr (.inr (.inl rfl))))),h.ring.dB h.br (λg cs ty _ c hg=>b g _ _ hg (by rcases c with rfl|rfl;exact .inr (.inr (.inr (.inl rfl)));exact .inl (.inr (.inr (.inl rfl))))),h.br,
  h.mF.dB hs (λg hg=>by
   rcases hg with rfl|rfl
   ·exact b _ _ _ k (.inr (.inr (.inr (.inr (.inl rfl)))))
   ·exact b _ _ _ i (.inl (.inr (.inr (.inl rfl))))),h.db,h.qM,h.bv,h.book.dB (λg hg _=>?_),h.cont,h.al,h.ml⟩
 ·rcases m with ⟨cs,ty,h1,e⟩|h1
  ·exact .inl ⟨cs,ty,.inr (.inl h1),e⟩
  ·exact .inr h1
 ·obtain⟨cs,t,h1,e,_⟩:=lp.obj h (.inr (.inl hg));obtain⟨f,q,m',d,l⟩:=kn.obj h.book hg;rw[h1] at d;simp only[IJ] at d;obtain⟨_,rfl,_⟩:=d;exact b _ _ _ h1 (by rcases l with rfl|rfl;exact .inr (.inr (.inr (.inr (.inr (.inr rfl)))));exact .inr (.inr (.inr (.inr (.inr (.inl rfl))))))
theorem Step.vQ {L:iz}{ks:List (Nat×iz)}{kh:Bool}{Dt:Nat->iz}(h:lT G w L ks kh Dt S) (hc:aA (ku w G.v) w w') (hb:∀ g,ku w' G.v g->ku w G.v g\/w.heap.size<=g) (hp:∀ x,nW w' G.v x->nW w G.v x\/w.heap.size<=x):Step G w w' S S 0:=by
 have b:∀ (g:Nat) (cs:Array Value) (ty:TypeId) (m:Nat×Nat),w.heap[g]?=some (.cells cs ty m)->ty≠104->ty≠111->w'.heap[g]?=w.heap[g]?:=λg cs ty m hg h1 d=>hc.block g (dC hg) (λe=>by obtain⟨c,t,a,f⟩:=ku.type h.kx e;rw[hg] at a;simp only[IJ] at a;obtain⟨_,rfl,_⟩:=a;exact f.elim h1 d)
 obtain⟨lv,i⟩:=h.book.box;obtain⟨j,hm⟩:=h.marks.box;exact⟨⟨aA.mono hc (λ_ _ e=>.inl e),hb,λg _ _ e=>mw.block (b _ _ _ _ i de de) e,hp⟩,λg hg=>.inl (ph.same (b _ _ _ _ hm de de) hg),by omega,by omega,by omega⟩
theorem Step.book (h:ly G w s S) (hg:kf No G.b w w'){n' k:Nat}(hn:n'<=S.n+9*k):Step G w w' S { S with n:=n' } k:=by obtain⟨c,hm⟩:=h.marks.box;exact⟨h.kO hg,λg a=>.inl (ph.same ((hg.at h.book hm id de de).trans hm.symm) a),hn,by show S.num<=_;omega,by show S.l8<=_;omega⟩
theorem Step.below (h:ly G w s S) (hb:Below w.heap.size w w'):Step G w w' S S 0:=by have:=Step.book (k:=0) (n':=S.n) h (kf.dD hb) om;exact this
end
theorem zG {G:VG}{s:kS}{S:VT}(h:ly G w s S) (hn:S.n+9*s.ks.length<700000) (hnum:S.num+s.ks.length<800000) (hrn:S.l8+s.ks.length<800000):
  Calls prog 20 #[iq G.v] w λe w'=>e=.returned (iw 0)/\∃ S':VT,ly G w' s.sync S'/\Step G w w' S S' s.ks.length:=by
 refine (KB h hn hnum hrn).mono ?_;rintro e w' ⟨rfl,S',h1,i,j,k,b,a⟩;refine⟨rfl,S',h1,b,λg hg=>?_,i,j,k⟩;rcases a with a|a
 ·left;rw[a] at hg;obtain⟨l,hm⟩:=h.marks.box;exact ph.same (b.at h hm de) hg
 ·right;obtain⟨n,c,hg⟩:=hg;obtain⟨_,sv,d,f⟩:=h1.marks;rw[cell_of d] at hg;simp at hg;subst hg;exact am a (kJ f g rfl)
theorem Lk {v m:Nat}{L:iz}{ks:List (Nat×iz)}{kh:Bool}(h:kF w v m L ks kh):Calls prog 31 #[iq v] w λe w'=>e=.returned (.tuple #[])/\w'=w.setCell (iu v 111) (.bool true):=by obtain⟨a,pc,_,_,_,_,c,_,f⟩:=h.cells;clear h;go_enter func31,ntmps31;go_wp2;go_end0;exact⟨rfl,rfl⟩
theorem zH {G:VG}{s:kS}{S:VT}(h:ly G w s S):Calls prog 31 #[iq G.v] w λe w'=>e=.returned (.tuple #[])/\ly G w' s.pd S/\Step G w w' S S 0/\w'=w.setCell (iu G.v 111) (.bool true):=by
 refine (Lk h.kx).mono ?_;rintro e w' ⟨rfl,rfl⟩;obtain⟨⟨cs,pv,h1,_,_,_,_,_,_,t,_,vs,q,d,_⟩,_⟩:=h.kx;have hc:aA (ku w G.v) w (w.setCell (iu G.v 111) (.bool true)):=(aA.refl _ w).setCell (p:=iu G.v 111) (λ_=>.inl rfl) _
 have k:(w.setCell (iu G.v 111) (.bool true)).cell? (iu G.v 110)=w.cell? (iu G.v 110):=by rw[cell_of (lz h1 111 _),bH de,cell_of h1]
 have hk:ox G.v w (w.setCell (iu G.v 111) (.bool true)):=λj _ r=>by rw[cell_of (lz h1 111 _),bH (bY r),cell_of h1]
 refine⟨rfl,h.vQ h.kx.pd hc hk,Step.vQ h hc (λg hg=>.inl ?_) (λx u=>.inl ?_),rfl⟩
 ·exact hg.imp id (λ⟨n,pc,e⟩=>⟨n,pc,k ▸ e⟩)
 ·obtain⟨pg,n,pc,j,n',l,c,m,o⟩:=u;rw[k] at c;refine⟨pg,n,pc,j,n',l,c,m,?_⟩;have i:=c.symm.trans ((cell_of h1 110).trans t);obtain rfl:=aF i;obtain⟨cur,b⟩:=kA d (g:=pg) rfl
  have f:pg≠G.v:=by intro e;rw[e,h1] at b;simp only[IJ] at b;exact absurd b.2.1 de
  rw[<-az (w:=w) (a:=iu pg (j*2+1)) (kD w (iu G.v 111) (.bool true) f)];exact o
def tF:kS:=⟨List.replicate 7 0,[],false,λ_=>nA⟩
structure vR (B:Nat) (w:World) (G:VG) (S:VT):Prop where
 kx:ly G w tF S
 n:S.n<=400
 num:S.num=0
 l8:S.l8=0
 oV:∀ g,lp G w g->B<=g
 uO:∀ g,ph w S.m g->B<=g
 kC:∀ g,¬ nW w G.v g
 hd:B<=G.d
 mD:B<=G.sb
 hv:B<=G.v
 hb:B<=G.b
 hr:B<=G.r
theorem uH.fresh {B:Nat}{w:World}{d v m s b sb t r:Nat}{xs:List Value}{A M:iz}{tp:Option Addr}{X:D.Dk}{n:Nat}{gs:Nat->Nat}{Ls:List iz}(h:uH B w d v m s b sb t r xs A M tp X n gs Ls):vR B w ⟨v,b,d,sb,s,r,⟨#[119]⟩,A,M,xs,tp⟩ ⟨t,m,0,0,n,b,gs,Ls,[],X⟩:=by
 have f:B<=b:=by have:=h.hd;omega
 have i:w.cell? (iu v 110)=some (.slice none 0 0):=by rw[cell_of h.box,aV,oQ,aL (by rw[h.base.len];omega),h.base.len];rfl
 refine⟨⟨h.kx,h.base,⟨by simp[mX,h.base.len],λj x o=>?_⟩,h.su,h.tree,ae _,h.l4,h.marks,h.ring,h.br,h.mF,h.hd.2,h.mD.2,h.bv,h.book,⟨λ_=>rfl,λp _ hb=>?_,λ_ _ _=>rfl,h.low.1 0 om (.inl rfl),λp hp _=>h.low.1 (60+p) om (.inr om)⟩,h.al,h.ml⟩,h.mL,rfl,rfl,λg hg=>?_,λg hg=>?_,λg hg=>?_,h.hd.1,h.mD.1,am f h.bv,f,am f h.br⟩
 ·have l:=(aD.1 o).1;have e:oQ xs t m 0 r=mX xs t m 0 r++[.slice none 0 0,.bool false]:=by simp[oQ,mX]
  show w.cell? (iu v j)=some x;rw[cell_of h.box,aV,e,aX l];exact o
 ·have k:nf (List.replicate 7 0) p=true:=hb;rw[Kt] at k;cases k
 ·rcases hg with (e|⟨n',pc,e⟩)|e|e|e|e
  ·have a:g=v:=e;have:=h.bv;omega
  ·have a:w.cell? (iu v 110)=some (ir g n' pc):=e;rw[i] at a;cases a
  ·exact am f e.ge
  ·have a:g=d:=e;rw[a];exact h.hd.1
  ·have a:g=sb:=e;rw[a];exact h.mD.1
  ·have a:g=r:=e;rw[a];exact am f h.br
 ·obtain⟨n',c,e⟩:=hg;have a:w.cell? (iu m 1)=some (ir g n' c):=e;obtain⟨_,sv,q,u⟩:=h.marks;rw[cell_of q] at a;simp at a;subst a;exact am f (kJ u g rfl)
 ·obtain⟨pg,n',pc,j,n2,y,e,_⟩:=hg;have a:w.cell? (iu v 110)=some (ir pg n' pc):=e;rw[i] at a;cases a
theorem Lq (w:World):Calls prog 9 #[] w λe w'=>∃ d v m,e=.returned (.tuple #[iq d,iq v,.bool true])/\(∃ s b sb t r xs A M tp X n gs Ls,uH w.heap.size w' d v m s b sb t r xs A M tp X n gs Ls/\A[0]?≠some 0/\M[0]?≠some 0)/\w.heap.size<=v/\w.heap.size<=m/\(∀ g,ku w' v g->w.heap.size<=g)/\Below w.heap.size w w':=by
 have R:=LH (D.oD.new 120 om om w);go_enter func9,ntmps9
 go_wp2_with fail
 refine R.o.mono ?_;rintro e w1 ⟨d,rfl,W⟩;replace W:=LH W;have ht:=LH (Az (CZ w1) sm);clear R
 go_wp2_with fail
 refine ht.o.mono ?_;rintro e w2 ⟨p,bv,rfl,-,-,K⟩;replace K:=LH K;have hr:=LH (AA (some (iu p 0)) w2);clear ht
 go_wp2_with fail
 refine hr.o.mono ?_;rintro e w3 ⟨s,rfl,N,l,L⟩;revert N l L;refine H3 ?_;intro N l L;have hh:=LH (Lp w3);clear hr
 go_wp2_with fail
 refine hh.o.mono ?_;rintro e S ⟨A,M,hA,hM,a6,rfl,h⟩;revert hA hM a6 h;refine H4 ?_;intro hA hM a6 h;obtain⟨H,hH⟩:=Ex ((kT A M).toArray);rw[<-hH];replace hH:=LH hH;have hc:=LH (CT S);clear hh
 go_wp2_with fail
 refine hc.o.mono ?_;rintro e w5 ⟨rfl,an,b5⟩;have x:Below S.heap.size S w5:=by rw[b5];exact (ag _ _).alloc (ae _) _
 obtain⟨F,V,a,Z⟩:=W.o;have E:=Z.trans (K.o.mono Z.size);have U:=E.trans (L.o.mono E.size);have G:=U.trans (h.o.mono U.size);have j:=G.trans (x.mono G.size);have O:Below w1.heap.size w1 w2:=K.o;have af:=O.trans (L.o.mono O.size);have P:=af.trans (h.o.mono af.size);have b7:=P.trans (x.mono P.size);have ad:Below w3.heap.size w3 S:=h.o;have b6:=ad.trans (x.mono ad.size);have u:D.At w5 F d (.new 120):=V.ki (aA.dD b7 No) (λ_ _=>id);have J:kR w5 s none (some (iu p 0)):=(b6.block s (dC l.o)).trans l.o;have Y:=V.lim;have a7:¬ F s:=λe=>by have:=Y s e;have:=N.o;have:=O.size;omega
 have I:∀ g,F g->g<S.heap.size:=λg hg=>by have:=Y g hg;have:=P.size;omega
 obtain⟨sb,mD⟩:=Cj u;have a1:=u.self;have B:=CY u mD;have b3:=Ex S.heap.size;obtain⟨b,y⟩:=b3
 have f:(w.heap.size<=d/\d<b)/\(w.heap.size<=sb/\sb<b)/\(w.heap.size<=s/\s<b):=by rw[y];have e1:=a d a1;have e2:=I d a1;have e3:=a sb B;have e4:=I sb B;have e5:=N.o;have e6:=dC l.o;have e7:=h.o.size;have e8:=E.size;exact⟨⟨e1,e2⟩,⟨e3,e4⟩,by omega,by omega⟩
 have C:∀ T,aA (λg=>F g\/lH w5 S.heap.size g) w5 T->kR T s none (some (iu p 0)):=λT hC=>(hC.block s (dC J) (λe=>e.elim a7 (λe=>by have:=e.ge;have:=dC l.o;have:=h.o.size;omega))).trans J
 replace f:=LH f;replace C:=LH C;have q:=Cl (gH:=⟨#[119]⟩) u (k:=0) ⟨⟨rfl,rfl⟩,by kernel_rfl,by simp[D.Dk.new],CX⟩ om J a7 an om I mD hA.o hM.o;rw[<-hH.o] at q;have c:S.heap.size<=w5.heap.size:=x.size;rw[<-y] at q C c ⊢;revert j q c;refine H3 ?_;intro j q c;have i:=G.size;rw[<-y] at i;revert a y i;refine H3 ?_;intro a y i;clear hc b5 x E U G O af P b7 ad b6 u J a7 I Y an Z V a1 B
 go_wp2_with fail
 refine q.o.mono ?_;rintro e T ⟨v,rfl,a8,⟨m,b4,hV,xs,t,r,hx,aa,b2,⟨gs,Ls,hT,ba⟩,⟨b8,hR⟩,⟨X',ay,Q⟩,n',bl,ax⟩,hC⟩;have hX:uH w.heap.size T d v m s b sb t r xs A M (some (iu p 0)) X' n' gs Ls:=⟨hV,hx,aa,C.o T hC,hT.lower c.o,ba,b2,b8,hR,ay,Q,by omega,ax,hA.o,hM.o,f.o.1,f.o.2.1,f.o.2.2,am c.o a8⟩
 have z:Below w.heap.size w T:=j.o.trans (hC.below j.o.size (λg hg e=>by
  rcases e with e|e
  ·have:=a.o g e;omega
  ·have:=e.ge;have:=i.o;omega))
 have h1:w.heap.size<=v:=am j.o.size a8;have h2:w.heap.size<=m:=am j.o.size b4
 have h3:∀ g,ku T v g->w.heap.size<=g:=λg hg=>by
  rcases hg with rfl|⟨n,pc,hc⟩
  ·exact h1
  ·rw[cell_of aa,aV,oQ,aL (by rw[hx.len];omega),hx.len] at hc;cases hc
 revert hX z h3;refine H3 ?_;intro hX z h3;clear hC q a8 b4 hx aa b2 hT hR ay Q ax hV C;go_wp2
 go_ret3
 exact⟨_,_,m,rfl,⟨_,_,_,_,_,_,_,_,_,_,_,_,_,hX.o,a6.o⟩,h1,h2,h3.o,z.o⟩
theorem DR (w:World):Calls prog 9 #[] w λe w'=>∃ G S,e=.returned (.tuple #[iq G.d,iq G.v,.bool true])/\vR w.heap.size w' G S/\(G.A[0]?≠some 0/\G.M[0]?≠some 0)/\Below w.heap.size w w':=(Lq w).mono λ_ _ ⟨_,_,_,h1,⟨_,_,_,_,_,_,_,_,_,_,_,_,_,a,b⟩,_,_,_,c⟩=>⟨_,_,h1,a.fresh,b,c⟩
theorem Step.refl {G:VG}{w:World}{S:VT}:Step G w w S S 0:=⟨lL.refl,λ_=>.inl,by omega,by omega,by omega⟩
theorem kS.Lr (s:kS):s.full.kh=s.kh:=by unfold kS.full;split<;>rfl
theorem kS.DS (s:kS):s.full.ks.length<64:=by
 unfold kS.full;split
 ·exact (by decide:0<64)
 ·omega
theorem DT {G:VG}{w:World}{s:kS}{S:VT}(hV:ly G w s S) (hlat:s.kh=false){Sx:Nat->Prop}{da:Option Addr}{N dcap:Nat}{l:iz}(hd:Bytes w Sx (.slice da N dcap) l) (hSx:∀ g,Sx g->¬ lp G w g) (i n:Nat) (hl:l.length=n*64) (hin:i+n<=50)
  (hn:S.n+9*s.ks.length<700000) (hnum:S.num+s.ks.length<800000) (hrn:S.l8+s.ks.length<800000):
  Calls prog 26 #[iq G.v,iw i,.slice da N dcap] w λe w'=>e=.returned (iw 0)/\∃ S',ly G w' (s.full.push i l n) S'/\Step G w w' S S' s.ks.length:=by
 have X:N=l.length:=by obtain⟨a,c,e,_⟩:=hd.shape;simp only[IJ] at e;exact e.2.1
 have ad:N<=dcap/\N<=maxLen:=by obtain⟨a,c,e,h1,h2⟩:=hd.shape;simp only[IJ] at e;obtain⟨rfl,h3,rfl⟩:=e;exact⟨by omega,by omega⟩
 have A:=zE hV.kx i da N dcap ad.2
 have ba:mq s.kh i N=0:=by unfold mq;rw[hlat,ah de,ah (by rintro (e|e)<;>omega),ak];exact dN ⟨by omega,by omega,by omega,by omega⟩
 rw[ba] at A;replace A:=LH A;obtain⟨s1,C⟩:=Ex s.full;rw[<-C];have cu:s1.ks.length<64:=C ▸ s.DS;have U:s1.kh=false:=by rw[C,kS.Lr,hlat]
 have e1:(N:Int) / 64=n:=om;have a1:N=n*64:=om;have cz:n<=50:=om
 have B:∀ ws,aA (lp G w) w ws->Bytes ws (λg=>g<w.heap.size/\¬ lp G w g) (.slice da N dcap) l:=λws hc=>by refine (Bytes.mono (S':=λg=>g<w.heap.size/\¬ lp G w g) hd (λg hg hx=>⟨hg,hSx g hx⟩)).ki hc (λg _ hg=>hg.2)
 have b7:∀ ws,lL G w ws->∀ g,ku ws G.v g->g<w.heap.size->lp G w g:=λws hc g hg cU=>(hc.uL g hg).elim (λe=>.inl e) (λe=>by omega)
 revert hl X ad ba a1 B b7;refine H7 ?_;intro hl X ad ba a1 B b7;clear hd hSx;have z:=LH (λM (h1:ly G M s S)=>zG h1 hn hnum hrn);have bR:=LH (λM (hb:Below w.heap.size w M)=>hV.below hb);have ax:=LH (λM (hb:Below w.heap.size w M)=>Step.below hV hb);have aa:=LH (λM (hb:Below w.heap.size w M)=>(hV.below hb).kx.cells);obtain⟨v,hv⟩:=Ex G.v;rw[<-hv] at A z aa ⊢;replace hv:=LH hv;obtain⟨K0,H⟩:=Ex s.ks.length;rw[<-H] at hn hnum hrn z aa ⊢;have cP:=LH hV;clear hV;go_enter func26,ntmps26
 go_wp2_with fail
 refine A.o.mono ?_;rintro e M ⟨rfl,I⟩;have J:=LH (ax.o M I);have a7:=LH (bR.o M I);obtain⟨pa,pc,_,_,_,f,_⟩:=aa.o M I;replace I:=LH I;clear A ax bR aa;by_cases T:64<=K0;have c7:(64:Int)<=(K0:Int):=om;have c8:=LH (z.o M a7.o);have y:s1=s.sync:=by rw[C];unfold kS.full;rw[<-H,ak T]
 replace C:=LH C;replace H:=LH H;clear z
 go_wp2_with fail
 refine c8.o.mono ?_;rintro e ws ⟨rfl,S1,t,q⟩;have q:=J.o.trans q;rw[aw] at q;rw[<-y] at t;revert y t q;refine H3 ?_;intro y t q;clear f c8 J a7 I;go_wp2
 rotate_left
 have c7:¬ (64:Int)<=(K0:Int):=om;have y:s1=s:=by rw[C];unfold kS.full;rw[<-H,ah T]
 have t:=a7.o;rw[<-y] at t;have q:=J.o.mono (j:=K0) om;obtain⟨ws,bp⟩:=Ex M;obtain⟨S1,b6⟩:=Ex S;rw[<-bp,<-b6] at t;rw[<-bp] at q;have q:Step G w ws S S1 K0:=b6 ▸ q;revert C H y t q;refine H5 ?_;intro C H y t q;clear z J a7 I;go_wp2;subst bp;clear f b6
 rotate_left
 all_goals
  have bD:=LH (show kF ws G.v S1.m s1.L s1.ks false from U ▸ t.o.kx);rw[<-hv.o] at bD
  go_loopg [31] n (λg ix wr=>∃ j:Nat,j+g=n/\ix=iw j/\Hd (kF wr v S1.m s1.L (s1.ks++nz i l j) false)/\Hd (aA (ku ws v) ws wr)/\Hd (VB ws v wr)/\Hd (∀ x,nW wr v x->nW ws v x\/ws.heap.size<=x))
  case atStart=>exact⟨0,by omega,rfl,by show kF _ _ _ _ _ _;simpa [nz] using bD.o,aA.refl _ _,⟨λ_=>.inl,λ_ _ _=>rfl⟩,λ_=>.inl⟩
  case round=>
   obtain⟨j,cc,rfl,V,HC,HB,HP⟩:=hrel;by_cases cf:j<n
   ·obtain⟨g1,rfl⟩:∃ i,gk=i+1:=⟨gk - 1,by omega⟩;have cd:(j:Int)<n:=om;obtain⟨E,rfl⟩:=Ex (wr:World);have bW:=B.o ws q.o.kO.ki;have bC:0<l.length:=by have:=X.o;have:=a1.o;omega
    obtain⟨db,d,cA,e5,cr,ct,a6,c6,Q⟩:=Cells.at bW bC;simp only[IJ] at e5;obtain⟨rfl,-,rfl⟩:=e5;have b8:∀ j u,(aQ l)[j]?=some u->E.cell? (iu db (d+j))=some u:=λj u hu=>(HC.o.cell (p:=iu db (d+j)) c6 (λe=>a6.2 (b7.o ws q.o.kO db (hv.o ▸ e) a6.1))).trans (Q j u hu)
    have an:db<E.heap.size:=aH c6 HC.o.size;obtain⟨Y,hY⟩:=Ex (i+j);have cT:(i:Int)+j=Y:=om;obtain⟨F,b5⟩:=Ex (j*64);obtain⟨HI,bz⟩:=Ex ((j+1)*64);have cl:(j:Int)*64=F:=om;have ck:((j:Int)+1)*64=HI:=om;have b4:HI - F=64:=om;have bB:=a1.o;have cK:HI<=N:=om;have cm:=ad.o.1;have i1:(F:Int)<=HI:=om;have i2:(HI:Int)<=dcap:=om;have i3:(0:Int)<=F:=om;obtain⟨Z,hZ⟩:=Ex ((l.drop (j*64)).take 64);have cb:=X.o;have a8:Z.length=64:=by rw[hZ,aR,bM];omega
    have af:∀ r,aA No E r->Bytes r (λ_=>True) (.slice (some (iu db (d+F))) 64 (dcap - F)) Z:=λr hc=>by
     refine⟨by rw[km,aY],_,_,by rw[a8],by omega,by omega,λh=>(by cases h),.inr ⟨db,d+F,rfl,trivial,aH an hc.size,λk u hu=>?_⟩⟩;have hk:k<64:=by have:=(aD.1 hu).1;rw[km,a8] at this;exact this
     rw[cy,hc.cell (p:=iu db (d+(F+k))) an id];refine b8 _ _ ?_;rw[<-hu,hZ,b5];simp[aQ,hk]
    have bl:∀ r,(Instr.sliceAt 42 (.slice (some (iu db d)) N dcap) (some (iw F)) (some (iw HI)) none).run prog r=.ok (.slice (some (iu db (d+F))) 64 (dcap - F)) r:=λr=>by have h1:=vU (P:=prog) r underlying42 D.vC (some (iu db d)) N dcap F HI om om;rw[pK _ _ _ _ _ _ om] at h1;simp only[b4,aY] at h1;exact h1
    replace bl:=LH bl;have c5:=LH (λr (hc:aA No E r)=>q0 (af r hc) om);rw[a8] at c5;obtain⟨pa,pc,_,_,_,f,_⟩:=V.o.cells;obtain⟨KJ,W⟩:=Ex ((s1.ks++nz i l j).length);rw[<-W] at f;have bA:(s1.ks++nz i l j).length<1000:=by rw[aE,zb];omega
    have ca:=LH (lq f);have K:=Dr E
    revert a6 Q b8 hY b5 bz b4 hZ;refine H8 ?_;intro a6 Q b8 hY b5 bz b4 hZ;revert f W K;refine H3 ?_;intro f W K;clear af cb bB bW bC;go_wp2;refine RA.rt (aA No) [5,1,1,1,1,1,1,1,1,1,1,1,1,1,1,3,1,3,6,5,5,7] [18,21] (λ_=>True) trivial (λ_=>aA.refl _ _) (λ_ _ _ h k=>h.trans k) (h:=?_);intro cx;refine RA.pq ?_
    repeat refine RA.qq ?_
    refine RA.fk prog v 110 (h:=?_);refine RA.lk prog (.slice pa KJ pc) (hc:=λr hp=>by exact ((K.o _ hp.1).cell (p:=iu v 110) ca.o id).trans f.o) (h:=?_)
    repeat refine RA.qq ?_
    refine RA.vw prog (iw Y) (h:=?_)
    repeat refine RA.qq ?_
    refine RA.vw prog (iw F) (h:=?_)
    repeat refine RA.qq ?_
    refine RA.vw prog (iw (j+1:Nat)) (h:=?_);refine RA.vw prog (iw HI) (h:=?_);refine RA.v7 (y':=.slice (some (iu db (d+F))) 64 (dcap - F)) (hr:=λr hp=>bl.o r) (h:=?_)
    refine RA.qc (P:=prog) [.slice (some (iu db (d+F))) 64 (dcap - F)] (λv r=>r.ownsRow E.heap.size 5 1 v 64 (aQ Z)) (hs:=λv a b h h2=>dE h2 (λg hg=>h.block g (kt h2 g hg) id)) (hr:=λr hp hH=>by refine (c5.o r (K.o _ hp.1)).mono ?_;rintro e O ⟨v,rfl,k1,k2,-⟩;exact⟨v,rfl,aA.dD k2 _,kU k1 (K.o _ hp.1).size,trivial⟩) (hn:=λu=>?_)
    refine RA.vk prog (.agg #[iw Y,u]) (hr:=λr hp=>by obtain⟨g,cp,rfl,_⟩:=kz (show r.ownsRow E.heap.size 5 1 u 64 (aQ Z) from hp.fact 0 rfl kr) om;clear hp;go_simp) (h:=?_)
    refine RA.bq (λx r=>Cells r (λ_=>True) x 1 2 [iw Y,u]) (hs:=λ_ _ _ h k=>k.ki h (λ_ _ _=>id)) (he:=λ_ _ _ _ _=>trivial) (hr:=λr hp _=>by refine⟨ir r.heap.size 1 1,r.alloc (.cells #[iw Y,u] 111),?_,(aA.refl _ _).alloc _,mC r #[iw Y,u] 111 1 2 rfl mx,trivial⟩;exact wT (RA.kH rf) underlying102 xE (by show 0<2;omega) (by show 2<=1000;omega) rfl) (hn:=λx=>?_)
    refine RA.oH (λv' O=>O.cell? (iu v 110)=some (.slice pa KJ pc)/\O.frozen? (iu v 110)=false/\(∃ g cp,v'=ir g (KJ+1) cp)/\kF (O.setCell (iu v 110) v') v S1.m s1.L (s1.ks++nz i l (j+1)) false/\aA (ku E v) E (O.setCell (iu v 110) v')/\VB E v (O.setCell (iu v 110) v')/\∀ x,nW (O.setCell (iu v 110) v') v x->nW E v x\/E.heap.size<=x) (hr:=(λr cg _=>by have hp:=cg.first kr;have cj:v<=E.heap.size:=cE ca.o;obtain⟨pv,v',O,q1,q2,q3,q4,q5,q6,q7,q8,q9⟩:=V.o.push bA (K.o _ hp.1) a8 cj (show r.ownsRow E.heap.size 5 1 u 64 (aQ Z) from hp.fact 1 rfl kr) Y om (hp.fact 0 rfl kr);rw[f.o] at q1;obtain rfl:=aF q1;rw[<-W.o] at q5;refine⟨v',O,RA.nS rf rf q2,q3,q4,q5,?_,q7,q8,q9⟩;rw[Cu,<-hY.o,<-hZ.o,<-cC];exact q6)) (hn:=λv'=>?_)
    refine RA.pq ?_;refine RA.pk prog v 110 (h:=?_)
    refine RA.lr (λw5=>kF w5 v S1.m s1.L (s1.ks++nz i l (j+1)) false/\aA (ku E v) E w5/\VB E v w5/\∀ x,nW w5 v x->nW E v x\/E.heap.size<=x) (hr:=λO _ hH=>by obtain⟨f1,f2,⟨g',cp,rfl⟩,f3,f4,f5,f6⟩:=hH;refine⟨_,RA.kL rf rf (w':=O.setCell (iu v 110) (ir g' (KJ+1) cp)) ?_,f3,f4,f5,f6⟩;clear f3 f4 f5 f6;show (Instr.storeAt _ _ _).run prog O=_;go_simp) (hn:=?_)
    refine RA.RA.kZ (λw5 hH=>?_);simp only[RA.RP,cx];obtain⟨z1,z2,z3,z4⟩:=hH;have b2:aA (ku ws v) ws w5:=HC.o.then z2 (λg hg e=>(HB.o.1 g e).elim id (λe=>by omega));have ay:VB ws v w5:=⟨λg hg=>(z3.1 g hg).elim (HB.o.1 g) (λe=>.inr (am HC.o.size e)),HB.o.2.trans z3.2⟩;have b3:∀ x,nW w5 v x->nW ws v x\/ws.heap.size<=x:=λx hx=>(z4 x hx).elim (HP.o x) (λe=>.inr (am HC.o.size e))
    revert z1 b2 ay b3;refine H4 ?_;intro z1 b2 ay b3;clear z2 z3 z4;go_wp2;go_roundg g1
    case measure=>omega
    case rel=>exact⟨j+1,by omega,by go_num,z1.o,b2.o,ay.o,b3.o⟩
   ·obtain rfl:gk=0:=om;obtain rfl:j=n:=om;have cd:¬ (j:Int)<j:=om
    have R:∃ S',ly G wr (s1.push i l j) S'/\Step G w wr S S' K0:=by
     have hc:=HC.o;have hb:=HB.o;have hp:=HP.o;have c9:=V.o;rw[hv.o] at hc hb hp c9;refine⟨S1,?_,?_⟩
     ·have:=t.o.vQ c9 hc hb.2;show lT G wr s1.L (s1.ks++nz i l j) s1.kh s1.Dt S1;rw[U];exact this
     ·have:=q.o.trans (Step.vQ t.o hc hb.1 hp);exact this
    replace R:=LH R;clear cf cc;go_wp2;go_ret;exact⟨rfl,R.o⟩
end Go.Proofs.YthmcbgidehjlbaaGreat.Fd

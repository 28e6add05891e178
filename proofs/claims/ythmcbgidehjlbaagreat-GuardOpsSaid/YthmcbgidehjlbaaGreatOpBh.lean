/-
 Parts of the proof. No condition beyond what each theorem names.
-/
import Derived.Deep.CutBlock
import Derived.Test.YthmcbgidehjlbaaGreatOpBa
import Derived.Test.YthmcbgidehjlbaaGreatOpBg
set_option maxRecDepth 100000
set_option maxHeartbeats 100000000
namespace Go.Proofs.YthmcbgidehjlbaaGreat.Fd
open _root_.Go.Proofs.Tryz
open Go Go.RowKit K
variable {LA:List P.Ar}{i:Int}
def qe (LA:List P.Ar) (p m:Nat):Bool:=(LA.take m).any λa=>P.hasB a (60+(p:Int))
theorem D9 {p m:Nat}(h:m<LA.length):qe LA p (m+1)=(qe LA p m || P.hasB LA[m] (60+(p:Int))):=by unfold qe;rw[List.take_add_one,av h,List.any_append];simp
theorem Ea {p m:Nat}(h:m=LA.length):qe LA p m=tJ LA p:=by unfold qe tJ;rw[h,cS]
def rL (LA:List P.Ar) (I t:Nat):Bool:=(List.range t).any λu=>tJ LA (I+u)
theorem Mm {I t:Nat}:rL LA I (t+1)=(rL LA I t || tJ LA (I+t)):=by unfold rL;rw[dF,List.any_append];simp
def xQ (v:Value) (i:Nat):Value:=match v with|.tuple cs=>cs.getD i undef|_=>undef
theorem Eb (a b:Value):xQ (.tuple #[a,b]) 0=a:=rfl
theorem Ec (a b:Value):xQ (.tuple #[a,b]) 1=b:=rfl
theorem rK.base {B B':Nat}{w':World}{c:Nat->iz}{n:Int}{e:Ending}(h:rK B w' c i n e) (hB:B'<=B):rK B' w' c i n e:=by
 rcases h with h|⟨h1,u,h2,h3⟩
 ·exact .inl h
 ·exact .inr ⟨h1,u,h2,kT h3 hB⟩
theorem rK.two {B:Nat}{w':World}{c:Nat->iz}{n:Int}{e:Ending}(h:rK B w' c i n e):∃ x y,e=.returned (.tuple #[x,y]):=by rcases h with ⟨_,h⟩|⟨_,u,h,_⟩<;>exact⟨_,_,h⟩
theorem Mn (la:List P.Ar) (i:Int) (N:Nat):ow la true i N=6:=by unfold ow lN;rw[ah (by rw[ak rfl];decide),ak rfl]
theorem Mo {la:List P.Ar}{N:Nat}(h:lN false i N≠0):ow la false i N=lN false i N:=by unfold ow;rw[ah h]
theorem Mp {I N:Nat}(h:lN false I N=0):ow (LA.filter P.kR) false I N=if rL LA I (N / 64)=true then 7 else 0:=by unfold ow rL;rw[ak h,DV]
theorem Mq (i:Int) (N:Nat):lN false i N≠7:=by rcases xN false i N with h|h|h|⟨h,_⟩<;>rw[h]<;>decide
def xS (a:P.Ar):Prop:=0<=a.1/\a.1<=200/\a.2<=200
theorem Mr {w:World}{a:Option Addr}{cap:Nat}{L:List qy}(hL:uK w a cap L){ia:Option Addr}{icap:Nat}(hA:Cells w (λ_=>True) (.slice ia LA.length icap) LA.length 2 (P.lP LA)):
  Calls prog 3 #[.slice a L.length cap,.slice ia LA.length icap] w λe w'=>e=.returned (.bool true)/\Below w.heap.size w w':=by
 have cj:=LH KH;have dp:=LH (LP hL);obtain⟨ln,cr⟩:=Ex L.length;obtain⟨an,b5⟩:=Ex LA.length;rw[<-cr] at dp ⊢;rw[<-b5] at hA ⊢
 have cg:an<=icap/\icap<=maxLen:=by obtain⟨_,_,e,h1,h2⟩:=hA.shape;simp only[IJ] at e;obtain⟨_,h3,rfl⟩:=e;exact⟨by omega,h2⟩
 have jd:=LH (ag w.heap.size w);refine G5 hL hA cg cr b5 ?_;clear hL hA cg cr b5;intro hL hA cg cr b5;go_enter func3,ntmps3
 go_wp2_with fail
 refine dp.o.mono ?_;rintro e w' ⟨⟨b,rfl,hb⟩,rfl⟩;clear dp;cases b with
 | false=>
  clear hb
  go_wp2_with fail
  refine (cj.o _).mono ?_;rintro e w1 ⟨rfl,hb⟩;go_wp2;go_ret;exact⟨rfl,hb⟩
 | true=>
 obtain⟨iE,hX⟩:=hb rfl;replace hX:=LH hX;rw[<-cr.o] at iE;clear hb;by_cases h5:5<an
 ·have iN:(5:Int)<an:=om
  go_wp2_with fail
  refine (cj.o _).mono ?_;rintro e w1 ⟨rfl,hb⟩;go_wp2;go_ret;exact⟨rfl,hb⟩
 have iN:¬ (5:Int)<an:=om;go_wp2
 go_loopg [5] an (λg ix wr=>∃ j:Nat,j+g=an/\ix=iw j/\wr=w/\Hd (∀ (i:Nat) (x:P.Ar),i<j->LA[i]?=some x->xS x))
 case atStart=>exact⟨0,by omega,rfl,rfl,λi x hi=>absurd hi (dH i)⟩
 case round=>
  obtain⟨j,iD,rfl,rfl,HG⟩:=hrel;by_cases iG:j<an
  ·obtain⟨g1,rfl⟩:∃ i,gk=i+1:=⟨gk - 1,by omega⟩;have hY:(j:Int)<an:=om;obtain⟨db,hI,j5,e5,_,_,_,_,l⟩:=Cells.at hA.o om;simp only[IJ] at e5;obtain⟨rfl,-,rfl⟩:=e5;have h9:j<LA.length:=by have:=b5.o;omega
   obtain⟨k0,k1⟩:=P.tG LA j h9;obtain⟨x,hx⟩:=Ex (LA[j]);rw[<-hx] at k0 k1;have c0:=l _ _ k0;have c1:=l _ _ k1;obtain⟨X,Y⟩:=x;dsimp only at c0 c1;obtain⟨o,ho⟩:=Ex (hI+j*2);rw[<-ho] at c0;rw[<-cy,<-ho] at c1;have iY:hI+j*2=o:=ho.symm;have iO:=cg.o;have jg:(j:Int)<icap:=om;replace ho:=LH ho;replace l:=LH l;clear k0 k1 iO;by_cases hg:xS (X,Y)
   ·obtain⟨q1,q2,q3⟩:=hg;dsimp only at q1 q2 q3
    have iJ:=LH (show ∀ (i:Nat) (x:P.Ar),i<j+1->LA[i]?=some x->xS x from λi y hi hy=>by
     by_cases e:i=j
     ·subst e;rw[av h9,<-hx] at hy;obtain rfl:=aF hy;exact⟨q1,q2,q3⟩
     ·exact HG.o i y om hy)
    have r1:¬ X<0:=om;have r2:¬ 200<X:=om;have r3:¬ 200<Y:=om;replace hx:=LH hx;clear HG;go_wp2;go_roundg g1
    case measure=>omega
    case rel=>exact⟨j+1,by omega,by go_num,rfl,iJ.o⟩
   ·have hV:X<0\/200<X\/200<Y:=by
     by_cases q1:X<0
     ·exact .inl q1
     ·by_cases q2:200<X
      ·exact .inr (.inl q2)
      ·by_cases q3:200<Y
       ·exact .inr (.inr q3)
       ·exact absurd ⟨by dsimp only;omega,by dsimp only;omega,by dsimp only;omega⟩ hg
    replace hx:=LH hx;clear hg HG;by_cases q1:X<0
    ·clear hV
     go_wp2_with fail
     refine (cj.o _).mono ?_;rintro e w1 ⟨rfl,hb⟩;go_wp2;go_ret;exact⟨rfl,hb⟩
    ·by_cases q2:200<X
     ·clear hV
      go_wp2_with fail
      refine (cj.o _).mono ?_;rintro e w1 ⟨rfl,hb⟩;go_wp2;go_ret;exact⟨rfl,hb⟩
     ·have q3:200<Y:=om;clear hV
      go_wp2_with fail
      refine (cj.o _).mono ?_;rintro e w1 ⟨rfl,hb⟩;go_wp2;go_ret;exact⟨rfl,hb⟩
  ·obtain rfl:gk=0:=om;obtain rfl:an=j:=om
   have a6:∀ x ∈ LA,xS x:=λx hx=>by obtain⟨i,hi⟩:=cM hx;have:=(aD.1 hi).1;have:=b5.o;exact HG.o i x om hi
   replace a6:=LH a6;have hf:=LH (L9 wr);have hY:¬ (an:Int)<an:=om;clear HG iG iD
   go_wp2_with fail
   refine hf.o.mono ?_;rintro e w1 ⟨G,S0,rfl,hF,b2⟩;have cm:=LS G.v (hA.o.dC b2.size (λg _ hg=>b2.block g hg)) om;obtain⟨v,hv⟩:=Ex G.v;obtain⟨d,hd⟩:=Ex G.d;rw[<-hv] at cm;rw[<-hv,<-hd];refine G5 cm hv hd hF b2 ?_;clear cm hv hd hF b2;intro cm hv hd hF b2;clear hf
   go_wp2_with fail
   refine cm.o.mono ?_;rintro e w2 ⟨k,rfl,hk,er,cl⟩;replace er:=LH er;replace cl:=LH cl;replace hk:=LH hk;clear cm
   go_wp2_with fail
   refine (zA w2).mono ?_;rintro e C ⟨A,M,-,-,rfl,bD⟩;obtain⟨H,hH⟩:=Ex ((k9 A M).toArray);have e0:=D7 (A:=A) (M:=M);rw[<-hH] at e0 ⊢;replace hH:=LH hH;replace bD:=LH bD
   go_wp2_with fail
   refine (L5 C).mono ?_;rintro e w4 ⟨q,rfl,hq,gb,ca⟩;replace hq:=LH hq;replace gb:=LH gb;replace ca:=LH ca;clear e0
   go_wp2_with fail
   refine (zA w4).mono ?_;rintro e w5 ⟨A2,M2,-,-,rfl,ba⟩;obtain⟨H2,fs⟩:=Ex ((k9 A2 M2).toArray);have e0:=D7 (A:=A2) (M:=M2);rw[<-fs] at e0 ⊢;replace fs:=LH fs;replace ba:=LH ba
   go_wp2_with fail
   refine (DP w5).mono ?_;rintro e w6 ⟨rfl,O⟩;replace O:=LH O;clear e0;have hO:Below w1.heap.size w1 w6:=(cl.o.trans ((bD.o.trans ((ca.o.trans ((ba.o.trans (O.o.mono ba.o.size)).mono ca.o.size)).mono bD.o.size)).mono cl.o.size));have hP:Below w2.heap.size w2 w6:=(bD.o.trans ((ca.o.trans ((ba.o.trans (O.o.mono ba.o.size)).mono ca.o.size)).mono bD.o.size));have hQ:Below w4.heap.size w4 w6:=ba.o.trans (O.o.mono ba.o.size);obtain⟨w7,cK⟩:=Ex (w6.alloc (.cells #[iw 60,iw 50] 27));obtain⟨b11,bC⟩:=Ex w6.heap.size;have en:Below w6.heap.size w6 w7:=by rw[cK];exact (ag _ _).alloc (ae _) _
   have fb:GI wr G k q b11 LA w7 uM S0 uM.c:=by
    have c8:=hF.o;have cU:=hO.trans (en.mono hO.size);refine⟨c8.kC.below cU,by rw[<-hv.o];exact er.o.after (hP.trans (en.mono hP.size)),?_,by rw[cK,bC];exact aj w6 _,b2.o.trans (cU.mono b2.o.size),λg hg=>?_,⟨am b2.o.size hk.o,?_⟩,λp _ _=>?_,by show 0<=113;omega⟩
    ·obtain⟨dv,j0,hs,g1,g2,g3⟩:=gb.o.after (hQ.trans (en.mono hQ.size));exact⟨dv,j0,hs,g1,kT g2 (aW _),kT g3 (aW _)⟩
    ·by_cases hl:g<w1.heap.size
     ·exact c8.nX g ((Step.below c8.kC cU).lR.back hl hg)
     ·have:=b2.o.size;omega
    ·have:=b2.o.size;have:=cl.o.size;have:=bD.o.size;have:=hq.o;omega
    ·exact Df p
   have gh:Room S0 0:=by have c8:=hF.o;refine⟨by have:=c8.n;omega,by have:=c8.num;omega,by have:=c8.my;omega⟩
   refine G4 fb gh cK bC ?_;clear fb gh cK bC;intro fb gh cK bC;have je:=LH hd.o;obtain⟨w0,rfl⟩:=Ex (wr:World);clear er gb b2 cl bD ca ba O hO hP hQ en hH fs hk hq;go_wp2;rw[<-bC.o,<-cK.o]
   go_loopg [12,13] ln (λg tr ix wx=>∃ (j:Nat) (s:kJ) (S:VT) (c:Nat->iz),j+g=ln/\ix=iw j/\tr=.bool s.ki/\Hd (GI w0 G k q b11 LA wx s S c)/\Hd (∀ p,p<50->c p=s.c p)/\Hd (Room S j))
   case atStart=>exact⟨0,uM,S0,uM.c,by omega,rfl,rfl,fb.o,λ_ _=>rfl,gh.o⟩
   case round=>
    obtain⟨j,s,S,c,iD,rfl,rfl,HI,HC,HR⟩:=hrel;by_cases iG:j<ln
    ·obtain⟨g1,rfl⟩:∃ i,gk=i+1:=⟨gk - 1,by omega⟩;have hY:(j:Int)<ln:=om;have h9:j<L.length:=by have:=cr.o;omega
     obtain⟨x,hx⟩:∃ x,L[j]?=some x:=⟨_,av h9⟩;have ih:=hL.o.dC HI.o.mm;obtain⟨g,off,dv,rfl,jf,hr⟩:=ih.2.2 j x hx;obtain⟨g',j9,iM,e',_,e8⟩:=hL.o.2.2 j x hx;simp only[IJ] at e';obtain⟨rfl,rfl,-⟩:=e'
     obtain rfl:iM=dv:=by have h1:=e8.c3;have h2:=hr.c3;rw[az (w:=w0) (a:=iu g (off+j*4+3)) (HI.o.mm.block g (kZ h1)),h1] at h2;exact aF h2
     obtain⟨da,dc,rfl,_⟩:=hr.data.shape;obtain⟨N,hN⟩:=Ex x.data.length;obtain⟨o,ho⟩:=Ex (off+j*4);have c0:=hr.c0;have c1:=hr.c1;have c2:=hr.c2;have c3:=hr.c3;have bz:=e8.data;rw[<-hN] at c3 bz;rw[<-ho] at c0 c1 c2 c3;have iY:off+j*4=o:=ho.symm;have j8:(j:Int)<cap:=by have:=hL.o.1;omega
     have jb:N<=5000:=by rw[hN];exact hX.o x (aZ hx)
     obtain⟨kd,hh⟩:=Ex x.kind;obtain⟨fi,ds⟩:=Ex x.first;obtain⟨nu,e7⟩:=Ex x.num;obtain⟨dl,h6⟩:=Ex x.data;rw[<-hh] at c0;rw[<-ds] at c1;rw[<-e7] at c2;rw[<-h6] at bz hN;have h8:=hr.fr;have hB:=hr.nr;rw[<-ds] at h8;rw[<-e7] at hB;obtain⟨wo,rfl⟩:=Ex (wr:World);obtain⟨bo,dg⟩:=Ex wo.heap.size;obtain⟨V,b7⟩:=Ex (wo.alloc (.cells #[iw kd,iw fi,iw nu,.slice da N dc] 44));have iB:Below wo.heap.size wo V:=by rw[b7];exact (ag _ _).alloc (ae _) _
     have B1:V.heap[bo]?=some (.cells #[iw kd,iw fi,iw nu,.slice da N dc] 44 (0,0)):=by rw[b7,dg];exact aj wo _
     have Q:=HI.o.below iB;refine G9 Q B1 hr e8 hx ho hN hh ds ?_;clear Q B1 hr e8 hx ho hN hh ds;intro Q B1 hr e8 hx ho hN hh ds;refine G7 e7 h6 h8 hB bz b7 dg ?_;clear e7 h6 h8 hB bz b7 dg;intro e7 h6 h8 hB bz b7 dg;clear ih iB
     go_upto_block 4 with fail
     rw[<-dg.o,<-b7.o];have m1:=cell_of B1.o 1;have m2:=cell_of B1.o 2;have m3:=cell_of B1.o 3;have mk:=Q.o.gu.c0;rw[<-hv.o] at mk;clear c0 c1 c2 c3
     go_cut [12,15,16,17,18,19,20,21,22] from 84 to 221 (λtr jk jm jn jo jq jr js jt wx=>∃ (sz:kJ) (W:VT) (cz:Nat->iz),tr=.bool sz.ki/\Hd (GI w0 G k q b11 LA wx sz W cz)/\Hd (∀ p,p<50->cz p=sz.c p)/\Hd (Room W (j+1)))
     case first=>
      by_cases iR:kd=1
      ·subst iR;obtain⟨E0,ax⟩:=Ex (lN false fi N);have c5:=DO Q.o.qv fi da N dc mx;rw[<-ax] at c5;replace c5:=LH c5;obtain⟨n,hn⟩:=Ex (N / 64);have ja:(N:Int) / 64=n:=om;obtain⟨n',e4⟩:∃ n',n'=if E0=0 then n else 0:=⟨_,rfl⟩;have bB:E0≠0->n'=0:=λe=>by rw[e4,ah e]
       have b6:E0=0->n'=n/\N=n*64/\∃ I:Nat,fi=I/\I+n<=50:=λe=>by
        rcases xN false fi N with h|h|h|⟨_,_,h1,h2,h3⟩
        ·rw[<-ax] at h;omega
        ·rw[<-ax] at h;omega
        ·rw[<-ax] at h;omega
        ·exact⟨by rw[e4,ak e],by omega,fi.toNat,by omega,by omega⟩
       refine G5 ax hn e4 bB b6 ?_;clear ax hn e4 bB b6;intro ax hn e4 bB b6
       go_wp2_with fail
       refine c5.o.mono ?_;rintro e ju ⟨rfl,rfl⟩;clear c5;go_wp2;clear m1 m2 m3 mk
       go_loopg [16,17] n' (λg b t wx=>∃ t':Nat,t'+g=n'/\t=iw t'/\b=.bool (rL LA fi.toNat t')/\Hd (GI w0 G k q b11 LA wx s S c)/\Hd (wx.heap[bo]?=some (.cells #[iw 1,iw fi,iw nu,.slice da N dc] 44 (0,0))))
       case atStart=>exact⟨0,by omega,rfl,rfl,Q.o,B1.o⟩
       case round=>
        obtain⟨t,ji,rfl,rfl,HJ,HB⟩:=hrel;obtain⟨wp,rfl⟩:=Ex (wr:World);have d1:=cell_of HB.o 1;have d3:=cell_of HB.o 3;by_cases jj:t<n'
        ·obtain⟨g2,rfl⟩:∃ i,gk=i+1:=⟨gk - 1,by omega⟩;have hz:E0=0:=gZ λe=>by have:=bB.o e;omega
         subst hz;obtain⟨rfl,c9,I,rfl,hIn⟩:=b6.o rfl;have cu:(t:Int)<n':=om;obtain⟨P1,fu⟩:=Ex (60+(I:Int):Int);obtain⟨P2,b4⟩:=Ex (60+((I+t:Nat):Int):Int);have j6:(60:Int)+I=P1:=fu.symm;have j7:P1+t=P2:=om;have hU:0<=P2/\P2<=1000:=om;obtain⟨AB,cV⟩:=Ex (rL LA I t);rw[show ((I:Int).toNat)=I from rfl,<-cV];refine G4 fu b4 cV c9 ?_;clear fu b4 cV c9;intro fu b4 cV c9;go_wp2
         go_loopg [16,18] an (λg b m wx=>∃ m':Nat,m'+g=an/\m=iw m'/\b=.bool (AB || qe LA (I+t) m')/\Hd (GI w0 G k q b11 LA wx s S c)/\Hd (wx.heap[bo]?=some (.cells #[iw 1,iw I,iw nu,.slice da N dc] 44 (0,0))))
         case atStart=>exact⟨0,by omega,rfl,by simp[qe],HJ.o,HB.o⟩
         case round=>
          obtain⟨m,iV,rfl,rfl,HK,cf⟩:=hrel;obtain⟨wk,rfl⟩:=Ex (wr:World);obtain⟨BB,R⟩:=Ex (AB || qe LA (I+t) m);rw[<-R];by_cases iW:m<an
          ·obtain⟨g3,rfl⟩:∃ i,gk=i+1:=⟨gk - 1,by omega⟩;have hZ:(m:Int)<an:=om;have cc:m<LA.length:=by have:=b5.o;omega
           have cd:=D9 (p:=I+t) cc
           have K:∀ b,b=(BB || P.hasB LA[m] P2)->b=(AB || qe LA (I+t) (m+1)):=λb hb=>by rw[hb,cd,R,b4.o,Bool.or_assoc]
           replace R:=LH R;replace cd:=LH cd;cases BB with
           | true=>
            have bl:=LH (K true sm);clear K;go_wp2
            go_region
            go_wp2;go_roundg g3
            case measure=>omega
            case rel=>exact⟨m+1,by omega,by go_num,by rw[<-bl.o],HK.o.below (ag _ _).drew,cf.o⟩
           | false=>
            have cW:=(hA.o.dC HK.o.mm.size (λg _ hg=>HK.o.mm.block g hg));obtain⟨gA,oA,cA,e5,_,_,_,hJ,l⟩:=Cells.at cW om;simp only[IJ] at e5;obtain⟨rfl,-,rfl⟩:=e5;obtain⟨k0,k1⟩:=P.tG LA m cc;have Z:=a6.o _ (bK cc);obtain⟨x,bp⟩:=Ex (LA[m]);rw[<-bp] at k0 k1 K Z;obtain⟨X,Y⟩:=x;have a0:=l _ _ k0;have a1:=l _ _ k1;dsimp only at a0 a1;obtain⟨o',a7⟩:=Ex (oA+m*2);have iX:oA+m*2=o':=a7.symm;rw[<-a7] at a0;rw[<-cy,<-a7] at a1;have iU:(m:Int)<icap:=by have:=cg.o.1;omega
            have af:=Dr wk
            have iF:=LH (λC (hc:aQ No wk C)=>(show (Instr.loadAt 27 (.pointer (some (iu gA o')))).run prog C=.ok (.agg #[iw X,iw Y]) C from mE (P:=prog) (x:=[iw X,iw Y]) underlying27 kr (λj v hj=>by
             rw[hc.cell (p:=iu gA (o'+j)) hJ id]
             match j,hj with
             | 0,hj=>obtain rfl:=aF hj;exact a0
             | 1,hj=>obtain rfl:=aF hj;exact a1)))
            have j3:=LH (cell_of HK.o.bx 0);have j1:=LH (dD HK.o.bx);have j4:=LH (cell_of cf.o 1);have j2:=LH (dD cf.o);have b3:=λC=>DW (X,Y) P2 ⟨Z.1,by have:=Z.2.1;omega,hU⟩ C
            obtain⟨cP,T⟩:=Ex (P.hasB (X,Y) P2);rw[<-T] at b3 K;refine G8 T b3 af K Z bp a7 l ?_;clear T b3 af K Z bp a7 l;intro T b3 af K Z bp a7 l;clear k0 k1 a0 a1 cW;go_wp2;refine RA.rt (aQ No) [1,1,1,1,1,1,1,1,1,1,1,1,1,4,1,1] [] (λ_=>True) trivial (λ_=>aQ.refl _ _) (λ_ _ _ h k=>h.trans k) (h:=?_);intro cx
            repeat refine RA.qq ?_
            refine RA.ik prog gA o' (h:=?_);refine RA.ld (y':=.agg #[iw X,iw Y]) (hr:=λC hp=>iF.o C (af.o _ hp.1)) (h:=?_);refine RA.fk prog b11 0 (h:=?_);refine RA.lk prog (iw 60) (hc:=λC hp=>by exact ((af.o _ hp.1).cell (p:=iu b11 0) j1.o id).trans j3.o) (h:=?_);refine RA.fk prog bo 1 (h:=?_);refine RA.lk prog (iw I) (hc:=λC hp=>by exact ((af.o _ hp.1).cell (p:=iu bo 1) j2.o id).trans j4.o) (h:=?_);refine RA.vw prog (iw P1) (h:=?_)
            repeat refine RA.qq ?_
            refine RA.vw prog (iw P2) (h:=?_)
            refine RA.kc (P:=prog) [.agg #[iw X,iw Y],iw P2] (.bool cP) (hr:=λC hp hH=>by refine (b3.o C).mono ?_;rintro e w4 ⟨rfl,hb⟩;exact⟨rfl,aQ.dE hb _,trivial⟩) (hn:=?_)
            refine RA.pf kr rf rf (y:=.bool cP) rf ?_
            repeat refine RA.qq ?_
            refine RA.RA.done rfl (λw5 hR hF hH=>?_);clear hF hH;simp only[RA.RP,cx];have hC:=af.o _ hR;have hM:=LH (HK.o.below hC.no);have iI:=LH ((hC.block bo (dD cf.o) id).trans cf.o);have bl:=LH (K.o cP (by rw[fD]));clear hC hR;go_wp2;go_roundg g3
            case measure=>omega
            case rel=>exact⟨m+1,by omega,by go_num,by rw[<-bl.o],hM.o,iI.o⟩
          ·obtain rfl:gk=0:=om;obtain rfl:m=an:=om;have hZ:¬ (m:Int)<m:=om;have bl:=LH (show BB=rL LA I (t+1) by rw[R,Ea b5.o,Mm,cV.o]);clear R;go_wp2;go_roundg g2
           case measure=>omega
           case rel=>exact⟨t+1,by omega,by go_num,by rw[bl.o];rfl,HK.o,cf.o⟩
        ·obtain rfl:gk=0:=om;obtain rfl:t=n':=om;obtain⟨IB,cX⟩:=Ex (rL LA fi.toNat t);rw[<-cX]
         have ay:E0≠0->IB=false:=λe=>by have:=bB.o e;subst this;rw[cX];rfl
         have cb:∀ b:Bool,(b=decide ((t:Int)<n))->b=true->E0≠0:=λb hb iA e=>by rw[hb] at iA;have:=dw iA;have:=(b6.o e).1;omega
         replace cX:=LH cX;have f:=D6 HJ.o HR.o om bz.o fi (λa ha=>by have:=a6.o a ha;exact⟨this.1,by have:=this.2.1;omega,by have:=this.2.2;omega⟩);have iP:=HJ.o.gu.c0;rw[<-hv.o] at iP;cases hlat:s.ki with
         | true=>
          have J:=Mn (LA.filter P.kR) fi N;have a8:qA (LA.filter P.kR) s fi dl N=s:=by unfold qA;rw[hlat,J,ah de,ah de]
          rw[hlat,J,a8] at f;replace f:=LH f;by_cases c6:t<n
          ·have cu:(t:Int)<n:=om;have bA:¬ E0=0:=cb true (by simp[cu]) rfl;clear cb ay
           as_aux_lemma=>
            go_wp2_with fail
            refine f.o.mono ?_;rintro e wz ⟨rfl,W,B,r⟩;have E:=LH (HR.o.next r);replace B:=LH B;have aa:=LH hlat;have F:=HC;clear f r;go_wp2
            go_meet
            exact⟨s,W,c,by rw[aa.o],B.o,F.o,E.o⟩
          ·have cu:¬ (t:Int)<n:=om;clear cb ay
           as_aux_lemma=>
            go_wp2_with fail
            refine f.o.mono ?_;rintro e wz ⟨rfl,W,B,r⟩;have E:=LH (HR.o.next r);replace B:=LH B;have aa:=LH hlat;have F:=HC;clear f r;go_wp2
            go_meet
            exact⟨s,W,c,by rw[aa.o],B.o,F.o,E.o⟩
         | false=>
          by_cases ec:E0=0
          ·obtain⟨hG,c9,I,rfl,hIn⟩:=b6.o ec;have cu:¬ (t:Int)<n:=om;have bA:=ax.o;rw[ec] at bA;have J:=Mp (LA:=LA) (I:=I) (N:=N) bA.symm;have c6:N / 64=t:=om;rw[c6,show rL LA I t=IB from cX.o.symm] at J;replace c9:=LH c9;replace hG:=LH hG;cases IB with
           | true=>
            rw[ak rfl] at J;have a8:qA (LA.filter P.kR) s I dl N=s.pj:=by unfold qA;rw[hlat,J,ah de,ak rfl]
            replace c6:=LH c6;rw[hlat,J,a8] at f;replace f:=LH f;clear cb ay J a8 bA
            as_aux_lemma=>
             go_wp2_with fail
             refine f.o.mono ?_;rintro e wz ⟨rfl,W,B,r⟩;have E:=LH (HR.o.next r);replace B:=LH B;have aa:=LH (show s.pj.ki=true from rfl);have F:=LH (show ∀ p,p<50->c p=s.pj.c p from HC.o);clear f r;go_wp2
             go_meet
             exact⟨s.pj,W,c,by rw[aa.o],B.o,F.o,E.o⟩
           | false=>
            rw[ah de] at J;have a8:qA (LA.filter P.kR) s I dl N=s.full.push I dl t:=by unfold qA;rw[hlat,J,ak rfl,c6];rfl
            replace c6:=LH c6;have iH:=LH (Ml HJ.o bz.o I t (by have:=hN.o;have:=c9.o;have:=hG.o;omega) (by have:=hG.o;omega));clear cb ay f bA;replace J:=LH J;replace a8:=LH a8
            as_aux_lemma=>
             go_wp2_with fail
             refine iH.o.mono ?_;rintro e wq ⟨rfl,eb,HQ⟩;have ed:=eb.2 _ _ HB.o;have e1:=cell_of ed 1;have e3:=cell_of ed 3;have f:=D6 HQ HR.o om bz.o I (λa ha=>by have:=a6.o a ha;exact⟨this.1,by have:=this.2.1;omega,by have:=this.2.2;omega⟩);rw[hlat,J.o,a8.o] at f;replace f:=LH f;replace HQ:=LH HQ;replace ed:=LH ed;clear iH eb J a8
             go_wp2_with fail
             refine f.o.mono ?_;rintro e wz ⟨rfl,W,B,r⟩;have E:=LH (HR.o.next r);replace B:=LH B;have aa:=LH (show (s.full.push I dl t).ki=false by rw[kJ.DT,kJ.zM,hlat]);have F:=LH (show ∀ p,p<50->(λp=>kQ (lU I dl t) p (c p)) p=(s.full.push I dl t).c p from λp hp=>by rw[kJ.Mb,kJ.Ma,<-HC.o p hp]);clear f r e1 e3;go_wp2
             go_meet
             exact⟨(s.full.push I dl t),W,(λp=>kQ (lU I dl t) p (c p)),by rw[aa.o],B.o,F.o,E.o⟩
          ·have J:=Mo (la:=LA.filter P.kR) (i:=fi) (N:=N) (by rw[<-ax.o];exact ec);rw[<-ax.o] at J;have h7:E0≠7:=by rw[ax.o];exact Mq fi N
           have a8:qA (LA.filter P.kR) s fi dl N=s:=by unfold qA;rw[hlat,J,ah ec,ah h7]
           rw[hlat,J,a8] at f;replace f:=LH f;obtain rfl:IB=false:=ay ec;replace h7:=LH h7;by_cases c6:t<n
           ·have cu:(t:Int)<n:=om;clear cb ay J a8
            go_wp2_with fail
            refine f.o.mono ?_;rintro e wz ⟨rfl,W,B,r⟩;have E:=LH (HR.o.next r);replace B:=LH B;have aa:=LH hlat;have F:=HC;clear f r;go_wp2
            go_meet
            exact⟨s,W,c,by rw[aa.o],B.o,F.o,E.o⟩
           ·have cu:¬ (t:Int)<n:=om;clear cb ay J a8
            as_aux_lemma=>
             go_wp2_with fail
             refine f.o.mono ?_;rintro e wz ⟨rfl,W,B,r⟩;have E:=LH (HR.o.next r);replace B:=LH B;have aa:=LH hlat;have F:=HC;clear f r;go_wp2
             go_meet
             exact⟨s,W,c,by rw[aa.o],B.o,F.o,E.o⟩
      by_cases iS:kd=2
      ·subst iS;have dT:=λC (h3:GI w0 G k q b11 LA C s S c)=>Mj h3 HR.o (show j<=50 by omega) fi nu
       have ck:=Q.o.gu.c0;have iQ:=LH (show ∀ p,p<50->(c p).length=64 from λp hp=>by rw[HC.o p hp];exact Q.o.kC.Mg p);rw[<-hv.o] at ck dT
       have e6:∀ (g:Nat) (cs:Array Value) (t:TypeId),t≠223->t≠145->V.heap[g]?=some (.cells cs t (0,0))->¬ (ku V G.b g\/V.heap.size<=g):=λg cs t h1 h2 hg e=>by
        rcases e with e|e
        ·exact ku.type Q.o.kC.book hg h1 h2 e
        ·have:=dD hg;omega
       have ct:∀ C,aQ (λg=>ku V G.b g\/V.heap.size<=g) V.drew C->C.cell? (iu k 0)=some (iq v)/\C.cell? (iu bo 1)=some (iw fi)/\C.cell? (iu bo 2)=some (iw nu):=λC hc=>by obtain⟨ad,cp,hW,_⟩:=Q.o.gu;have e1:=(hc.block k (dD hW) (e6 _ _ _ de de hW)).trans hW;have e2:=(hc.block bo (dD B1.o) (e6 _ _ _ de de B1.o)).trans B1.o;refine⟨(cell_of e1 0).trans ?_,cell_of e2 1,cell_of e2 2⟩;rw[hv.o];rfl
       replace e6:=LH e6;replace ct:=LH ct;replace dT:=LH dT;clear ck m1 m2 m3 mk;go_wp2;refine RA.region (λa b=>aQ (λg=>ku V G.b g\/V.heap.size<=g) a b) (·=·) [1,1,1,1,1,1,1,1,3,1,1,1,1,1] (λ_ _ _=>True) (λx=>GI w0 G k q b11 LA x s S c/\kh No G.b V x) kr (aQ.refl _ _) (λ_ _ h=>h ▸ aQ.refl _ _) (λ_ _ _ h k=>h.trans k) (λ_ _ h k=>h ▸ k) (⟨Q.o.below (ag _ _).drew,(kh.refl).wV⟩) kr ?_;intro cx
       repeat refine RA.qq ?_
       refine RA.fk prog k 0 (h:=?_);refine RA.lk prog (iq v) (hc:=λC hp=>by exact (ct.o C hp.1).1) (h:=?_);refine RA.fk prog bo 1 (h:=?_);refine RA.lk prog (iw fi) (hc:=λC hp=>by exact (ct.o C hp.1).2.1) (h:=?_);refine RA.fk prog bo 2 (h:=?_);refine RA.lk prog (iw nu) (hc:=λC hp=>by exact (ct.o C hp.1).2.2) (h:=?_)
       refine RA.qc (P:=prog) [iq v,iw fi,iw nu] (λu C=>∃ y z,u=.tuple #[y,z]) (λu C=>rK V.heap.size C s.c fi nu (.returned u)/\vO V C/\∃ S',GI w0 G k q b11 LA C s S' c/\qT S S') (hs:=λ_ _ _ _ h2=>h2) (he:=λ_ _ _ e h=>e ▸ h) (hr:=(λC hp hH=>by
        refine (dT.o C hH.1).mono ?_;rintro e w4 ⟨h1,h2,h3,S',h4,h5⟩;obtain⟨y,z,rfl⟩:=h1.two;refine⟨_,rfl,aQ.mono h3.toaQ (λg hg e=>e.elim (λe=>e.elim) (λe=>?_)),⟨y,z,rfl⟩,h1.base hH.2.toaQ.size,⟨am hH.2.toaQ.size h2.1,λg cs hg=>h2.2 g cs (hH.2.at Q.o.kC.book hg id de de)⟩,S',h4,h5⟩;by_cases hl:g<V.heap.size
        ·exact .inl (hH.2.back hl e)
        ·exact .inr om)) (hn:=λu=>?_)
       repeat refine RA.qq ?_
       refine RA.ex kr rf rf (y':=xQ u 0) (λC hp=>by obtain⟨y,z,rfl⟩:=hp.fact 0 rfl kr;rfl) ?_
       refine RA.ex kr rf rf (y':=xQ u 1) (λC hp=>by obtain⟨y,z,rfl⟩:=hp.fact 0 rfl kr;rfl) ?_
       repeat refine RA.qq ?_
       refine RA.RA.done rfl (λw5 hR hF hH=>?_);simp only[RA.RP,cx];obtain⟨iZ,U,W,cT,r⟩:=hH;clear hF hR;have B2:=U.2 _ _ B1.o;have e1:=cell_of B2 1;have e2:=cell_of B2 2;have E:=LH (HR.o.next r);have hD:=LH (LY cT.qv iQ.o fi nu);have F:=HC;replace cT:=LH cT;replace B2:=LH B2;clear dT ct e6 U r;rcases iZ with ⟨bW,e⟩|⟨bW,u1,e,c7⟩
       ·simp only[fO] at e;subst e;simp only[Eb,Ec];replace bW:=LH bW
        as_aux_lemma=>
         go_wp2_with fail
         refine hD.o.mono ?_;rintro e wz ⟨⟨-,rfl⟩|⟨h,-⟩,O⟩
         rotate_left
         ·rw[bW.o] at h;cases h
         have B:=LH (cT.o.below O);have uM:(convert 42 9 (.slice none 0 0)).run prog wz=.ok (.string ⟨([]:iz).toArray⟩) wz:=by exact qC _ _ _ _ underlying42 underlying5 underlying9 _ _ _ (Bytes.nil wz (λ_=>True))
         clear hD O e1 e2;go_wp2
         go_meet
         exact⟨s,W,c,rfl,B.o,F.o,E.o⟩
       ·simp only[fO] at e;subst e;simp only[Eb,Ec];have hK:=dw bW;have hE:=DY HC.o fi.toNat nu.toNat om;replace bW:=LH bW;replace hK:=LH hK;obtain⟨RL,cY⟩:=Ex (pn s.c fi.toNat nu.toNat);obtain⟨RN,dd⟩:=Ex (nu.toNat*64);rw[<-cY,<-dd] at c7;have hlen:RL.length=RN:=by have:=c7.1;rw[kn] at this;omega
        refine G5 c7 cY dd hE hlen ?_;clear c7 cY dd hE hlen;intro c7 cY dd hE hlen
        as_aux_lemma=>
         go_wp2_with fail
         refine hD.o.mono ?_;rintro e wz ⟨⟨h,-⟩|⟨-,u2,rfl,ic⟩,O⟩
         ·rw[bW.o] at h;cases h
         have B:=LH (cT.o.below O);rw[hE.o,<-cY.o,<-dd.o] at ic
         have y1:Bytes wz (λ_=>True) u1 RL:=by show Cells _ _ _ RL.length 1 _;rw[hlen.o];exact (Cells.own (gF c7.o (λg hg=>O.block g (kp c7.o g hg)))).mono (λ_ _ _=>trivial)
         have y2:Bytes wz (λ_=>True) u2 RL:=by show Cells _ _ _ RL.length 1 _;rw[hlen.o];exact (Cells.own ic).mono (λ_ _ _=>trivial)
         obtain⟨a1,s1,rfl,_⟩:=y1.shape;obtain⟨a2,s2,rfl,_⟩:=y2.shape;have st1:(convert 42 9 (.slice a1 RL.length s1)).run prog wz=.ok (.string ⟨RL.toArray⟩) wz:=by exact qC _ _ _ _ underlying42 underlying5 underlying9 _ _ _ y1
         have st2:(convert 42 9 (.slice a2 RL.length s2)).run prog wz=.ok (.string ⟨RL.toArray⟩) wz:=by exact qC _ _ _ _ underlying42 underlying5 underlying9 _ _ _ y2
         clear hD O e1 e2 ic y1 y2 c7;go_wp2
         go_meet
         exact⟨s,W,c,rfl,B.o,F.o,E.o⟩
      ·by_cases iT:kd=3
       ·subst iT;have U:=D0 Q.o HR.o om;rw[<-hv.o] at U;replace U:=LH U
        go_wp2_with fail
        refine U.o.mono ?_;rintro e wz ⟨rfl,W,B,r⟩;have E:=LH (HR.o.next r);replace B:=LH B;have aa:=LH (show s.sync.ki=s.ki from rfl);have F:=LH (show ∀ p,p<50->c p=s.sync.c p from HC.o);clear U r mk;go_wp2
        go_meet
        exact⟨s.sync,W,c,by rw[aa.o],B.o,F.o,E.o⟩
       ·obtain⟨W,b8⟩:=Ex S;have B:=Q;rw[<-b8] at B;have E:=LH (HR.o.next (qT.refl S));rw[<-b8] at E;replace b8:=LH b8;have F:=HC;go_wp2
        go_meet
        exact⟨s,W,c,rfl,B.o,F.o,E.o⟩
     case rest=>
      obtain⟨sz,W,cz,rfl,B,F,E⟩:=hcut;clear Q B1 m1 m2 m3 mk;have hT:=LC B.o.gu;replace hT:=LH hT;have gf:=vG B.o.kC.kC;rw[<-hv.o] at gf;replace gf:=LH gf;have b8:=uH B.o.kC.kC;rw[<-hv.o] at b8;replace b8:=LH b8;have ck:=B.o.gu.c0;rw[<-hv.o] at ck
      go_wp2_with fail
      refine hT.o.mono ?_;rintro e w' ⟨rfl,rfl⟩
      go_wp2_with fail
      refine gf.o.mono ?_;rintro e w' ⟨rfl,rfl⟩
      go_wp2_with fail
      refine b8.o.mono ?_;rintro e wy ⟨rfl,dn⟩;have HY:=B.o.below dn;have gv:=uH HY.kC.kC;rw[<-hv.o] at gv;replace gv:=LH gv;replace HY:=LH HY;clear dn
      go_wp2_with fail
      refine gv.o.mono ?_;rintro e jw ⟨rfl,dn⟩;have iL:=LH (HY.o.below dn);clear dn;go_wp2;go_roundg g1
      case measure=>omega
      case rel=>exact⟨j+1,sz,W,cz,by omega,by go_num,rfl,iL.o,F.o,E.o⟩
    ·obtain rfl:gk=0:=om;obtain rfl:j=ln:=om;have hY:¬ (j:Int)<j:=om;have U:=D0 HI.o HR.o om;have ck:=HI.o.gu.c0;rw[<-hv.o] at ck U;replace U:=LH U
     go_wp2_with fail
     refine U.o.mono ?_;rintro e wz ⟨rfl,W,B,-⟩;have q0:=cell_of B.bx 0;have q1:=cell_of B.bx 1;replace B:=LH B;clear U ck;go_wp2;clear q0 q1
     go_loopg [23] 50 (λg ix wx=>∃ p:Nat,p+g=50/\ix=iw (60+p:Nat)/\Hd (GI w0 G k q b11 LA wx s.sync W c))
     case atStart=>exact⟨0,by omega,rfl,B.o⟩
     case round=>
      obtain⟨p,jh,rfl,HP⟩:=hrel;obtain⟨wp,rfl⟩:=Ex (wr:World);have q0:=cell_of HP.o.bx 0;have q1:=cell_of HP.o.bx 1;by_cases ib:p<50
      ·obtain⟨g2,rfl⟩:∃ i,gk=i+1:=⟨gk - 1,by omega⟩;obtain⟨P2,b4⟩:=Ex (60+(p:Int):Int);have fz:((60+p:Nat):Int)=P2:=om;have jc:P2<110:=om;have hU:0<=P2/\P2<=1000:=om;rw[fz];replace fz:=LH fz;replace b4:=LH b4;go_wp2
       go_loopg [24,25] an (λg b m wx=>∃ m':Nat,m'+g=an/\m=iw m'/\b=.bool (qe LA p m')/\Hd (GI w0 G k q b11 LA wx s.sync W c))
       case atStart=>exact⟨0,by omega,rfl,by simp[qe],HP.o⟩
       case round=>
        obtain⟨m,iV,rfl,rfl,HK⟩:=hrel;obtain⟨wk,rfl⟩:=Ex (wr:World);obtain⟨BB,R⟩:=Ex (qe LA p m);rw[<-R];by_cases iW:m<an
        ·obtain⟨g3,rfl⟩:∃ i,gk=i+1:=⟨gk - 1,by omega⟩;have hZ:(m:Int)<an:=om;have cc:m<LA.length:=by have:=b5.o;omega
         have cd:=D9 (p:=p) cc
         have K:∀ b,b=(BB || P.hasB LA[m] P2)->b=qe LA p (m+1):=λb hb=>by rw[hb,cd,R,b4.o]
         replace R:=LH R;replace cd:=LH cd;cases BB with
         | true=>
          have bl:=LH (K true sm);clear K;go_wp2;go_roundg g3
          case measure=>omega
          case rel=>exact⟨m+1,by omega,by go_num,by rw[<-bl.o],HK.o⟩
         | false=>
          have cW:=(hA.o.dC HK.o.mm.size (λg _ hg=>HK.o.mm.block g hg));obtain⟨gA,oA,cA,e5,_,_,_,hJ,l⟩:=Cells.at cW om;simp only[IJ] at e5;obtain⟨rfl,-,rfl⟩:=e5;obtain⟨k0,k1⟩:=P.tG LA m cc;have Z:=a6.o _ (bK cc);obtain⟨x,bp⟩:=Ex (LA[m]);rw[<-bp] at k0 k1 K Z;obtain⟨X,Y⟩:=x;have a0:=l _ _ k0;have a1:=l _ _ k1;dsimp only at a0 a1;obtain⟨o',a7⟩:=Ex (oA+m*2);have iX:oA+m*2=o':=a7.symm;rw[<-a7] at a0;rw[<-cy,<-a7] at a1;have iU:(m:Int)<icap:=by have:=cg.o.1;omega
          have b3:=λC=>DW (X,Y) P2 ⟨Z.1,by have:=Z.2.1;omega,hU⟩ C
          obtain⟨cP,T⟩:=Ex (P.hasB (X,Y) P2);rw[<-T] at b3 K;refine G7 T b3 K Z bp a7 l ?_;clear T b3 K Z bp a7 l;intro T b3 K Z bp a7 l;clear k0 k1 cW
          go_wp2_with fail
          refine (b3.o _).mono ?_;rintro e w5 ⟨rfl,hb⟩;have hM:=LH (HK.o.below hb);have bl:=LH (K.o cP (by rw[fD]));clear hb a0 a1;go_wp2;go_roundg g3
          case measure=>omega
          case rel=>exact⟨m+1,by omega,by go_num,by rw[<-bl.o],hM.o⟩
        ·obtain rfl:gk=0:=om;obtain rfl:m=an:=om;have hZ:¬ (m:Int)<m:=om;have hS:BB=tJ LA p:=by rw[R,Ea b5.o]
         have bR:=D.xk HK.o.kC.nE.at_ HK.o.kC.nE.none (60+p) (by rw[HK.o.kC.nE.size];omega);rw[fz.o,<-hd.o] at bR;replace bR:=LH bR;replace R:=LH R;replace hS:=LH hS
         go_wp2_with fail
         refine bR.o.mono ?_;rintro e w6 ⟨u,rfl,hu,O⟩;have ig:=LH (HK.o.below O);obtain⟨XL,h0⟩:=Ex (W.X.at (60+p));rw[<-h0] at hu;have hlen:XL.length=64:=by have:=hu.1;rw[kn] at this;omega
         have y1:Bytes w6 (λ_=>True) u XL:=by show Cells _ _ _ XL.length 1 _;rw[hlen];exact (Cells.own hu).mono (λ_ _ _=>trivial)
         replace hlen:=LH hlen
         have hzero:BB=true->XL=lZ:=λe=>by rw[h0];refine HK.o.kC.cont.raw p ib ?_;exact HK.o.un p ib (by rw[<-hS.o];exact e)
         replace h0:=LH h0;clear bR hu O;cases BB with
         | false=>
          clear hzero y1;go_wp2
          go_region
          go_wp2;go_roundg g2
          case measure=>omega
          case rel=>exact⟨p+1,by omega,by have:=b4.o;congr 1;omega,ig.o.below (ag _ _).drew⟩
         | true=>
          obtain rfl:=hzero rfl;clear hzero;have af:=Dr w6
          have hz:=LH (λu:World=>tq u 64 64 rfl om);replace af:=LH af;replace y1:=LH y1;go_wp2;refine RA.rt (aQ No) [1,1,1,1,1,1,1,3,1,1,1,1] [] (λ_=>True) trivial (λ_=>aQ.refl _ _) (λ_ _ _ h k=>h.trans k) (h:=?_);intro cx
          repeat refine RA.qq ?_
          refine RA.ne false kr rf rf rf rf ?_
          repeat refine RA.qq ?_
          refine RA.cv (y':=mP lZ) (hr:=λC hp=>by exact qC _ _ _ _ underlying42 underlying5 underlying9 _ _ _ (y1.o.kj (af.o _ hp.1) (λ_ _ _=>id))) (h:=?_)
          refine RA.bq (λx C=>Bytes C (λ_=>True) x lZ) (hs:=λ_ _ _ h k=>k.kj h (λ_ _ _=>id)) (he:=λ_ _ _ _ _=>trivial) (hr:=λC hp _=>by refine⟨_,_,RA.yQ rf rf (hz.o C),(aQ.refl _ _).alloc _,?_,trivial⟩;exact l9 C (dB (List.replicate 64 0)).toArray 5 64 1 (by simp[kn]) mx) (hn:=λx=>?_)
          refine RA.cv (y':=mP lZ) (hr:=λC hp=>by exact qC _ _ _ _ underlying42 underlying5 underlying9 _ _ _ (hp.fact 0 rfl kr)) (h:=?_);refine RA.ns false kr rf rf rf sm ?_;refine RA.pt kr rf rf (y:=.bool false) rf ?_;refine RA.pf kr rf rf (y:=.bool false) rf ?_;refine RA.RA.done rfl (λjv hR hF hH=>?_);clear hF hH;simp only[RA.RP,cx];have iK:=LH (ig.o.below (af.o _ hR).no);clear hR;go_wp2;go_roundg g2
          case measure=>omega
          case rel=>exact⟨p+1,by omega,by have:=b4.o;congr 1;omega,iK.o⟩
      ·obtain rfl:gk=0:=om;obtain rfl:p=50:=om;clear ib
       go_wp2_with fail
       refine (cj.o _).mono ?_;rintro e w1 ⟨rfl,hb⟩;have iC:=LH (HP.o.mm.trans (hb.mono HP.o.mm.size));clear hb;go_wp2;go_ret;exact⟨rfl,iC.o⟩
end Go.Proofs.YthmcbgidehjlbaaGreat.Fd

/-
 Parts of the proof. No condition beyond what each theorem names.
-/
import Derived.Test.YthmcbgidehjlbaaGreatFrAc
set_option maxRecDepth 1000000
set_option maxHeartbeats 8000000
namespace Go.Proofs.YthmcbgidehjlbaaGreat.Fd
open _root_.Go.Proofs.Tryz
open Go Go.RowKit K
variable {ks:List UInt32}
def p8 (T:Nat->UInt8) (x:iz):Nat->iz
 | 0=>List.replicate 16 0
 | k+1=>(p8 T x k).set ((k+4*(k % 4)) % 16) (T (x.getD k 0).toNat)
theorem vO {T:Nat->UInt8}{x:iz}{k:Nat}:(p8 T x k).length=16:=by
 induction k with
 | zero=>exact aK
 | succ k ih=>exact bg.trans ih
def qt (ks:List UInt32) (b:iz):Nat->iz
 | 0=>b
 | t+1=>p8 bk (oX nm (nD ks) (nD ks - t) (nK (qt ks b t) ks (nD ks - t) 16)) 16
theorem zx {b:iz}(hb:b.length=16){t:Nat}:(qt ks b t).length=16:=by
 cases t with
 | zero=>exact hb
 | succ t=>exact vO
def qN (ks:List UInt32) (b:iz):iz:=nK (qt ks b (nD ks)) ks 0 16
theorem Du {b:iz}(hb:b.length=16):(qN ks b).length=16:=qX.trans (zx hb)
theorem KI {w:World}{F:Nat->Prop}{p tb:Nat}{kv:Value}(h:nB w F p tb kv ks) (h4:8<=ks.length) (hk4:ks.length % 4=0) (b:iz) (hb:b.length=16):
  Calls prog 165 #[iq p,.agg (aQ b).toArray] w λe w'=>e=.returned (.agg (aQ (qN ks b)).toArray)/\Below w.heap.size w w':=by
 obtain⟨n,hn⟩:=Ex w.heap.size;have HN:=LH hn;have HX:=LH (wk w 179 b (List.replicate 16 0));obtain⟨N,G⟩:=Ex (nD ks);have cA:1<=N:=by rw[G];unfold nD;omega
 have cK:4*N+4<=ks.length:=by rw[G];unfold nD;omega
 have cu:=h.mL;have a1:∀ wr,Below n w wr->nB wr F p tb kv ks:=λwr c7=>h.dB c7.size (λg _ hl=>c7.block g (by rw[hn];exact hl))
 obtain⟨lt,Q,H⟩:=h.rM;have b8:=dC Q;have b7:=dC h.box;have ca:=cell_of h.box 0;have D:w.cell? (iu p 0)=some (iq tb):=ca;clear ca;rw[<-hn] at b8 b7;obtain⟨V,hV⟩:=Ex ((aQ b).toArray);rw[<-hV] at HX ⊢;have hz:(aQ (List.replicate 16 0)).toArray=#[iy 0,iy 0,iy 0,iy 0,iy 0,iy 0,iy 0,iy 0,iy 0,iy 0,iy 0,iy 0,iy 0,iy 0,iy 0,iy 0]:=rfl;rw[hz] at HX;clear hz;refine G7 h a1 Q H D hV G ?_;clear h a1 Q H D hV G;intro h a1 Q H D hV G;clear hn;go_enter func165,ntmps165
 go_wp2_with fail
 obtain⟨w2,cd⟩:=Ex ((w.alloc (.cells V 179)).alloc (.cells #[iy 0,iy 0,iy 0,iy 0,iy 0,iy 0,iy 0,iy 0,iy 0,iy 0,iy 0,iy 0,iy 0,iy 0,iy 0,iy 0] 179));rw[<-cd] at HX ⊢;rw[<-HN.o] at HX ⊢;clear cd;have c8:=LH (a1.o w2 HX.o.2.2.1);refine (Al c8.o om).mono ?_;rintro e cW ⟨rfl,rfl⟩;rw[<-G.o];have b5:mZ w n b w2:=⟨HX.o.2.2.1,by have:=HX.o.2.2.2;omega,HX.o.1,HX.o.2.1⟩;replace b5:=LH b5;clear c8 HX;go_wp2;have c6:((N:Int) == 0)=false:=by simp;omega
 rw[c6];clear c6
 go_loopw [6] (λi wr=>∃ t:Nat,t<=N/\i=iw ((N - t:Nat):Int)/\Hd (mZ w n (qt ks b t) wr))
  (λi _=>(intOf i).toNat)
 case atStart=>exact⟨0,by omega,by simp,b5.o⟩
 case round=>
  clear b5;obtain⟨t,ht,rfl,v⟩:=hrel;obtain⟨s,hs⟩:=Ex (N - t);rw[<-hs];have cz:s<=N:=om;by_cases cU:0<s
  ·have cV:t<N:=om;replace hs:=LH hs;obtain⟨X,hX⟩:=Ex (qt ks b t);rw[<-hX] at v;have b6:X.length=16:=hX ▸ zx hb;replace hX:=LH hX;have ay:=LH (mY (P:=prog) v.o.2.2.1 underlying179 (kV b6));have an:=LH (a1.o wr v.o.1)
   go_wp2_with (first|(refine kQ rfl 179 _ rfl _ _ rfl ay.o ?_)|(go_at_call 182;fail))
   refine (ve an.o X b6 s om).mono ?_;rintro e q ⟨rfl,aa⟩;have d:=v.o.after aa;obtain⟨Y,hY⟩:=Ex (nK X ks s 16);rw[<-hY];have B:Y.length=16:=hY ▸ qX.trans b6;have b3:=LH (nn d.2.2.1 b6 Y B);have u:=d.put Y;obtain⟨T,bR⟩:=Ex (q.setRow n (aQ Y).toArray);rw[<-bR] at b3 u;replace u:=LH u;replace bR:=LH bR;replace hY:=LH hY;clear v d aa ay an;by_cases cb:s<N
   ·have b2:=λ(q:World) (h:ke q n 179 Y)=>mY (P:=prog) h underlying179 (kV B)
    have J:=D.o;rw[<-az (w:=w) (u.o.1.block p b7)] at J;have af:p<T.heap.size:=by have:=u.o.2.1;omega
    have Z:tb<T.heap.size:=by have:=u.o.2.1;omega
    have ad:n<T.heap.size:=by have:=u.o.2.1;omega
    have c:=Dr T
    have L:∀ q,aA No T q->Calls prog 183 #[.agg (aQ Y).toArray,.pointer (some (iu tb 1536))] q λe w'=>e=.returned (.agg (aQ (nT nm Y 16)).toArray)/\Below q.heap.size q w':=by intro q K;refine Ah nm (λ_=>rfl) Y B tb 1536 q (aH Z K.size) (λa ha j hj=>?_);rw[K.cell (p:=iu tb (1536+a*4+j)) Z id,az (w:=w) (u.o.1.block tb b8),Q.o.cell _ (by rw[H.o.1];omega),E7 H.o a j ha hj]
    refine G5 b2 L J c B ?_;clear b2 L J c B;intro b2 L J c B
    go_wp2_with (refine kI rfl 179 _ _ rfl _ _ rfl rfl b3.o ?_)
    refine RA.rt (aA No) [1,1,1,1,1,1,1,4,7] [8] (λ_=>True) trivial (λ_=>aA.refl _ _) (λ_ _ _ h k=>h.trans k) (h:=?_);intro cx;refine RA.ld (y':=.agg (aQ Y).toArray) (hr:=λq hp=>b2.o q (u.o.2.2.1.dB ((c.o _ hp.1).block n ad id))) (h:=?_)
    repeat refine RA.qq ?_
    refine RA.fk prog p 0 (h:=?_);refine RA.lk prog (iq tb) (hc:=λq hp=>by exact ((c.o _ hp.1).cell (p:=iu p 0) af id).trans J.o) (h:=?_)
    repeat refine RA.qq ?_
    refine RA.fk prog tb 1536 (h:=?_);refine RA.kc (P:=prog) [_,_] (.agg (aQ (nT nm Y 16)).toArray) (hr:=λq hp hH=>(L.o q (c.o _ hp.1)).mono (by rintro e T ⟨rfl,h2⟩;exact⟨rfl,aA.dD h2 _,trivial⟩)) (hn:=?_);refine RA.lr (λw5=>mZ w n (nT nm Y 16) w5) (hr:=λq hp _=>?_) (hn:=?_)
    ·have K:=c.o _ (hp.first kr).1;have c5:=u.o.after (aA.no K);exact⟨_,RA.kL rf rf (nn c5.2.2.1 B.o _ sU),c5.put _⟩
    refine RA.RA.kZ (λw5 hH=>?_);simp only[RA.RP,cx];obtain⟨S,hS⟩:=Ex (nT nm Y 16);rw[<-hS] at hH;have E:=LH hH;have a7:S.length=16:=hS ▸ sU;have bz:=LH (show S=oX nm N s Y by rw[oX,ak cb,hS]);clear hS hH u b2 L J c b3;obtain⟨z,l⟩:=Ex w5.heap.size;have A:mZ w n S (w5.alloc (.cells #[iy 0,iy 0,iy 0,iy 0,iy 0,iy 0,iy 0,iy 0,iy 0,iy 0,iy 0,iy 0,iy 0,iy 0,iy 0,iy 0] 179)):=E.o.after ((ag _ _).alloc (ae _) _)
    have C:ke (w5.alloc (.cells #[iy 0,iy 0,iy 0,iy 0,iy 0,iy 0,iy 0,iy 0,iy 0,iy 0,iy 0,iy 0,iy 0,iy 0,iy 0,iy 0] 179)) z 179 (List.replicate 16 0):=by rw[l];exact aj w5 _
    have f:z<(w5.alloc (.cells #[iy 0,iy 0,iy 0,iy 0,iy 0,iy 0,iy 0,iy 0,iy 0,iy 0,iy 0,iy 0,iy 0,iy 0,iy 0,iy 0] 179)).heap.size:=by simp[l]
    have ct:n+1<z:=by rw[l];exact E.o.2.1
    refine G4 l A C f ?_;clear l A C f;intro l A C f;clear E;go_wp2;rw[<-l.o]
    go_loopw [34] (λi wr=>∃ k:Nat,k<=16/\i=iw k/\Hd (mZ w n S wr)/\z<wr.heap.size/\Hd (ke wr z 179 (p8 bk S k)))
     (λi _=>16 - (intOf i).toNat)
    case atStart=>exact⟨0,by omega,rfl,A.o,f.o,C.o⟩
    case round=>
     clear A C f l;obtain⟨k,hk,rfl,v,bD,hZ⟩:=hrel;by_cases bB:k<16
     ·obtain⟨j,hj⟩:=Ex (k % 4);obtain⟨I,hI⟩:=Ex ((k+4*j) % 16);have ck:j<4:=om;have a6:I<16:=om;have hm:(k:Int) % 4=j:=om;have cl:(k:Int).tmod 4=j:=by rw[bZ om];exact hm
      have bC:((k:Int)+4*(j:Int)) % 16=I:=om;have cm:((k:Int)+4*(j:Int)).tmod 16=I:=by rw[bZ om];exact bC
      have cX:=v.o.2.2.1.cell k (by rw[a7];exact bB);obtain⟨x,hx⟩:=Ex ((S.getD k 0).toNat);rw[<-hx] at cX;have bW:x<256:=hx ▸ aP _;have W:=Q.o.cell (256+x) (by rw[H.o.1];omega);rw[An H.o x bW,<-az (w:=w) (v.o.1.block tb b8)] at W;have J:=D.o;rw[<-az (w:=w) (v.o.1.block p b7)] at J;obtain⟨y,hy⟩:=Ex ((bk x).toNat);rw[<-hy] at W;have bl:(I:Int)<16:=om;have cg:(x:Int)<256:=om;have ad:n<wr.heap.size:=om;have af:p<wr.heap.size:=om;have Z:tb<wr.heap.size:=om;refine G7 cX W J hj hI hx hy ?_;clear cX W J hj hI hx hy;intro cX W J hj hI hx hy;have c:=Dr wr
      replace c:=LH c;go_wp2;refine RA.rt (aA No) [1,1,1,1,1,1,1,1,1,1,1,1,1,1,1,1,1,1,7] [18] (λ_=>True) trivial (λ_=>aA.refl _ _) (λ_ _ _ h k=>h.trans k) (h:=?_);intro cx
      repeat refine RA.qq ?_
      refine RA.vw prog (iw j) (h:=?_);refine RA.mi (r:=4*(j:Int)) (h:=?_);refine RA.ai (r:=(k:Int)+4*(j:Int)) (h:=?_);refine RA.vw prog (iw I) (h:=?_)
      repeat refine RA.qq ?_
      refine RA.fk prog p 0 (h:=?_);refine RA.lk prog (iq tb) (hc:=λq hp=>by exact ((c.o _ hp.1).cell (p:=iu p 0) af id).trans J.o) (h:=?_)
      repeat refine RA.qq ?_
      refine RA.ik prog n k (h:=?_);refine RA.lk prog (iy x) (hc:=λq hp=>by exact ((c.o _ hp.1).cell (p:=iu n k) ad id).trans cX.o) (h:=?_)
      repeat refine RA.qq ?_
      refine RA.fk prog tb 256 (h:=?_);refine RA.ik prog tb (256+x) (h:=?_);refine RA.lk prog (iy y) (hc:=λq hp=>by exact ((c.o _ hp.1).cell (p:=iu tb (256+x)) Z id).trans W.o) (h:=?_);refine RA.ik prog z I (h:=?_);refine RA.lr (λT=>mZ w n S T/\z<T.heap.size/\ke T z 179 (p8 bk S (k+1))) (hr:=λq hp _=>?_) (hn:=?_)
      ·have K:=c.o _ (hp.first kr).1;have d:=v.o.after (aA.no K);have O:=hZ.o.dB (K.block z bD id);have f0:=O.frozen I;have c0:=O.cell I (by rw[vO];exact a6);have M:=O.set I (bk x);rw[<-hy.o] at M;have e:(Instr.storeAt 5 (.pointer (some (iu z I))) (iy y)).run prog q=.ok () (q.setCell (iu z I) (iy y)):=by go_simp
       refine⟨_,RA.kL rf rf e,⟨d.1.setCell (p:=iu z I) (by show n<=z;omega) _,by simpa using d.2.1,d.2.2.1.dB (kD _ _ _ (by simp;omega)),d.2.2.2.dB (kD _ _ _ (by simp;omega))⟩,?_,?_⟩
       ·have:=K.size;simp;omega
       ·rw[p8,<-hj.o,<-hI.o,<-hx.o];exact M
      refine RA.RA.kZ (λq hH=>?_);simp only[RA.RP,cx];replace hH:=LH hH;go_wp2;go_roundw
      case rel=>exact⟨k+1,by omega,by go_num,hH.o.1,hH.o.2.1,hH.o.2.2⟩
      case measure=>simp[intOf];omega
     ·have ax:k=16:=om;rw[ax] at hZ;clear ax;obtain⟨U,hU⟩:=Ex (p8 bk S 16);rw[<-hU] at hZ;have a8:U.length=16:=hU ▸ vO;have bA:=LH (mY (P:=prog) hZ.o underlying179 (kV a8));have b4:=LH (nn v.o.2.2.1 a7 U a8);have ba:=LH (v.o.put U);have m:qt ks b (t+1)=U:=by rw[qt,<-G.o,<-hs.o,<-hX.o,<-hY.o,<-bz.o,hU]
      replace m:=LH m;clear hU
      go_wp2_with (first|(refine kQ rfl 179 _ rfl _ _ rfl bA.o ?_)|(refine kI rfl 179 _ _ rfl _ _ rfl rfl b4.o ?_))
      go_roundw
      case rel=>refine⟨t+1,by omega,by have:=hs.o;have e:((N - (t+1):Nat):Int)=(s:Int) - 1:=om;rw[e],?_⟩;show mZ _ _ _ _;rw[m.o];exact ba.o
      case measure=>simp[intOf];omega
   ·obtain⟨S,hS⟩:=Ex Y;have E:=u;rw[<-hS] at E;have a7:S.length=16:=hS ▸ B;have bz:=LH (show S=oX nm N s Y by rw[oX,ah cb,hS]);obtain⟨w5,cf⟩:=Ex T;rw[<-cf] at E b3;clear hS cf u;obtain⟨z,l⟩:=Ex w5.heap.size;have A:mZ w n S (w5.alloc (.cells #[iy 0,iy 0,iy 0,iy 0,iy 0,iy 0,iy 0,iy 0,iy 0,iy 0,iy 0,iy 0,iy 0,iy 0,iy 0,iy 0] 179)):=E.o.after ((ag _ _).alloc (ae _) _)
    have C:ke (w5.alloc (.cells #[iy 0,iy 0,iy 0,iy 0,iy 0,iy 0,iy 0,iy 0,iy 0,iy 0,iy 0,iy 0,iy 0,iy 0,iy 0,iy 0] 179)) z 179 (List.replicate 16 0):=by rw[l];exact aj w5 _
    have f:z<(w5.alloc (.cells #[iy 0,iy 0,iy 0,iy 0,iy 0,iy 0,iy 0,iy 0,iy 0,iy 0,iy 0,iy 0,iy 0,iy 0,iy 0,iy 0] 179)).heap.size:=by simp[l]
    have ct:n+1<z:=by rw[l];exact E.o.2.1
    refine G4 l A C f ?_;clear l A C f;intro l A C f;clear E
    go_wp2_with (refine kI rfl 179 _ _ rfl _ _ rfl rfl b3.o ?_)
    rw[<-l.o]
    go_loopw [34] (λi wr=>∃ k:Nat,k<=16/\i=iw k/\Hd (mZ w n S wr)/\z<wr.heap.size/\Hd (ke wr z 179 (p8 bk S k)))
     (λi _=>16 - (intOf i).toNat)
    case atStart=>exact⟨0,by omega,rfl,A.o,f.o,C.o⟩
    case round=>
     clear A C f l;obtain⟨k,hk,rfl,v,bD,hZ⟩:=hrel;by_cases bB:k<16
     ·obtain⟨j,hj⟩:=Ex (k % 4);obtain⟨I,hI⟩:=Ex ((k+4*j) % 16);have ck:j<4:=om;have a6:I<16:=om;have hm:(k:Int) % 4=j:=om;have cl:(k:Int).tmod 4=j:=by rw[bZ om];exact hm
      have bC:((k:Int)+4*(j:Int)) % 16=I:=om;have cm:((k:Int)+4*(j:Int)).tmod 16=I:=by rw[bZ om];exact bC
      have cX:=v.o.2.2.1.cell k (by rw[a7];exact bB);obtain⟨x,hx⟩:=Ex ((S.getD k 0).toNat);rw[<-hx] at cX;have bW:x<256:=hx ▸ aP _;have W:=Q.o.cell (256+x) (by rw[H.o.1];omega);rw[An H.o x bW,<-az (w:=w) (v.o.1.block tb b8)] at W;have J:=D.o;rw[<-az (w:=w) (v.o.1.block p b7)] at J;obtain⟨y,hy⟩:=Ex ((bk x).toNat);rw[<-hy] at W;have bl:(I:Int)<16:=om;have cg:(x:Int)<256:=om;have ad:n<wr.heap.size:=om;have af:p<wr.heap.size:=om;have Z:tb<wr.heap.size:=om;refine G7 cX W J hj hI hx hy ?_;clear cX W J hj hI hx hy;intro cX W J hj hI hx hy;have c:=Dr wr
      replace c:=LH c;go_wp2;refine RA.rt (aA No) [1,1,1,1,1,1,1,1,1,1,1,1,1,1,1,1,1,1,7] [18] (λ_=>True) trivial (λ_=>aA.refl _ _) (λ_ _ _ h k=>h.trans k) (h:=?_);intro cx
      repeat refine RA.qq ?_
      refine RA.vw prog (iw j) (h:=?_);refine RA.mi (r:=4*(j:Int)) (h:=?_);refine RA.ai (r:=(k:Int)+4*(j:Int)) (h:=?_);refine RA.vw prog (iw I) (h:=?_)
      repeat refine RA.qq ?_
      refine RA.fk prog p 0 (h:=?_);refine RA.lk prog (iq tb) (hc:=λq hp=>by exact ((c.o _ hp.1).cell (p:=iu p 0) af id).trans J.o) (h:=?_)
      repeat refine RA.qq ?_
      refine RA.ik prog n k (h:=?_);refine RA.lk prog (iy x) (hc:=λq hp=>by exact ((c.o _ hp.1).cell (p:=iu n k) ad id).trans cX.o) (h:=?_)
      repeat refine RA.qq ?_
      refine RA.fk prog tb 256 (h:=?_);refine RA.ik prog tb (256+x) (h:=?_);refine RA.lk prog (iy y) (hc:=λq hp=>by exact ((c.o _ hp.1).cell (p:=iu tb (256+x)) Z id).trans W.o) (h:=?_);refine RA.ik prog z I (h:=?_);refine RA.lr (λT=>mZ w n S T/\z<T.heap.size/\ke T z 179 (p8 bk S (k+1))) (hr:=λq hp _=>?_) (hn:=?_)
      ·have K:=c.o _ (hp.first kr).1;have d:=v.o.after (aA.no K);have O:=hZ.o.dB (K.block z bD id);have f0:=O.frozen I;have c0:=O.cell I (by rw[vO];exact a6);have M:=O.set I (bk x);rw[<-hy.o] at M;have e:(Instr.storeAt 5 (.pointer (some (iu z I))) (iy y)).run prog q=.ok () (q.setCell (iu z I) (iy y)):=by go_simp
       refine⟨_,RA.kL rf rf e,⟨d.1.setCell (p:=iu z I) (by show n<=z;omega) _,by simpa using d.2.1,d.2.2.1.dB (kD _ _ _ (by simp;omega)),d.2.2.2.dB (kD _ _ _ (by simp;omega))⟩,?_,?_⟩
       ·have:=K.size;simp;omega
       ·rw[p8,<-hj.o,<-hI.o,<-hx.o];exact M
      refine RA.RA.kZ (λq hH=>?_);simp only[RA.RP,cx];replace hH:=LH hH;go_wp2;go_roundw
      case rel=>exact⟨k+1,by omega,by go_num,hH.o.1,hH.o.2.1,hH.o.2.2⟩
      case measure=>simp[intOf];omega
     ·have ax:k=16:=om;rw[ax] at hZ;clear ax;obtain⟨U,hU⟩:=Ex (p8 bk S 16);rw[<-hU] at hZ;have a8:U.length=16:=hU ▸ vO;have bA:=LH (mY (P:=prog) hZ.o underlying179 (kV a8));have b4:=LH (nn v.o.2.2.1 a7 U a8);have ba:=LH (v.o.put U);have m:qt ks b (t+1)=U:=by rw[qt,<-G.o,<-hs.o,<-hX.o,<-hY.o,<-bz.o,hU]
      replace m:=LH m;clear hU
      go_wp2_with (first|(refine kQ rfl 179 _ rfl _ _ rfl bA.o ?_)|(refine kI rfl 179 _ _ rfl _ _ rfl rfl b4.o ?_))
      go_roundw
      case rel=>refine⟨t+1,by omega,by have:=hs.o;have e:((N - (t+1):Nat):Int)=(s:Int) - 1:=om;rw[e],?_⟩;show mZ _ _ _ _;rw[m.o];exact ba.o
      case measure=>simp[intOf];omega
  ·have cr:t=N:=om;have hs0:s=0:=om;rw[cr] at v;obtain⟨R,K⟩:=Ex (qt ks b N);rw[<-K] at v;have bp:R.length=16:=K ▸ zx hb;replace K:=LH K;have ay:=LH (mY (P:=prog) v.o.2.2.1 underlying179 (kV bp));have an:=LH (a1.o wr v.o.1)
   go_wp2_with (first|(refine kQ rfl 179 _ rfl _ _ rfl ay.o ?_)|(go_at_call 182;fail))
   refine (ve an.o R bp 0 om).mono ?_;rintro e q ⟨rfl,aa⟩;have d:=v.o.after aa;obtain⟨Y,hY⟩:=Ex (nK R ks 0 16);rw[<-hY];have B:Y.length=16:=hY ▸ qX.trans bp;have cc:=LH (nn d.2.2.2 aK Y B);have c9:=LH (d.2.2.2.setRow Y);have hi:=LH (kV B);have cj:=LH (below_setRow d.1 (g:=n+1) om (aQ Y).toArray);replace hY:=LH hY;clear v d aa ay an
   go_wp2_with (refine kI rfl 179 _ _ rfl _ _ rfl rfl cc.o ?_)
   refine aI (bd results165 _ _ (n+1) 179 _ (0,0) _ rfl c9.o underlying179 rfl (by rw[hi.o];simp[km])) rfl ⟨by rw[qN,<-G.o,<-K.o,<-hY.o],HN.o ▸ cj.o⟩
end Go.Proofs.YthmcbgidehjlbaaGreat.Fd
namespace Go.Proofs.YthmcbgidehjlbaaGreat.Fd
open Go Go.RowKit K
variable {a b:Nat}{l:iz}{ks:List UInt32}
theorem KM:((List.range 256).all λa=>(bk (sb a).toNat).toNat == a)=true:=by decide +kernel
theorem KO (x:UInt8):bk (sb x.toNat).toNat=x:=by have h:=bU.1 KM x.toNat (du.2 (aP x));exact et.1 (by simpa using h)
def xM (k j:Nat) (a:Nat):Nat:=((nm ((lN a).getD k 0).toNat).getD j 0).toNat
def sa (d:Nat) (a:Nat):Nat:=xM 0 (d % 4) a ^^^ xM 1 ((d+3) % 4) a ^^^ xM 2 ((d+2) % 4) a ^^^ xM 3 ((d+1) % 4) a
theorem KP:((List.range 256).all λa=>sa 0 a == a && sa 1 a == 0 && sa 2 a == 0 && sa 3 a == 0)=true:=by decide +kernel
theorem oR (x:UInt8):sa 0 x.toNat=x.toNat/\sa 1 x.toNat=0/\sa 2 x.toNat=0/\sa 3 x.toNat=0:=by have h:=bU.1 KP x.toNat (du.2 (aP x));simp only[ef,eh] at h;exact⟨h.1.1.1,h.1.1.2,h.1.2,h.2⟩
theorem KQ:((List.range 256).all λa=>(List.range 256).all λb=>kK (a ^^^ b) == kK a ^^^ kK b)=true:=by decide +kernel
theorem zy (ha:a<256) (hb:b<256):kK (a ^^^ b)=kK a ^^^ kK b:=by
 have h:=bU.1 KQ a (du.2 ha);have c:=bU.1 h b (du.2 hb)
 simpa using c
theorem Dv (a:Nat):mul a 14=kK a ^^^ kK (kK a) ^^^ kK (kK (kK a)):=by simp[mul,pL]
theorem Dw (a:Nat):mul a 9=a ^^^ kK (kK (kK a)):=by simp[mul,pL]
theorem Dx (a:Nat):mul a 13=a ^^^ kK (kK a) ^^^ kK (kK (kK a)):=by simp[mul,pL]
theorem Dy (a:Nat):mul a 11=a ^^^ kK a ^^^ kK (kK (kK a)):=by simp[mul,pL]
def uN (j a:Nat):Nat:=((nm a).getD j 0).toNat
theorem zz (_ha:a<256):uN 0 a=kK a ^^^ kK (kK a) ^^^ kK (kK (kK a)):=by rw[<-Dv];exact lM (by rw[Dv];exact l9 (l9 oi oi) oi)
theorem zA (ha:a<256):uN 1 a=a ^^^ kK (kK (kK a)):=by rw[<-Dw];exact lM (by rw[Dw];exact l9 ha oi)
theorem zB (ha:a<256):uN 2 a=a ^^^ kK (kK a) ^^^ kK (kK (kK a)):=by rw[<-Dx];exact lM (by rw[Dx];exact l9 (l9 ha oi) oi)
theorem zC (ha:a<256):uN 3 a=a ^^^ kK a ^^^ kK (kK (kK a)):=by rw[<-Dy];exact lM (by rw[Dy];exact l9 (l9 ha oi) oi)
theorem zD {j:Nat}(hj:j<4) (ha:a<256) (hb:b<256):uN j (a ^^^ b)=uN j a ^^^ uN j b:=by
 have h1:=zy ha hb;have d:=zy (a:=kK a) (b:=kK b) oi oi;have e:=zy (a:=kK (kK a)) (b:=kK (kK b)) oi oi;have c:=l9 ha hb;rcases (by omega:j=0\/j=1\/j=2\/j=3) with rfl|rfl|rfl|rfl
 ·rw[zz ha,zz hb,zz c,h1,d,e];ac_rfl
 ·rw[zA ha,zA hb,zA c,h1,d,e];ac_rfl
 ·rw[zB ha,zB hb,zB c,h1,d,e];ac_rfl
 ·rw[zC ha,zC hb,zC c,h1,d,e];ac_rfl
theorem oS {j c d:Nat}(hj:j<4) (ha:a<256) (hb:b<256) (hc:c<256) (hd:d<256):uN j (a ^^^ b ^^^ c ^^^ d)=uN j a ^^^ uN j b ^^^ uN j c ^^^ uN j d:=by rw[zD hj (l9 (l9 ha hb) hc) hd,zD hj (l9 ha hb) hc,zD hj ha hb]
def cx (A B C D:UInt8):UInt8:=byte ((byte ((byte ((byte ((0:UInt8).toNat ^^^ A.toNat)).toNat ^^^ B.toNat)).toNat ^^^ C.toNat)).toNat ^^^ D.toNat)
theorem Dz (A B C D:UInt8):(cx A B C D).toNat=A.toNat ^^^ B.toNat ^^^ C.toNat ^^^ D.toNat:=by
 have a:=aP A;have hb:=aP B;have hc:=aP C;have hd:=aP D;have b:(0:UInt8).toNat ^^^ A.toNat=A.toNat:=by simp
 rw[cx,b,lM a,lM (l9 a hb),lM (l9 (l9 a hb) hc),lM (l9 (l9 (l9 a hb) hc) hd)]
def lQ (R:Nat->iz) (a b c d:UInt8) (r:Nat):UInt8:=cx ((R a.toNat).getD r 0) ((R b.toNat).getD ((r+3) % 4) 0) ((R c.toNat).getD ((r+2) % 4) 0) ((R d.toNat).getD ((r+1) % 4) 0)
def mN (k:Nat) (a:UInt8):Nat:=((lN a.toNat).getD k 0).toNat
theorem kM {k:Nat}{a:UInt8}:mN k a<256:=aP _
theorem oT (a b c d:UInt8) (r:Nat):(lQ lN a b c d r).toNat=mN r a ^^^ mN ((r+3) % 4) b ^^^ mN ((r+2) % 4) c ^^^ mN ((r+1) % 4) d:=Dz _ _ _ _
theorem xN (a b c d:UInt8) (r:Nat):(lQ nm a b c d r).toNat=uN r a.toNat ^^^ uN ((r+3) % 4) b.toNat ^^^ uN ((r+2) % 4) c.toNat ^^^ uN ((r+1) % 4) d.toNat:=Dz _ _ _ _
theorem oU (d:Nat) (a:UInt8):sa d a.toNat=uN (d % 4) (mN 0 a) ^^^ uN ((d+3) % 4) (mN 1 a) ^^^ uN ((d+2) % 4) (mN 2 a) ^^^ uN ((d+1) % 4) (mN 3 a):=rfl
theorem KT (a b c d:UInt8):lQ nm (lQ lN a b c d 0) (lQ lN a b c d 1) (lQ lN a b c d 2) (lQ lN a b c d 3) 0=a:=by
 refine et.1 ?_;rw[xN,oT,oT,oT,oT];rw[oS om kM kM kM kM,oS om kM kM kM kM,oS om kM kM kM kM,oS om kM kM kM kM];have f:=(oR a).1;rw[oU] at f;have hb:=(oR b).2.2.2;rw[oU] at hb;have hc:=(oR c).2.2.1;rw[oU] at hc;have hd:=(oR d).2.1;rw[oU] at hd;simp only[Nat.reduceAdd,Nat.reduceMod] at f hb hc hd ⊢;have e:(uN 0 (mN 0 a) ^^^ uN 0 (mN 3 b) ^^^ uN 0 (mN 2 c) ^^^ uN 0 (mN 1 d)) ^^^ (uN 3 (mN 1 a) ^^^ uN 3 (mN 0 b) ^^^ uN 3 (mN 3 c) ^^^ uN 3 (mN 2 d)) ^^^ (uN 2 (mN 2 a) ^^^ uN 2 (mN 1 b) ^^^ uN 2 (mN 0 c) ^^^ uN 2 (mN 3 d)) ^^^ (uN 1 (mN 3 a) ^^^ uN 1 (mN 2 b) ^^^ uN 1 (mN 1 c) ^^^ uN 1 (mN 0 d))=(uN 0 (mN 0 a) ^^^ uN 3 (mN 1 a) ^^^ uN 2 (mN 2 a) ^^^ uN 1 (mN 3 a)) ^^^ (uN 3 (mN 0 b) ^^^ uN 2 (mN 1 b) ^^^ uN 1 (mN 2 b) ^^^ uN 0 (mN 3 b)) ^^^ (uN 2 (mN 0 c) ^^^ uN 1 (mN 1 c) ^^^ uN 0 (mN 2 c) ^^^ uN 3 (mN 3 c)) ^^^ (uN 1 (mN 0 d) ^^^ uN 0 (mN 1 d) ^^^ uN 3 (mN 2 d) ^^^ uN 2 (mN 3 d)):=by ac_rfl
 rw[e,f,hb,hc,hd];simp
theorem KU (a b c d:UInt8):lQ nm (lQ lN a b c d 0) (lQ lN a b c d 1) (lQ lN a b c d 2) (lQ lN a b c d 3) 1=b:=by
 refine et.1 ?_;rw[xN,oT,oT,oT,oT];rw[oS om kM kM kM kM,oS om kM kM kM kM,oS om kM kM kM kM,oS om kM kM kM kM];have f:=(oR a).2.1;rw[oU] at f;have hb:=(oR b).1;rw[oU] at hb;have hc:=(oR c).2.2.2;rw[oU] at hc;have hd:=(oR d).2.2.1;rw[oU] at hd;simp only[Nat.reduceAdd,Nat.reduceMod] at f hb hc hd ⊢;have e:(uN 1 (mN 0 a) ^^^ uN 1 (mN 3 b) ^^^ uN 1 (mN 2 c) ^^^ uN 1 (mN 1 d)) ^^^ (uN 0 (mN 1 a) ^^^ uN 0 (mN 0 b) ^^^ uN 0 (mN 3 c) ^^^ uN 0 (mN 2 d)) ^^^ (uN 3 (mN 2 a) ^^^ uN 3 (mN 1 b) ^^^ uN 3 (mN 0 c) ^^^ uN 3 (mN 3 d)) ^^^ (uN 2 (mN 3 a) ^^^ uN 2 (mN 2 b) ^^^ uN 2 (mN 1 c) ^^^ uN 2 (mN 0 d))=(uN 1 (mN 0 a) ^^^ uN 0 (mN 1 a) ^^^ uN 3 (mN 2 a) ^^^ uN 2 (mN 3 a)) ^^^ (uN 0 (mN 0 b) ^^^ uN 3 (mN 1 b) ^^^ uN 2 (mN 2 b) ^^^ uN 1 (mN 3 b)) ^^^ (uN 3 (mN 0 c) ^^^ uN 2 (mN 1 c) ^^^ uN 1 (mN 2 c) ^^^ uN 0 (mN 3 c)) ^^^ (uN 2 (mN 0 d) ^^^ uN 1 (mN 1 d) ^^^ uN 0 (mN 2 d) ^^^ uN 3 (mN 3 d)):=by ac_rfl
 rw[e,f,hb,hc,hd];simp
theorem KV (a b c d:UInt8):lQ nm (lQ lN a b c d 0) (lQ lN a b c d 1) (lQ lN a b c d 2) (lQ lN a b c d 3) 2=c:=by
 refine et.1 ?_;rw[xN,oT,oT,oT,oT];rw[oS om kM kM kM kM,oS om kM kM kM kM,oS om kM kM kM kM,oS om kM kM kM kM];have f:=(oR a).2.2.1;rw[oU] at f;have hb:=(oR b).2.1;rw[oU] at hb;have hc:=(oR c).1;rw[oU] at hc;have hd:=(oR d).2.2.2;rw[oU] at hd;simp only[Nat.reduceAdd,Nat.reduceMod] at f hb hc hd ⊢;have e:(uN 2 (mN 0 a) ^^^ uN 2 (mN 3 b) ^^^ uN 2 (mN 2 c) ^^^ uN 2 (mN 1 d)) ^^^ (uN 1 (mN 1 a) ^^^ uN 1 (mN 0 b) ^^^ uN 1 (mN 3 c) ^^^ uN 1 (mN 2 d)) ^^^ (uN 0 (mN 2 a) ^^^ uN 0 (mN 1 b) ^^^ uN 0 (mN 0 c) ^^^ uN 0 (mN 3 d)) ^^^ (uN 3 (mN 3 a) ^^^ uN 3 (mN 2 b) ^^^ uN 3 (mN 1 c) ^^^ uN 3 (mN 0 d))=(uN 2 (mN 0 a) ^^^ uN 1 (mN 1 a) ^^^ uN 0 (mN 2 a) ^^^ uN 3 (mN 3 a)) ^^^ (uN 1 (mN 0 b) ^^^ uN 0 (mN 1 b) ^^^ uN 3 (mN 2 b) ^^^ uN 2 (mN 3 b)) ^^^ (uN 0 (mN 0 c) ^^^ uN 3 (mN 1 c) ^^^ uN 2 (mN 2 c) ^^^ uN 1 (mN 3 c)) ^^^ (uN 3 (mN 0 d) ^^^ uN 2 (mN 1 d) ^^^ uN 1 (mN 2 d) ^^^ uN 0 (mN 3 d)):=by ac_rfl
 rw[e,f,hb,hc,hd];simp
theorem KW (a b c d:UInt8):lQ nm (lQ lN a b c d 0) (lQ lN a b c d 1) (lQ lN a b c d 2) (lQ lN a b c d 3) 3=d:=by
 refine et.1 ?_;rw[xN,oT,oT,oT,oT];rw[oS om kM kM kM kM,oS om kM kM kM kM,oS om kM kM kM kM,oS om kM kM kM kM];have f:=(oR a).2.2.2;rw[oU] at f;have hb:=(oR b).2.2.1;rw[oU] at hb;have hc:=(oR c).2.1;rw[oU] at hc;have hd:=(oR d).1;rw[oU] at hd;simp only[Nat.reduceAdd,Nat.reduceMod] at f hb hc hd ⊢;have e:(uN 3 (mN 0 a) ^^^ uN 3 (mN 3 b) ^^^ uN 3 (mN 2 c) ^^^ uN 3 (mN 1 d)) ^^^ (uN 2 (mN 1 a) ^^^ uN 2 (mN 0 b) ^^^ uN 2 (mN 3 c) ^^^ uN 2 (mN 2 d)) ^^^ (uN 1 (mN 2 a) ^^^ uN 1 (mN 1 b) ^^^ uN 1 (mN 0 c) ^^^ uN 1 (mN 3 d)) ^^^ (uN 0 (mN 3 a) ^^^ uN 0 (mN 2 b) ^^^ uN 0 (mN 1 c) ^^^ uN 0 (mN 0 d))=(uN 3 (mN 0 a) ^^^ uN 2 (mN 1 a) ^^^ uN 1 (mN 2 a) ^^^ uN 0 (mN 3 a)) ^^^ (uN 2 (mN 0 b) ^^^ uN 1 (mN 1 b) ^^^ uN 0 (mN 2 b) ^^^ uN 3 (mN 3 b)) ^^^ (uN 1 (mN 0 c) ^^^ uN 0 (mN 1 c) ^^^ uN 3 (mN 2 c) ^^^ uN 2 (mN 3 c)) ^^^ (uN 0 (mN 0 d) ^^^ uN 3 (mN 1 d) ^^^ uN 2 (mN 2 d) ^^^ uN 1 (mN 3 d)):=by ac_rfl
 rw[e,f,hb,hc,hd];simp
theorem vP (h:l.length=16):∃ x0 x1 x2 x3 x4 x5 x6 x7 x8 x9 x10 x11 x12 x13 x14 x15,l=[x0,x1,x2,x3,x4,x5,x6,x7,x8,x9,x10,x11,x12,x13,x14,x15]:=by
 match l,h with
 | [x0,x1,x2,x3,x4,x5,x6,x7,x8,x9,x10,x11,x12,x13,x14,x15],_=>exact⟨_,_,_,_,_,_,_,_,_,_,_,_,_,_,_,_,rfl⟩
theorem DA (R:Nat->iz) (x0 x1 x2 x3 x4 x5 x6 x7 x8 x9 x10 x11 x12 x13 x14 x15:UInt8):nT R [x0,x1,x2,x3,x4,x5,x6,x7,x8,x9,x10,x11,x12,x13,x14,x15] 16=[lQ R x0 x1 x2 x3 0,lQ R x0 x1 x2 x3 1,lQ R x0 x1 x2 x3 2,lQ R x0 x1 x2 x3 3,lQ R x4 x5 x6 x7 0,lQ R x4 x5 x6 x7 1,lQ R x4 x5 x6 x7 2,lQ R x4 x5 x6 x7 3,lQ R x8 x9 x10 x11 0,lQ R x8 x9 x10 x11 1,lQ R x8 x9 x10 x11 2,lQ R x8 x9 x10 x11 3,lQ R x12 x13 x14 x15 0,lQ R x12 x13 x14 x15 1,lQ R x12 x13 x14 x15 2,lQ R x12 x13 x14 x15 3]:=kr
theorem KX (h:l.length=16):nT nm (nT lN l 16) 16=l:=by obtain⟨g,i,j,k,m,n,o,p,q,r,a,b,c,d,e,f,rfl⟩:=vP h;rw[DA,DA];simp only[KT,KU,KV,KW]
theorem KY (T T1:Nat->UInt8) (x0 x1 x2 x3 x4 x5 x6 x7 x8 x9 x10 x11 x12 x13 x14 x15:UInt8):p8 T (oW T1 [x0,x1,x2,x3,x4,x5,x6,x7,x8,x9,x10,x11,x12,x13,x14,x15] 16) 16=[T (T1 x0.toNat).toNat,T (T1 x1.toNat).toNat,T (T1 x2.toNat).toNat,T (T1 x3.toNat).toNat,T (T1 x4.toNat).toNat,T (T1 x5.toNat).toNat,T (T1 x6.toNat).toNat,T (T1 x7.toNat).toNat,T (T1 x8.toNat).toNat,T (T1 x9.toNat).toNat,T (T1 x10.toNat).toNat,T (T1 x11.toNat).toNat,T (T1 x12.toNat).toNat,T (T1 x13.toNat).toNat,T (T1 x14.toNat).toNat,T (T1 x15.toNat).toNat]:=kr
theorem KZ (h:l.length=16):p8 bk (oW sb l 16) 16=l:=by obtain⟨g,i,j,k,m,n,o,p,q,r,a,b,c,d,e,f,rfl⟩:=vP h;rw[KY];simp only[KO]
def kB (ks:List UInt32) (r i:Nat):Nat:=(ks.getD (4*r+i / 4) 0).toNat / 2 ^ (24 - 8*(i % 4)) % 256
theorem K3 {r i:Nat}:kB ks r i<256:=eE _ om
theorem DB (ks:List UInt32) (r:Nat) (x0 x1 x2 x3 x4 x5 x6 x7 x8 x9 x10 x11 x12 x13 x14 x15:UInt8):nK [x0,x1,x2,x3,x4,x5,x6,x7,x8,x9,x10,x11,x12,x13,x14,x15] ks r 16=[byte (x0.toNat ^^^ kB ks r 0),byte (x1.toNat ^^^ kB ks r 1),byte (x2.toNat ^^^ kB ks r 2),byte (x3.toNat ^^^ kB ks r 3),byte (x4.toNat ^^^ kB ks r 4),byte (x5.toNat ^^^ kB ks r 5),byte (x6.toNat ^^^ kB ks r 6),byte (x7.toNat ^^^ kB ks r 7),byte (x8.toNat ^^^ kB ks r 8),byte (x9.toNat ^^^ kB ks r 9),byte (x10.toNat ^^^ kB ks r 10),byte (x11.toNat ^^^ kB ks r 11),byte (x12.toNat ^^^ kB ks r 12),byte (x13.toNat ^^^ kB ks r 13),byte (x14.toNat ^^^ kB ks r 14),byte (x15.toNat ^^^ kB ks r 15)]:=kr
theorem DC (x:UInt8){k:Nat}(hk:k<256):byte ((byte (x.toNat ^^^ k)).toNat ^^^ k)=x:=by have h:=aP x;refine et.1 ?_;rw[lM (l9 h hk),lM (l9 (l9 h hk) hk),Nat.xor_assoc,Nat.xor_self,Nat.xor_zero]
theorem add_add {r:Nat}(h:l.length=16):nK (nK l ks r 16) ks r 16=l:=by obtain⟨g,i,j,k,m,n,o,p,q,s,a,b,c,d,e,f,rfl⟩:=vP h;rw[DB,DB];simp only[DC _ K3]
theorem DD {ks:List UInt32}{b:iz}(hb:b.length=16):∀ t,t<=nD ks->qt ks (oj ks b (nD ks)) t=oj ks b (nD ks - t)
 | 0,_=>rfl
 | t+1,ht=>by
  rw[qt,DD hb t om];obtain⟨s,hs⟩:=Ex (nD ks - (t+1));rw[show nD ks - t=s+1 by omega,<-hs,oj];have c:(oW sb (oj ks b s) 16).length=16:=wz;rw[add_add (Am c)]
  have d:oX nm (nD ks) (s+1) (oX lN (nD ks) (s+1) (oW sb (oj ks b s) 16))=oW sb (oj ks b s) 16:=by
   unfold oX;by_cases a:s+1<nD ks
   ·simp only[a,ea];exact KX c
   ·simp only[a,fJ]
  rw[d,KZ (vf hb)]
theorem K5 {b:iz}(hb:b.length=16):qN ks (nL ks b)=b:=by rw[qN,nL,DD hb _ (ae _),dA,oj,add_add hb]
end Go.Proofs.YthmcbgidehjlbaaGreat.Fd

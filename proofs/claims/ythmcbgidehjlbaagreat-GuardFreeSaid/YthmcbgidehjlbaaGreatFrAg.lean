/-
 Parts of the proof. No condition beyond what each theorem names.
-/
import Derived.Laws.StructEq
import Derived.Test.YthmcbgidehjlbaaGreatRows
import Derived.Test.YthmcbgidehjlbaaGreatFrAa
import Derived.Test.YthmcbgidehjlbaaGreatFrAb
import Derived.Test.YthmcbgidehjlbaaGreatFrAc
set_option maxRecDepth 100000
set_option maxHeartbeats 8000000
namespace Go.Proofs.YthmcbgidehjlbaaGreat.Fd
open _root_.Go.Proofs.Tryz
open Go Go.RowKit K
variable {key:iz}{w:World}{tb:Nat}{ks:List UInt32}
theorem Ff:(prog.info? 244).map (λi=>(i.zero,i.size,i.bytes))=some (some (.int .u32 0),1,4):=kr
def qh (key:iz) (i:Nat):Nat:=qw (key.getD (4*i) 0).toNat (key.getD (4*i+1) 0).toNat (key.getD (4*i+2) 0).toNat (key.getD (4*i+3) 0).toNat
theorem Fg {i:Nat}:qh key i<4294967296:=zP (aP _) (aP _) (aP _) (aP _)
def py (key:iz):Nat->List UInt32
 | 0=>[]
 | i+1=>py key i++[UInt32.ofNat (qh key i)]
theorem yo {i:Nat}:(py key i).length=i:=by
 induction i with
 | zero=>rfl
 | succ i ih=>simp[py,ih]
def pP (n i x:Nat):Nat:=if i % n=0 then rI (mB x 8) ^^^ round (i / n)*16777216 else if 6<n/\i % n=4 then rI x else x
theorem oo {a b:Nat}(ha:a<4294967296) (hb:b<4294967296):a ^^^ b<4294967296:=gL (n:=32) ha hb
def vi (ks:List UInt32) (n i:Nat):Nat:=(ks.getD (i - n) 0).toNat ^^^ pP n i (ks.getD (i - 1) 0).toNat
def oI (key:iz) (n:Nat):Nat->List UInt32
 | 0=>py key n
 | m+1=>oI key n m++[UInt32.ofNat (vi (oI key n m) n (n+m))]
theorem tT {n m:Nat}:(oI key n m).length=n+m:=by
 induction m with
 | zero=>exact yo
 | succ m ih=>simp[oI,ih];omega
def sched (key:iz):List UInt32:=oI key (key.length / 4) (3*(key.length / 4)+28)
theorem Fh (h:key.length=16):sched key=oI key 4 40:=by rw[sched,h]
theorem Fi (h:key.length=32):sched key=oI key 8 52:=by rw[sched,h]
theorem Fj (l:List UInt32) (n:Nat) (h:n<4294967296):sQ (l++[UInt32.ofNat n])=sQ l++[.int .u32 n]:=by simp[sQ];omega
structure mQ (w:World) (n p tb:Nat) (kv:Value) (ks:List UInt32) (x:World):Prop where
 below:Below n w x
 size:n<=x.heap.size
 hp:n<=p
 ht:n<=tb
 ne:p≠tb
 box:x.heap[p]?=some (.cells #[iq tb,kv] 294 (0,0))
 rM:uZ x tb 256
 own:x.ownsRow n 244 1 kv ks.length (sQ ks)
 wH:∀ g,kv.ownBlock=some g->g≠p/\g≠tb
theorem mQ.after {n p:Nat}{kv:Value}{x y:World}(h:mQ w n p tb kv ks x) (hb:Below x.heap.size x y):mQ w n p tb kv ks y:=by
 obtain⟨l,a,b⟩:=h.rM
 exact⟨h.below.trans (hb.mono h.size),am h.size hb.size,h.hp,h.ht,h.ne,(hb.block p (dC h.box)).trans h.box,⟨l,a.dB (hb.block tb (dC a)),b⟩,
  dE h.own (λg hg=>hb.block g (h.own.lt g hg).2),h.wH⟩
structure sl (w:World) (n p tb:Nat) (kv:Value) (ks:List UInt32) (y:Nat) (v':Value) (x:World):Prop where
 cell:x.cell? (iu p 1)=some kv
 frozen:x.frozen? (iu p 1)=false
 Md:mQ w n p tb v' (ks++[UInt32.ofNat y]) (x.setCell (iu p 1) v')
 shape:∃ g cp,v'=ir g (ks.length+1) cp
theorem mQ.push {n p:Nat}{kv:Value}{x w3:World}(h:mQ w n p tb kv ks x) (hR:aA No x w3){u:Value}{y:Nat}(hy:y<4294967296)
  (hu:Cells w3 (λ_=>True) u 1 1 [.int .u32 y]) (hk:ks.length<=1000):
  ∃ v' w4,(Builtin.append_ #[292,292] 292 #[kv,u]).run prog w3=.ok v' w4/\sl w n p tb kv ks y v' w4:=by
 obtain⟨v',w4,hr,o,c,r⟩:=tS (P:=prog) (bytes:=4) underlying292 Ff rfl de h.own h.size hR hu (by simp[Value.oneCell']) mx om 292;have f:=dC h.box;have d:¬ kv.ownBlock=some p:=λe=>(h.wH p e).1 rfl
 obtain⟨l,m,q⟩:=h.rM;have j:=dC m;have i:¬ kv.ownBlock=some tb:=λe=>(h.wH tb e).2 rfl
 have a:=(c.block p f d).trans h.box
 have b:∀ g,v'.ownBlock=some g->g≠p/\g≠tb:=by
  intro g hg;rcases r with e|⟨g',e,hl⟩
  ·exact h.wH g (by rw[<-e];exact hg)
  ·rw[e] at hg;simp at hg;omega
 refine⟨v',w4,hr,?_,kY a 1,⟨?_,?_,h.hp,h.ht,h.ne,?_,⟨l,(m.dB (c.block tb j i)).dB (kD _ _ _ (by have:=h.ne;simp;omega)),q⟩,?_,b⟩,?_⟩
 ·rw[cell_of a];rfl
 ·refine (h.below.trans (c.below (B:=n) h.size ?_)).setCell (p:=iu p 1) h.hp _;intro k hk e;have:=(h.own.lt k e).1;omega
 ·have:=c.size;have:=h.size;simp;omega
 ·rw[lz a];rfl
 ·rw[Fj _ _ hy,aE];exact dE o (λg hg=>kD _ _ _ (by have:=(b g hg).1;simp;omega))
 ·obtain⟨g,cp,e,_⟩:=kz o om;exact⟨g,cp,e⟩
theorem Fk {S:Nat->Prop}{kv:Value}(hb:Bytes w S kv key) (hl:key.length=16):
  Calls prog 189 #[kv] w λe w'=>∃ p tb kv',e=.returned (.tuple #[iq p,iw 0])/\nB w' (λg=>w.heap.size<=g) p tb kv' (sched key)/\Below w.heap.size w w':=by
 obtain⟨n,hn⟩:=Ex w.heap.size;have HN:=LH hn;have hc:Cells w S kv 16 1 (aQ key):=by rw[<-hl];exact hb
 obtain⟨g,off,cap,rfl,e5,e6,_,cj,an⟩:=Cells.at hc om
 have ax:∀ (b:World) (q:Nat),q<16->(Instr.sliceAt 42 (.slice (some (iu g off)) 16 cap) (some (iw q)) none none).run prog b=.ok (.slice (some (iu g (off+q))) (16 - q) (cap - q)) b:=by intro b q hq;rw[rH (P:=prog) (s:=1) b underlying42 kr _ _ _ _ om,pK _ _ _ _ _ _ om,aY]
 have l:∀ j,j<16->w.cell? (iu g (off+j))=some (iy (key.getD j 0).toNat):=by intro j hj;have h:=an j _ (pI key j om);rw[h];simp[List.getD,show j<key.length by omega]
 rw[<-hn] at cj;revert hl ax l;refine H3 ?_;intro hl ax l;clear hb hc an hn;go_enter func189,ntmps189
 go_wp2_with fail
 refine (Ad w).mono ?_;rintro e w1 ⟨tb,rfl,c9,c8,b3⟩;rw[<-HN.o] at c9 b3;obtain⟨p,hp⟩:=Ex w1.heap.size;obtain⟨lt,c7,cr⟩:=c8;have ct:=dC c7
 have a7:mQ w n p tb (.slice none 0 0) [] (w1.alloc (.cells #[iq tb,.slice none 0 0] 294)):=by subst hp;have cb:=b3.size;rw[<-HN.o] at cb;refine⟨b3.alloc cb _,by simp;omega,cb,c9,by omega,aj w1 _,⟨lt,c7.dB (aB _ _ _ ct),cr⟩,aS _ _ _ _,by simp[Value.ownBlock]⟩
 replace a7:=LH a7;have cm:=LH hp;clear c7 cr ct b3 c9;go_wp2;obtain⟨w2,cu⟩:=Ex (w1.alloc (.cells #[iq tb,.slice none 0 0] 294));rw[<-cu] at a7 ⊢;rw[<-cm.o];clear cu cm hp
 go_loopw [25] (λi wr=>∃ k:Nat,k<=4/\i=iw k/\∃ kv',Hd (mQ w n p tb kv' (py key k) wr))
  (λi _=>4 - (intOf i).toNat)
 case atStart=>exact⟨0,by omega,rfl,_,a7.o⟩
 case round=>
  clear a7;obtain⟨k,hk,rfl,kv',d⟩:=hrel;have t:=Dr wr
  replace t:=LH t;by_cases cl:k<4
  ·obtain⟨q,hq⟩:=Ex (4*k);have ed:4*(k:Int)=q:=om;have en:q+3<16:=om;have c5:=λb=>ax.o b q om
   obtain⟨R,hR⟩:=Ex (16 - q);have e4:3<R:=om;rw[<-hR] at c5;replace hR:=LH hR;obtain⟨A,hA⟩:=Ex ((key.getD q 0).toNat);obtain⟨B,hB⟩:=Ex ((key.getD (q+1) 0).toNat);obtain⟨C,hC⟩:=Ex ((key.getD (q+2) 0).toNat);obtain⟨D,hD⟩:=Ex ((key.getD (q+3) 0).toNat);have aa:=l.o q om;have N:=l.o (q+1) om;have O:=l.o (q+2) om;have T:=l.o (q+3) om;rw[<-cy] at N O T;rw[<-hA] at aa;rw[<-hB] at N;rw[<-hC] at O;rw[<-hD] at T;have dg:A<256:=hA ▸ aP _;have dn:B<256:=hB ▸ aP _;have dp:C<256:=hC ▸ aP _;have ds:D<256:=hD ▸ aP _;have ck:qh key k=qw A B C D:=by rw[qh,<-hq,<-hA,<-hB,<-hC,<-hD]
   clear hA hB hC hD;obtain⟨X1,bp⟩:=Ex (A*16777216);obtain⟨X2,bz⟩:=Ex (B*65536);obtain⟨X3,bA⟩:=Ex (X1+X2);obtain⟨X4,bB⟩:=Ex (C*256);obtain⟨X5,bC⟩:=Ex (X3+X4);obtain⟨W,hW⟩:=Ex (X5+D);have e8:bits .or .u32 (X1:Int) (X2:Int)=(X3:Int):=by rw[di X1 X2 om om,dy 24 X1 X2 om om,bA]
   have eb:bits .or .u32 (X3:Int) (X4:Int)=(X5:Int):=by rw[di X3 X4 om om,dy 16 X3 X4 om om,bC]
   have ec:bits .or .u32 (X5:Int) (D:Int)=(W:Int):=by rw[di X5 D om om,dy 8 X5 D om om,hW]
   have cT:W<4294967296:=om;have bl:qh key k=W:=by rw[ck,qw];omega
   replace bl:=LH bl;clear ck;revert hq bp bz bA bB bC hW;refine H7 ?_;intro hq bp bz bA bB bC hW;have b4:=d.o.below;rw[<-az (w:=w) (b4.block g cj)] at aa N O T;have K:g<wr.heap.size:=by have:=b4.size;have:=HN.o;omega
   have U:wr.cell? (iu p 1)=some kv':=by rw[cell_of d.o.box];rfl
   have b7:=dC d.o.box;revert aa N O T b4 U;refine H6 ?_;intro aa N O T b4 U;go_wp2;refine RA.rt (aA No) [5,1,1,1,1,1,1,1,1,1,1,1,1,1,1,1,1,1,1,1,1,1,1,1,1,1,1,3,6,5,5,7] [28,31] (λ_=>True) trivial (λ_=>aA.refl _ _) (λ_ _ _ h k=>h.trans k) (h:=?_);intro cx;refine RA.sf rf rf rf ?_
   repeat refine RA.qq ?_
   refine RA.fk prog p 1 (h:=?_);refine RA.lk prog (kv') (hc:=λb hp=>by exact ((t.o _ hp.1).cell (p:=iu p 1) b7 id).trans U.o) (h:=?_)
   repeat refine RA.qq ?_
   refine RA.ik prog g (off+q) (h:=?_);refine RA.lk prog (iy A) (hc:=λb hp=>by exact ((t.o _ hp.1).cell (p:=iu g (off+q)) K id).trans aa.o) (h:=?_);refine RA.vw prog (.int .u32 A) (h:=?_);refine RA.vk prog (.int .u32 X1) (hr:=λw hp=>by (try go_simp);rw[bp.o,bG];omega) (h:=?_)
   repeat refine RA.qq ?_
   refine RA.ik prog g (off+q+1) (h:=?_);refine RA.lk prog (iy B) (hc:=λb hp=>by exact ((t.o _ hp.1).cell (p:=iu g (off+q+1)) K id).trans N.o) (h:=?_);refine RA.vw prog (.int .u32 B) (h:=?_);refine RA.vk prog (.int .u32 X2) (hr:=λw hp=>by (try go_simp);rw[bz.o,bG];omega) (h:=?_);refine RA.vk prog (.int .u32 X3) (h:=?_)
   repeat refine RA.qq ?_
   refine RA.ik prog g (off+q+2) (h:=?_);refine RA.lk prog (iy C) (hc:=λb hp=>by exact ((t.o _ hp.1).cell (p:=iu g (off+q+2)) K id).trans O.o) (h:=?_);refine RA.vw prog (.int .u32 C) (h:=?_);refine RA.vk prog (.int .u32 X4) (hr:=λw hp=>by (try go_simp);rw[bB.o,bG];omega) (h:=?_);refine RA.vk prog (.int .u32 X5) (h:=?_)
   repeat refine RA.qq ?_
   refine RA.ik prog g (off+q+3) (h:=?_);refine RA.lk prog (iy D) (hc:=λb hp=>by exact ((t.o _ hp.1).cell (p:=iu g (off+q+3)) K id).trans T.o) (h:=?_);refine RA.vw prog (.int .u32 D) (h:=?_);refine RA.vk prog (.int .u32 W) (h:=?_)
   refine RA.bq (λx b=>Cells b (λ_=>True) x 1 1 [.int .u32 W]) (hs:=λ_ _ _ h k=>k.ki h (λ_ _ _=>id)) (he:=λ_ _ _ _ _=>trivial) (hr:=λb hp _=>by refine⟨ir b.heap.size 1 1,b.alloc (.cells #[.int .u32 W] 244),?_,(aA.refl _ _).alloc _,mC b #[.int .u32 W] 244 1 1 rfl mx,trivial⟩;show (execOp _ _).run prog b=_;go_simp) (hn:=λx=>?_)
   refine RA.oH (λv' v=>sl w n p tb kv' (py key k) W v' v) (hr:=λb ay _=>by have hp:=ay.first kr;obtain⟨v',v,h1,h2⟩:=d.o.push (t.o _ hp.1) cT (hp.fact 0 rfl kr) (by rw[yo];omega);exact⟨v',v,RA.nS rf rf h1,h2⟩) (hn:=λv'=>?_)
   refine RA.pq ?_;refine RA.pk prog p 1 (h:=?_)
   refine RA.lr (λw5=>mQ w n p tb v' ((py key k)++[UInt32.ofNat W]) w5) (hr:=λv _ hH=>by obtain⟨f1,f2,f3,u,cp,rfl⟩:=hH;refine⟨_,RA.kL rf rf (w':=v.setCell (iu p 1) (ir u ((py key k).length+1) cp)) ?_,f3⟩;clear f3;show (Instr.storeAt _ _ _).run prog v=_;go_simp) (hn:=?_)
   refine RA.RA.kZ (λw5 hH=>?_);simp only[RA.RP,cx];replace hH:=LH hH;go_wp2;go_roundw
   case rel=>refine⟨k+1,by omega,by go_num,v',?_⟩;show mQ _ _ _ _ _ _ _;rw[py,bl.o];exact hH.o
   case measure=>simp[intOf];omega
  ·have cU:k=4:=om;subst cU;go_wp2;rw[show ((4:Nat):Int)=4 from rfl]
   go_loopw [8] (λi wr=>∃ m:Nat,m<=40/\i=iw (4+m:Nat)/\∃ kv',Hd (mQ w n p tb kv' (oI key 4 m) wr))
    (λi _=>4+40 - (intOf i).toNat)
   case atStart=>exact⟨0,by omega,rfl,_,d.o⟩
   case round=>
    clear d t cl hk;obtain⟨m,hm,rfl,da,d⟩:=hrel;have t:=Dr wr
    replace t:=LH t;obtain⟨I,hI⟩:=Ex (4+m);rw[<-hI];by_cases cl:m<40
    ·obtain⟨KS,L⟩:=Ex (oI key 4 m);rw[<-L] at d;have a1:KS.length=I:=by rw[L,tT,hI]
     have z:=d.o.own;rw[a1] at z;obtain⟨u,cp,rfl,dc,dd⟩:=kz z om;have b5:=(z.lt u rfl).2;have cg:=z.cells (g:=u) rfl
     have y:∀ j,j<I->wr.cell? (iu u j)=some (.int .u32 (KS.getD j 0).toNat):=by intro j hj;have h:=cg j _ (yj KS j om);rw[bJ,aw] at h;exact h
     clear z cg;replace L:=LH L;obtain⟨J,hJ⟩:=Ex (I - 1);have e2:(I:Int) - 1=J:=om;have cz:J<I:=om;obtain⟨X,hX⟩:=Ex ((KS.getD J 0).toNat);have bW:=y J cz;rw[<-hX] at bW;have bD:X<4294967296:=hX ▸ eU _;obtain⟨Y,hY⟩:=Ex ((KS.getD m 0).toNat);have ad:=y m om;rw[<-hY] at ad;have cf:Y<4294967296:=hY ▸ eU _;clear y
     have b6:∀ V,V=pP 4 I X->UInt32.ofNat (Y ^^^ V)=UInt32.ofNat (vi KS 4 I):=by intro V hV;rw[vi,show I - 4=m by omega,<-hJ,<-hX,<-hY,<-hV]
     replace b6:=LH b6;have U:wr.cell? (iu p 1)=some (ir u I cp):=by rw[cell_of d.o.box];rfl
     have b7:=dC d.o.box;have e1:I<100:=om;have dT:4<=I:=om;have cc:(I:Int) - 4=m:=om;have e7:m<I:=om;revert hI a1 hJ hX hY;refine H5 ?_;intro hI a1 hJ hX hY;obtain⟨r,hr⟩:=Ex (I % 4);have cX:(I:Int) % 4=r:=om;have er:(I:Int).tmod 4=r:=by rw[bZ om];exact cX
     obtain⟨Q,hQ⟩:=Ex (I / 4);have cA:(I:Int) / 4=Q:=om;have e3:(I:Int).tdiv 4=Q:=by rw[el om];exact cA
     have cK:Q<200:=om;replace hQ:=LH hQ;replace hr:=LH hr;by_cases cW:r=0
     ·subst cW;have cP:=@zO Q;obtain⟨RD,a6⟩:=Ex (round Q);rw[<-a6] at cP;obtain⟨RS,b2⟩:=Ex (RD*16777216);obtain⟨SW,a8⟩:=Ex (rI (mB X 8));have cd:SW<4294967296:=a8 ▸ xX;obtain⟨V,hV⟩:=Ex (SW ^^^ RS);have ba:V<4294967296:=hV ▸ oo cd om;have fb:bits .xor .u32 (SW:Int) (RS:Int)=(V:Int):=by rw[bI SW RS om om,hV]
      have G:V=pP 4 I X:=by rw[pP,ak hr.o.symm,<-hQ.o,<-a6,<-b2,<-a8,hV]
      revert a6 b2 a8 hV G;refine H5 ?_;intro a6 b2 a8 hV G;go_wp2;refine RA.rt (aA No) [1,4,4,1,1,1,4,1,1,1,1] [] (λ_=>True) trivial (λ_=>aA.refl _ _) (λ_ _ _ h k=>h.trans k) (h:=?_);intro cx
      repeat refine RA.qq ?_
      refine RA.kc (P:=prog) [_,_] (.int .u32 (mB X 8)) (hr:=λb hp hH=>(qg X 8 8 bD om (.inl rfl) b).mono (by rintro e v ⟨rfl,rfl⟩;exact⟨rfl,aA.refl _ _,trivial⟩)) (hn:=?_);refine RA.kc (P:=prog) [_] (.int .u32 SW) (hr:=λb hp hH=>(xY (mB X 8) (qf bD) b).mono (by rintro e v ⟨rfl,h2⟩;exact⟨by rw[a8.o],aA.dD h2 _,trivial⟩)) (hn:=?_)
      repeat refine RA.qq ?_
      refine RA.vw prog (iw Q) (h:=?_);refine RA.kc (P:=prog) [_] (iy RD) (hr:=λb hp hH=>(xW Q cK b).mono (by rintro e v ⟨rfl,rfl⟩;exact⟨by rw[a6.o],aA.refl _ _,trivial⟩)) (hn:=?_);refine RA.vw prog (.int .u32 RD) (h:=?_);refine RA.vk prog (.int .u32 RS) (hr:=λw hp=>by (try go_simp);rw[b2.o,bG];omega) (h:=?_);refine RA.vk prog (.int .u32 V) (h:=?_)
      repeat refine RA.qq ?_
      refine RA.RA.done rfl (λwx hR hF hH=>?_);clear hF hH;simp only[RA.RP,cx];have H:=LH (aA.no (t.o _ hR));have F:=LH (d.o.after H.o);clear hR;have f:wx.cell? (iu p 1)=some (ir u I cp):=by rw[cell_of F.o.box];rfl
      have E:=dC F.o.box;have c6:u<wx.heap.size:=aH b5 H.o.size;have af:=LH ((az (w:=wr) (a:=iu u m) (H.o.block u b5)).trans ad);have c:=Dr wx
      replace c:=LH c;replace f:=LH f;obtain⟨Z,hZ⟩:=Ex (Y ^^^ V);have cY:bits .xor .u32 (Y:Int) (V:Int)=(Z:Int):=by rw[bI Y V om om,hZ]
      have bR:Z<4294967296:=hZ ▸ oo cf ba;replace hZ:=LH hZ;clear bW ad U;go_wp2;refine RA.rt (aA No) [5,1,1,1,1,1,1,1,1,1,1,1,1,1,1,1,3,6,5,5,7] [17,20] (λ_=>True) trivial (λ_=>aA.refl _ _) (λ_ _ _ h k=>h.trans k) (h:=?_);intro cx;refine RA.pq ?_
      repeat refine RA.qq ?_
      refine RA.fk prog p 1 (h:=?_);refine RA.lk prog (ir u I cp) (hc:=λb hp=>by exact ((c.o _ hp.1).cell (p:=iu p 1) E id).trans f.o) (h:=?_)
      repeat refine RA.qq ?_
      refine RA.fk prog p 1 (h:=?_);refine RA.lk prog (ir u I cp) (hc:=λb hp=>by exact ((c.o _ hp.1).cell (p:=iu p 1) E id).trans f.o) (h:=?_)
      repeat refine RA.qq ?_
      refine RA.si (r:=(m:Int)) (he:=cc) (h:=?_);refine RA.ik prog u m (h:=?_);refine RA.lk prog (.int .u32 Y) (hc:=λb hp=>by exact ((c.o _ hp.1).cell (p:=iu u m) c6 id).trans af.o) (h:=?_)
      repeat refine RA.qq ?_
      refine RA.vk prog (.int .u32 Z) (h:=?_)
      refine RA.bq (λx b=>Cells b (λ_=>True) x 1 1 [.int .u32 Z]) (hs:=λ_ _ _ h k=>k.ki h (λ_ _ _=>id)) (he:=λ_ _ _ _ _=>trivial) (hr:=λb hp _=>by refine⟨ir b.heap.size 1 1,b.alloc (.cells #[.int .u32 Z] 244),?_,(aA.refl _ _).alloc _,mC b #[.int .u32 Z] 244 1 1 rfl mx,trivial⟩;show (execOp _ _).run prog b=_;go_simp) (hn:=λx=>?_)
      refine RA.oH (λv' v=>sl w n p tb (ir u I cp) KS Z v' v) (hr:=λb ay _=>by have hp:=ay.first kr;obtain⟨v',v,h1,h2⟩:=F.o.push (c.o _ hp.1) bR (hp.fact 0 rfl kr) (by rw[a1.o];omega);exact⟨v',v,RA.nS rf rf h1,h2⟩) (hn:=λv'=>?_)
      refine RA.pq ?_;refine RA.pk prog p 1 (h:=?_)
      refine RA.lr (λw5=>mQ w n p tb v' (KS++[UInt32.ofNat Z]) w5) (hr:=λv _ hH=>by obtain⟨f1,f2,f3,g2,b8,rfl⟩:=hH;refine⟨_,RA.kL rf rf (w':=v.setCell (iu p 1) (ir g2 (KS.length+1) b8)) ?_,f3⟩;clear f3;show (Instr.storeAt _ _ _).run prog v=_;go_simp) (hn:=?_)
      refine RA.RA.kZ (λw5 hH=>?_);simp only[RA.RP,cx];replace hH:=LH hH;go_wp2;go_roundw
      case rel=>refine⟨m+1,by omega,by have:=hI.o;go_num,v',?_⟩;show mQ _ _ _ _ _ _ _;rw[oI,<-L.o,<-hI.o,<-b6.o V G.o,<-hZ.o];exact hH.o
      case measure=>have:=hI.o;simp[intOf];omega
     ·skip;obtain⟨V,hV⟩:=Ex X;subst hV;have ba:=bD;have G:V=pP 4 I V:=by rw[pP,ah (by have:=hr.o;omega),ah (by have:=hr.o;omega)]
      replace G:=LH G;have e0:((r:Int) == 0)=false:=by simp;omega
      go_wp2;obtain⟨wx,ca⟩:=Ex wr;have H:=LH (show Below wr.heap.size wr wx from ca ▸ ag _ _);have F:=LH (d.o.after H.o);rw[<-ca];clear ca;have f:wx.cell? (iu p 1)=some (ir u I cp):=by rw[cell_of F.o.box];rfl
      have E:=dC F.o.box;have c6:u<wx.heap.size:=aH b5 H.o.size;have af:=LH ((az (w:=wr) (a:=iu u m) (H.o.block u b5)).trans ad);have c:=Dr wx
      replace c:=LH c;replace f:=LH f;obtain⟨Z,hZ⟩:=Ex (Y ^^^ V);have cY:bits .xor .u32 (Y:Int) (V:Int)=(Z:Int):=by rw[bI Y V om om,hZ]
      have bR:Z<4294967296:=hZ ▸ oo cf ba;replace hZ:=LH hZ;clear bW ad U;go_wp2;refine RA.rt (aA No) [5,1,1,1,1,1,1,1,1,1,1,1,1,1,1,1,3,6,5,5,7] [17,20] (λ_=>True) trivial (λ_=>aA.refl _ _) (λ_ _ _ h k=>h.trans k) (h:=?_);intro cx;refine RA.pq ?_
      repeat refine RA.qq ?_
      refine RA.fk prog p 1 (h:=?_);refine RA.lk prog (ir u I cp) (hc:=λb hp=>by exact ((c.o _ hp.1).cell (p:=iu p 1) E id).trans f.o) (h:=?_)
      repeat refine RA.qq ?_
      refine RA.fk prog p 1 (h:=?_);refine RA.lk prog (ir u I cp) (hc:=λb hp=>by exact ((c.o _ hp.1).cell (p:=iu p 1) E id).trans f.o) (h:=?_)
      repeat refine RA.qq ?_
      refine RA.si (r:=(m:Int)) (he:=cc) (h:=?_);refine RA.ik prog u m (h:=?_);refine RA.lk prog (.int .u32 Y) (hc:=λb hp=>by exact ((c.o _ hp.1).cell (p:=iu u m) c6 id).trans af.o) (h:=?_)
      repeat refine RA.qq ?_
      refine RA.vk prog (.int .u32 Z) (h:=?_)
      refine RA.bq (λx b=>Cells b (λ_=>True) x 1 1 [.int .u32 Z]) (hs:=λ_ _ _ h k=>k.ki h (λ_ _ _=>id)) (he:=λ_ _ _ _ _=>trivial) (hr:=λb hp _=>by refine⟨ir b.heap.size 1 1,b.alloc (.cells #[.int .u32 Z] 244),?_,(aA.refl _ _).alloc _,mC b #[.int .u32 Z] 244 1 1 rfl mx,trivial⟩;show (execOp _ _).run prog b=_;go_simp) (hn:=λx=>?_)
      refine RA.oH (λv' v=>sl w n p tb (ir u I cp) KS Z v' v) (hr:=λb ay _=>by have hp:=ay.first kr;obtain⟨v',v,h1,h2⟩:=F.o.push (c.o _ hp.1) bR (hp.fact 0 rfl kr) (by rw[a1.o];omega);exact⟨v',v,RA.nS rf rf h1,h2⟩) (hn:=λv'=>?_)
      refine RA.pq ?_;refine RA.pk prog p 1 (h:=?_)
      refine RA.lr (λw5=>mQ w n p tb v' (KS++[UInt32.ofNat Z]) w5) (hr:=λv _ hH=>by obtain⟨f1,f2,f3,g2,b8,rfl⟩:=hH;refine⟨_,RA.kL rf rf (w':=v.setCell (iu p 1) (ir g2 (KS.length+1) b8)) ?_,f3⟩;clear f3;show (Instr.storeAt _ _ _).run prog v=_;go_simp) (hn:=?_)
      refine RA.RA.kZ (λw5 hH=>?_);simp only[RA.RP,cx];replace hH:=LH hH;go_wp2;go_roundw
      case rel=>refine⟨m+1,by omega,by have:=hI.o;go_num,v',?_⟩;show mQ _ _ _ _ _ _ _;rw[oI,<-L.o,<-hI.o,<-b6.o V G.o,<-hZ.o];exact hH.o
      case measure=>have:=hI.o;simp[intOf];omega
    ·have cV:m=40:=om;subst cV;go_wp2;go_ret2;have M:=d.o;refine⟨p,tb,da,rfl,?_,HN.o ▸ M.below⟩;rw[Fh hl.o];refine⟨M.box,HN.o ▸ M.hp,M.rM,HN.o ▸ M.ht,by rw[tT];omega,(Cells.own M.own).mono (λk _ hk=>HN.o ▸ hk.2)⟩
theorem Fl {S:Nat->Prop}{kv:Value}(hb:Bytes w S kv key) (hl:key.length=32):
  Calls prog 189 #[kv] w λe w'=>∃ p tb kv',e=.returned (.tuple #[iq p,iw 0])/\nB w' (λg=>w.heap.size<=g) p tb kv' (sched key)/\Below w.heap.size w w':=by
 obtain⟨n,hn⟩:=Ex w.heap.size;have HN:=LH hn;have hc:Cells w S kv 32 1 (aQ key):=by rw[<-hl];exact hb
 obtain⟨g,off,cap,rfl,ed,en,_,cr,b7⟩:=Cells.at hc om
 have b8:∀ (c:World) (q:Nat),q<32->(Instr.sliceAt 42 (.slice (some (iu g off)) 32 cap) (some (iw q)) none none).run prog c=.ok (.slice (some (iu g (off+q))) (32 - q) (cap - q)) c:=by intro c q hq;rw[rH (P:=prog) (s:=1) c underlying42 kr _ _ _ _ om,pK _ _ _ _ _ _ om,aY]
 have v:∀ j,j<32->w.cell? (iu g (off+j))=some (iy (key.getD j 0).toNat):=by intro j hj;have h:=b7 j _ (pI key j om);rw[h];simp[List.getD,show j<key.length by omega]
 rw[<-hn] at cr;revert hl b8 v;refine H3 ?_;intro hl b8 v;clear hb hc b7 hn;go_enter func189,ntmps189
 go_wp2_with fail
 refine (Ad w).mono ?_;rintro e w1 ⟨tb,rfl,cg,cf,bA⟩;rw[<-HN.o] at cg bA;obtain⟨p,hp⟩:=Ex w1.heap.size;obtain⟨lt,cd,cK⟩:=cf;have cP:=dC cd
 have b2:mQ w n p tb (.slice none 0 0) [] (w1.alloc (.cells #[iq tb,.slice none 0 0] 294)):=by subst hp;have ck:=bA.size;rw[<-HN.o] at ck;refine⟨bA.alloc ck _,by simp;omega,ck,cg,by omega,aj w1 _,⟨lt,cd.dB (aB _ _ _ cP),cK⟩,aS _ _ _ _,by simp[Value.ownBlock]⟩
 replace b2:=LH b2;have cz:=LH hp;clear cd cK cP bA cg;go_wp2;obtain⟨w2,cT⟩:=Ex (w1.alloc (.cells #[iq tb,.slice none 0 0] 294));rw[<-cT] at b2 ⊢;rw[<-cz.o];clear cT cz hp
 go_loopw [25] (λi wr=>∃ k:Nat,k<=8/\i=iw k/\∃ kv',Hd (mQ w n p tb kv' (py key k) wr))
  (λi _=>8 - (intOf i).toNat)
 case atStart=>exact⟨0,by omega,rfl,_,b2.o⟩
 case round=>
  clear b2;obtain⟨k,hk,rfl,kv',l⟩:=hrel;have y:=Dr wr
  replace y:=LH y;by_cases cu:k<8
  ·obtain⟨q,hq⟩:=Ex (4*k);have fu:4*(k:Int)=q:=om;have fz:q+3<32:=om;have cb:=λc=>b8.o c q om
   obtain⟨R,hR⟩:=Ex (32 - q);have ec:3<R:=om;rw[<-hR] at cb;replace hR:=LH hR;obtain⟨A,hA⟩:=Ex ((key.getD q 0).toNat);obtain⟨B,hB⟩:=Ex ((key.getD (q+1) 0).toNat);obtain⟨C,hC⟩:=Ex ((key.getD (q+2) 0).toNat);obtain⟨D,hD⟩:=Ex ((key.getD (q+3) 0).toNat);have b6:=v.o q om;have aa:=v.o (q+1) om;have ad:=v.o (q+2) om;have af:=v.o (q+3) om;rw[<-cy] at aa ad af;rw[<-hA] at b6;rw[<-hB] at aa;rw[<-hC] at ad;rw[<-hD] at af;have e1:A<256:=hA ▸ aP _;have e2:B<256:=hB ▸ aP _;have e3:C<256:=hC ▸ aP _;have e5:D<256:=hD ▸ aP _;have ct:qh key k=qw A B C D:=by rw[qh,<-hq,<-hA,<-hB,<-hC,<-hD]
   clear hA hB hC hD;obtain⟨X1,c5⟩:=Ex (A*16777216);obtain⟨X2,c6⟩:=Ex (B*65536);obtain⟨X3,c7⟩:=Ex (X1+X2);obtain⟨X4,c8⟩:=Ex (C*256);obtain⟨X5,c9⟩:=Ex (X3+X4);obtain⟨W,hW⟩:=Ex (X5+D);have fb:bits .or .u32 (X1:Int) (X2:Int)=(X3:Int):=by rw[di X1 X2 om om,dy 24 X1 X2 om om,c7]
   have fi:bits .or .u32 (X3:Int) (X4:Int)=(X5:Int):=by rw[di X3 X4 om om,dy 16 X3 X4 om om,c9]
   have fs:bits .or .u32 (X5:Int) (D:Int)=(W:Int):=by rw[di X5 D om om,dy 8 X5 D om om,hW]
   have da:W<4294967296:=om;have bW:qh key k=W:=by rw[ct,qw];omega
   replace bW:=LH bW;clear ct;revert hq c5 c6 c7 c8 c9 hW;refine H7 ?_;intro hq c5 c6 c7 c8 c9 hW;have bB:=l.o.below;rw[<-az (w:=w) (bB.block g cr)] at b6 aa ad af;have a6:g<wr.heap.size:=by have:=bB.size;have:=HN.o;omega
   have T:wr.cell? (iu p 1)=some kv':=by rw[cell_of l.o.box];rfl
   have bD:=dC l.o.box;revert b6 aa ad af bB T;refine H6 ?_;intro b6 aa ad af bB T;go_wp2;refine RA.rt (aA No) [5,1,1,1,1,1,1,1,1,1,1,1,1,1,1,1,1,1,1,1,1,1,1,1,1,1,1,3,6,5,5,7] [28,31] (λ_=>True) trivial (λ_=>aA.refl _ _) (λ_ _ _ h k=>h.trans k) (h:=?_);intro cx;refine RA.sf rf rf rf ?_
   repeat refine RA.qq ?_
   refine RA.fk prog p 1 (h:=?_);refine RA.lk prog (kv') (hc:=λc hp=>by exact ((y.o _ hp.1).cell (p:=iu p 1) bD id).trans T.o) (h:=?_)
   repeat refine RA.qq ?_
   refine RA.ik prog g (off+q) (h:=?_);refine RA.lk prog (iy A) (hc:=λc hp=>by exact ((y.o _ hp.1).cell (p:=iu g (off+q)) a6 id).trans b6.o) (h:=?_);refine RA.vw prog (.int .u32 A) (h:=?_);refine RA.vk prog (.int .u32 X1) (hr:=λw hp=>by (try go_simp);rw[c5.o,bG];omega) (h:=?_)
   repeat refine RA.qq ?_
   refine RA.ik prog g (off+q+1) (h:=?_);refine RA.lk prog (iy B) (hc:=λc hp=>by exact ((y.o _ hp.1).cell (p:=iu g (off+q+1)) a6 id).trans aa.o) (h:=?_);refine RA.vw prog (.int .u32 B) (h:=?_);refine RA.vk prog (.int .u32 X2) (hr:=λw hp=>by (try go_simp);rw[c6.o,bG];omega) (h:=?_);refine RA.vk prog (.int .u32 X3) (h:=?_)
   repeat refine RA.qq ?_
   refine RA.ik prog g (off+q+2) (h:=?_);refine RA.lk prog (iy C) (hc:=λc hp=>by exact ((y.o _ hp.1).cell (p:=iu g (off+q+2)) a6 id).trans ad.o) (h:=?_);refine RA.vw prog (.int .u32 C) (h:=?_);refine RA.vk prog (.int .u32 X4) (hr:=λw hp=>by (try go_simp);rw[c8.o,bG];omega) (h:=?_);refine RA.vk prog (.int .u32 X5) (h:=?_)
   repeat refine RA.qq ?_
   refine RA.ik prog g (off+q+3) (h:=?_);refine RA.lk prog (iy D) (hc:=λc hp=>by exact ((y.o _ hp.1).cell (p:=iu g (off+q+3)) a6 id).trans af.o) (h:=?_);refine RA.vw prog (.int .u32 D) (h:=?_);refine RA.vk prog (.int .u32 W) (h:=?_)
   refine RA.bq (λx c=>Cells c (λ_=>True) x 1 1 [.int .u32 W]) (hs:=λ_ _ _ h k=>k.ki h (λ_ _ _=>id)) (he:=λ_ _ _ _ _=>trivial) (hr:=λc hp _=>by refine⟨ir c.heap.size 1 1,c.alloc (.cells #[.int .u32 W] 244),?_,(aA.refl _ _).alloc _,mC c #[.int .u32 W] 244 1 1 rfl mx,trivial⟩;show (execOp _ _).run prog c=_;go_simp) (hn:=λx=>?_)
   refine RA.oH (λv' t=>sl w n p tb kv' (py key k) W v' t) (hr:=λc a1 _=>by have hp:=a1.first kr;obtain⟨v',t,h1,h2⟩:=l.o.push (y.o _ hp.1) da (hp.fact 0 rfl kr) (by rw[yo];omega);exact⟨v',t,RA.nS rf rf h1,h2⟩) (hn:=λv'=>?_)
   refine RA.pq ?_;refine RA.pk prog p 1 (h:=?_)
   refine RA.lr (λw5=>mQ w n p tb v' ((py key k)++[UInt32.ofNat W]) w5) (hr:=λt _ hH=>by obtain⟨f1,f2,f3,f,cp,rfl⟩:=hH;refine⟨_,RA.kL rf rf (w':=t.setCell (iu p 1) (ir f ((py key k).length+1) cp)) ?_,f3⟩;clear f3;show (Instr.storeAt _ _ _).run prog t=_;go_simp) (hn:=?_)
   refine RA.RA.kZ (λw5 hH=>?_);simp only[RA.RP,cx];replace hH:=LH hH;go_wp2;go_roundw
   case rel=>refine⟨k+1,by omega,by go_num,v',?_⟩;show mQ _ _ _ _ _ _ _;rw[py,bW.o];exact hH.o
   case measure=>simp[intOf];omega
  ·have dc:k=8:=om;subst dc;go_wp2;rw[show ((8:Nat):Int)=8 from rfl]
   go_loopw [8] (λi wr=>∃ m:Nat,m<=52/\i=iw (8+m:Nat)/\∃ kv',Hd (mQ w n p tb kv' (oI key 8 m) wr))
    (λi _=>8+52 - (intOf i).toNat)
   case atStart=>exact⟨0,by omega,rfl,_,l.o⟩
   case round=>
    clear l y cu hk;obtain⟨m,hm,rfl,dp,l⟩:=hrel;have y:=Dr wr
    replace y:=LH y;obtain⟨I,hI⟩:=Ex (8+m);rw[<-hI];by_cases cu:m<52
    ·obtain⟨M,N⟩:=Ex (oI key 8 m);rw[<-N] at l;have a7:M.length=I:=by rw[N,tT,hI]
     have L:=l.o.own;rw[a7] at L;obtain⟨f,cp,rfl,ds,dT⟩:=kz L om;have an:=(L.lt f rfl).2;have cm:=L.cells (g:=f) rfl
     have G:∀ j,j<I->wr.cell? (iu f j)=some (.int .u32 (M.getD j 0).toNat):=by intro j hj;have h:=cm j _ (yj M j om);rw[bJ,aw] at h;exact h
     clear L cm;replace N:=LH N;obtain⟨J,hJ⟩:=Ex (I - 1);have e8:(I:Int) - 1=J:=om;have cV:J<I:=om;obtain⟨X,hX⟩:=Ex ((M.getD J 0).toNat);have bC:=G J cV;rw[<-hX] at bC;have bz:X<4294967296:=hX ▸ eU _;obtain⟨Y,hY⟩:=Ex ((M.getD m 0).toNat);have U:=G m om;rw[<-hY] at U;have ca:Y<4294967296:=hY ▸ eU _;clear G
     have bl:∀ V,V=pP 8 I X->UInt32.ofNat (Y ^^^ V)=UInt32.ofNat (vi M 8 I):=by intro V O;rw[vi,show I - 8=m by omega,<-hJ,<-hX,<-hY,<-O]
     replace bl:=LH bl;have T:wr.cell? (iu p 1)=some (ir f I cp):=by rw[cell_of l.o.box];rfl
     have bD:=dC l.o.box;have e7:I<100:=om;have e6:8<=I:=om;have bR:(I:Int) - 8=m:=om;have er:m<I:=om;revert hI a7 hJ hX hY;refine H5 ?_;intro hI a7 hJ hX hY;obtain⟨r,hr⟩:=Ex (I % 8);have cc:(I:Int) % 8=r:=om;have cA:(I:Int).tmod 8=r:=by rw[bZ om];exact cc
     obtain⟨Q,hQ⟩:=Ex (I / 8);have cW:(I:Int) / 8=Q:=om;have eb:(I:Int).tdiv 8=Q:=by rw[el om];exact cW
     have cX:Q<200:=om;replace hQ:=LH hQ;replace hr:=LH hr;by_cases dg:r=0
     ·subst dg;have cY:=@zO Q;obtain⟨RD,ay⟩:=Ex (round Q);rw[<-ay] at cY;obtain⟨RS,bp⟩:=Ex (RD*16777216);obtain⟨SW,b3⟩:=Ex (rI (mB X 8));have cl:SW<4294967296:=b3 ▸ xX;obtain⟨V,O⟩:=Ex (SW ^^^ RS);have b4:V<4294967296:=O ▸ oo cl om;have gb:bits .xor .u32 (SW:Int) (RS:Int)=(V:Int):=by rw[bI SW RS om om,O]
      have F:V=pP 8 I X:=by rw[pP,ak hr.o.symm,<-hQ.o,<-ay,<-bp,<-b3,O]
      revert ay bp b3 O F;refine H5 ?_;intro ay bp b3 O F;go_wp2;refine RA.rt (aA No) [1,4,4,1,1,1,4,1,1,1,1] [] (λ_=>True) trivial (λ_=>aA.refl _ _) (λ_ _ _ h k=>h.trans k) (h:=?_);intro cx
      repeat refine RA.qq ?_
      refine RA.kc (P:=prog) [_,_] (.int .u32 (mB X 8)) (hr:=λc hp hH=>(qg X 8 8 bz om (.inl rfl) c).mono (by rintro e t ⟨rfl,rfl⟩;exact⟨rfl,aA.refl _ _,trivial⟩)) (hn:=?_);refine RA.kc (P:=prog) [_] (.int .u32 SW) (hr:=λc hp hH=>(xY (mB X 8) (qf bz) c).mono (by rintro e t ⟨rfl,h2⟩;exact⟨by rw[b3.o],aA.dD h2 _,trivial⟩)) (hn:=?_)
      repeat refine RA.qq ?_
      refine RA.vw prog (iw Q) (h:=?_);refine RA.kc (P:=prog) [_] (iy RD) (hr:=λc hp hH=>(xW Q cX c).mono (by rintro e t ⟨rfl,rfl⟩;exact⟨by rw[ay.o],aA.refl _ _,trivial⟩)) (hn:=?_);refine RA.vw prog (.int .u32 RD) (h:=?_);refine RA.vk prog (.int .u32 RS) (hr:=λw hp=>by (try go_simp);rw[bp.o,bG];omega) (h:=?_);refine RA.vk prog (.int .u32 V) (h:=?_)
      repeat refine RA.qq ?_
      refine RA.RA.done rfl (λwx hR hF hH=>?_);clear hF hH;simp only[RA.RP,cx];have u:=LH (aA.no (y.o _ hR));have E:=LH (l.o.after u.o);clear hR;have d:wx.cell? (iu p 1)=some (ir f I cp):=by rw[cell_of E.o.box];rfl
      have z:=dC E.o.box;have ba:f<wx.heap.size:=aH an u.o.size;have K:=LH ((az (w:=wr) (a:=iu f m) (u.o.block f an)).trans U);have b:=Dr wx
      replace b:=LH b;replace d:=LH d;obtain⟨Z,H⟩:=Ex (Y ^^^ V);have cU:bits .xor .u32 (Y:Int) (V:Int)=(Z:Int):=by rw[bI Y V om om,H]
      have b5:Z<4294967296:=H ▸ oo ca b4;replace H:=LH H;clear bC U T;go_wp2;refine RA.rt (aA No) [5,1,1,1,1,1,1,1,1,1,1,1,1,1,1,1,3,6,5,5,7] [17,20] (λ_=>True) trivial (λ_=>aA.refl _ _) (λ_ _ _ h k=>h.trans k) (h:=?_);intro cx;refine RA.pq ?_
      repeat refine RA.qq ?_
      refine RA.fk prog p 1 (h:=?_);refine RA.lk prog (ir f I cp) (hc:=λc hp=>by exact ((b.o _ hp.1).cell (p:=iu p 1) z id).trans d.o) (h:=?_)
      repeat refine RA.qq ?_
      refine RA.fk prog p 1 (h:=?_);refine RA.lk prog (ir f I cp) (hc:=λc hp=>by exact ((b.o _ hp.1).cell (p:=iu p 1) z id).trans d.o) (h:=?_)
      repeat refine RA.qq ?_
      refine RA.si (r:=(m:Int)) (he:=bR) (h:=?_);refine RA.ik prog f m (h:=?_);refine RA.lk prog (.int .u32 Y) (hc:=λc hp=>by exact ((b.o _ hp.1).cell (p:=iu f m) ba id).trans K.o) (h:=?_)
      repeat refine RA.qq ?_
      refine RA.vk prog (.int .u32 Z) (h:=?_)
      refine RA.bq (λx c=>Cells c (λ_=>True) x 1 1 [.int .u32 Z]) (hs:=λ_ _ _ h k=>k.ki h (λ_ _ _=>id)) (he:=λ_ _ _ _ _=>trivial) (hr:=λc hp _=>by refine⟨ir c.heap.size 1 1,c.alloc (.cells #[.int .u32 Z] 244),?_,(aA.refl _ _).alloc _,mC c #[.int .u32 Z] 244 1 1 rfl mx,trivial⟩;show (execOp _ _).run prog c=_;go_simp) (hn:=λx=>?_)
      refine RA.oH (λv' t=>sl w n p tb (ir f I cp) M Z v' t) (hr:=λc a1 _=>by have hp:=a1.first kr;obtain⟨v',t,h1,h2⟩:=E.o.push (b.o _ hp.1) b5 (hp.fact 0 rfl kr) (by rw[a7.o];omega);exact⟨v',t,RA.nS rf rf h1,h2⟩) (hn:=λv'=>?_)
      refine RA.pq ?_;refine RA.pk prog p 1 (h:=?_)
      refine RA.lr (λw5=>mQ w n p tb v' (M++[UInt32.ofNat Z]) w5) (hr:=λt _ hH=>by obtain⟨f1,f2,f3,g2,ax,rfl⟩:=hH;refine⟨_,RA.kL rf rf (w':=t.setCell (iu p 1) (ir g2 (M.length+1) ax)) ?_,f3⟩;clear f3;show (Instr.storeAt _ _ _).run prog t=_;go_simp) (hn:=?_)
      refine RA.RA.kZ (λw5 hH=>?_);simp only[RA.RP,cx];replace hH:=LH hH;go_wp2;go_roundw
      case rel=>refine⟨m+1,by omega,by have:=hI.o;go_num,v',?_⟩;show mQ _ _ _ _ _ _ _;rw[oI,<-N.o,<-hI.o,<-bl.o V F.o,<-H.o];exact hH.o
      case measure=>have:=hI.o;simp[intOf];omega
     ·by_cases dn:r=4
      ·skip;subst dn;replace cc:(I:Int) % 8=4:=cc;replace cA:(I:Int).tmod 8=4:=cA;obtain⟨V,O⟩:=Ex (rI X);have b4:V<4294967296:=O ▸ xX;have F:V=pP 8 I X:=by rw[pP,ah (by have:=hr.o;omega),ak ⟨by omega,hr.o.symm⟩,O]
       replace F:=LH F;replace O:=LH O
       go_wp2_with fail
       refine (xY X bz wr).mono ?_;rintro e wx ⟨rfl,u⟩;rw[<-O.o];have u:=LH u;have E:=LH (l.o.after u.o);have d:wx.cell? (iu p 1)=some (ir f I cp):=by rw[cell_of E.o.box];rfl
       have z:=dC E.o.box;have ba:f<wx.heap.size:=aH an u.o.size;have K:=LH ((az (w:=wr) (a:=iu f m) (u.o.block f an)).trans U);have b:=Dr wx
       replace b:=LH b;replace d:=LH d;obtain⟨Z,H⟩:=Ex (Y ^^^ V);have cU:bits .xor .u32 (Y:Int) (V:Int)=(Z:Int):=by rw[bI Y V om om,H]
       have b5:Z<4294967296:=H ▸ oo ca b4;replace H:=LH H;clear bC U T;go_wp2;refine RA.rt (aA No) [5,1,1,1,1,1,1,1,1,1,1,1,1,1,1,1,3,6,5,5,7] [17,20] (λ_=>True) trivial (λ_=>aA.refl _ _) (λ_ _ _ h k=>h.trans k) (h:=?_);intro cx;refine RA.pq ?_
       repeat refine RA.qq ?_
       refine RA.fk prog p 1 (h:=?_);refine RA.lk prog (ir f I cp) (hc:=λc hp=>by exact ((b.o _ hp.1).cell (p:=iu p 1) z id).trans d.o) (h:=?_)
       repeat refine RA.qq ?_
       refine RA.fk prog p 1 (h:=?_);refine RA.lk prog (ir f I cp) (hc:=λc hp=>by exact ((b.o _ hp.1).cell (p:=iu p 1) z id).trans d.o) (h:=?_)
       repeat refine RA.qq ?_
       refine RA.si (r:=(m:Int)) (he:=bR) (h:=?_);refine RA.ik prog f m (h:=?_);refine RA.lk prog (.int .u32 Y) (hc:=λc hp=>by exact ((b.o _ hp.1).cell (p:=iu f m) ba id).trans K.o) (h:=?_)
       repeat refine RA.qq ?_
       refine RA.vk prog (.int .u32 Z) (h:=?_)
       refine RA.bq (λx c=>Cells c (λ_=>True) x 1 1 [.int .u32 Z]) (hs:=λ_ _ _ h k=>k.ki h (λ_ _ _=>id)) (he:=λ_ _ _ _ _=>trivial) (hr:=λc hp _=>by refine⟨ir c.heap.size 1 1,c.alloc (.cells #[.int .u32 Z] 244),?_,(aA.refl _ _).alloc _,mC c #[.int .u32 Z] 244 1 1 rfl mx,trivial⟩;show (execOp _ _).run prog c=_;go_simp) (hn:=λx=>?_)
       refine RA.oH (λv' t=>sl w n p tb (ir f I cp) M Z v' t) (hr:=λc a1 _=>by have hp:=a1.first kr;obtain⟨v',t,h1,h2⟩:=E.o.push (b.o _ hp.1) b5 (hp.fact 0 rfl kr) (by rw[a7.o];omega);exact⟨v',t,RA.nS rf rf h1,h2⟩) (hn:=λv'=>?_)
       refine RA.pq ?_;refine RA.pk prog p 1 (h:=?_)
       refine RA.lr (λw5=>mQ w n p tb v' (M++[UInt32.ofNat Z]) w5) (hr:=λt _ hH=>by obtain⟨f1,f2,f3,g2,ax,rfl⟩:=hH;refine⟨_,RA.kL rf rf (w':=t.setCell (iu p 1) (ir g2 (M.length+1) ax)) ?_,f3⟩;clear f3;show (Instr.storeAt _ _ _).run prog t=_;go_simp) (hn:=?_)
       refine RA.RA.kZ (λw5 hH=>?_);simp only[RA.RP,cx];replace hH:=LH hH;go_wp2;go_roundw
       case rel=>refine⟨m+1,by omega,by have:=hI.o;go_num,v',?_⟩;show mQ _ _ _ _ _ _ _;rw[oI,<-N.o,<-hI.o,<-bl.o V F.o,<-H.o];exact hH.o
       case measure=>have:=hI.o;simp[intOf];omega
      ·skip;obtain⟨V,O⟩:=Ex X;subst O;have b4:=bz;have F:V=pP 8 I V:=by rw[pP,ah (by have:=hr.o;omega),ah (by have:=hr.o;omega)]
       replace F:=LH F;have e0:((r:Int) == 0)=false:=by simp;omega
       have e4:((r:Int) == 4)=false:=by simp;omega
       go_wp2;obtain⟨wx,cj⟩:=Ex wr;have u:=LH (show Below wr.heap.size wr wx from cj ▸ ag _ _);have E:=LH (l.o.after u.o);rw[<-cj];clear cj;have d:wx.cell? (iu p 1)=some (ir f I cp):=by rw[cell_of E.o.box];rfl
       have z:=dC E.o.box;have ba:f<wx.heap.size:=aH an u.o.size;have K:=LH ((az (w:=wr) (a:=iu f m) (u.o.block f an)).trans U);have b:=Dr wx
       replace b:=LH b;replace d:=LH d;obtain⟨Z,H⟩:=Ex (Y ^^^ V);have cU:bits .xor .u32 (Y:Int) (V:Int)=(Z:Int):=by rw[bI Y V om om,H]
       have b5:Z<4294967296:=H ▸ oo ca b4;replace H:=LH H;clear bC U T;go_wp2;refine RA.rt (aA No) [5,1,1,1,1,1,1,1,1,1,1,1,1,1,1,1,3,6,5,5,7] [17,20] (λ_=>True) trivial (λ_=>aA.refl _ _) (λ_ _ _ h k=>h.trans k) (h:=?_);intro cx;refine RA.pq ?_
       repeat refine RA.qq ?_
       refine RA.fk prog p 1 (h:=?_);refine RA.lk prog (ir f I cp) (hc:=λc hp=>by exact ((b.o _ hp.1).cell (p:=iu p 1) z id).trans d.o) (h:=?_)
       repeat refine RA.qq ?_
       refine RA.fk prog p 1 (h:=?_);refine RA.lk prog (ir f I cp) (hc:=λc hp=>by exact ((b.o _ hp.1).cell (p:=iu p 1) z id).trans d.o) (h:=?_)
       repeat refine RA.qq ?_
       refine RA.si (r:=(m:Int)) (he:=bR) (h:=?_);refine RA.ik prog f m (h:=?_);refine RA.lk prog (.int .u32 Y) (hc:=λc hp=>by exact ((b.o _ hp.1).cell (p:=iu f m) ba id).trans K.o) (h:=?_)
       repeat refine RA.qq ?_
       refine RA.vk prog (.int .u32 Z) (h:=?_)
       refine RA.bq (λx c=>Cells c (λ_=>True) x 1 1 [.int .u32 Z]) (hs:=λ_ _ _ h k=>k.ki h (λ_ _ _=>id)) (he:=λ_ _ _ _ _=>trivial) (hr:=λc hp _=>by refine⟨ir c.heap.size 1 1,c.alloc (.cells #[.int .u32 Z] 244),?_,(aA.refl _ _).alloc _,mC c #[.int .u32 Z] 244 1 1 rfl mx,trivial⟩;show (execOp _ _).run prog c=_;go_simp) (hn:=λx=>?_)
       refine RA.oH (λv' t=>sl w n p tb (ir f I cp) M Z v' t) (hr:=λc a1 _=>by have hp:=a1.first kr;obtain⟨v',t,h1,h2⟩:=E.o.push (b.o _ hp.1) b5 (hp.fact 0 rfl kr) (by rw[a7.o];omega);exact⟨v',t,RA.nS rf rf h1,h2⟩) (hn:=λv'=>?_)
       refine RA.pq ?_;refine RA.pk prog p 1 (h:=?_)
       refine RA.lr (λw5=>mQ w n p tb v' (M++[UInt32.ofNat Z]) w5) (hr:=λt _ hH=>by obtain⟨f1,f2,f3,g2,ax,rfl⟩:=hH;refine⟨_,RA.kL rf rf (w':=t.setCell (iu p 1) (ir g2 (M.length+1) ax)) ?_,f3⟩;clear f3;show (Instr.storeAt _ _ _).run prog t=_;go_simp) (hn:=?_)
       refine RA.RA.kZ (λw5 hH=>?_);simp only[RA.RP,cx];replace hH:=LH hH;go_wp2;go_roundw
       case rel=>refine⟨m+1,by omega,by have:=hI.o;go_num,v',?_⟩;show mQ _ _ _ _ _ _ _;rw[oI,<-N.o,<-hI.o,<-bl.o V F.o,<-H.o];exact hH.o
       case measure=>have:=hI.o;simp[intOf];omega
    ·have dd:m=52:=om;subst dd;go_wp2;go_ret2;have a8:=l.o;refine⟨p,tb,dp,rfl,?_,HN.o ▸ a8.below⟩;rw[Fi hl.o];refine⟨a8.box,HN.o ▸ a8.hp,a8.rM,HN.o ▸ a8.ht,by rw[tT];omega,(Cells.own a8.own).mono (λk _ hk=>HN.o ▸ hk.2)⟩
end Go.Proofs.YthmcbgidehjlbaaGreat.Fd
namespace Go.Proofs.YthmcbgidehjlbaaGreat.Fd
open Go Go.RowKit K
def Fm (t:ByteArray×Nat×Nat):List Value:=[.string t.1,iw t.2.1,iw t.2.2]
structure Fo (w:World) (F:Nat->Prop) (p:Nat) (bv tv:Value) (b:iz) (a:Nat) (ts:List (ByteArray×Nat×Nat)):Prop where
 box:w.heap[p]?=some (.cells #[bv,iw a,tv] 130 (0,0))
 own:F p
 bytes:Bytes w F bv b
 mL:b.length<=1000000
 within:a<=b.length
 Me:Cells w F tv ts.length 3 (ts.flatMap Fm)
 count:ts.length<=1000000
end Go.Proofs.YthmcbgidehjlbaaGreat.Fd
namespace Go.Proofs.YthmcbgidehjlbaaGreat.P
open _root_.Go.Proofs.Tryz
open Go Go.RowKit K
abbrev Ar:=Int×Int
def mm (a:Ar):Value:=.agg #[iw a.1,iw a.2]
def tq (a:Ar):Bool:=decide (0<=a.1/\a.1<=65536/\48<=a.2/\a.2<=65536)
def ur (a:Ar):Ar:=if tq a then (a.1,a.2 - a.2 / 2) else (0,0)
def uu (a:Ar):Ar:=if tq a then (a.1+(a.2 - a.2 / 2),a.2 / 2) else (0,0)
theorem Hj (a:Ar) (w:World):Calls prog 29 #[mm a] w λe w'=>e=.returned (.tuple #[mm (ur a),mm (uu a),.bool (tq a)])/\Below w.heap.size w w':=by
 obtain⟨x,y⟩:=a;unfold mm;cases hb:tq (x,y) with
 | false=>
  have b:=LH hb;have c:x<0\/65536<x\/y<48\/65536<y:=by simp[tq] at hb;omega
  clear hb;rcases (by omega:x<0\/(¬ x<0/\65536<x)\/(¬ x<0/\¬ 65536<x/\y<48)\/(¬ x<0/\¬ 65536<x/\¬ y<48/\65536<y)) with h1|⟨h1,h2⟩|⟨h1,h2,h3⟩|⟨h1,h2,h3,h4⟩
  all_goals
   clear c;go_enter func29,ntmps29;go_wp2
   go_region
   all_goals
    go_wp2;refine aI (v:=.tuple #[mm (ur (x,y)),mm (uu (x,y)),.bool false]) ?_ rfl ?_
    ·simp[results,results29,go_sem,mm,ur,uu,b.o]
    ·refine⟨rfl,?_⟩
     repeat (first|exact ag _ _|assumption|refine dQ ?_|refine dR ?_ (by first|exact ae _|(simp;done)|(simp;omega)) _|refine dS ?_ (by first|exact ae _|(simp;done)|(simp;omega)) _)
 | true=>
  have b:=LH hb;have c:0<=x/\x<=65536/\48<=y/\y<=65536:=by simpa [tq] using hb
  clear hb;go_enter func29,ntmps29;go_wp2
  go_region
  all_goals
   go_wp2;refine aI (v:=.tuple #[mm (ur (x,y)),mm (uu (x,y)),.bool true]) ?_ rfl ?_
   ·simp[results,results29,go_sem,mm,ur,uu,b.o]
   ·refine⟨rfl,?_⟩
    repeat (first|exact ag _ _|assumption|refine dQ ?_|refine dR ?_ (by first|exact ae _|(simp;done)|(simp;omega)) _|refine dS ?_ (by first|exact ae _|(simp;done)|(simp;omega)) _)
def rS (a:Ar):Bool:=decide (0<=a.1/\a.1<=1048576/\1<=a.2/\a.2<=1048576)
theorem Hk (a:Ar) (w:World):Calls prog 57 #[mm a] w λe w'=>e=.returned (.bool (rS a))/\Below w.heap.size w w':=by
 obtain⟨x,y⟩:=a;unfold mm;go_enter func57,ntmps57;go_wp2
 all_goals go_ret
 all_goals exact⟨pJ (by simp[rS, *];try omega),(ag _ _).alloc (ae _) _⟩
theorem vA {W w1:World}(hb:Below W.heap.size W w1):(∀ b o,b<W.heap.size->w1.cell? (iu b o)=W.cell? (iu b o))/\(∀ b o,b<W.heap.size->w1.frozen? (iu b o)=W.frozen? (iu b o)):=⟨λb o h=>hb.cell (p:=iu b o) h,λb o h=>hb.frozen (p:=iu b o) h⟩
def ql (a:Ar) (f c:Int):Bool:=rS a && decide (0<=f/\48<=c/\c<=a.2/\f<=a.2 - c)
def ru (a:Ar) (f c:Int):Ar:=if ql a f c then (a.1+f,c) else (0,0)
theorem Hl (a:Ar) (f c:Int) (w:World):Calls prog 30 #[mm a,iw f,iw c] w λe w'=>e=.returned (.tuple #[mm (ru a f c),.bool (ql a f c)])/\Below w.heap.size w w':=by
 obtain⟨x,y⟩:=a;have k:=λu=>LH (Hk (x,y) u)
 unfold mm at*;cases hb:ql (x,y) f c with
 | true=>
  have j:=LH hb;have m:(0<=x/\x<=1048576/\1<=y/\y<=1048576)/\0<=f/\48<=c/\c<=y/\f<=y - c:=by simpa [ql,rS] using hb
  have d:=LH (show rS (x,y)=true by simp[rS];omega);clear hb;go_enter func30,ntmps30
  go_wp2_with fail
  refine (k _).o.mono ?_;rw[d.o];rintro e i ⟨rfl,hb⟩;obtain⟨hc,h⟩:=vA hb;have n:w.heap.size+1<i.heap.size:=by have:=hb.size;simp at this;omega
  have b:=LH (((((ag _ w).alloc (ae _) (.cells #[iw x,iw y] 27)).alloc sm (.cells #[iw 0,iw 0] 27))).trans (hb.mono (by simp;omega)));clear hb;go_wp2;refine aI (v:=.tuple #[mm (x+f,c),.bool true]) ?_ rfl ?_
  ·simp[results,results30,go_sem,hc];rfl
  ·refine⟨by simp[ru,j.o,mm],?_⟩;have g:=b.o
   repeat (first|exact ag _ _|assumption|refine dQ ?_|refine dR ?_ (by first|exact ae _|(simp;done)|(simp;omega)) _|refine dS ?_ (by first|exact ae _|(simp;done)|(simp;omega)) _)
 | false=>
  have j:=LH hb;cases hk:rS (x,y) with
  | false=>
   have d:=LH hk;clear hb hk;go_enter func30,ntmps30
   go_wp2_with fail
   refine (k _).o.mono ?_;rw[d.o];rintro e i ⟨rfl,hb⟩;obtain⟨hc,h⟩:=vA hb;have n:w.heap.size+1<i.heap.size:=by have:=hb.size;simp at this;omega
   have b:=LH (((((ag _ w).alloc (ae _) (.cells #[iw x,iw y] 27)).alloc sm (.cells #[iw 0,iw 0] 27))).trans (hb.mono (by simp;omega)));clear hb;go_wp2;refine aI (v:=.tuple #[mm (0,0),.bool false]) ?_ rfl ?_
   ·simp[results,results30,go_sem,hc];rfl
   ·refine⟨by simp[ru,j.o,mm],?_⟩;have g:=b.o
    repeat (first|exact ag _ _|assumption|refine dQ ?_|refine dR ?_ (by first|exact ae _|(simp;done)|(simp;omega)) _|refine dS ?_ (by first|exact ae _|(simp;done)|(simp;omega)) _)
  | true=>
   have d:=LH hk;have p:0<=x/\x<=1048576/\1<=y/\y<=1048576:=by simpa [rS] using hk
   have m:¬ (0<=f/\48<=c/\c<=y/\f<=y - c):=by simp[ql,hk] at hb;omega
   clear hb hk;rcases (by omega:f<0\/(¬ f<0/\c<48)\/(¬ f<0/\¬ c<48/\y<c)\/(¬ f<0/\¬ c<48/\¬ y<c/\y - c<f)) with l|⟨l,h5⟩|⟨l,h5,h6⟩|⟨l,h5,h6,h7⟩
   all_goals
    clear m;go_enter func30,ntmps30
    go_wp2_with fail
    refine (k _).o.mono ?_;rw[d.o];rintro e i ⟨rfl,hb⟩;obtain⟨hc,h⟩:=vA hb;have n:w.heap.size+1<i.heap.size:=by have:=hb.size;simp at this;omega
    have b:=LH (((((ag _ w).alloc (ae _) (.cells #[iw x,iw y] 27)).alloc sm (.cells #[iw 0,iw 0] 27))).trans (hb.mono (by simp;omega)));clear hb;go_wp2;refine aI (v:=.tuple #[mm (0,0),.bool false]) ?_ rfl ?_
    ·simp[results,results30,go_sem,hc];rfl
    ·refine⟨by simp[ru,j.o,mm],?_⟩;have g:=b.o
     repeat (first|exact ag _ _|assumption|refine dQ ?_|refine dR ?_ (by first|exact ae _|(simp;done)|(simp;omega)) _|refine dS ?_ (by first|exact ae _|(simp;done)|(simp;omega)) _)
def hasB (a:Ar) (t:Int):Bool:=decide (0<a.2/\a.1<=t/\t<a.1+a.2)
theorem vB (a:Ar) (t:Int) (h:0<=a.1/\a.1<=1000000000/\a.2<=1000000000/\0<=t/\t<=1000000000) (w:World):Calls prog 69 #[mm a,iw t] w λe w'=>e=.returned (.bool (hasB a t))/\Below w.heap.size w w':=by
 obtain⟨x,y⟩:=a;simp only at h;unfold mm;by_cases h1:0<y
 ·by_cases d:x<=t
  ·have c:(hasB (x,y) t)=decide (t - x<y):=by rw[eI];simp[hasB];omega
   have b:=LH c;clear c;go_enter func69,ntmps69;go_wp2;go_ret;refine⟨pJ ?_,?_⟩
   ·rw[b.o]
   ·repeat (first|exact ag _ _|assumption|refine dQ ?_|refine dR ?_ (by first|exact ae _|(simp;done)|(simp;omega)) _|refine dS ?_ (by first|exact ae _|(simp;done)|(simp;omega)) _)
  ·have b:=LH (show hasB (x,y) t=false by simp[hasB];omega);go_enter func69,ntmps69;go_wp2;go_ret;refine⟨pJ ?_,?_⟩
   ·rw[b.o]
   ·repeat (first|exact ag _ _|assumption|refine dQ ?_|refine dR ?_ (by first|exact ae _|(simp;done)|(simp;omega)) _|refine dS ?_ (by first|exact ae _|(simp;done)|(simp;omega)) _)
 ·have b:=LH (show hasB (x,y) t=false by simp[hasB];omega);go_enter func69,ntmps69;go_wp2;go_ret;refine⟨pJ ?_,?_⟩
  ·rw[b.o]
  ·repeat (first|exact ag _ _|assumption|refine dQ ?_|refine dR ?_ (by first|exact ae _|(simp;done)|(simp;omega)) _|refine dS ?_ (by first|exact ae _|(simp;done)|(simp;omega)) _)
def o8 (a b:Ar):Bool:=(decide (0<b.2) && hasB a b.1) || (decide (0<a.2) && hasB b a.1)
theorem Hm (a b:Ar) (h:0<=a.1/\a.1<=1000000000/\a.2<=1000000000/\0<=b.1/\b.1<=1000000000/\b.2<=1000000000) (w:World):Calls prog 47 #[mm a,mm b] w λe w'=>e=.returned (.bool (o8 a b))/\Below w.heap.size w w':=by
 have H1:=λu=>LH (vB a b.1 om u)
 have m:=λu=>LH (vB b a.1 om u)
 have g:Hd (o8 a b=((decide (0<b.2) && hasB a b.1) || (decide (0<a.2) && hasB b a.1))):=rfl;generalize o8 a b=o at*;generalize hasB a b.1=p at*;generalize hasB b a.1=q at*;obtain⟨x,y⟩:=a;obtain⟨u,v⟩:=b;unfold mm at*;simp only at H1 m g;clear h;have j:Below w.heap.size w ((w.alloc (.cells #[iw x,iw y] 27)).alloc (.cells #[iw u,iw v] 27)):=((ag _ w).alloc (ae _) _).alloc sm _;have d:=LH j;clear j;by_cases h1:0<v
 ·cases p with
  | true=>
   have f:=LH (show o=true by rw[g.o];simp[h1]);go_enter func47,ntmps47
   go_wp2_with fail
   refine (H1 _).o.mono ?_;rintro e l ⟨rfl,hb⟩;have c:=d.o.trans (hb.mono (by simp;omega));clear hb
   go_wp2_with fail
   go_ret;exact⟨pJ f.o.symm,c⟩
  | false=>
   by_cases i:0<y
   ·have f:=LH (show o=q by rw[g.o];simp[h1,i]);go_enter func47,ntmps47
    go_wp2_with fail
    refine (H1 _).o.mono ?_;rintro e l ⟨rfl,hb⟩;obtain⟨hc,k⟩:=vA hb;have r:w.heap.size+1<l.heap.size:=by have:=hb.size;simp at this;omega
    have n:=LH (d.o.trans (hb.mono (by simp;omega)));clear hb
    go_wp2_with fail
    refine (m _).o.mono ?_;rintro e w2 ⟨rfl,hb⟩;have c:=n.o.trans (hb.mono om);clear hb hc k
    go_wp2_with fail
    go_ret;exact⟨pJ f.o.symm,c⟩
   ·have f:=LH (show o=false by rw[g.o];simp[h1,i]);go_enter func47,ntmps47
    go_wp2_with fail
    refine (H1 _).o.mono ?_;rintro e l ⟨rfl,hb⟩;obtain⟨hc,k⟩:=vA hb;have r:w.heap.size+1<l.heap.size:=by have:=hb.size;simp at this;omega
    have n:=LH (d.o.trans (hb.mono (by simp;omega)));clear hb
    go_wp2_with fail
    go_ret;exact⟨pJ f.o.symm,n.o⟩
 ·by_cases i:0<y
  ·have f:=LH (show o=q by rw[g.o];simp[h1,i]);go_enter func47,ntmps47
   go_wp2_with fail
   refine (m _).o.mono ?_;rintro e w2 ⟨rfl,hb⟩;have c:=d.o.trans (hb.mono (by simp;omega));clear hb
   go_wp2_with fail
   go_ret;exact⟨pJ f.o.symm,c⟩
  ·have f:=LH (show o=false by rw[g.o];simp[h1,i]);go_enter func47,ntmps47
   go_wp2_with fail
   go_ret;exact⟨pJ f.o.symm,d.o⟩
variable {w w1:World}{b:Nat}{x y:Int}
def ot (w:World) (b:Nat) (x y:Int):Prop:=w.heap[b]?=some (.cells #[iw x,iw y] 27 (0,0))
theorem Hn (w:World) (x y:Int):ot (w.alloc (.cells #[iw x,iw y] 27)) w.heap.size x y:=aj _ _
theorem ot.dB (h:ot w b x y) (hb:Below w.heap.size w w1):ot w1 b x y:=(hb.block b (dC h)).trans h
theorem ot.alloc {w:World}{b:Nat}{x y:Int}(h:ot w b x y) (o:Obj):ot (w.alloc o) b x y:=(aB _ _ _ (dC h)).trans h
theorem ot.c0 (h:ot w b x y):w.cell? (iu b 0)=some (iw x):=cell_of h 0
theorem ot.c1 (h:ot w b x y):w.cell? (iu b 1)=some (iw y):=cell_of h 1
theorem ot.lt (h:ot w b x y):b<w.heap.size:=dC h
theorem ot.ki (h:ot w b x y) (hb:aA No w w1):ot w1 b x y:=(hb.block b (dC h) id).trans h
theorem ot.ld (h:ot w b x y):(Instr.loadAt 27 (iq b)).run prog w=.ok (.agg #[iw x,iw y]) w:=by have a:=h.c0;have h1:=h.c1;go_simp
theorem Ho {f c g d:Int}{b:Bool}(h1:ur (x,y)=(f,c)) (h2:uu (x,y)=(g,d)) (h3:tq (x,y)=b) (w:World):Calls prog 29 #[.agg #[iw x,iw y]] w λe w'=>e=.returned (.tuple #[.agg #[iw f,iw c],.agg #[iw g,iw d],.bool b])/\Below w.heap.size w w':=by have h:=Hj (x,y) w;rw[h1,h2,h3] at h;exact h
theorem BN {p q f c:Int}{b:Bool}(h1:ru (x,y) p q=(f,c)) (h2:ql (x,y) p q=b) (w:World):Calls prog 30 #[.agg #[iw x,iw y],iw p,iw q] w λe w'=>e=.returned (.tuple #[.agg #[iw f,iw c],.bool b])/\Below w.heap.size w w':=by have h:=Hl (x,y) p q w;rw[h1,h2] at h;exact h
theorem Hp {u v:Int}{b:Bool}(h:0<=x/\x<=1000000000/\y<=1000000000/\0<=u/\u<=1000000000/\v<=1000000000) (h2:o8 (x,y) (u,v)=b) (w:World):Calls prog 47 #[.agg #[iw x,iw y],.agg #[iw u,iw v]] w λe w'=>e=.returned (.bool b)/\Below w.heap.size w w':=by have h:=Hm (x,y) (u,v) h w;rw[h2] at h;exact h
end Go.Proofs.YthmcbgidehjlbaaGreat.P
namespace Go.Proofs.YthmcbgidehjlbaaGreat.D
open _root_.Go.Proofs.Tryz
open Go Go.RowKit K
variable {w:World}{S F:Nat->Prop}{p:Nat}
structure Dk where
 qJ:Bool
 left:Int
 oO:Bool
 sure:iz
 kC:List (Nat×iz)
def Dk.size (d:Dk):Nat:=d.sure.length / 64
def Dk.lO (d:Dk):Dk:={ d with oO:=d.oO || d.qJ && d.left == 0,left:=if d.qJ && !(d.oO || d.qJ && d.left == 0) then d.left - 1 else d.left }
def putCells (p:Nat×iz) (v:Value):List Value:=[iw p.1,v]
def ns (w:World) (S:Nat->Prop):List (Nat×iz)->List Value->Prop
 | [],cs=>cs=[]
 | p::ps,cs=>∃ v r,cs=iw p.1::v::r/\Bytes w S v p.2/\p.2.length=64/\ns w S ps r
theorem ns.dB {w':World}(hs:w.heap.size<=w'.heap.size) (hk:∀ b,S b->b<w.heap.size->w'.heap[b]?=w.heap[b]?):∀ {ps cs},ns w S ps cs->ns w' S ps cs:=by
 intro ps
 induction ps with
 | nil=>intro cs h;exact h
 | cons p ps ih=>rintro cs ⟨v,r,h1,a,c,d⟩;exact⟨v,r,h1,Cells.dB a hs hk,c,ih d⟩
theorem ns.mono {S':Nat->Prop}(hs:∀ b,b<w.heap.size->S b->S' b):∀ {ps cs},ns w S ps cs->ns w S' ps cs:=by
 intro ps
 induction ps with
 | nil=>intro cs h;exact h
 | cons p ps ih=>rintro cs ⟨v,r,h1,a,c,d⟩;exact⟨v,r,h1,a.mono hs,c,ih d⟩
theorem ns.length:∀ {ps cs},ns w S ps cs->cs.length=ps.length*2:=by
 intro ps
 induction ps with
 | nil=>rintro cs rfl;rfl
 | cons p ps ih=>rintro cs ⟨v,r,rfl,_,_,a⟩;simp[ih a];omega
theorem ns.snoc {p:Nat×iz}{v:Value}(hb:Bytes w S v p.2) (hl:p.2.length=64):∀ {ps cs},ns w S ps cs->ns w S (ps++[p]) (cs++[iw p.1,v]):=by
 intro ps
 induction ps with
 | nil=>rintro cs rfl;exact⟨v,[],rfl,hb,hl,rfl⟩
 | cons q ps ih=>rintro cs ⟨v',r,rfl,a,b,c⟩;exact⟨v',r++[iw p.1,v],rfl,a,b,ih c⟩
theorem ns.one:∀ {ps cs},ns w S ps cs->∀ u ∈ cs,u.oneCell'=true:=by
 intro ps
 induction ps with
 | nil=>rintro cs rfl u hu;cases hu
 | cons p ps ih=>
  rintro cs ⟨v,r,rfl,b,_,d⟩ u hu;rcases bi.1 hu with rfl|hu
  ·rfl
  ·rcases bi.1 hu with rfl|hu
   ·obtain⟨a,c,rfl,_⟩:=Cells.shape b;rfl
   ·exact ih d u hu
theorem ns.get:∀ {ps cs},ns w S ps cs->∀ (k:Nat) (h:k<ps.length),∃ v,cs[k*2]?=some (iw (ps[k]).1)/\cs[k*2+1]?=some v/\Bytes w S v (ps[k]).2/\(ps[k]).2.length=64:=by
 intro ps
 induction ps with
 | nil=>intro cs _ k h;simp at h
 | cons p ps ih=>
  rintro cs ⟨v,r,rfl,a,b,c⟩ k h;cases k with
  | zero=>exact⟨v,rfl,rfl,a,b⟩
  | succ k=>
   obtain⟨u,d,e,f,g⟩:=ih c k (by simpa using h);refine⟨u,?_,?_,f,g⟩
   ·rw[show (k+1)*2=k*2+1+1 from by omega];simpa using d
   ·rw[show (k+1)*2+1=k*2+1+1+1 from by omega];simpa using e
structure At (w:World) (F:Nat->Prop) (p:Nat) (D:Dk):Prop where
 box:∃ sv pv pcs,w.heap[p]?=some (.cells #[.bool D.qJ,iw D.left,.bool D.oO,sv,pv] 122 (0,0))/\
  w.ownsRow 0 5 1 sv D.sure.length (aQ D.sure)/\w.ownsRow 0 118 2 pv D.kC.length pcs/\sv.ownBlock≠some p/\pv.ownBlock≠some p/\(∀ g,sv.ownBlock=some g->pv.ownBlock≠some g)/\
  (∀ g,sv.ownBlock=some g\/pv.ownBlock=some g->F g)/\
  ns w (λk=>F k/\k≠p/\sv.ownBlock≠some k/\pv.ownBlock≠some k) D.kC pcs/\sv.ownBlock.isSome=true
 self:F p
 lim:∀ k,F k->k<w.heap.size
 lo:0<=D.left/\D.left<=9223372036854775807
 full:D.sure.length=64*D.size/\1<=D.size/\D.size<=65536
 xm:∀ q ∈ D.kC,q.1<D.size
 mL:D.kC.length<=1000000000
theorem At.dB {w':World}{D:Dk}(h:At w F p D) (hs:w.heap.size<=w'.heap.size) (hk:∀ b,F b->b<w.heap.size->w'.heap[b]?=w.heap[b]?):At w' F p D:=by
 obtain⟨⟨sv,pv,pcs,h1,f,i,m,n,o,a,q,s⟩,c,j,l,a2,a3,a4⟩:=h;refine⟨⟨sv,pv,pcs,(hk p c (j p c)).trans h1,?_,?_,m,n,o,a,q.dB hs (λb hb=>hk b hb.1),s⟩,c,λk d=>aH (j k d) hs,l,a2,a3,a4⟩
 ·refine⟨f.1,f.2.imp id ?_⟩;rintro⟨g,cap,cur,e,hb,hg,r⟩;subst e;exact⟨g,cap,cur,rfl,hb,(hk g (a g (.inl rfl)) (dC hg)).trans hg,r⟩
 ·refine⟨i.1,i.2.imp id ?_⟩;rintro⟨g,cap,cur,e,hb,hg,r⟩;subst e;exact⟨g,cap,cur,rfl,hb,(hk g (a g (.inr rfl)) (dC hg)).trans hg,r⟩
theorem At.ki {C:Nat->Prop}{w':World}{D:Dk}(h:At w F p D) (hc:aA C w w') (hd:∀ b,F b->¬ C b):At w' F p D:=h.dB hc.size λb hb a=>hc.block b a (hd b hb)
def l5 (p:Nat) (w w':World):Prop:=w'.cell? (iu p 3)=w.cell? (iu p 3)
def tu (w:World) (F:Nat->Prop) (p:Nat) (D':Dk) (w':World):Prop:=∃ a,At w' a p D'/\aA F w w'/\(∀ k,a k->F k\/w.heap.size<=k)/\l5 p w w'
theorem nu:(prog.info? 5).map (λi=>(i.zero,i.size,i.bytes))=some (some (iy 0),1,1):=kr
theorem Ht:(prog.info? 118).map (λi=>(i.zero,i.size,i.bytes))=some (some (.agg #[iw 0,.slice none 0 0]),2,32):=kr
theorem vC:(prog.info? 5).map (·.size)=some 1:=kr
theorem Hu (w:World):Calls prog 93 #[.pointer none] w λe w'=>e=.returned (iw 0)/\w=w':=by go_enter func93,ntmps93;go_wp2;go_ret;exact⟨rfl,rfl⟩
theorem At.cells {D:Dk}(h:At w F p D):∃ g n cap pv,n=D.sure.length/\w.cell? (iu p 0)=some (.bool D.qJ)/\w.cell? (iu p 1)=some (iw D.left)/\w.cell? (iu p 2)=some (.bool D.oO)/\
  w.cell? (iu p 3)=some (ir g n cap)/\w.cell? (iu p 4)=some pv/\(∀ j,w.frozen? (iu p j)=false):=by
 obtain⟨⟨sv,pv,pcs,h1,a,d,e,f,i,k,l,b⟩,m,o,c,a2,a3,a4⟩:=h;rcases a.2 with ⟨rfl,_⟩|⟨g,cap,cur,rfl,_⟩
 ·simp[Value.ownBlock] at b
 ·exact⟨g,_,cap,pv,rfl,cell_of h1 0,cell_of h1 1,cell_of h1 2,cell_of h1 3,cell_of h1 4,λj=>kY h1 j⟩
theorem xn {D:Dk}(h:At w F p D):Calls prog 93 #[iq p] w λe w'=>e=.returned (iw D.size)/\w=w':=by
 obtain⟨g,n,cap,pv,c,_,_,_,c3,_,_⟩:=h.cells;have hb:n<=4194304:=by have:=h.full;omega
 have a:((n:Int) / 64)=(D.size:Int):=by have:=h.full;omega
 have b:=LH a;clear a c;go_enter func93,ntmps93;go_wp2;go_ret;exact⟨mI b.o,rfl⟩
theorem Mg (n:Int) (w:World):Calls prog 54 #[.pointer none,iw n] w λe w'=>e=.returned (.bool false)/\w=w':=by
 by_cases a:0<=n
 all_goals
  go_enter func54,ntmps54
  go_wp2_with (go_at_call 93;(with_reducible refine (Hu _).mono ?_);rintro e w' ⟨rfl,rfl⟩)
  go_ret;exact⟨pJ (by simp[*]),rfl⟩
theorem vB {D:Dk}(h:At w F p D) (n:Int):Calls prog 54 #[iq p,iw n] w λe w'=>e=.returned (.bool (decide (0<=n/\n<D.size)))/\w=w':=by
 have hs:=xn h;have a:=LH hs;clear hs;by_cases b:0<=n
 all_goals
  go_enter func54,ntmps54
  go_wp2_with (go_at_call 93;(with_reducible refine a.o.mono ?_);rintro e w' ⟨rfl,rfl⟩)
  go_ret;exact⟨pJ (by first|(simp[b];done)|(simp;omega)),rfl⟩
def mq (D:Dk) (n:Int) (l:Nat):Int:=if 0<=n/\n<D.size then (if l=64 then 0 else 1) else 3
theorem BU {D:Dk}(h:At w F p D) (n:Int){v:Value}{l:iz}(hb:Bytes w S v l):
  Calls prog 105 #[iq p,iw n,v] w λe w'=>e=.returned (iw (mq D n l.length))/\w=w':=by
 obtain⟨a,cap,rfl,_,_⟩:=Cells.shape hb;generalize l.length=m;have d:=LH (vB h n);by_cases b:0<=n/\n<D.size
 ·have c:=LH (show decide (0<=n/\n<D.size)=true from by simpa using b);by_cases hm:m=64
  ·subst hm;go_enter func105,ntmps105
   go_wp2_with (go_at_call 54;(with_reducible refine d.o.mono ?_);rw[c.o];rintro e w' ⟨rfl,rfl⟩)
   go_ret;exact⟨mI (by simp[mq,b]),rfl⟩
  ·have f:((m:Int) != 64)=true:=by simp;omega
   go_enter func105,ntmps105
   go_wp2_with (go_at_call 54;(with_reducible refine d.o.mono ?_);rw[c.o];rintro e w' ⟨rfl,rfl⟩)
   go_ret;exact⟨mI (by simp[mq,b,hm]),rfl⟩
 ·have c:=LH (show decide (0<=n/\n<D.size)=false from by simpa using b);go_enter func105,ntmps105
  go_wp2_with (go_at_call 54;(with_reducible refine d.o.mono ?_);rw[c.o];rintro e w' ⟨rfl,rfl⟩)
  go_ret;exact⟨mI (by rw[mq,ah b]),rfl⟩
theorem At.vD {D:Dk}(h:At w F p D) (j:Nat) (u:Value) (fu:Bool) (le:Int) (dk:Bool) (hle:0<=le/\le<=9223372036854775807)
  (hu:∀ sv pv:Value,(#[.bool D.qJ,iw D.left,.bool D.oO,sv,pv]:Array Value).setIfInBounds j u=#[.bool fu,iw le,.bool dk,sv,pv]):
  At (w.setCell (iu p j) u) F p ⟨fu,le,dk,D.sure,D.kC⟩:=by
 obtain⟨⟨sv,pv,pcs,h1,c,d,f,i,l,m,n,o⟩,q,s,t,a2,a3,a4⟩:=h;have hk:∀ b,b≠p->(w.setCell (iu p j) u).heap[b]?=w.heap[b]?:=λb hb=>kD _ _ _ hb
 refine⟨⟨sv,pv,pcs,?_,?_,?_,f,i,l,m,n.dB sm (λb hb _=>hk b hb.2.1),o⟩,q,λk a=>by simpa using s k a,hle,a2,a3,a4⟩
 ·rw[lz h1,hu]
 ·refine⟨c.1,c.2.imp id ?_⟩;rintro⟨g,cap,cur,e,hb,hg,r⟩;subst e;exact⟨g,cap,cur,rfl,hb,(hk g (λe=>f (by simp[Value.ownBlock,e]))).trans hg,r⟩
 ·refine⟨d.1,d.2.imp id ?_⟩;rintro⟨g,cap,cur,e,hb,hg,r⟩;subst e;exact⟨g,cap,cur,rfl,hb,(hk g (λe=>i (by simp[Value.ownBlock,e]))).trans hg,r⟩
theorem tu.refl {w:World}{F:Nat->Prop}{p:Nat}{D:Dk}(h:At w F p D):tu w F p D w:=⟨F,h,aA.refl _ _,λ_=>.inl,rfl⟩
theorem yQ {cs:Array Value}{t:TypeId}(h:w.heap[p]?=some (.cells cs t (0,0))) (j:Nat) (u:Value) (hj:j≠3):l5 p w (w.setCell (iu p j) u):=by unfold l5;rw[cell_of (lz h j u),bH hj,cell_of h]
theorem At.vE {D:Dk}(h:At w F p D) (j:Nat) (u:Value) (hj:j≠3):l5 p w (w.setCell (iu p j) u):=by obtain⟨⟨sv,pv,pcs,h1,_⟩,_⟩:=h;exact yQ h1 j u hj
theorem At.vF {D:Dk}(h:At w F p D){w':World}(hc:aA F w w') (j:Nat) (u:Value):aA F w (w'.setCell (iu p j) u):=hc.setCell (λ_=>h.self) u
theorem BV {D:Dk}(h:At w F p D):Calls prog 104 #[iq p] w λe w'=>e=.returned (.bool (!D.lO.oO))/\At w' F p D.lO/\aA F w w'/\l5 p w w':=by
 have H:=LH h;have c:=h.lo;obtain⟨g,n,cap,pv,_,c0,c1,c2,_,_,b⟩:=h.cells;have f0:=b 0;have f1:=b 1;have f2:=b 2;clear b;obtain⟨d,le,dk,su,k⟩:=D;simp only at c0 c1 c2 c;cases dk with
 | true=>
  cases d
  all_goals
   go_enter func104,ntmps104;go_wp2;go_ret;have h:=H.o;exact⟨rfl,h.vD 2 (.bool true) _ _ _ h.lo (λ_ _=>rfl),h.vF (aA.refl _ _) _ _,h.vE _ _ de⟩
 | false=>
  cases d with
  | false=>go_enter func104,ntmps104;go_wp2;go_ret;have h:=H.o;exact⟨rfl,h.vD 2 (.bool false) _ _ _ h.lo (λ_ _=>rfl),h.vF (aA.refl _ _) _ _,h.vE _ _ de⟩
  | true=>
   by_cases i:le=0
   ·subst i;go_enter func104,ntmps104;go_wp2;go_ret;have h:=H.o;exact⟨rfl,h.vD 2 (.bool true) _ _ _ h.lo (λ_ _=>rfl),h.vF (aA.refl _ _) _ _,h.vE _ _ de⟩
   ·have a:(le == 0)=false:=by simpa using i
    go_enter func104,ntmps104;go_wp2;go_ret;have h:=H.o;have f:=h.vD 2 (.bool false) true le false h.lo (λ_ _=>rfl);have j:=f.vD 1 (iw (le - 1)) true (le - 1) false ⟨by omega,by omega⟩ (λ_ _=>rfl);exact⟨by simp[Dk.lO,a],by simpa [Dk.lO,a] using j,h.vF (h.vF (aA.refl _ _) _ _) _ _,(show l5 p _ _ from f.vE 1 _ de).trans (h.vE 2 _ de)⟩
theorem Hv {g n cap:Nat}{cur:Array Value}(hg:w.heap[g]?=some (.cells cur 5 (0,0))) (hn:n<=cap) (hcs:cur.size=cap) (hcm:cap<=maxLen) (at':Nat){v:Value}{b:iz}
  (hb:Bytes w S v b) (hl:b.length=64) (hfit:at'*64+64<=n):
  Calls prog 106 #[ir g n cap,.agg #[iw at',v]] w λe w'=>e=.returned (.tuple #[])/\w'.heap[g]?=some (.cells (splice cur.toList (at'*64) (aQ b)).toArray 5 (0,0))/\aA (·=g) w w':=by
 have m:=dC hg;unfold maxLen at hcm;have t:=LH hg;clear hg;have u:=LH hcs;clear hcs;have x:=LH hl;clear hl;go_enter func106,ntmps106;go_wp2;refine RA.region (aA (·=g)) (aA No) [1,1,1,1,1,1,1,4] (λ_ _ _=>True) (λd=>d.heap[g]?=some (.cells cur 5 (0,0))) kr (aA.refl _ _) (λ_ _ h=>h.mono (λ_ _ h=>h.elim)) (λ_ _ _ h k=>h.trans k) (λa b h k=>(h.block g (dC k) id).trans k) (by simpa [World.drew] using (aB w _ g m).trans t.o) kr ?_;intro c
 have f:∀ d,aA (·=g) (w.alloc (.cells #[iw at',v] 118)).drew d->d.cell? (iu w.heap.size 0)=some (iw at')/\d.cell? (iu w.heap.size 1)=some v:=by intro d h;have e:=h.block w.heap.size sm om;have y:(w.alloc (.cells #[iw at',v] 118)).drew.heap[w.heap.size]?=some (.cells #[iw at',v] 118 (0,0)):=aj w _;rw[y] at e;exact⟨cell_of e 0,cell_of e 1⟩
 refine RA.mv (h:=?_);refine RA.fa rf rf rf (y':=iq w.heap.size) (λd hp=>by show (Instr.fieldAt _ _ _).run prog d=_;go_simp) ?_;refine RA.ld (y':=iw at') (hr:=λd hp=>by have h1:=(f d hp.1).1;show (Instr.loadAt _ _).run prog d=_;go_simp) (h:=?_);refine RA.mi (r:=((at'*64:Nat):Int)) (he:=by omega) (h:=?_)
 refine RA.tL (y':=.slice (some (iu g (at'*64))) (n - at'*64) (cap - at'*64)) (hr:=λd hp=>by show (Instr.sliceAt _ _ _ _ _).run prog d=_;rw[rH d (s:=1) (e:=5) underlying42 vC _ _ _ _ om,pK _ _ _ _ _ _ om];simp) (h:=?_)
 refine RA.fa rf rf rf (y':=.pointer (some (iu w.heap.size 1))) (λd hp=>by show (Instr.fieldAt _ _ _).run prog d=_;go_simp) ?_;refine RA.ld (y':=v) (hr:=λd hp=>by have h1:=(f d hp.1).2;show (Instr.loadAt _ _).run prog d=_;go_simp) (h:=?_);refine RA.bc (goInt 64) (λd=>d.heap[g]?=some (.cells (splice cur.toList (at'*64) (aQ b)).toArray 5 (0,0))) rf rf kr (λa b h k=>(h.block g (dC k) id).trans k) (λd hp hH=>?_) (RA.RA.done rfl (λw2 z _ hH=>?_))
 ·have hcs:=u.o;have hl:=x.o;have j:aA (·=g) (w.alloc (.cells #[iw at',v] 118)).drew d:=hp.1
  have p:Bytes d S v b:=Cells.dB hb (by have:=j.size;simp at this;omega) (λk hk q=>by
   by_cases e:k=g
   ·subst e;rw[hH,t.o]
   ·exact (j.block k (by simp;omega) e).trans (aB w _ k q))
  have hm:Nat.min 64 (n - at'*64)=64:=dh om
  have i:=tI (P:=prog) d 42 42 3 5 g (at'*64) (n - at'*64) (cap - at'*64) cur 5 underlying42 vC hH S v b.length (aQ b) p (nJ b) (by rw[hl,hm];omega)
  rw[hl,hm,bh (by rw[km,hl];exact ae _)] at i;exact⟨_,RA.v8 rf rf i,aA.setRow (C:=(·=g)) (aA.refl _ _) (λ_=>rfl) _,aJ _ _ _ _ _ _ hH⟩
 ·refine bodyPost_end (gw rfl _ _ _) rfl ⟨rfl,hH,?_⟩;have l:aA (·=g) (w.alloc (.cells #[iw at',v] 118)).drew w2:=z;exact aA.then (((aA.refl _ w).alloc _).drew) l (λ_ _ h=>h)
theorem wI (n:Nat):(madeCells #[iy 0] n).toList=aQ (List.replicate n 0):=by rw[gS];simp[aQ,u8]
theorem yp (w:World):Calls prog 56 #[.slice none 0 0] w λe w'=>e=.returned (.slice none 0 0)/\w=w':=by have he:=Lib.run_eql_slice_nil (P:=prog) w 42 5 none 0 0 0 0 underlying42;go_enter func56,ntmps56;go_wp2;go_ret;exact⟨rfl,rfl⟩
def yq (w:World) (v:Value) (n:Nat) (T:TypeId) (sz:Nat) (xs:List Value) (e:Ending) (w':World):Prop:=∃ v',e=.returned v'/\w'.ownsRow w.heap.size T sz v' n xs/\Below w.heap.size w w'/\(v'=.slice none 0 0->v=.slice none 0 0)
theorem q0 {S:Nat->Prop}{v:Value}{l:iz}(hb:Bytes w S v l) (hl:l.length<=140737488355328):
  Calls prog 56 #[v] w (yq w v l.length 5 1 (aQ l)):=by
 obtain⟨a,cap,hv,h1,f,g⟩:∃ a cap,v=.slice a l.length cap/\l.length<=cap/\cap<=maxLen/\(a=none->cap=0):=by obtain⟨_,a,cap,hv,h1,f,g,_⟩:=hb;exact⟨a,cap,hv,h1,f,g⟩
 cases a with
 | none=>obtain rfl:=g rfl;have i:l=[]:=cH om;subst i;obtain rfl:v=.slice none 0 0:=hv;exact (yp w).mono λe w' ⟨h1,f⟩=>⟨_,h1,aS _ _ _ _,by subst f;exact ag _ _,λ_=>rfl⟩
 | some ad=>
  have d:=ch (base:=w.heap.size) (e:=5) (size:=1) w #[] 0 (ae _) mx rfl;have c:Cells (w.alloc (.cells #[] 5)) S v l.length 1 (aQ l):=hb.dB sm (λb _ hb=>aB w _ b hb);subst hv;have he:=Lib.run_eql_slice_nil (P:=prog) w 42 5 (some ad) l.length cap 0 0 underlying42;have H:=LH c;clear c hb;have j:=LH hl;clear hl;go_enter func56,ntmps56
  go_wp2_with (at_builtin;(refine K.append rfl _ _ 42 rfl w.heap.size 5 (iy 0) 1 1 underlying42 nu rfl de _ 0 [] rfl d S _ l.length (aQ l) rfl H.o (nJ l) ?m ?b sm ?k))
  case m=>have:=j.o;unfold maxLen;omega
  case b=>have:=j.o;omega
  case k=>intro v' w' p hg n _;go_wp2;go_ret;refine⟨_,rfl,by simpa using p,(((ag _ _).alloc (ae _) _).grown hg sm (λk hk=>by simp[Value.ownBlock] at hk;omega)),λh=>absurd h n⟩
def Dk.new (n:Nat):Dk:=⟨false,0,false,List.replicate (64*n) 0,[]⟩
def Made (w:World) (D:Dk) (e:Ending) (w':World):Prop:=∃ p F,e=.returned (.tuple #[iq p,iw 0])/\At w' F p D/\(∀ k,F k->w.heap.size<=k)/\Below w.heap.size w w'
theorem At.made {p g:Nat}{cur:Array Value}{cap:Nat}{D:Dk}(hp:w.heap[p]?=some (.cells #[.bool D.qJ,iw D.left,.bool D.oO,ir g D.sure.length cap,.slice none 0 0] 122 (0,0)))
  (hg:w.heap[g]?=some (.cells cur 5 (0,0))) (hne:g≠p) (hc:D.sure.length<=cap/\cap<=maxLen/\cur.size=cap) (hcur:cur.toList.take D.sure.length=aQ D.sure) (hpe:D.kC=[])
  (lo:0<=D.left/\D.left<=9223372036854775807) (full:D.sure.length=64*D.size/\1<=D.size/\D.size<=65536):At w (λk=>k=p\/k=g) p D:=by
 refine⟨⟨_,_,[],hp,⟨by simp[aQ],.inr ⟨g,cap,cur,rfl,aW _,hg,hc.1,hc.2.1,by simpa using hc.2.2,by simpa using hcur⟩⟩,?_,by simpa [Value.ownBlock] using hne,by simp[Value.ownBlock],by simp[Value.ownBlock],?_,?_,rfl⟩,.inl rfl,?_,lo,full,by simp[hpe],by simp[hpe]⟩
 ·rw[hpe];exact aS _ _ _ _
 ·rintro k (hk|hk)
  ·simp[Value.ownBlock] at hk;exact .inr hk.symm
  ·simp[Value.ownBlock] at hk
 ·rw[hpe];rfl
 ·rintro k (rfl|rfl)
  ·exact dC hp
  ·exact dC hg
theorem tU (n:Nat) (h1:1<=n) (h2:n<=65536) (w:World):Calls prog 35 #[iw n] w (Made w (.new n)):=by
 have a:∀ u:World,_:=λu=>xS (P:=prog) u underlying42 nu rfl (n*64) ((n:Int)*64) om om om
 go_enter func35,ntmps35;go_wp2;go_ret2;refine⟨w.heap.size+1,_,rfl,At.made (g:=w.heap.size) (cap:=n*64) (cur:=madeCells #[iy 0] (n*64)) ?_ ?_ om ⟨by simp[Dk.new];omega,by unfold maxLen;omega,by simp[fG]⟩ ?_ rfl ⟨fU _,by simp[Dk.new]⟩ ⟨by simp[Dk.new,Dk.size],by simp[Dk.new,Dk.size];omega,by simp[Dk.new,Dk.size];omega⟩,?_,(((ag _ _).alloc (ae _) _).alloc sm _)⟩
 ·have:=aj (w.alloc (.cells (madeCells #[iy 0] (n*64)) 5)) (.cells #[.bool false,iw 0,.bool false,ir w.heap.size (n*64) (n*64),.slice none 0 0] 122);simp only[aN] at this;rw[this];simp[Dk.new,Nat.mul_comm]
 ·rw[aB _ _ _ sm];exact aj w _
 ·rw[wI];simp[Dk.new,aQ,Nat.mul_comm]
 ·rintro k (rfl|rfl)<;>omega
theorem At.Hw {F:Nat->Prop}{p:Nat}{D:Dk}(h:At w F p D):∃ g cap cur,w.cell? (iu p 3)=some (ir g D.sure.length cap)/\w.heap[g]?=some (.cells cur 5 (0,0))/\D.sure.length<=cap/\cap<=maxLen/\cur.size=cap/\
  cur.toList.take D.sure.length=aQ D.sure/\F g/\g≠p/\
  ∀ w' l',l'.length=D.sure.length->aA (·=g) w w'->(∃ cur',w'.heap[g]?=some (.cells cur' 5 (0,0))/\cur'.size=cap/\cur'.toList.take D.sure.length=aQ l')->At w' F p { D with sure:=l' }:=by
 have H:=h;obtain⟨⟨sv,pv,pcs,h1,A,q,s,B,t,u,C,v⟩,x,y,z,a2,a3,a4⟩:=h;rcases A.2 with ⟨rfl,_⟩|⟨g,cap,cur,rfl,hb,hg,c1,c2,c3,c4⟩
 ·simp[Value.ownBlock] at v
 have i:g≠p:=λe=>s (by simp[Value.ownBlock,e])
 refine⟨g,cap,cur,cell_of h1 3,hg,c1,c2,by simpa using c3,by simpa using c4,u g (.inl rfl),i,?_⟩;rintro w' l' a hc ⟨cur',m,E,G⟩;have hk:∀ b,b<w.heap.size->b≠g->w'.heap[b]?=w.heap[b]?:=λb hb o=>hc.block b hb o
 refine⟨⟨_,pv,pcs,(hk p (y p x) (λe=>i e.symm)).trans h1,?_,?_,s,B,t,u,C.dB hc.size (λb hb l=>hk b l (λe=>hb.2.2.1 (by simp[Value.ownBlock,e]))),v⟩,x,λk n=>aH (y k n) hc.size,z,?_,?_,a4⟩
 ·show w'.ownsRow _ _ _ _ l'.length _;rw[a];exact⟨by simp[aQ,a],.inr ⟨g,cap,cur',rfl,hb,m,c1,c2,by simpa using E,by simpa using G⟩⟩
 ·refine⟨q.1,q.2.imp id ?_⟩;rintro⟨g2,c,d,e,j,f,r⟩;subst e;exact⟨g2,c,d,rfl,j,(hk g2 (dC f) (λe=>t g rfl (by simp[Value.ownBlock,e]))).trans f,r⟩
 ·simpa [Dk.size,a] using a2
 ·simpa [Dk.size,a] using a3
def Dk.of (l:iz):Dk:=⟨false,0,false,l,[]⟩
end Go.Proofs.YthmcbgidehjlbaaGreat.D
namespace Go.Proofs.YthmcbgidehjlbaaGreat.D
open Go Go.RowKit K
variable {w:World}{F:Nat->Prop}
theorem At.BW {p:Nat}{D:Dk}(h:At w F p D):∃ pv pcs,w.cell? (iu p 4)=some pv/\Cells w (λk=>F k/\k≠p) pv D.kC.length 2 pcs/\ns w F D.kC pcs:=by obtain⟨⟨sv,pv,pcs,h1,i,a,j,c,l,d,f,m⟩,n,o,g,a2,a3,a4⟩:=h;exact⟨pv,pcs,cell_of h1 4,(Cells.own a).mono (λb _ hb=>⟨d b (.inr hb.1),λe=>c (by rw[<-e];exact hb.1)⟩),f.mono (λb _ hb=>hb.1)⟩
theorem Hy {S:Nat->Prop}{pa:Option Addr}{n pcap:Nat}{pcs:List Value}{ps:List (Nat×iz)}(hc:Cells w S (.slice pa n pcap) n 2 pcs) (hp:ns w F ps pcs) (hn:n=ps.length) (k:Nat) (hk:k<n):
  ∃ b off ba bc,pa=some (iu b off)/\n<=pcap/\b<w.heap.size/\S b/\w.cell? (iu b (off+k*2))=some (iw (ps[k]'(hn ▸ hk)).1)/\w.cell? (iu b (off+k*2+1))=some (.slice ba 64 bc)/\Bytes w F (.slice ba 64 bc) (ps[k]'(hn ▸ hk)).2/\(ps[k]'(hn ▸ hk)).2.length=64:=by
 obtain⟨b,off,cp,g,h1,_,e,f,c⟩:=hc.at om;obtain⟨j,h,i,d,a⟩:=hp.get k (hn ▸ hk);cases g
 obtain⟨ba,bc,rfl,_,_⟩:=Cells.shape d;refine⟨b,off,ba,bc,rfl,h1,f,e,c _ _ h,?_,?_,a⟩
 ·have:=c _ _ i;rw[<-cy,a] at this;exact this
 ·rw[<-a];exact d
def mV (s:iz) (l:List (Nat×iz)):iz:=l.foldl (λs q=>splice s (q.1*64) q.2) s
def Dk.image (d:Dk):iz:=mV d.sure d.kC
theorem Hz (s:iz) (l:List (Nat×iz)) (k:Nat) (h:k<l.length):mV s (l.take (k+1))=splice (mV s (l.take k)) ((l[k]).1*64) (l[k]).2:=by rw[bP h];simp only[mV,dL,eA,List.foldl_nil]
theorem xo (n:Nat):∀ (l:List (Nat×iz)) (s:iz),s.length=64*n->(∀ q ∈ l,q.1<n/\q.2.length=64)->(mV s l).length=64*n:=by
 intro l
 induction l with
 | nil=>intro s h _;exact h
 | cons q l ih=>intro s h a;refine ih _ ?_ (λb h'=>a b (by simp[h']));have:=a q sm;rw[length_splice _ _ _ om];exact h
theorem HF {cu:Array Value}{m cap k:Nat}{s:iz}{l:List (Nat×iz)}{q:Nat×iz}(h1:cu.size=cap) (h2:m<=cap) (h3:cu.toList.take m=aQ (mV s (l.take k))) (hk:k<l.length) (hq:q=l[k]) (h4:q.2.length=64) (h5:q.1*64+64<=m):
  (splice cu.toList (q.1*64) (aQ q.2)).toArray.size=cap/\(splice cu.toList (q.1*64) (aQ q.2)).toArray.toList.take m=aQ (mV s (l.take (k+1))):=by
 have hlen:cu.toList.length=cap:=by rw[dj,h1]
 constructor
 ·rw[aT,length_splice _ _ _ (by rw[km];omega),hlen]
 ·simp only[];rw[D7 _ _ _ _ (by rw[km];omega) om,h3,Hz s l k hk,<-hq,zK]
theorem Dk.HJ {p:Nat}{D:Dk}(h:At w F p D):D.image.length=D.sure.length:=by
 obtain⟨pv,pcs,_,_,hp⟩:=h.BW
 have:=xo D.size D.kC D.sure h.full.1 (λq a=>⟨h.xm q a,by obtain⟨k,hk,rfl⟩:=dI a;obtain⟨_,_,_,_,b⟩:=hp.get k hk;exact b⟩)
 rw[Dk.image,this,h.full.1]
def kept:List (Nat×iz)->List Bool->List (Nat×iz)
 | [],_=>[]
 | _::_,[]=>[]
 | q::l,k::ks=>if k then q::kept l ks else kept l ks
def Dk.Mh (d:Dk) (ks:List Bool):Dk:=⟨false,0,false,mV d.sure (kept d.kC ks),[]⟩
theorem At.HT {w:World}{F:Nat->Prop}{p:Nat}{D:Dk}(h:At w F p D):∃ g cap,w.cell? (iu p 3)=some (ir g D.sure.length cap)/\Bytes w F (ir g D.sure.length cap) D.sure:=by
 obtain⟨g,cap,cur,c3,hg,f,e,i,b,a,c,_⟩:=h.Hw;refine⟨g,cap,c3,by simp[aQ],some (iu g 0),cap,rfl,by omega,e,λh=>(by cases h),.inr ⟨g,0,rfl,a,dC hg,λj u hu=>?_⟩⟩;rw[aw,cell_of hg,<-hu,<-b,aU];rw[<-b,aU] at hu;split at hu
 ·rename_i d;simp[d]
 ·cases hu
end Go.Proofs.YthmcbgidehjlbaaGreat.D
namespace Go.Proofs.YthmcbgidehjlbaaGreat.D
open _root_.Go.Proofs.Tryz
open Go Go.RowKit K
theorem At.push {w:World}{F:Nat->Prop}{p:Nat}{D:Dk}(h:At w F p D):∃ pv pcs,w.cell? (iu p 4)=some pv/\w.ownsRow 0 118 2 pv D.kC.length pcs/\pv.ownBlock≠some p/\(∀ u ∈ pcs,u.oneCell'=true)/\
  ∀ (v' cv:Value) (n:Nat) (l:iz) (w2:World),n<D.size->l.length=64->D.kC.length<1000000000->w2.ownsRow 0 118 2 v' (D.kC.length+1) (pcs++[iw n,cv])->
   aA (λk=>pv.ownBlock=some k) w w2->(v'.ownBlock=pv.ownBlock\/∃ g,v'.ownBlock=some g/\w.heap.size<=g)->Bytes w2 (λk=>w.heap.size<=k/\v'.ownBlock≠some k) cv l->
   tu w F p { D with kC:=D.kC++[(n,l)] } (w2.setCell (iu p 4) v'):=by
 obtain⟨⟨sv,pv,pcs,h1,G,M,H,z,I,m,J,N⟩,y,t,L,a2,a3,a4⟩:=h;refine⟨pv,pcs,cell_of h1 4,M,z,J.one,?_⟩;intro v' cv n l w2 O v K b a hblk A;have E:=t p y;have j:w2.heap[p]?=w.heap[p]?:=a.block p E z
 have f:v'.ownBlock≠some p:=by
  rcases hblk with e|⟨g,e,hg⟩
  ·rw[e];exact z
  ·rw[e];intro h;cases h;omega
 have d:∀ k,k≠p->(w2.setCell (iu p 4) v').heap[k]?=w2.heap[k]?:=λk hk=>kD _ _ _ hk
 have x:∀ g,sv.ownBlock=some g->v'.ownBlock≠some g:=by
  intro g hg;rcases hblk with e|⟨g',e,hg'⟩
  ·rw[e];exact I g hg
  ·rw[e];intro h;cases h;have:=t g (m g (.inl hg));omega
 have i:∀ k,F k->k<w2.heap.size:=λk hk=>aH (t k hk) a.size
 refine⟨λk=>(F k\/w.heap.size<=k)/\k<w2.heap.size,⟨⟨sv,v',pcs++[iw n,cv],?_,?_,?_,H,f,x,?_,?_,N⟩,⟨.inl y,i p y⟩,λk hk=>by simpa using hk.2,L,a2,?_,by simp;omega⟩,?_,λk hk=>hk.1,?_⟩
 ·rw[lz (j.trans h1)];rfl
 ·refine⟨G.1,G.2.imp id ?_⟩;rintro⟨g,cap,cur,e,hb,hg,r⟩;subst e;have B:g≠p:=λe=>H (by simp[Value.ownBlock,e])
  have C:=dC hg;exact⟨g,cap,cur,rfl,hb,(d g B).trans ((a.block g C (I g rfl)).trans hg),r⟩
 ·refine⟨by have:=b.1;simp at this ⊢;try omega,b.2.imp (λh=>by simp at h ⊢;try omega) ?_⟩;rintro⟨g,cap,cur,e,hb,hg,r⟩;subst e;refine⟨g,cap,cur,by simp,hb,(d g (λe=>f (by simp[Value.ownBlock,e]))).trans hg,by simpa using r⟩
 ·intro g hg;rcases hg with hg|hg
  ·exact⟨.inl (m g (.inl hg)),i g (m g (.inl hg))⟩
  ·rcases hblk with e|⟨g',e,hg'⟩
   ·have:=m g (.inr (by rw[<-e];exact hg));exact⟨.inl this,i g this⟩
   ·rw[e] at hg;cases hg
    exact⟨.inr hg',(b.lt _ e).2⟩
 ·refine ns.snoc (p:=(n,l)) ?_ v ?_
  ·refine (Cells.dB A sm (λk hk s=>d k (λe=>by have:=hk.1;omega))).mono (λk hk c=>⟨⟨.inr c.1,by simpa using hk⟩,λe=>by have:=c.1;omega,λe=>?_,c.2⟩);have:=t k (m k (.inl e));have:=c.1;omega
  ·refine (ns.dB a.size (λk hk s=>a.block k s (λe=>hk.2.2.2 e)) J |>.dB (w':=w2.setCell (iu p 4) v') sm (λk hk _=>d k hk.2.1)).mono (λk hk c=>⟨⟨.inl c.1,by simpa using hk⟩,c.2.1,c.2.2.1,?_⟩);rcases hblk with e|⟨g',e,hg'⟩
   ·rw[e];exact c.2.2.2
   ·rw[e];intro h;cases h;have:=t k c.1;omega
 ·intro q o;rcases bw.1 o with o|o
  ·exact a3 q o
  ·simp at o;subst o;exact O
 ·exact (a.mono (λk hk e=>m k (.inr e))).setCell (λ_=>y) _
 ·exact (show l5 p w2 _ from yQ (j.trans h1) 4 v' de).trans (az j)
def Dk.vG (d:Dk) (n:Int) (l:Nat):Int:=if d.lO.oO then 11 else mq d.lO n l
def Dk.put (d:Dk) (n:Int) (l:iz):Dk:=if d.lO.oO=false/\mq d.lO n l.length=0 then { d.lO with kC:=d.lO.kC++[(n.toNat,l)] } else d.lO
def HU (w:World) (F:Nat->Prop) (p:Nat) (D:Dk) (n:Int) (l:iz) (e:Ending) (w':World):Prop:=e=.returned (iw (D.vG n l.length))/\tu w F p (D.put n l) w'
theorem HZ {w:World}{F:Nat->Prop}{p:Nat}{D:Dk}(h:At w F p D) (hfew:D.kC.length<1000000000) (n:Int){S:Nat->Prop}{v:Value}{l:iz}(hb:Bytes w S v l) (hS:∀ k,S k->¬ F k):
  Calls prog 66 #[iq p,iw n,v] w (HU w F p D n l):=by
 have L:=LH (BV h);have HB:=LH hb;obtain⟨a,cap,rfl,b4,b5⟩:=Cells.shape hb;clear hb;cases hdk:D.lO.oO with
 | true=>
  have i:=LH hdk;clear hdk;go_enter func66,ntmps66
  go_wp2_with fail
  refine L.o.mono ?_;rw[i.o];rintro e C ⟨rfl,m,j,q⟩;go_wp2;go_ret;refine⟨mI ?_,?_⟩
  ·rw[Dk.vG,ak i.o]
  ·have e:D.put n l=D.lO:=by rw[Dk.put,ah (by rw[i.o];simp)]
   rw[e];exact⟨F,m,j,λ_=>.inl,q⟩
 | false=>
  by_cases hm:mq D.lO n l.length=0
  ·obtain⟨hn,G⟩:(0<=n/\n<D.lO.size)/\l.length=64:=by
    unfold mq at hm;split at hm
    ·rename_i h1;split at hm
     ·rename_i h2;exact⟨h1,h2⟩
     ·omega
    ·omega
   have i:=LH hdk;clear hdk;have r:=LH hm;clear hm;have K:=LH G;clear G;go_enter func66,ntmps66
   go_wp2_with fail
   refine L.o.mono ?_;rw[i.o];rintro e C ⟨rfl,m,j,q⟩
   go_wp2_with fail
   refine (BU m n (HB.o.ki j (λk _ hk=>hS k hk))).mono ?_;rw[r.o];rintro e w2 ⟨rfl,rfl⟩;obtain⟨pv,pcs,t,d,J,I,z⟩:=m.push;have a8:=LH z;have a7:=LH d;have b3:=LH I;clear z d I;obtain⟨R,B⟩:=Ex D.lO.kC.length;have X:R<1000000000:=by rw[B];exact hfew
   have T:=HB.o.ki j (λk _ hk=>hS k hk);have a1:=LH T;clear T;go_wp2;refine RA.oz (aA No) (·=·) [5,5,5,5,1,5,5,3,1,3,6,5,5,7] [10,13] (λ_ _ _=>True) (λ_=>True) kr (aA.refl _ _) (λ_ _ h=>h ▸ aA.refl _ _) (λ_ _ _ h k=>h.trans k) (λ_ _ h k=>h ▸ k) trivial kr kr ?_;intro c;have M:=Dr C
   refine RA.sf rf rf rf ?_;refine RA.sf rf rf rf ?_;refine RA.we rf rf rf ?_;refine RA.wg rf rf rf (y':=.pointer (some (iu p 4))) (λf=>by show (Instr.fieldAt _ _ _).run prog f=_;go_simp) ?_
   refine RA.ld (y':=pv) (hr:=λf hp=>by have h1:=((M _ hp.1).cell (p:=iu p 4) (lq t) id).trans t;show (Instr.loadAt _ _).run prog f=_;go_simp) (h:=?_)
   refine RA.sf rf rf rf ?_;refine RA.sf rf rf rf ?_
   refine RA.qc (P:=prog) [_] (λu f=>∃ A bc,u=.slice A 64 bc/\Bytes f (λk=>C.heap.size<=k) u l) (λ_ _=>True) (λ_ _=>by go_simp) kr rf rf kr
    (λu a b h ⟨A,bc,h1,h2⟩=>⟨A,bc,h1,h2.ki h (λ_ _ _=>id)⟩) (λ_ _ _ _ _=>trivial) rfl (λf hp _=>by
    have Q:=M _ hp.1;refine (q0 (w:=f) (a1.o.ki Q (λ_ _ _=>id)) (by rw[K.o];omega)).mono ?_;rintro e s ⟨u,rfl,ho,aa,_⟩;have V:=Cells.own ho;obtain⟨A,bc,rfl,_,_⟩:=Cells.shape V;refine⟨_,rfl,aA.dD aa _,⟨A,bc,by rw[K.o],V.mono (λk _ hk=>am Q.size hk.2)⟩,trivial⟩) (λu=>?_)
   refine RA.pv kr rf rf (y:=.agg #[iw n,u]) (λf hp=>by obtain⟨A,bc,hu,_⟩:=hp.fact 0 rfl kr;subst hu;show (execOp _ _).run prog f=_;go_simp) ?_
   refine RA.bq (λx f=>Cells f (λ_=>True) x 1 2 [iw n,u]) (hs:=λ_ _ _ h k=>k.ki h (λ_ _ _=>id)) (he:=λ_ _ _ _ _=>trivial) (hr:=λf hp _=>by
    obtain⟨A,bc,hu,U⟩:=hp.fact 0 rfl kr;subst hu;refine⟨ir f.heap.size 1 1,f.alloc (.cells #[iw n,.slice A 64 bc] 118),?_,(aA.refl _ _).alloc _,?_,trivial⟩
    ·show (execOp _ _).run prog f=_;go_simp
    ·exact (Cells.own (ch (base:=0) (e:=118) (size:=2) f #[iw n,.slice A 64 bc] 1 (aW _) mx rfl)).mono (λ_ _ _=>trivial)) (hn:=λx=>?_)
   refine RA.oH (λv' s=>(s.ownsRow 0 118 2 v' (R+1) (pcs++[iw n,u])/\aA (λk=>pv.ownBlock=some k) C s/\(v'.ownBlock=pv.ownBlock\/∃ g,v'.ownBlock=some g/\C.heap.size<=g)/\Bytes s (λk=>C.heap.size<=k/\v'.ownBlock≠some k) u l)) (hr:=(λf b2 _=>by
    have hp:=b2.first kr;have Q:=M _ hp.1;have hx:=hp.fact 0 rfl kr;obtain⟨A,bc,hu,U⟩:=hp.fact 1 rfl kr;have d:=a7.o;rw[<-B] at d;have O:f.ownsRow 0 118 2 pv R pcs:=dE d (λg hg=>Q.block g (d.lt g hg).2 id);obtain⟨i0,af,an,ax,ay⟩:=cw Ht
    obtain⟨v',s,Y,r1,r2,_,r4⟩:=tH (P:=prog) f 0 116 116 118 i0 _ 2 32 underlying116 af an ax ay rfl de pv R pcs O _ x 1 _ hx (by
     intro y Z;rcases bi.1 Z with rfl|Z
     ·rfl
     ·simp at Z;subst Z;rw[hu];rfl) mx om (aW _)
    refine⟨v',s,RA.nS rf rf Y,r1,(Q.mono (λ_ _ h=>h.elim)).grown r2 (λ_ h _=>h),?_,?_⟩
    ·rcases r4 with e|⟨g,e,hg⟩
     ·exact .inl e
     ·exact .inr ⟨g,e,am Q.size hg⟩
    ·refine (Cells.dB (U.mono (S':=λk=>C.heap.size<=k/\k<f.heap.size) (λk hk hS=>⟨hS,hk⟩)) r2.size (λk hS hk=>r2.block k hk (λe=>by have:=(d.lt k e.symm).2;have:=hS.1;omega))).mono (λk _ hS=>⟨hS.1,λe=>?_⟩);rcases r4 with e'|⟨g,e',hg⟩
     ·rw[e'] at e;have:=(d.lt k e).2;have:=hS.1;omega
     ·rw[e'] at e;cases e
      have:=hS.2;omega)) (hn:=λv'=>?_)
   refine RA.we rf rf rf ?_;refine RA.wg rf rf rf (y':=.pointer (some (iu p 4))) (λf=>by show (Instr.fieldAt _ _ _).run prog f=_;go_simp) ?_
   refine RA.lr (λw5=>tu C F p { D.lO with kC:=D.lO.kC++[(n.toNat,l)] } w5) (hr:=(λs _ hH=>by
    obtain⟨q1,q2,q3,q4⟩:=hH;have ad:s.cell? (iu p 4)=some pv:=(q2.cell (p:=iu p 4) (lq t) J).trans t
    have b6:s.frozen? (iu p 4)=false:=by obtain⟨_,_,_,_,_,_,_,_,_,_,hf⟩:=m.cells;exact (q2.frozen (p:=iu p 4) (lq t) J).trans (hf 4)
    have W:((n.toNat:Nat):Int)=n:=gx hn.1;have E:=a8.o v' u n.toNat l s om K.o (by rw[<-B];exact X) (by rw[<-B,W];exact q1) q2 q3 q4
    obtain⟨g,cp,hv⟩:∃ g cp,v'=ir g (R+1) cp:=by
     rcases q1.2 with ⟨_,h0⟩|⟨g,cp,cur,h0,_⟩
     ·omega
     ·exact⟨g,cp,h0⟩
    clear q1 q3 q4 W;subst hv;refine⟨_,RA.kL rf rf (w':=s.setCell (iu p 4) (ir g (R+1) cp)) ?_,E⟩;clear E;show (Instr.storeAt _ _ _).run prog s=_;go_simp)) (hn:=RA.RA.kZ (λw5 hH=>?_))
   simp only[RA.RP,c];have a6:=LH hH;clear hH;go_wp2;go_ret;obtain⟨F',f1,f2,f3,f4⟩:=a6.o;refine⟨mI ?_,F',?_,j.then f2 (λ_ _ h=>h),λk hk=>(f3 k hk).imp id (λh=>am j.size h),f4.trans q⟩
   ·rw[Dk.vG,ah (by rw[i.o];simp),r.o]
   ·have e:D.put n l={ D.lO with kC:=D.lO.kC++[(n.toNat,l)] }:=by rw[Dk.put,ak ⟨i.o,r.o⟩]
    rw[e];exact f1
  ·have i:=LH hdk;clear hdk;obtain⟨me,N⟩:=Ex (mq D.lO n l.length);have H:(me != 0)=true:=by rw[N];simpa using hm
   have r:=LH N;clear N hm;go_enter func66,ntmps66
   go_wp2_with fail
   refine L.o.mono ?_;rw[i.o];rintro e C ⟨rfl,m,j,q⟩
   go_wp2_with fail
   refine (BU m n (HB.o.ki j (λk _ hk=>hS k hk))).mono ?_;rw[<-r.o];rintro e w2 ⟨rfl,rfl⟩;go_wp2;go_ret;refine⟨mI ?_,?_⟩
   ·rw[Dk.vG,ah (by rw[i.o];simp),r.o]
   ·have e:D.put n l=D.lO:=by rw[Dk.put,ah];rw[<-r.o];simp at H;exact λh=>H h.2
    rw[e];exact⟨F,m,j,λ_=>.inl,q⟩
variable {w:World}{sz:Nat}{xs:List Value}{cu:Array Value}
theorem Ap:(prog.info? 3).map (λi=>(i.zero,i.size,i.bytes))=some (some (iw 0),1,8):=kr
theorem kt {base:Nat}{e:TypeId}{v:Value}{n:Nat}(h:w.ownsRow base e sz v n xs) (g:Nat) (hg:v.ownBlock=some g):g<w.heap.size:=by
 rcases h.2 with ⟨rfl,_⟩|⟨b,cap,cur,rfl,_,a,_⟩
 ·simp[Value.ownBlock] at hg
 ·simp[Value.ownBlock] at hg;subst hg;exact dC a
theorem kJ {base:Nat}{e:TypeId}{v:Value}{n:Nat}(h:w.ownsRow base e sz v n xs) (g:Nat) (hg:v.ownBlock=some g):base<=g:=by
 rcases h.2 with ⟨rfl,_⟩|⟨a,cap,cur,rfl,hb,_,_⟩
 ·simp[Value.ownBlock] at hg
 ·simp[Value.ownBlock] at hg;omega
theorem xW (k n:Int) (h:1<=n/\n<=1000000) (w:World):Calls prog 25 #[iw k,iw n] w λe w'=>e=.returned (iw (k % n))/\w=w':=by
 have h1:k.tmod n<n:=gM k om
 have a:-n<k.tmod n:=by have:=gN k (b:=n) om;exact this
 go_enter func25,ntmps25;go_wp2;go_ret;refine⟨mI ?_,rfl⟩;rw[Int.add_emod_right,Int.tmod_def,Int.sub_mul_emod_self_left]
def sec (l:iz):iz:=l.take 64++List.replicate (64 - l.length) 0
theorem uz (l:iz):(sec l).length=64:=by simp[sec];omega
theorem Ia {l:iz}{k:Nat}(hk:k<64) (hl:k<l.length) (h:cu.toList=aQ (l.take k++List.replicate (64 - k) 0)):(cu.setIfInBounds k (iy (l[k]).toNat)).toList=aQ (l.take (k+1)++List.replicate (64 - (k+1)) 0):=by
 have h1:(aQ (l.take k)).length=k:=by simp[aQ];omega
 have a:64 - k=(64 - (k+1))+1:=om;rw[eB,h,a,gT,bP hl];simp only[aQ,dz,bt] at h1 ⊢;rw[fv _ _ om,h1,dA];simp[u8]
theorem BY {g:Nat}{l m:iz}(hg:w.heap[g]?=some (.cells cu 5 (0,0))) (h:cu.toList=aQ m) (hm:m=sec l):Bytes w (·=g) (ir g 64 64) (sec l):=by subst hm;refine⟨by simp[aQ],some (iu g 0),64,by rw[uz],by rw[uz];exact ae _,by unfold maxLen;omega,λh=>(by cases h),.inr ⟨g,0,rfl,rfl,dC hg,λj u hu=>?_⟩⟩;rw[aw,cell_of hg,<-cZ,h];exact hu
theorem xp (s:ByteArray) (w:World):Calls prog 27 #[.string s] w λe w'=>e=.returned (ir w.heap.size 64 64)/\Bytes w' (·=w.heap.size) (ir w.heap.size 64 64) (sec s.data.toList)/\Below w.heap.size w w':=by
 have m:∀ u:World,_:=λu=>xS (P:=prog) u underlying42 nu rfl 64 64 rfl om om
 go_enter func27,ntmps27;go_wp2
 go_loopw [4] (λi wr=>∃ k:Nat,k<=64/\k<=s.size/\i=iw k/\Below w.heap.size w wr/\∃ g:Array Value,Hd (wr.heap[w.heap.size]?=some (.cells g 5 (0,0))/\g.toList=aQ (s.data.toList.take k++List.replicate (64 - k) 0)))
  (λi _=>64 - (intOf i).toNat)
 case atStart=>exact⟨0,by omega,by omega,rfl,(ag _ _).alloc (ae _) _,_,aj _ _,by rw[wI];simp⟩
 case round=>
  obtain⟨k,hk,d,rfl,b,g,a⟩:=hrel;by_cases h:k<64
  ·by_cases f:k<s.size
   ·have j:wr.cell? (iu w.heap.size k)=some (iy 0):=by
     rw[cell_of a.o.1,<-cZ,a.o.2];have h1:(s.data.toList.take k).length=k:=by rw[aR,dj];exact dh d
     simp only[aQ,bf];rw[aL om,h1,dA,eC,ak om];rfl
    have l:=kY a.o.1 k;go_wp2;go_roundw
    case rel=>
     refine⟨k+1,by omega,by omega,by go_num,?_,_,lz a.o.1 _ _,?_⟩
     ·exact (aA.setCell (C:=(·=w.heap.size)) (aA.dD b _) (λ_=>rfl) _).below (ae _) (λk hk=>by omega)
     ·exact Ia h (by simpa using f) a.o.2
    case measure=>simp[intOf];omega
   ·go_wp2;go_ret;have c:k=s.data.toList.length:=by simp;omega
    refine⟨rfl,BY a.o.1 a.o.2 (by rw[sec,<-c,bh om,bh om]),b⟩
  ·go_wp2;go_ret;have c:k=64:=om;subst c
   refine⟨rfl,BY a.o.1 a.o.2 (by
    have:64<=s.data.toList.length:=by simpa using d
    rw[sec,dA,Nat.sub_eq_zero_of_le this]),b⟩
end Go.Proofs.YthmcbgidehjlbaaGreat.D

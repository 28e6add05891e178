/-
 Parts of the proof. No condition beyond what each theorem names.
-/
import Derived.Test.YthmcbgidehjlbaaGreatFrAn
set_option maxRecDepth 100000
set_option maxHeartbeats 8000000
namespace Go.Proofs.YthmcbgidehjlbaaGreat.Fd
open _root_.Go.Proofs.Tryz
open Go Go.RowKit K
variable {w:World}{key:iz}{x:Nat}
theorem Gm (parts:List iz):∀ k,(nE parts k).n=((List.range k).map λj=>(parts.getD j []).length).sum:=by
 intro k
 induction k with
 | zero=>rw[A5];rfl
 | succ k ih=>rw[A6,tZ,ih,dF];simp
theorem Gn (parts:List iz) (B:Nat) (h:∀ j,(parts.getD j []).length<=B):∀ k,((List.range k).map λj=>(parts.getD j []).length).sum<=k*B:=by
 intro k
 induction k with
 | zero=>simp
 | succ k ih=>have:=h k;rw[dF,dz,List.sum_append,Nat.add_mul];simp only[bt,bT,List.sum_cons,List.sum_nil,Nat.one_mul,dY];omega
theorem Bb {p:Nat}(hS:qE w p){S:Nat->Prop}{pv:Value}{parts:List iz}(hp:kP w S pv parts) (hfew:parts.length<=8) (hlen:∀ x ∈ parts,x.length<=100000):
  Calls prog 186 #[iq p,pv] w λe w'=>e=.returned (.agg (aQ (qi parts)).toArray)/\Below w.heap.size w w':=by
 have b:∀ j,(parts.getD j []).length<=100000:=by
  intro j;by_cases a:j<parts.length
  ·exact hlen _ (by simp[List.getD,a])
  ·simp[List.getD,cB (Nat.le_of_not_lt a)]
 refine Ge hS hp om (λj=>am (b j) om) _ rfl (λk hk=>?_);rw[Gm];have:=Gn parts 100000 b k;omega
def np (key:iz) (x:Nat):Nat->iz
 | 0=>[]
 | k+1=>np key x k++[byte ((key.getD k 0).toNat ^^^ x)]
theorem Bc:np key x 0=[]:=rfl
theorem yz {k:Nat}:np key x (k+1)=np key x k++[byte ((key.getD k 0).toNat ^^^ x)]:=rfl
theorem wU {k:Nat}:(np key x k).length=k:=by
 induction k with
 | zero=>rfl
 | succ k ih=>rw[yz,aE,ih];rfl
attribute [irreducible] np
structure mS (w:World) (n:Nat) (wB:World) (B p s:Nat) (iv ov a b:Value) (I O:iz) (x:World):Prop where
 below:Below n w x
 since:∀ g,g<B->g≠p->x.heap[g]?=wB.heap[g]?
 size:B<=x.heap.size
 hp:n<=p
 pB:p<B
 sB:s<B
 ne:p≠s
 box:x.heap[p]?=some (.cells #[iq s,iv,ov] 306 (0,0))
 sum:qE x s
 ra:x.ownsRow B 5 1 a I.length (aQ I)
 rb:x.ownsRow B 5 1 b O.length (aQ O)
 ab:∀ g,a.ownBlock=some g->b.ownBlock≠some g
section
variable {w:World}{n:Nat}{wB:World}{B p s:Nat}{iv ov a b:Value}{I O:iz}{x y:World}
theorem mS.after (h:mS w n wB B p s iv ov a b I O x) (hb:Below x.heap.size x y):mS w n wB B p s iv ov a b I O y:=
 ⟨h.below.trans (hb.mono (by have:=h.size;have:=h.hp;have:=h.pB;omega)),λg hg hp=>(hb.block g (by have:=h.size;omega)).trans (h.since g hg hp),am h.size hb.size,h.hp,h.pB,h.sB,h.ne,(hb.block p (dC h.box)).trans h.box,h.sum.dB (hb.block s (dC h.sum)),
  dE h.ra (λg hg=>hb.block g (h.ra.lt g hg).2),dE h.rb (λg hg=>hb.block g (h.rb.lt g hg).2),h.ab⟩
theorem mS.Bd (h:mS w n wB B p s iv ov a b I O x){S:Nat->Prop}{u:Value}(c:UInt8) (hu:Cells x S u 1 1 [iy c.toNat]) (hI:I.length<=1000):
  ∃ a' y,(Builtin.append_ #[42,42] 42 #[a,u]).run prog x=.ok a' y/\mS w n wB B p s iv ov a' b (I++[c]) O y/\aA (λg=>a.ownBlock=some g) x y:=by
 obtain⟨a',y,hr,l,f,m⟩:=tS (P:=prog) (bytes:=1) underlying42 nu rfl de h.ra h.size (aA.refl _ _) hu (by simp[Value.oneCell']) mx om 42;have d:∀ k,k<B->¬ a.ownBlock=some k:=λk hk e=>by have:=(h.ra.lt k e).1;omega
 have j:aQ I++[iy c.toNat]=aQ (I++[c]):=by rw[nI];rfl
 refine⟨a',y,hr,⟨h.below.trans ((f.below (B:=B) h.size d).mono (by have:=h.hp;have:=h.pB;omega)),λg hg hp=>(f.block g (by have:=h.size;omega) (d g hg)).trans (h.since g hg hp),am h.size f.size,h.hp,h.pB,h.sB,h.ne,
  (f.block p (dC h.box) (d p h.pB)).trans h.box,h.sum.dB (f.block s (dC h.sum) (d s h.sB)),?_,dE h.rb (λg hg=>f.block g (h.rb.lt g hg).2 (λe=>h.ab g e hg)),?_⟩,f⟩
 ·rw[aE,<-j];exact l
 ·intro g hg i;rcases m with e|⟨g',e,hl⟩
  ·exact h.ab g (by rw[<-e];exact hg) i
  ·rw[e] at hg;simp at hg;have:=(h.rb.lt g i).2;omega
theorem mS.Be (h:mS w n wB B p s iv ov a b I O x){S:Nat->Prop}{u:Value}(c:UInt8) (hu:Cells x S u 1 1 [iy c.toNat]) (hO:O.length<=1000):
  ∃ b' y,(Builtin.append_ #[42,42] 42 #[b,u]).run prog x=.ok b' y/\mS w n wB B p s iv ov a b' I (O++[c]) y/\aA (λg=>b.ownBlock=some g) x y:=by
 obtain⟨b',y,hr,l,f,m⟩:=tS (P:=prog) (bytes:=1) underlying42 nu rfl de h.rb h.size (aA.refl _ _) hu (by simp[Value.oneCell']) mx om 42;have d:∀ k,k<B->¬ b.ownBlock=some k:=λk hk e=>by have:=(h.rb.lt k e).1;omega
 have j:aQ O++[iy c.toNat]=aQ (O++[c]):=by rw[nI];rfl
 refine⟨b',y,hr,⟨h.below.trans ((f.below (B:=B) h.size d).mono (by have:=h.hp;have:=h.pB;omega)),λg hg hp=>(f.block g (by have:=h.size;omega) (d g hg)).trans (h.since g hg hp),am h.size f.size,h.hp,h.pB,h.sB,h.ne,
  (f.block p (dC h.box) (d p h.pB)).trans h.box,h.sum.dB (f.block s (dC h.sum) (d s h.sB)),dE h.ra (λg hg=>f.block g (h.ra.lt g hg).2 (λe=>h.ab g hg e)),?_,?_⟩,f⟩
 ·rw[aE,<-j];exact l
 ·intro g i hg;rcases m with e|⟨g',e,hl⟩
  ·exact h.ab g i (by rw[<-e];exact hg)
  ·rw[e] at hg;simp at hg;have:=(h.ra.lt g i).2;omega
theorem mS.put (h:mS w n wB B p s iv ov a b I O x) (j:Nat) (v:Value) (iv' ov':Value) (hj:(#[iq s,iv,ov]:Array Value).setIfInBounds j v=#[iq s,iv',ov']):mS w n wB B p s iv' ov' a b I O (x.setCell (iu p j) v):=by
 refine⟨h.below.setCell (p:=iu p j) h.hp _,λg hg hp=>(kD _ _ _ hp).trans (h.since g hg hp),by simpa using h.size,h.hp,h.pB,h.sB,h.ne,?_,h.sum.dB (kD _ _ _ (by have:=h.ne;simp;omega)),
  dE h.ra (λg hg=>kD _ _ _ (by have:=(h.ra.lt g hg).1;have:=h.pB;simp;omega)),dE h.rb (λg hg=>kD _ _ _ (by have:=(h.rb.lt g hg).1;have:=h.pB;simp;omega)),h.ab⟩
 rw[lz h.box,hj]
end
structure td (w:World) (F:Nat->Prop) (p s:Nat) (iv ov:Value) (key:iz):Prop where
 own:F p
 box:w.heap[p]?=some (.cells #[iq s,iv,ov] 306 (0,0))
 Bf:F s
 sum:qE w s
 Bg:Bytes w F iv (np key 54 64)
 out:Bytes w F ov (np key 92 64)
abbrev td.o:=@td.«out»
theorem td.dB {w':World}{F:Nat->Prop}{p s:Nat}{iv ov:Value}(h:td w F p s iv ov key) (hs:w.heap.size<=w'.heap.size) (hk:∀ g,F g->g<w.heap.size->w'.heap[g]?=w.heap[g]?):td w' F p s iv ov key:=⟨h.own,(hk p h.own (dC h.box)).trans h.box,h.Bf,h.sum.dB (hk s h.Bf (dC h.sum)),Cells.dB h.Bg hs hk,Cells.dB h.o hs hk⟩
theorem Gp {S:Nat->Prop}{kv:Value}{K:iz}(hb:Bytes w S kv K) (hl:K.length<=64):
  Calls prog 175 #[kv] w λe w'=>∃ p s iv ov,e=.returned (iq p)/\td w' (λg=>w.heap.size<=g) p s iv ov K/\Below w.heap.size w w':=by
 obtain⟨n,hn⟩:=Ex w.heap.size;have J:=LH hn;obtain⟨KL,L⟩:=Ex K.length;have f:Cells w S kv KL 1 (aQ K):=L ▸ hb;obtain⟨ka,bC,rfl,bW,b3⟩:=f.shape;unfold maxLen at b3;rw[<-L] at hl;have bz:=LH (FE w);have f:=LH f;clear hb hn;go_enter func175,ntmps175
 go_wp2_with fail
 refine bz.o.mono ?_;rintro e w1 ⟨s,rfl,hs,Y,R⟩;obtain⟨p,hp⟩:=Ex w1.heap.size;obtain⟨wB,C⟩:=Ex (w1.alloc (.cells #[iq s,.slice none 0 0,.slice none 0 0] 306));obtain⟨B,hB⟩:=Ex wB.heap.size;have an:p<B:=by rw[hB,C,hp];simp
 have ba:n<=s:=J.o ▸ hs;have bp:=dC Y;have V:Below n w w1:=J.o ▸ R;have E:n<=p:=by have:=R.size;have:=J.o;omega
 have d:mS w n wB B p s (.slice none 0 0) (.slice none 0 0) (.slice none 0 0) (.slice none 0 0) (np K 54 0) (np K 92 0) wB:=by rw[Bc,Bc];refine⟨C ▸ V.alloc om _,λ_ _ _=>rfl,cJ hB,E,an,by omega,by omega,?_,C ▸ Y.dB (aB _ _ _ bp),aS _ _ _ _,aS _ _ _ _,by simp[Value.ownBlock]⟩;rw[C,hp];exact aj w1 _
 have b8:∃ kb ko,kb<B/\kb≠p/\(0<KL->ka=some (iu kb ko))/\∀ j,j<KL->wB.cell? (iu kb (ko+j))=some (iy (K.getD j 0).toNat):=by
  by_cases h0:0<KL
  ·obtain⟨g,off,cap,hv,_,_,_,ay,H⟩:=Cells.at f.o h0;simp only[IJ] at hv;refine⟨g,off,by have:=J.o;omega,by have:=J.o;omega,λ_=>hv.1,λj hj=>?_⟩
   have b2:wB.heap[g]?=w.heap[g]?:=by rw[C,aB _ _ _ (by have:=J.o;omega)];exact R.block g ay
   have ad:j<K.length:=om;rw[az (w:=w) b2,H j _ (pI K j ad)];simp[List.getD,ad]
  ·exact⟨s,0,by omega,by omega,λh=>absurd h h0,λj hj=>by omega⟩
 obtain⟨kb,ko,b4,b7,a1,a6⟩:=b8;revert d a1 a6;refine H3 ?_;intro d a1 a6;have bl:=LH hp;replace C:=LH C;have bD:=LH hB;replace L:=LH L;clear Y R V hs hp hB f;go_wp2;rw[<-bl.o,<-C.o];go_wp2
 go_loopw [21] (λi wr=>∃ k:Nat,k<=64/\i=iw k/\∃ iv ov,Hd (mS w n wB B p s iv ov iv ov (np K 54 k) (np K 92 k) wr))
  (λi _=>64 - (intOf i).toNat)
 case atStart=>exact⟨0,by omega,rfl,_,_,d.o⟩
 case round=>
  clear d;obtain⟨k,hk,rfl,iv,ov,d⟩:=hrel;have Z:=Dr wr
  by_cases c5:k<64
  ·obtain⟨Q,x⟩:=Ex ((K.getD k 0).toNat);have H:Q<256:=x ▸ aP _;obtain⟨c1,T⟩:=Ex (byte (Q ^^^ 54));obtain⟨c2,U⟩:=Ex (byte (Q ^^^ 92))
   have x1:bits .xor .u8 (Q:Int) 54=(c1.toNat:Int):=by have h:=dx Q 54 H om;rw[T,lM (l9 H om)];exact h
   have x2:bits .xor .u8 (Q:Int) 92=(c2.toNat:Int):=by have h:=dx Q 92 H om;rw[U,lM (l9 H om)];exact h
   have N:np K 54 (k+1)=np K 54 k++[c1]:=by rw[yz,<-x,T]
   have P:np K 92 (k+1)=np K 92 k++[c2]:=by rw[yz,<-x,U]
   obtain⟨I,hI⟩:=Ex (np K 54 k);obtain⟨O,hO⟩:=Ex (np K 92 k);have a8:I.length<=1000:=by rw[hI,wU];omega
   have aa:O.length<=1000:=by rw[hO,wU];omega
   rw[<-hI] at d N;rw[<-hO] at d P;have F:=d.o.box;have G:=dC F;have g1:=cell_of F 1;have g2:=cell_of F 2;have ci:wr.cell? (iu p 1)=some iv:=g1;have co:wr.cell? (iu p 2)=some ov:=g2;have c6:=d.o.size;have an:=d.o.pB;have z:∀ g,iv.ownBlock=some g->B<=g/\g<wr.heap.size:=λg hg=>d.o.ra.lt g hg
   have A:∀ g,ov.ownBlock=some g->B<=g/\g<wr.heap.size:=λg hg=>d.o.rb.lt g hg
   have M:k<KL->wr.cell? (iu kb (ko+k))=some (iy Q):=λh=>by have h5:=a6.o k h;rw[<-x,<-az (w:=wB) (d.o.since kb b4 b7)] at h5;exact h5
   clear g1 g2 hI hO F;revert Z T U N P ci co z A;refine H9 ?_;intro Z T U N P ci co z A;by_cases b6:k<KL
   ·have bR:=M b6;clear M;have b5:=a1.o om;subst b5;replace x:=LH x;go_wp2;refine RA.oz (aA (λg=>iv.ownBlock=some g\/ov.ownBlock=some g)) (aA No) [5,5,1,1,1,1,1,1,2,3,1,1,1,1,1,1,2,3,5,5,7,5,5,7] [20,23] (λi v c=>Cells c (λg=>wr.heap.size<=g) v 1 1 [iy (if i=8 then c1 else c2).toNat]) (λc=>mS w n wB B p s iv ov iv ov I O c) kr (aA.refl _ _) (λ_ _ h=>h.mono (λ_ _ e=>e.elim)) (λ_ _ _ h k=>h.trans k) (λ_ _ h k=>k.after (aA.no h)) (d.o.after ⟨rfl,rfl,rfl,ae _,λ_ _=>rfl⟩) kr kr ?_;intro cx;have l:∀ c,aA (λg=>iv.ownBlock=some g\/ov.ownBlock=some g) wr.drew c->aA (λg=>iv.ownBlock=some g\/ov.ownBlock=some g) wr c:=λc h=>⟨h.os,h.tape,h.output,h.size,h.block⟩
    have E:¬ (iv.ownBlock=some p\/ov.ownBlock=some p):=λh=>by
     rcases h with h|h
     ·have:=(z.o p h).1;omega
     ·have:=(A.o p h).1;omega
    refine RA.pq ?_;refine RA.pq ?_
    repeat refine RA.qq ?_
    refine RA.fk prog p 1 (h:=?_);refine RA.lk prog (iv) (hc:=λc hp=>by exact ((l _ hp.1).cell (p:=iu p 1) G E).trans ci.o) (h:=?_)
    repeat refine RA.qq ?_
    refine RA.vk prog (iy c1.toNat) (h:=?_)
    refine RA.fr (hs:=λv a b h D=>D.ki h (λg hg Y hC=>by rcases hC with e|e;exact absurd (z.o g e).2 om;exact absurd (A.o g e).2 om)) (hr:=λc hp=>⟨ir c.heap.size 1 1,c.alloc (.cells #[iy c1.toNat] 5),by show (execOp _ _).run prog c=_;go_simp,(aA.refl _ _).alloc _,(Cells.own (ch (base:=wr.heap.size) (e:=5) (size:=1) c #[iy c1.toNat] 1 (l _ hp.1).size mx rfl)).mono (λ_ _ h=>h.2)⟩) (h:=λbA=>?_)
    refine RA.bq (λ_ _=>True) (λu t=>mS w n wB B p s iv ov u ov (I++[c1]) O t) (hs:=λ_ _ _ _ _=>trivial) (he:=λ_ _ _ h k=>k.after (aA.no h)) (hr:=λc hp hH=>by obtain⟨u,t,h1,D,X⟩:=hH.Bd c1 (hp.fact 0 rfl kr) a8;exact⟨u,t,RA.nS rf rf h1,X.mono (λ_ _ e=>.inl e),trivial,D⟩) (hn:=λy=>?_)
    repeat refine RA.qq ?_
    refine RA.fk prog p 2 (h:=?_);refine RA.lk prog (ov) (hc:=λc hp=>by exact ((l _ hp.1).cell (p:=iu p 2) G E).trans co.o) (h:=?_)
    repeat refine RA.qq ?_
    refine RA.vk prog (iy c2.toNat) (h:=?_)
    refine RA.fr (hs:=λv a b h D=>D.ki h (λg hg Y hC=>by rcases hC with e|e;exact absurd (z.o g e).2 om;exact absurd (A.o g e).2 om)) (hr:=λc hp=>⟨ir c.heap.size 1 1,c.alloc (.cells #[iy c2.toNat] 5),by show (execOp _ _).run prog c=_;go_simp,(aA.refl _ _).alloc _,(Cells.own (ch (base:=wr.heap.size) (e:=5) (size:=1) c #[iy c2.toNat] 1 (l _ hp.1).size mx rfl)).mono (λ_ _ h=>h.2)⟩) (h:=λbB=>?_)
    refine RA.bq (λ_ _=>True) (λu t=>mS w n wB B p s iv ov y u (I++[c1]) (O++[c2]) t) (hs:=λ_ _ _ _ _=>trivial) (he:=λ_ _ _ h k=>k.after (aA.no h)) (hr:=λc hp hH=>by obtain⟨u,t,h1,D,X⟩:=hH.Be c2 (hp.fact 0 rfl kr) aa;exact⟨u,t,RA.nS rf rf h1,X.mono (λ_ _ e=>.inr e),trivial,D⟩) (hn:=λm=>?_)
    refine RA.pq ?_;refine RA.pk prog p 1 (h:=?_)
    refine RA.lr (λt=>mS w n wB B p s y ov y m (I++[c1]) (O++[c2]) t) (he:=λ_ _ h k=>k.after (aA.no h)) (hr:=(λc a7 hH=>by have r:=hH.put 1 y y ov rfl;obtain⟨W,cp,rfl,_,_⟩:=kz hH.ra sm;have fz:=kY hH.box 1;have q:=cell_of hH.box 1;have cz:c.cell? (iu p 1)=some iv:=q;refine⟨_,RA.kL rf rf (w':=c.setCell (iu p 1) (ir W (I++[c1]).length cp)) ?_,r⟩;clear r q;show (Instr.storeAt _ _ _).run prog c=_;go_simp)) (hn:=?_)
    refine RA.pq ?_;refine RA.pk prog p 2 (h:=?_)
    refine RA.lr (λt=>mS w n wB B p s y m y m (I++[c1]) (O++[c2]) t) (he:=λ_ _ h k=>k.after (aA.no h)) (hr:=(λc a7 hH=>by have r:=hH.put 2 m y m rfl;obtain⟨W,cp,rfl,_,_⟩:=kz hH.rb sm;have fz:=kY hH.box 2;have q:=cell_of hH.box 2;have cz:c.cell? (iu p 2)=some ov:=q;refine⟨_,RA.kL rf rf (w':=c.setCell (iu p 2) (ir W (O++[c2]).length cp)) ?_,r⟩;clear r q;show (Instr.storeAt _ _ _).run prog c=_;go_simp)) (hn:=?_)
    refine RA.RA.kZ (λw5 hH=>?_);simp only[RA.RP,cx];replace hH:=LH hH;go_wp2;go_roundw
    case rel=>refine⟨k+1,by omega,by go_num,y,m,?_⟩;show mS _ _ _ _ _ _ _ _ _ _ _ _ _;rw[N.o,P.o];exact hH.o
    case measure=>simp[intOf];omega
   ·have ax:Q=0:=by rw[x];simp[List.getD,cB (show K.length<=k by have:=L.o;omega)]
    subst ax;clear M;replace x1:bits .xor .u8 0 54=(c1.toNat:Int):=x1;replace x2:bits .xor .u8 0 92=(c2.toNat:Int):=x2;replace x:=LH x;go_wp2;refine RA.oz (aA (λg=>iv.ownBlock=some g\/ov.ownBlock=some g)) (aA No) [5,5,1,1,1,1,1,1,2,3,1,1,1,1,1,1,2,3,5,5,7,5,5,7] [20,23] (λi v c=>Cells c (λg=>wr.heap.size<=g) v 1 1 [iy (if i=8 then c1 else c2).toNat]) (λc=>mS w n wB B p s iv ov iv ov I O c) kr (aA.refl _ _) (λ_ _ h=>h.mono (λ_ _ e=>e.elim)) (λ_ _ _ h k=>h.trans k) (λ_ _ h k=>k.after (aA.no h)) (d.o.after ⟨rfl,rfl,rfl,ae _,λ_ _=>rfl⟩) kr kr ?_;intro cx;have l:∀ c,aA (λg=>iv.ownBlock=some g\/ov.ownBlock=some g) wr.drew c->aA (λg=>iv.ownBlock=some g\/ov.ownBlock=some g) wr c:=λc h=>⟨h.os,h.tape,h.output,h.size,h.block⟩
    have E:¬ (iv.ownBlock=some p\/ov.ownBlock=some p):=λh=>by
     rcases h with h|h
     ·have:=(z.o p h).1;omega
     ·have:=(A.o p h).1;omega
    refine RA.pq ?_;refine RA.pq ?_
    repeat refine RA.qq ?_
    refine RA.fk prog p 1 (h:=?_);refine RA.lk prog (iv) (hc:=λc hp=>by exact ((l _ hp.1).cell (p:=iu p 1) G E).trans ci.o) (h:=?_)
    repeat refine RA.qq ?_
    refine RA.vk prog (iy c1.toNat) (h:=?_)
    refine RA.fr (hs:=λv a b h D=>D.ki h (λg hg Y hC=>by rcases hC with e|e;exact absurd (z.o g e).2 om;exact absurd (A.o g e).2 om)) (hr:=λc hp=>⟨ir c.heap.size 1 1,c.alloc (.cells #[iy c1.toNat] 5),by show (execOp _ _).run prog c=_;go_simp,(aA.refl _ _).alloc _,(Cells.own (ch (base:=wr.heap.size) (e:=5) (size:=1) c #[iy c1.toNat] 1 (l _ hp.1).size mx rfl)).mono (λ_ _ h=>h.2)⟩) (h:=λbA=>?_)
    refine RA.bq (λ_ _=>True) (λu t=>mS w n wB B p s iv ov u ov (I++[c1]) O t) (hs:=λ_ _ _ _ _=>trivial) (he:=λ_ _ _ h k=>k.after (aA.no h)) (hr:=λc hp hH=>by obtain⟨u,t,h1,D,X⟩:=hH.Bd c1 (hp.fact 0 rfl kr) a8;exact⟨u,t,RA.nS rf rf h1,X.mono (λ_ _ e=>.inl e),trivial,D⟩) (hn:=λy=>?_)
    repeat refine RA.qq ?_
    refine RA.fk prog p 2 (h:=?_);refine RA.lk prog (ov) (hc:=λc hp=>by exact ((l _ hp.1).cell (p:=iu p 2) G E).trans co.o) (h:=?_)
    repeat refine RA.qq ?_
    refine RA.vk prog (iy c2.toNat) (h:=?_)
    refine RA.fr (hs:=λv a b h D=>D.ki h (λg hg Y hC=>by rcases hC with e|e;exact absurd (z.o g e).2 om;exact absurd (A.o g e).2 om)) (hr:=λc hp=>⟨ir c.heap.size 1 1,c.alloc (.cells #[iy c2.toNat] 5),by show (execOp _ _).run prog c=_;go_simp,(aA.refl _ _).alloc _,(Cells.own (ch (base:=wr.heap.size) (e:=5) (size:=1) c #[iy c2.toNat] 1 (l _ hp.1).size mx rfl)).mono (λ_ _ h=>h.2)⟩) (h:=λbB=>?_)
    refine RA.bq (λ_ _=>True) (λu t=>mS w n wB B p s iv ov y u (I++[c1]) (O++[c2]) t) (hs:=λ_ _ _ _ _=>trivial) (he:=λ_ _ _ h k=>k.after (aA.no h)) (hr:=λc hp hH=>by obtain⟨u,t,h1,D,X⟩:=hH.Be c2 (hp.fact 0 rfl kr) aa;exact⟨u,t,RA.nS rf rf h1,X.mono (λ_ _ e=>.inr e),trivial,D⟩) (hn:=λm=>?_)
    refine RA.pq ?_;refine RA.pk prog p 1 (h:=?_)
    refine RA.lr (λt=>mS w n wB B p s y ov y m (I++[c1]) (O++[c2]) t) (he:=λ_ _ h k=>k.after (aA.no h)) (hr:=(λc a7 hH=>by have r:=hH.put 1 y y ov rfl;obtain⟨W,cp,rfl,_,_⟩:=kz hH.ra sm;have fz:=kY hH.box 1;have q:=cell_of hH.box 1;have cz:c.cell? (iu p 1)=some iv:=q;refine⟨_,RA.kL rf rf (w':=c.setCell (iu p 1) (ir W (I++[c1]).length cp)) ?_,r⟩;clear r q;show (Instr.storeAt _ _ _).run prog c=_;go_simp)) (hn:=?_)
    refine RA.pq ?_;refine RA.pk prog p 2 (h:=?_)
    refine RA.lr (λt=>mS w n wB B p s y m y m (I++[c1]) (O++[c2]) t) (he:=λ_ _ h k=>k.after (aA.no h)) (hr:=(λc a7 hH=>by have r:=hH.put 2 m y m rfl;obtain⟨W,cp,rfl,_,_⟩:=kz hH.rb sm;have fz:=kY hH.box 2;have q:=cell_of hH.box 2;have cz:c.cell? (iu p 2)=some ov:=q;refine⟨_,RA.kL rf rf (w':=c.setCell (iu p 2) (ir W (O++[c2]).length cp)) ?_,r⟩;clear r q;show (Instr.storeAt _ _ _).run prog c=_;go_simp)) (hn:=?_)
    refine RA.RA.kZ (λw5 hH=>?_);simp only[RA.RP,cx];replace hH:=LH hH;go_wp2;go_roundw
    case rel=>refine⟨k+1,by omega,by go_num,y,m,?_⟩;show mS _ _ _ _ _ _ _ _ _ _ _ _ _;rw[N.o,P.o];exact hH.o
    case measure=>simp[intOf];omega
  ·have af:k=64:=om;rw[af] at d;clear af Z;go_wp2;go_ret;have h:=d.o;exact⟨p,s,iv,ov,rfl,⟨J.o ▸ h.hp,h.box,J.o ▸ ba,h.sum,(show Bytes _ _ _ _ from (by have e:=Cells.own h.ra;exact e)).mono (λg _ hg=>by have:=hg.2;have:=J.o;omega),(show Bytes _ _ _ _ from (by have e:=Cells.own h.rb;exact e)).mono (λg _ hg=>by have:=hg.2;have:=J.o;omega)⟩,J.o ▸ h.below⟩
end Go.Proofs.YthmcbgidehjlbaaGreat.Fd

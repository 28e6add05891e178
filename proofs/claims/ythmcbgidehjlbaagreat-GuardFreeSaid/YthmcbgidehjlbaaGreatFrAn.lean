/-
 Parts of the proof. No condition beyond what each theorem names.
-/
import Derived.Test.YthmcbgidehjlbaaGreatFrAc
import Derived.Test.YthmcbgidehjlbaaGreatFrAf
import Derived.Test.YthmcbgidehjlbaaGreatFrAm
set_option maxRecDepth 100000
set_option maxHeartbeats 16000000
namespace Go.Proofs.YthmcbgidehjlbaaGreat.Fd
open _root_.Go.Proofs.Tryz
open Go Go.RowKit K
variable {w:World}{b m:Nat}{t:TypeId}{l ps:List Nat}{r:Nat->Nat}
def kG (l:List Nat):List Value:=l.map λ(x:Nat)=>.int .u32 x
theorem pz (l:List Nat):(kG l).length=l.length:=by simp[kG]
theorem Fw (l:List Nat) (i x:Nat):kG (l.set i x)=(kG l).set i (.int .u32 x):=by simp[kG]
theorem yr (l:List Nat):∀ u ∈ kG l,u.oneCell'=true:=by intro u hu;simp only[kG,aO] at hu;obtain⟨x,_,rfl⟩:=hu;rfl
theorem Fx (l:List Nat) (j:Nat) (h:j<l.length):(kG l)[j]?=some (.int .u32 (l.getD j 0:Nat)):=by simp[kG,List.getD,h]
def kN (w:World) (b:Nat) (t:TypeId) (l:List Nat):Prop:=w.heap[b]?=some (.cells (kG l).toArray t (0,0))
theorem kN.cell (h:kN w b t l) (j:Nat) (hj:j<l.length):w.cell? (iu b j)=some (.int .u32 (l.getD j 0:Nat)):=by rw[cell_of h,<-Fx l j hj];simp
theorem kN.frozen (h:kN w b t l) (j:Nat):w.frozen? (iu b j)=false:=kY h j
theorem kN.set (h:kN w b t l) (j x:Nat):kN (w.setCell (iu b j) (.int .u32 x)) b t (l.set j x):=by unfold kN;rw[lz h,Fw];simp
theorem kN.dB {w':World}(h:kN w b t l) (e:w'.heap[b]?=w.heap[b]?):kN w' b t l:=e.trans h
theorem kN.of {cs:Array Value}(e:cs=(kG l).toArray) (h:w.heap[b]?=some (.cells cs t (0,0))):kN w b t l:=by subst e;exact h
theorem kN.setRow (h:kN w b t l) (l':List Nat):kN (w.setRow b (kG l').toArray) b t l':=aJ w b _ _ t _ h
section
variable {P:Program}
theorem tV {n:Nat}{e:TypeId}(h:kN w n t l) (hu:P.underlying t=some (.array m e)) (hi:(P.info? t).map (·.size)=some l.length):
  (Instr.loadAt t (iq n)).run P w=.ok (.agg (kG l).toArray) w:=by
 simp only[Instr.loadAt,Instr.sureAddr,aM,Sem.run_pure,Result.andThen];exact cR w n t t _ (0,0) _ h hu rfl (by rw[hi];simp[pz])
theorem tW {g off:Nat}{ty e:TypeId}{x:List Value}(hu:P.underlying ty=some (.array m e)) (hi:(P.info? ty).map (·.size)=some x.length)
  (hx:∀ j v,x[j]?=some v->w.cell? (iu g (off+j))=some v):(Instr.loadAt ty (.pointer (some (iu g off)))).run P w=.ok (.agg x.toArray) w:=by
 have b:(loadCells (iu g off) x.length).run P w=.ok x.toArray w:=gj (P:=P) w (iu g off) x (λj v hv=>by rw[bJ];exact hx j v hv)
 have h:(loadVar ty (iu g off)).run P w=.ok (.agg x.toArray) w:=by
  cases hq:P.info? ty with
  | none=>simp[hq] at hi
  | some i=>
   have hs:i.size=x.length:=by simpa [hq] using hi
   have a:(isAgg ty).run P w=.ok true w:=by unfold isAgg;rw[aM,bb hu w];simp
   simp[loadVar,a,sizeOf,typeInfo,hq,hs,b]
 simp only[Instr.loadAt,Instr.sureAddr,aM,Sem.run_pure,Result.andThen];exact h
theorem tX {n off:Nat}{ty:TypeId}{cs:Array Value}{x:List Value}(h:w.heap[n]?=some (.cells cs t (0,0))) (hi:(P.info? ty).map (·.size)=some x.length) (hl:off+x.length<=cs.size) (h1:∀ v ∈ x,v.oneCell'=true):
  (Instr.storeAt ty (.pointer (some (iu n off))) (.agg x.toArray)).run P w=.ok () (w.setRow n (splice cs.toList off x).toArray):=by
 have a:=run_storeCells_at (P:=P) n off t x 0 _ w h om h1;simp only[Instr.storeAt,Instr.sureAddr,aM,Sem.run_pure,Result.andThen];cases hq:P.info? ty with
 | none=>simp[hq] at hi
 | some i=>
  have hs:x.length=i.size:=by simp[hq] at hi;omega
  simpa [storeVar,sizeOf,typeInfo,hq,Value.cells,hs] using a
theorem Fy {α:Type}{l x:List α}(h:l.length=x.length):splice l 0 x=x:=by simp only[splice,dX,bE];rw[eV om,dm]
theorem tY {n:Nat}{ty:TypeId}{x:List Nat}(h:kN w n t l) (hi:(P.info? ty).map (·.size)=some x.length) (hl:l.length=x.length):
  (Instr.storeAt ty (iq n) (.agg (kG x).toArray)).run P w=.ok () (w.setRow n (kG x).toArray):=by
 have a:=tX (P:=P) (off:=0) (x:=kG x) h (by rw[hi,pz]) (by simp[pz];omega) (yr x);rw[show (kG l).toArray.toList=kG l from rfl] at a;rw[Fy (by rw[pz,pz,hl])] at a;exact a
theorem yt {n:Nat}{ty:TypeId}(h:kN w n t l) (hi:(P.info? ty).map (·.size)=some l.length):
  (Instr.storeAt ty (iq n) (.agg (kG l).toArray)).run P w=.ok () w:=by
 have a:=tY (P:=P) h hi rfl;rw[yh h] at a;exact a
end
theorem pQ (h:l.length=8):(prog.info? 313).map (·.size)=some l.length:=by rw[h];kernel_rfl
theorem sn (h:l.length=64):(prog.info? 314).map (·.size)=some l.length:=by rw[h];kernel_rfl
def oZ (m:Nat) (r:Nat->Nat) (ps:List Nat) (k:Nat):List Nat:=(ps.take k).map r++List.replicate (m - k) 0
theorem wJ (h:ps.length=m){k:Nat}(hk:k<=m):(oZ m r ps k).length=m:=by simp[oZ];omega
theorem AH (h:ps.length=m){k:Nat}(hk:k<m):(oZ m r ps k).set k (r (ps.getD k 0))=oZ m r ps (k+1):=by
 have a:k<ps.length:=om;unfold oZ;rw[bP a,dz,show m - k=(m - (k+1))+1 by omega,gT];rw[fv _ _ (by simp;omega)];have e:k - (List.map r (ps.take k)).length=0:=by simp;omega
 rw[e,au];simp[List.getD,a]
theorem AI (h:ps.length=m):oZ m r ps m=ps.map r:=by simp[oZ,bh (cJ h)]
theorem wK:(oY 8).length=8/\∀ p ∈ oY 8,p<1000:=by decide +kernel
theorem wM:(oY 64).length=64/\∀ p ∈ oY 64,p<1000:=by decide +kernel
def nM:List Nat:=(oY 8).map (root · 2)
def n9:List Nat:=(oY 64).map (root · 3)
theorem vl:nM.length=8:=by simp[nM,wK.1]
theorem AJ:n9.length=64:=by simp[n9,wM.1]
theorem Fz (p:Nat) (hp:p<1000) (w:World):Calls prog 202 #[.int .u64 p,iw 2] w λe w'=>e=.returned (.int .u32 (root p 2:Nat))/\w=w':=by
 have h:=Fb p hp w;have e:root p 2=px p 2 37 68719476736 0 % 4294967296:=by rw[root,ym];simp
 rw[e];exact h
theorem FA (p:Nat) (hp:p<1000) (w:World):Calls prog 202 #[.int .u64 p,iw 3] w λe w'=>e=.returned (.int .u32 (root p 3:Nat))/\w=w':=by
 have h:=Fc p (p*4294967296) hp rfl w;have e:root p 3=px (p*4294967296) 3 37 68719476736 0 % 4294967296:=by rw[root,ym]
 rw[e];exact h
attribute [irreducible] nM n9
theorem FB (w:World):Calls prog 193 #[] w λe w'=>e=.returned (.tuple #[.agg (kG nM).toArray,.agg (kG n9).toArray])/\Below w.heap.size w w':=by
 obtain⟨n,hn⟩:=Ex w.heap.size;have M:=LH hn;have X:=λU=>Ay 8 om (cJ wK.1.symm) U
 have E:=λU=>Ay 64 om (cJ wM.1.symm) U
 have T:nM=oZ 8 (λp=>root p 2) (oY 8) 8:=by rw[AI wK.1];unfold nM;rfl
 have C:n9=oZ 64 (λp=>root p 3) (oY 64) 64:=by rw[AI wM.1];unfold n9;rfl
 obtain⟨O,Z⟩:=Ex (oY 8);obtain⟨y,N⟩:=Ex (oY 64);have H:=wK;have r:=wM;rw[<-Z] at X T H;rw[<-N] at E C r;clear Z N;rw[H.1] at X;rw[r.1] at E;obtain⟨Y,s⟩:=Ex nM;obtain⟨Q,c⟩:=Ex n9;rw[<-s,<-c];rw[<-s] at T;rw[<-c] at C;clear s c;refine G6 X E H r T C ?_;clear X E H r T C;intro X E H r T C;clear hn;go_enter func193,ntmps193
 go_wp2_with fail
 refine (X.o _).mono ?_;rintro e U ⟨v,rfl,ho,hb⟩
 have l:kN U n 313 (List.replicate 8 0):=by refine kN.dB ?_ (hb.block n (by simp[M.o];omega));rw[M.o];exact (aB _ _ _ sm).trans (aj w _)
 have j:kN U (n+1) 314 (List.replicate 64 0):=by refine kN.dB ?_ (hb.block (n+1) (by simp[M.o]));have h:=aj (w.alloc (.cells (kG (List.replicate 8 0)).toArray 313)) (.cells (kG (List.replicate 64 0)).toArray 314);simp only[aN] at h;rw[M.o];exact h
 have F:Below n w U:=by rw[M.o];exact (((ag _ _).alloc (ae _) _).alloc sm _).trans (hb.mono (by simp;omega))
 have hc:=(Cells.own ho).mono (S':=λg=>n+1<g) (λg _ hg=>by have:=hg.2;simp at this;have:=M.o;omega);obtain⟨va,vc,rfl,ax,aa⟩:=hc.shape;unfold maxLen at aa;rw[<-M.o];refine G4 l j F hc ?_;clear l j F hc;intro l j F hc;clear ho hb;go_wp2
 go_loopw [8] (λi wr=>∃ k:Nat,k<=8/\i=iw k/\Below n w wr/\n+1<wr.heap.size/\Hd (Cells wr (λg=>n+1<g) (.slice va 8 vc) 8 1 (sX O))/\Hd (kN wr n 313 (oZ 8 (λp=>root p 2) O k))/\Hd (kN wr (n+1) 314 (List.replicate 64 0)))
  (λi _=>8 - (intOf i).toNat)
 case atStart=>exact⟨0,by omega,rfl,F.o,dC j.o,hc.o,l.o,j.o⟩
 case round=>
  clear l j F hc;obtain⟨k,hk,rfl,t,hs,hc,I,H1⟩:=hrel;replace t:=LH t;by_cases u:k<8
  ·obtain⟨g,off,cp,hv,_,_,a8,a7,A⟩:=Cells.at hc.o om;simp only[IJ] at hv;obtain⟨rfl,_,rfl⟩:=hv;have z:=A k _ (yn O k (by rw[H.o.1];exact u));replace A:=LH A;obtain⟨p,hp⟩:=Ex (O.getD k 0);rw[<-hp] at z
   have S:p<1000:=by rw[hp];refine H.o.2 _ ?_;simp[List.getD,show k<O.length by rw[H.o.1];exact u]
   have m:=LH (Fz p S wr);obtain⟨R,x⟩:=Ex (root p 2);rw[<-x] at m
   have q:(oZ 8 (λp=>root p 2) O k).set k R=oZ 8 (λp=>root p 2) O (k+1):=by rw[x,hp];exact AH H.o.1 u
   have f0:=I.o.frozen k;have c0:=I.o.cell k (by rw[wJ H.o.1 hk];exact u);have f:=I.o.set k R;rw[q] at f;replace f:=LH f;clear q x hp
   go_wp2_with (go_at_call 202;(with_reducible refine m.o.mono ?_);rintro e w' ⟨rfl,rfl⟩)
   go_roundw
   case rel=>
    refine⟨k+1,by omega,by go_num,t.o.setCell (p:=iu n k) (ae n) _,by simpa using hs,?_,f.o,?_⟩
    ·exact hc.o.dB sm (λb hb _=>kD _ _ _ (by simp;omega))
    ·exact H1.o.dB (kD _ _ _ sm)
   case measure=>simp[intOf];omega
  ·have B:k=8:=om;rw[B] at I;replace B:=LH B
   go_wp2_with fail
   refine (E.o wr).mono ?_;rintro e w2 ⟨v,rfl,ho,hb⟩
   have l:kN w2 n 313 Y:=by rw[T.o];exact I.o.dB (hb.block n om)
   have j:kN w2 (n+1) 314 (List.replicate 64 0):=H1.o.dB (hb.block (n+1) hs);have G:Below n w w2:=t.o.trans (hb.mono om);have a1:n+1<w2.heap.size:=dC j;have D:=(Cells.own ho).mono (S':=λg=>n+1<g) (λg _ hg=>by have:=hg.2;omega);obtain⟨ad,af,rfl,an,a6⟩:=D.shape;unfold maxLen at a6;refine G4 l j G D ?_;clear l j G D;intro l j G D;have s:Y.length=8:=by rw[T.o,wJ H.o.1 (ae _)]
   have c:Q.length=64:=by rw[C.o,wJ r.o.1 (ae _)]
   clear ho hb I H1 hc t hs B hk;generalize decide ((k:Int)<8)=dd;generalize iw (k:Int)=kk;go_wp2
   go_loopw [20] (λi wr=>∃ k:Nat,k<=64/\i=iw k/\Below n w wr/\n+1<wr.heap.size/\Hd (Cells wr (λg=>n+1<g) (.slice ad 64 af) 64 1 (sX y))/\Hd (kN wr n 313 Y)/\Hd (kN wr (n+1) 314 (oZ 64 (λp=>root p 3) y k)))
    (λi _=>64 - (intOf i).toNat)
   case atStart=>exact⟨0,by omega,rfl,G.o,a1,D.o,l.o,j.o⟩
   case round=>
    clear l j G D a1;obtain⟨k,hk,rfl,t,hs,hc,I,H1⟩:=hrel;replace t:=LH t;by_cases u:k<64
    ·obtain⟨g,off,cp,hv,_,_,a8,a7,A⟩:=Cells.at hc.o om;simp only[IJ] at hv;obtain⟨rfl,_,rfl⟩:=hv;have z:=A k _ (yn y k (by rw[r.o.1];exact u));replace A:=LH A;obtain⟨p,hp⟩:=Ex (y.getD k 0);rw[<-hp] at z
     have S:p<1000:=by rw[hp];refine r.o.2 _ ?_;simp[List.getD,show k<y.length by rw[r.o.1];exact u]
     have m:=LH (FA p S wr);obtain⟨R,x⟩:=Ex (root p 3);rw[<-x] at m
     have q:(oZ 64 (λp=>root p 3) y k).set k R=oZ 64 (λp=>root p 3) y (k+1):=by rw[x,hp];exact AH r.o.1 u
     have f0:=H1.o.frozen k;have c0:=H1.o.cell k (by rw[wJ r.o.1 hk];exact u);have f:=H1.o.set k R;rw[q] at f;replace f:=LH f;clear q x hp
     go_wp2_with (go_at_call 202;(with_reducible refine m.o.mono ?_);rintro e w' ⟨rfl,rfl⟩)
     go_roundw
     case rel=>
      refine⟨k+1,by omega,by go_num,t.o.setCell (p:=iu (n+1) k) (by show n<=n+1;omega) _,by simpa using hs,?_,?_,f.o⟩
      ·exact hc.o.dB sm (λb hb _=>kD _ _ _ (by simp;omega))
      ·exact I.o.dB (kD _ _ _ sm)
     case measure=>simp[intOf];omega
    ·have B:k=64:=om;rw[B,<-C.o] at H1;clear B;have V:=λ(d:World) (h:aA No wr.drew d)=>I.o.dB (h.block n (by show n<wr.heap.size;omega) id)
     have W:=λ(d:World) (h:aA No wr.drew d)=>H1.o.dB (h.block (n+1) (by show n+1<wr.heap.size;omega) id)
     have J:=λ(d:World) (h:aA No wr.drew d)=>tV (P:=prog) (V d h) underlying313 (pQ s)
     have K:=λ(d:World) (h:aA No wr.drew d)=>tV (P:=prog) (W d h) underlying314 (sn c)
     have hs0:=λ(d:World) (h:aA No wr.drew d)=>yt (P:=prog) (V d h) (pQ s)
     have L:=λ(d:World) (h:aA No wr.drew d)=>yt (P:=prog) (W d h) (sn c)
     refine G8 V W J K hs0 L s c ?_;clear V W J K hs0 L s c;intro V W J K hs0 L s c;go_wp2;refine RA.rt (aA No) [1,1,2,2] [] (λ_=>True) trivial (λ_=>aA.refl _ _) (λ_ _ _ h k=>h.trans k) (h:=?_);intro cx;refine RA.ld (y':=.agg (kG Y).toArray) (hr:=λd hp=>J.o d hp.1) (h:=?_);refine RA.ld (y':=.agg (kG Q).toArray) (hr:=λd hp=>K.o d hp.1) (h:=?_);refine RA.sg rf rf (λw=>rfl) (λ_ _=>trivial) (λd hp=>RA.kL rf rf (hs0.o d hp.1)) (λu1=>?_);refine RA.sg rf rf (λw=>rfl) (λ_ _=>trivial) (λd hp=>RA.kL rf rf (L.o d hp.1)) (λu2=>?_);refine RA.RA.done rfl (λd x hF hH=>?_);clear hF hH;simp only[RA.RP,cx];go_wp2;have x:aA No wr.drew d:=x;refine aI (v:=.tuple #[.agg (kG Y).toArray,.agg (kG Q).toArray]) ?_ rfl ⟨rfl,?_⟩
     ·exact Aa results193 _ d (a:=iu n 0) (b:=iu (n+1) 0) rfl rfl (cR d n _ _ _ (0,0) _ (V.o d x) underlying313 rfl (by rw[pQ s.o];simp[pz])) (cR d (n+1) _ _ _ (0,0) _ (W.o d x) underlying314 rfl (by rw[sn c.o];simp[pz]))
     ·rw[<-M.o];have h:Below wr.heap.size wr d:=aA.no ⟨x.os,x.tape,x.output,x.size,x.block⟩;exact t.o.trans (h.mono om)
theorem AK (l:List Nat) (off:Nat) (x:List Nat):splice (kG l) off (kG x)=kG (splice l off x):=by simp[splice,kG]
theorem FC {α:Type}{x y z:List α}(h:x.length=z.length):splice (z++y) 0 x=x++y:=by simp[splice,h]
theorem FD {α:Type}{x y z:List α}(h:x.length=y.length):splice (z++y) z.length x=z++x:=by simp[splice,h]
def qE (w:World) (p:Nat):Prop:=kN w p 316 (nM++n9)
theorem qE.dB {w w':World}{p:Nat}(h:qE w p) (e:w'.heap[p]?=w.heap[p]?):qE w' p:=kN.dB h e
theorem FE (w:World):Calls prog 185 #[] w λe w'=>∃ p,e=.returned (iq p)/\w.heap.size<=p/\qE w' p/\Below w.heap.size w w':=by
 obtain⟨n,C⟩:=Ex w.heap.size;have t:=LH C;have hc:=λA=>FB A
 have d:∀ w',kN w' n 316 (nM++n9)->qE w' n:=λ_ h=>h
 have c:=vl;have a:=AJ;obtain⟨j,m⟩:=Ex nM;obtain⟨g,i⟩:=Ex n9;rw[<-m] at c;rw[<-i] at a;rw[<-m,<-i] at d;rw[<-m,<-i] at hc;clear m i C;refine G4 hc d c a ?_;clear hc d c a;intro hc d c a;go_enter func185,ntmps185
 go_wp2_with fail
 refine (hc.o _).mono ?_;rintro e A ⟨rfl,hb⟩;rw[<-t.o]
 have r:kN A n 316 (List.replicate 8 0++List.replicate 64 0):=by refine kN.dB ?_ (hb.block n (by simp[t.o]));rw[t.o];exact aj w _
 have u:Below n w A:=by rw[t.o];exact ((ag _ _).alloc (ae _) _).trans (hb.mono sm)
 have b:=tX (P:=prog) (off:=0) (ty:=313) (x:=kG j) r (by rw[pQ c.o,pz]) (by simp[pz,c.o]) (yr j);rw[show (kG (List.replicate 8 0++List.replicate 64 0)).toArray.toList=kG (List.replicate 8 0++List.replicate 64 0) from rfl,AK,FC (by rw[c.o,aK])] at b;obtain⟨w2,q⟩:=Ex (A.setRow n (kG (j++List.replicate 64 0)).toArray);have s:kN w2 n 316 (j++List.replicate 64 0):=q ▸ r.setRow _;have v:Below n w w2:=q ▸ below_setRow u (ae n) _;rw[<-q] at b;have f:=tX (P:=prog) (off:=8) (ty:=314) (x:=kG g) s (by rw[sn a.o,pz]) (by simp[pz,c.o,a.o]) (yr g)
 have B:splice (j++List.replicate 64 0) 8 g=j++g:=by have:=FD (x:=g) (y:=List.replicate 64 0) (z:=j) (by rw[a.o,aK]);rw[c.o] at this;exact this
 rw[show (kG (j++List.replicate 64 0)).toArray.toList=kG (j++List.replicate 64 0) from rfl,AK,B] at f;have k:=s.setRow (j++g);have l:=below_setRow v (ae n) (kG (j++g)).toArray;refine G4 b f k l ?_;clear b f k l;intro b f k l;clear r u s v q B hb
 go_wp2_with (first
  | (refine kI rfl 313 _ _ rfl _ _ rfl rfl b.o ?_)
  | (refine kI rfl 314 _ _ rfl _ _ rfl rfl f.o ?_))
 go_ret;exact⟨n,rfl,cJ t.o.symm,d.o _ k.o,t.o ▸ l.o⟩
def AL (x:Nat):Nat:=mB x 25 ^^^ mB x 14 ^^^ x / 8
def AM (y:Nat):Nat:=mB y 15 ^^^ mB y 13 ^^^ y / 1024
def yu (l:List Nat) (i:Nat):Nat:=(((l.getD (i - 16) 0+AL (l.getD (i - 15) 0)) % 4294967296+l.getD (i - 7) 0) % 4294967296+AM (l.getD (i - 2) 0)) % 4294967296
def wL (b:iz):Nat->List Nat
 | 0=>List.replicate 64 0
 | i+1=>(wL b i).set i (if i<16 then qh b i else yu (wL b i) i)
theorem wN {b:iz}{i:Nat}:(wL b i).length=64:=by
 cases i with
 | zero=>exact aK
 | succ i=>exact bg.trans wN
theorem FF {l:List Nat}{i:Nat}:yu l i<4294967296:=eE _ om
theorem AO {l:List Nat}{i j x B:Nat}(hl:∀ j,l.getD j 0<B) (hx:x<B):(l.set i x).getD j 0<B:=by
 simp only[List.getD,ej];split
 ·split
  ·exact hx
  ·have:=hl i;simp only[List.getD] at this;simp;omega
 ·exact hl j
theorem AP {b:iz}:∀ {i j:Nat},(wL b i).getD j 0<4294967296:=by
 intro i
 induction i with
 | zero=>intro j;simp only[wL,List.getD,eC];split<;>simp
 | succ i ih=>
  intro j;refine AO (λj=>ih) ?_;split
  ·exact Fg
  ·exact FF
theorem FG {w:World}{S:Nat->Prop}{v:Value}{b:iz}(hb:Bytes w S v b) (hl:b.length=64):
  Calls prog 203 #[v] w λe w'=>e=.returned (.agg (kG (wL b 64)).toArray)/\Below w.heap.size w w':=by
 obtain⟨n,hn⟩:=Ex w.heap.size;have HN:=LH hn;have hc:Cells w S v 64 1 (aQ b):=by rw[<-hl];exact hb
 obtain⟨g,off,cap,rfl,e3,cz,_,bA,M⟩:=Cells.at hc om
 have d:∀ j,j<64->w.cell? (iu g (off+j))=some (iy (b.getD j 0).toNat):=by intro j hj;have h:=M j _ (pI b j om);rw[h];simp[List.getD,show j<b.length by omega]
 rw[<-hn] at bA;unfold maxLen at cz;replace d:=LH d;replace hl:=LH hl;clear hb hc M hn;go_enter func203,ntmps203;go_wp2;rw[<-HN.o]
 go_loopw [8] (λi wr=>∃ k:Nat,k<=64/\i=iw k/\Below n w wr/\n<wr.heap.size/\Hd (kN wr n 314 (wL b k)))
  (λi _=>64 - (intOf i).toNat)
 case atStart=>
  refine⟨0,by omega,rfl,?_,by simp[HN.o],?_⟩
  ·rw[HN.o];exact (ag _ _).alloc (ae _) _
  ·rw[HN.o];exact aj w _
 case round=>
  obtain⟨k,hk,rfl,c,hs,t⟩:=hrel;have a:=Dr wr
  replace a:=LH a;by_cases bW:k<64
  ·obtain⟨L,m⟩:=Ex (wL b k);have z:L.length=64:=m ▸ wN;have l:∀ j,L.getD j 0<4294967296:=λj=>m ▸ AP
   rw[<-m] at t;by_cases bl:k<16
   ·obtain⟨q,hq⟩:=Ex (4*k);have a8:4*(k:Int)=q:=om;have e7:q+3<64:=om;obtain⟨q1,c5⟩:=Ex (q+1);obtain⟨q2,c7⟩:=Ex (q+2);obtain⟨q3,c9⟩:=Ex (q+3);have ec:q1<64:=om;have ed:q2<64:=om;have en:q3<64:=om;have c6:(q:Int)+1=q1:=om;have c8:(q:Int)+2=q2:=om;have ca:(q:Int)+3=q3:=om;obtain⟨A,hA⟩:=Ex ((b.getD q 0).toNat);obtain⟨B,hB⟩:=Ex ((b.getD q1 0).toNat);obtain⟨C,hC⟩:=Ex ((b.getD q2 0).toNat);obtain⟨D,hD⟩:=Ex ((b.getD q3 0).toNat);have E:=d.o q om;have F:=d.o q1 om;have G:=d.o q2 om;have H:=d.o q3 om;rw[<-hA] at E;rw[<-hB] at F;rw[<-hC] at G;rw[<-hD] at H;have dn:A<256:=hA ▸ aP _;have dp:B<256:=hB ▸ aP _;have ds:C<256:=hC ▸ aP _;have dT:D<256:=hD ▸ aP _;have bR:qh b k=qw A B C D:=by rw[qh,<-hq,<-c5,<-c7,<-c9,<-hA,<-hB,<-hC,<-hD]
    clear hA hB hC hD c5 c7 c9;obtain⟨X1,Q⟩:=Ex (A*16777216);obtain⟨X2,R⟩:=Ex (B*65536);obtain⟨X3,T⟩:=Ex (X1+X2);obtain⟨X4,Z⟩:=Ex (C*256);obtain⟨X5,a1⟩:=Ex (X3+X4);obtain⟨W,O⟩:=Ex (X5+D);have e4:bits .or .u32 (X1:Int) (X2:Int)=(X3:Int):=by rw[di X1 X2 om om,dy 24 X1 X2 om om,T]
    have e5:bits .or .u32 (X3:Int) (X4:Int)=(X5:Int):=by rw[di X3 X4 om om,dy 16 X3 X4 om om,a1]
    have e6:bits .or .u32 (X5:Int) (D:Int)=(W:Int):=by rw[di X5 D om om,dy 8 X5 D om om,O]
    have e2:W<4294967296:=om;have bp:qh b k=W:=by rw[bR,qw];omega
    have f:wL b (k+1)=L.set k W:=by rw[wL,ak bl,bp,m]
    rw[<-az (w:=w) (c.block g bA)] at E F G H;have y:g<wr.heap.size:=om;replace f:=LH f;clear bR bp;refine G9 m l Q R T Z a1 O hq ?_;clear m l Q R T Z a1 O hq;intro m l Q R T Z a1 O hq;refine G5 E F G H c ?_;clear E F G H c;intro E F G H c;go_wp2;refine RA.rt (aA No) [1,1,1,1,1,1,1,1,1,1,1,1,1,1,1,1,1,1,1,1,1,1,1,1,1,1,1,1,1,1,1,1,1,1,1,7] [35] (λ_=>True) trivial (λ_=>aA.refl _ _) (λ_ _ _ h k=>h.trans k) (h:=?_);intro cx
    repeat refine RA.qq ?_
    refine RA.mi (r:=(q:Int)) (he:=a8) (h:=?_);refine RA.ik prog g (off+q) (h:=?_);refine RA.lk prog (iy A) (hc:=λx hp=>by exact ((a.o _ hp.1).cell (p:=iu g (off+q)) y id).trans E.o) (h:=?_);refine RA.vw prog (.int .u32 A) (h:=?_);refine RA.vk prog (.int .u32 X1) (hr:=λw hp=>by (try go_simp);rw[Q.o,bG];omega) (h:=?_)
    repeat refine RA.qq ?_
    refine RA.mi (r:=(q:Int)) (he:=a8) (h:=?_);refine RA.ai (r:=(q1:Int)) (he:=c6) (h:=?_);refine RA.ik prog g (off+q1) (h:=?_);refine RA.lk prog (iy B) (hc:=λx hp=>by exact ((a.o _ hp.1).cell (p:=iu g (off+q1)) y id).trans F.o) (h:=?_);refine RA.vw prog (.int .u32 B) (h:=?_);refine RA.vk prog (.int .u32 X2) (hr:=λw hp=>by (try go_simp);rw[R.o,bG];omega) (h:=?_);refine RA.vk prog (.int .u32 X3) (h:=?_)
    repeat refine RA.qq ?_
    refine RA.mi (r:=(q:Int)) (he:=a8) (h:=?_);refine RA.ai (r:=(q2:Int)) (he:=c8) (h:=?_);refine RA.ik prog g (off+q2) (h:=?_);refine RA.lk prog (iy C) (hc:=λx hp=>by exact ((a.o _ hp.1).cell (p:=iu g (off+q2)) y id).trans G.o) (h:=?_);refine RA.vw prog (.int .u32 C) (h:=?_);refine RA.vk prog (.int .u32 X4) (hr:=λw hp=>by (try go_simp);rw[Z.o,bG];omega) (h:=?_);refine RA.vk prog (.int .u32 X5) (h:=?_)
    repeat refine RA.qq ?_
    refine RA.mi (r:=(q:Int)) (he:=a8) (h:=?_);refine RA.ai (r:=(q3:Int)) (he:=ca) (h:=?_);refine RA.ik prog g (off+q3) (h:=?_);refine RA.lk prog (iy D) (hc:=λx hp=>by exact ((a.o _ hp.1).cell (p:=iu g (off+q3)) y id).trans H.o) (h:=?_);refine RA.vw prog (.int .u32 D) (h:=?_);refine RA.vk prog (.int .u32 W) (h:=?_);refine RA.ik prog n k (h:=?_);refine RA.lr (λw4=>Below n w w4/\n<w4.heap.size/\kN w4 n 314 (L.set k W)) (hr:=λx hp _=>?_) (hn:=?_)
    ·have N:=a.o _ (hp.first kr).1;have A0:=t.o.dB (N.block n hs id);have f0:=A0.frozen k;have c0:=A0.cell k (by rw[z];exact bW);have e:(Instr.storeAt 244 (.pointer (some (iu n k))) (.int .u32 (W:Int))).run prog x=.ok () (x.setCell (iu n k) (.int .u32 (W:Int))):=by go_simp
     refine⟨_,RA.kL rf rf e,(c.o.trans ((aA.no N).mono om)).setCell (p:=iu n k) (ae n) _,?_,A0.set k W⟩;have:=N.size;simp;omega
    refine RA.RA.kZ (λx hH=>?_);simp only[RA.RP,cx];replace hH:=LH hH;go_wp2;go_roundw
    case rel=>refine⟨k+1,by omega,by go_num,hH.o.1,hH.o.2.1,?_⟩;show kN _ _ _ _;rw[f.o];exact hH.o.2.2
    case measure=>simp[intOf];omega
   ·obtain⟨u,b8⟩:=Ex (k - 15);obtain⟨j2,bB⟩:=Ex (k - 2);obtain⟨s,ba⟩:=Ex (k - 16);obtain⟨j7,bC⟩:=Ex (k - 7);have ct:(k:Int) - 15=u:=om;have h2:(k:Int) - 2=j2:=om;have cu:(k:Int) - 16=s:=om;have h7:(k:Int) - 7=j7:=om;have e8:u<64:=om;have l2:j2<64:=om;have eb:s<64:=om;have l7:j7<64:=om;obtain⟨X,hX⟩:=Ex (L.getD u 0);obtain⟨Y,hY⟩:=Ex (L.getD j2 0);obtain⟨U,hU⟩:=Ex (L.getD s 0);obtain⟨V,hV⟩:=Ex (L.getD j7 0);have a6:X<4294967296:=hX ▸ l _;have a7:Y<4294967296:=hY ▸ l _;have e0:U<4294967296:=hU ▸ l _;have e1:V<4294967296:=hV ▸ l _;have cX:=t.o.cell u om;have cY:=t.o.cell j2 om;have cU:=t.o.cell s om;have cV:=t.o.cell j7 om;rw[<-hX] at cX;rw[<-hY] at cY;rw[<-hU] at cU;rw[<-hV] at cV;obtain⟨x1,aa⟩:=Ex (mB X 25);obtain⟨x2,ad⟩:=Ex (mB X 14);obtain⟨x3,cb⟩:=Ex (X / 8);obtain⟨x4,af⟩:=Ex (x1 ^^^ x2);obtain⟨x5,an⟩:=Ex (x4 ^^^ x3);obtain⟨y1,ax⟩:=Ex (mB Y 15);obtain⟨y2,ay⟩:=Ex (mB Y 13);obtain⟨y3,cc⟩:=Ex (Y / 1024);obtain⟨y4,b2⟩:=Ex (y1 ^^^ y2);obtain⟨y5,b3⟩:=Ex (y4 ^^^ y3);have cd:x1<4294967296:=aa ▸ qf a6;have cf:x2<4294967296:=ad ▸ qf a6;have cj:y1<4294967296:=ax ▸ qf a7;have ck:y2<4294967296:=ay ▸ qf a7;have cg:x4<4294967296:=af ▸ oo cd cf;have cl:y4<4294967296:=b2 ▸ oo cj ck;have er:x5<4294967296:=an ▸ oo cg om;have fb:y5<4294967296:=b3 ▸ oo cl om;have cT:bits .xor .u32 (x1:Int) (x2:Int)=(x4:Int):=by rw[bI x1 x2 cd cf,af]
    have cW:bits .xor .u32 (x4:Int) (x3:Int)=(x5:Int):=by rw[bI x4 x3 cg om,an]
    have da:bits .xor .u32 (y1:Int) (y2:Int)=(y4:Int):=by rw[bI y1 y2 cj ck,b2]
    have dc:bits .xor .u32 (y4:Int) (y3:Int)=(y5:Int):=by rw[bI y4 y3 cl om,b3]
    have dd:(X:Int) / 8=x3:=om;have dg:(Y:Int) / 1024=y3:=om;have b4:=λw=>aa ▸ qg X 25 (-7) a6 om (.inr ⟨by omega,by omega⟩) w
    have b5:=λw=>ad ▸ qg X 14 (-18) a6 om (.inr ⟨by omega,by omega⟩) w
    have b6:=λw=>ax ▸ qg Y 15 (-17) a7 om (.inr ⟨by omega,by omega⟩) w
    have b7:=λw=>ay ▸ qg Y 13 (-19) a7 om (.inr ⟨by omega,by omega⟩) w
    obtain⟨W1,J⟩:=Ex ((U+x5) % 4294967296);obtain⟨W2,K⟩:=Ex ((W1+V) % 4294967296);obtain⟨W,O⟩:=Ex ((W2+y5) % 4294967296)
    have f:wL b (k+1)=L.set k W:=by rw[wL,ah bl,<-m,yu,<-b8,<-bB,<-ba,<-bC,<-hX,<-hY,<-hU,<-hV,AL,AM,<-aa,<-ad,<-cb,<-ax,<-ay,<-cc,<-af,<-an,<-b2,<-b3,<-J,<-K,<-O]
    refine G9 f m l O J K b4 b5 b6 ?_;clear f m l O J K b4 b5 b6;intro f m l O J K b4 b5 b6;refine G6 b7 cX cY cU cV c ?_;clear b7 cX cY cU cV c;intro b7 cX cY cU cV c;clear hX hY hU hV aa ad cb af an ax ay cc b2 b3 b8 bB ba bC;go_wp2;refine RA.rt (aA No) [1,1,1,1,1,1,1,1,1,1] [] (λ_=>True) trivial (λ_=>aA.refl _ _) (λ_ _ _ h k=>h.trans k) (h:=?_);intro cx
    repeat refine RA.qq ?_
    refine RA.si (r:=(u:Int)) (he:=ct) (h:=?_);refine RA.ik prog n u (h:=?_);refine RA.lk prog (.int .u32 X) (hc:=λx hp=>by exact ((a.o _ hp.1).cell (p:=iu n u) hs id).trans cX.o) (h:=?_)
    repeat refine RA.qq ?_
    refine RA.si (r:=(j2:Int)) (he:=h2) (h:=?_);refine RA.ik prog n j2 (h:=?_);refine RA.lk prog (.int .u32 Y) (hc:=λx hp=>by exact ((a.o _ hp.1).cell (p:=iu n j2) hs id).trans cY.o) (h:=?_)
    repeat refine RA.qq ?_
    refine RA.RA.done rfl (λwx N hF hH=>?_);clear hF hH;simp only[RA.RP,cx];have I:=a.o _ N;have Hx:kN wx n 314 L:=t.o.dB (I.block n hs id);have bz:Below n w wx:=c.o.trans ((aA.no I).mono om);have cP:n<wx.heap.size:=dC Hx;have cm:=LH ((I.cell (p:=iu n s) hs id).trans cU.o);have cr:=LH ((I.cell (p:=iu n j7) hs id).trans cV.o);clear t c hs cU cV cX cY a N I;have a:=Dr wx
    replace a:=LH a;have t:=LH Hx;have c:=LH bz;have hs:=cP;clear Hx bz
    go_wp2_with (first
     | ((with_reducible refine (b4.o _).mono ?_);rintro e w' ⟨rfl,rfl⟩)
     | ((with_reducible refine (b5.o _).mono ?_);rintro e w' ⟨rfl,rfl⟩)
     | ((with_reducible refine (b6.o _).mono ?_);rintro e w' ⟨rfl,rfl⟩)
     | ((with_reducible refine (b7.o _).mono ?_);rintro e w' ⟨rfl,rfl⟩))
    refine RA.rt (aA No) [1,1,1,1,1,1,1,1,1,1,1,1,1,1,1,7] [15] (λ_=>True) trivial (λ_=>aA.refl _ _) (λ_ _ _ h k=>h.trans k) (h:=?_);intro cx
    repeat refine RA.qq ?_
    refine RA.si (r:=(s:Int)) (he:=cu) (h:=?_);refine RA.ik prog n s (h:=?_);refine RA.lk prog (.int .u32 U) (hc:=λx hp=>by exact ((a.o _ hp.1).cell (p:=iu n s) hs id).trans cm.o) (h:=?_)
    repeat refine RA.qq ?_
    refine RA.vk prog (.int .u32 W1) (hr:=λw hp=>by (try go_simp);rw[J.o,bG];omega) (h:=?_)
    repeat refine RA.qq ?_
    refine RA.si (r:=(j7:Int)) (he:=h7) (h:=?_);refine RA.ik prog n j7 (h:=?_);refine RA.lk prog (.int .u32 V) (hc:=λx hp=>by exact ((a.o _ hp.1).cell (p:=iu n j7) hs id).trans cr.o) (h:=?_);refine RA.vk prog (.int .u32 W2) (hr:=λw hp=>by (try go_simp);rw[K.o,bG];omega) (h:=?_)
    repeat refine RA.qq ?_
    refine RA.vk prog (.int .u32 W) (hr:=λw hp=>by (try go_simp);rw[O.o,bG];omega) (h:=?_);refine RA.ik prog n k (h:=?_);refine RA.lr (λw4=>Below n w w4/\n<w4.heap.size/\kN w4 n 314 (L.set k W)) (hr:=λx hp _=>?_) (hn:=?_)
    ·have N:=a.o _ (hp.first kr).1;have A0:=t.o.dB (N.block n hs id);have f0:=A0.frozen k;have c0:=A0.cell k (by rw[z];exact bW);have e:(Instr.storeAt 244 (.pointer (some (iu n k))) (.int .u32 (W:Int))).run prog x=.ok () (x.setCell (iu n k) (.int .u32 (W:Int))):=by go_simp
     refine⟨_,RA.kL rf rf e,(c.o.trans ((aA.no N).mono om)).setCell (p:=iu n k) (ae n) _,?_,A0.set k W⟩;have:=N.size;simp;omega
    refine RA.RA.kZ (λx hH=>?_);simp only[RA.RP,cx];replace hH:=LH hH;go_wp2;go_roundw
    case rel=>refine⟨k+1,by omega,by go_num,hH.o.1,hH.o.2.1,?_⟩;show kN _ _ _ _;rw[f.o];exact hH.o.2.2
    case measure=>simp[intOf];omega
  ·have bD:k=64:=om;rw[bD] at t;clear bD;obtain⟨L,m⟩:=Ex (wL b 64);rw[<-m] at t;have z:L.length=64:=m ▸ wN;have cA:=LH (tV (P:=prog) t.o underlying314 (sn z));have cK:=LH (yt (P:=prog) (ty:=314) t.o (sn z));have hi:=LH (sn z);replace c:=LH c;replace m:=LH m
   go_wp2_with (first|(refine kQ rfl 314 _ rfl _ _ rfl cA.o ?_)|(refine kI rfl 314 _ _ rfl _ _ rfl rfl cK.o ?_))
   refine aI (bd results203 _ _ n 314 _ (0,0) _ rfl t.o underlying314 rfl (by rw[hi.o];simp[pz])) rfl ⟨by rw[m.o],HN.o ▸ c.o⟩
attribute [irreducible] wL
variable {h ws:List Nat}{b:iz}{p:Nat}
def AQ (e:Nat):Nat:=mB e 26 ^^^ mB e 21 ^^^ mB e 7
def AS (a:Nat):Nat:=mB a 30 ^^^ mB a 19 ^^^ mB a 10
def AT (e f g:Nat):Nat:=(e &&& f) ^^^ ((4294967295 - e) &&& g)
def AU (a b c:Nat):Nat:=(a &&& b) ^^^ (a &&& c) ^^^ (b &&& c)
def yw (e f g k K W:Nat):Nat:=((((k+AQ e) % 4294967296+AT e f g) % 4294967296+K) % 4294967296+W) % 4294967296
def AV (a b c:Nat):Nat:=(AS a+AU a b c) % 4294967296
def yx (K W:Nat):List Nat->List Nat
 | [a,b,c,d,e,f,g,k]=>[(yw e f g k K W+AV a b c) % 4294967296,a,b,c,(d+yw e f g k K W) % 4294967296,e,f,g]
 | l=>l
def re (h ws:List Nat):Nat->List Nat
 | 0=>h
 | i+1=>yx (n9.getD i 0) (ws.getD i 0) (re h ws i)
def o0 (h l:List Nat):Nat->List Nat
 | 0=>h
 | k+1=>(o0 h l k).set k ((h.getD k 0+l.getD k 0) % 4294967296)
theorem AW {k:Nat}:(o0 h l k).length=h.length:=by
 induction k with
 | zero=>rfl
 | succ k ih=>exact bg.trans ih
theorem FH {k i:Nat}(hk:k<=i):(o0 h l k).getD i 0=h.getD i 0:=by
 induction k with
 | zero=>rfl
 | succ k ih=>rw[o0,List.getD,eT om,<-List.getD,ih om]
def pA (h:List Nat) (b:iz):List Nat:=o0 h (re h (wL b 64) 64) 8
theorem AX (hh:h.length=8):(pA h b).length=8:=AW.trans hh
theorem FI (hh:∀ j,h.getD j 0<4294967296):∀ {k j:Nat},(o0 h l k).getD j 0<4294967296:=by
 intro k
 induction k with
 | zero=>intro j;exact hh j
 | succ k ih=>intro j;exact AO (λj=>ih) (eE _ om)
theorem FJ (hh:∀ j,h.getD j 0<4294967296) (j:Nat):(pA h b).getD j 0<4294967296:=FI hh
theorem map_lt (l:List Nat) (f:Nat->Nat) (hf:∀ p,f p<4294967296) (j:Nat):(l.map f).getD j 0<4294967296:=by
 simp only[List.getD,bf];cases l[j]? with
 | none=>simp
 | some p=>exact hf p
theorem FM (j:Nat):n9.getD j 0<4294967296:=by rw[n9];exact map_lt _ _ (λp=>Av) j
theorem FN (j:Nat):nM.getD j 0<4294967296:=by rw[nM];exact map_lt _ _ (λp=>Av) j
theorem eight (l:List Nat) (h:l.length=8):∃ a b c d e f g k,l=[a,b,c,d,e,f,g,k]:=by
 match l,h with
 | [a,b,c,d,e,f,g,k],_=>exact⟨a,b,c,d,e,f,g,k,rfl⟩
theorem FO {w:World}(h:qE w p) (i:Nat) (hi:i<64):w.cell? (iu p (8+i))=some (.int .u32 (n9.getD i 0:Nat)):=by rw[kN.cell h _ (by rw[aE,vl,AJ];omega)];congr 3;simp only[List.getD];rw[aL (by rw[vl];omega),vl,ek]
theorem FP {E:Nat}(h:E<4294967296):4294967295 ^^^ E=4294967295 - E:=by
 have a:E<2 ^ 32:=h;have e:4294967295 - E=2 ^ 32 - (E+1):=om;rw[e];apply Nat.eq_of_testBit_eq;intro i;rw[Nat.testBit_xor,Nat.testBit_two_pow_sub_succ a i];have b:Nat.testBit 4294967295 i=decide (i<32):=Nat.testBit_two_pow_sub_one 32 i;rw[b];by_cases hi:i<32
 ·simp[hi]
 ·have c:E<2 ^ i:=aH a (gl (Nat.succ_pos 1) (Nat.le_of_not_lt hi));rw[Nat.testBit_lt_two_pow c];simp[hi]
theorem FQ {E:Nat}(h:E<4294967296) (hp:p=4294967295 - E):bits BinOp.xor IntKind.u32 (if IntKind.u32.signed=true then -1 else IntKind.u32.max) (E:Int)=(p:Int):=by have a:=bI 4294967295 E om h;rw[FP h,<-hp] at a;exact a
theorem FR (w:World) (a b c d e f g k:Int):(Instr.buildSlice 292 8 #[(0,.int .u32 a),(1,.int .u32 b),(2,.int .u32 c),(3,.int .u32 d),(4,.int .u32 e),(5,.int .u32 f),(6,.int .u32 g),(7,.int .u32 k)]).run prog w=
  .ok (ir w.heap.size 8 8) (w.alloc (.cells #[.int .u32 a,.int .u32 b,.int .u32 c,.int .u32 d,.int .u32 e,.int .u32 f,.int .u32 g,.int .u32 k] 244)):=by go_simp
theorem FU:re h ws 0=h:=rfl
theorem FV {i:Nat}:re h ws (i+1)=yx (n9.getD i 0) (ws.getD i 0) (re h ws i):=rfl
theorem FW:o0 h l 0=h:=rfl
theorem FX {k:Nat}:o0 h l (k+1)=(o0 h l k).set k ((h.getD k 0+l.getD k 0) % 4294967296):=rfl
attribute [irreducible] re o0
theorem FY {w:World}(hS:qE w p){S:Nat->Prop}{v:Value}(hb:Bytes w S v b) (hl:b.length=64) (h:List Nat) (hh:h.length=8) (hlt:∀ j,h.getD j 0<4294967296):
  Calls prog 194 #[iq p,.agg (kG h).toArray,v] w λe w'=>e=.returned (.agg (kG (pA h b)).toArray)/\Below w.heap.size w w':=by
 obtain⟨n,hn⟩:=Ex w.heap.size;have HN:=LH hn;have hw:=λ(w1:World) (h:Bytes w1 S v b)=>FG h hl
 obtain⟨WS,J⟩:=Ex (wL b 64);have W:WS.length=64:=J ▸ wN;have bp:∀ j,WS.getD j 0<4294967296:=λj=>J ▸ AP
 have hE:=dC hS;rw[<-J] at hw;have N:pA h b=o0 h (re h WS 64) 8:=by rw[pA,J]
 obtain⟨V,hV⟩:=Ex ((kG h).toArray);rw[<-hV];obtain⟨a0,b0,c0,d0,e0,f0,g0,k0,h8⟩:=eight h hh;obtain⟨wA,dn⟩:=Ex (w.alloc (.cells V 313));obtain⟨wC,a8⟩:=Ex (wA.alloc (.cells (kG (List.replicate 8 0)).toArray 313));have sA:wA.heap.size=n+1:=by rw[dn,hn];simp
 have bA:Below n w wA:=by rw[dn,hn];exact (ag _ _).alloc (ae _) _
 have bC:Below (n+1) wA wC:=by rw[a8,<-sA];exact (ag _ _).alloc (ae _) _
 have xA:kN wA n 313 h:=by rw[dn,hn];exact kN.of hV (aj w _)
 have xC:kN wC (n+1) 313 (List.replicate 8 0):=by rw[a8,<-sA];exact aj wA _
 have yA:kN wC n 313 h:=xA.dB (bC.block n om);have bW:Below n w wC:=bA.trans (bC.mono om);have sC:wC.heap.size=n+2:=by rw[a8];simp[sA]
 have eb:Bytes wC S v b:=hb.dB bW.size (λg _ hg=>bW.block g om);subst dn;replace a8:wC=(w.alloc (.cells V 313)).alloc (.cells #[.int .u32 0,.int .u32 0,.int .u32 0,.int .u32 0,.int .u32 0,.int .u32 0,.int .u32 0,.int .u32 0] 313):=a8;subst a8;replace hw:=LH (hw _ eb);refine G9 yA xC bW J bp W N hS hlt ?_;clear yA xC bW J bp W N hS hlt;intro yA xC bW J bp W N hS hlt;refine G4 hh h8 hV sC ?_;clear hh h8 hV sC;intro hh h8 hV sC;clear sA bA bC xA eb hb hn;go_enter func194,ntmps194
 go_wp2_with fail
 refine hw.o.mono ?_;rintro e w1 ⟨rfl,b3⟩;rw[<-HN.o];have fs:=b3.size;rw[sC.o] at fs;have e6:=yA.o.dB (b3.block n (by rw[sC.o];omega));have e8:=xC.o.dB (b3.block (n+1) (by rw[sC.o];omega));have e7:Below n w w1:=bW.o.trans (b3.mono (by rw[sC.o];omega));obtain⟨wb,aa⟩:=Ex w1.heap.size;have ds:kN (w1.alloc (.cells (kG (List.replicate 64 0)).toArray 314)) wb 314 (List.replicate 64 0):=by rw[aa];exact aj w1 _
 have a6:=LH (tY (P:=prog) (ty:=314) (x:=WS) ds (sn W.o) (by rw[W.o,aK]));obtain⟨w2,a7⟩:=Ex ((w1.alloc (.cells (kG (List.replicate 64 0)).toArray 314)).setRow wb (kG WS).toArray);rw[<-a7] at a6;have T:kN w2 wb 314 WS:=a7 ▸ ds.setRow WS;have Q:kN w2 n 313 h:=a7 ▸ (e6.dB (aB _ _ _ om)).dB (aG _ _ _ _ om);have b2:kN w2 (n+1) 313 (List.replicate 8 0):=a7 ▸ (e8.dB (aB _ _ _ om)).dB (aG _ _ _ _ om);have ax:Below n w w2:=a7 ▸ below_setRow (e7.alloc om _) om _;have fu:wb<w2.heap.size:=dC T;have iE:n+1<wb:=om;rw[aa] at a6;refine G5 Q b2 T ax aa ?_;clear Q b2 T ax aa;intro Q b2 T ax aa;have c2:∀ j x,(kG h)[j]?=some x->w2.cell? (iu n j)=some x:=λj x hx=>by rw[cell_of Q.o,<-hx];simp
 rw[h8.o] at c2;have ca:=c2 0 _ rfl;have cb:=c2 1 _ rfl;have cc:=c2 2 _ rfl;have cd:=c2 3 _ rfl;have ce:=c2 4 _ rfl;have cf:=c2 5 _ rfl;have cg:=c2 6 _ rfl;have ck:=c2 7 _ rfl
 have q:∀ x ∈ h,x<4294967296:=by intro x hx;obtain⟨j,hj⟩:=eW.1 hx;have:=hlt.o j;simp[List.getD,hj] at this;exact this
 rw[h8.o] at q;have la:=q a0 sm;have lb:=q b0 sm;have lc:=q c0 sm;have ld:=q d0 sm;have le:=q e0 sm;have lf:=q f0 sm;have lg:=q g0 sm;have lk:=q k0 sm;refine G8 ca cb cc cd ce cf cg ck ?_;clear ca cb cc cd ce cf cg ck;intro ca cb cc cd ce cf cg ck;clear c2 q b3 e6 e8 e7 ds a7 fs
 go_wp2_with (refine kI rfl 314 _ _ rfl _ _ rfl rfl a6.o ?_)
 rw[<-aa.o];have H:n<w2.heap.size:=om;have l:=Dr w2
 replace l:=LH l;refine RA.rt (aA No) [1,1,1,1,1,1,1,1,1,1,1,1,1,1,1,1,1,1,1,1,1,1,1,1] [] (λ_=>True) trivial (λ_=>aA.refl _ _) (λ_ _ _ h k=>h.trans k) (h:=?_);intro cx;refine RA.ik prog n 0 (h:=?_);refine RA.lk prog (.int .u32 a0) (hc:=λL hp=>by exact ((l.o _ hp.1).cell (p:=iu n 0) H id).trans ca.o) (h:=?_);refine RA.ik prog n 1 (h:=?_);refine RA.lk prog (.int .u32 b0) (hc:=λL hp=>by exact ((l.o _ hp.1).cell (p:=iu n 1) H id).trans cb.o) (h:=?_);refine RA.ik prog n 2 (h:=?_);refine RA.lk prog (.int .u32 c0) (hc:=λL hp=>by exact ((l.o _ hp.1).cell (p:=iu n 2) H id).trans cc.o) (h:=?_);refine RA.ik prog n 3 (h:=?_);refine RA.lk prog (.int .u32 d0) (hc:=λL hp=>by exact ((l.o _ hp.1).cell (p:=iu n 3) H id).trans cd.o) (h:=?_);refine RA.ik prog n 4 (h:=?_);refine RA.lk prog (.int .u32 e0) (hc:=λL hp=>by exact ((l.o _ hp.1).cell (p:=iu n 4) H id).trans ce.o) (h:=?_);refine RA.ik prog n 5 (h:=?_);refine RA.lk prog (.int .u32 f0) (hc:=λL hp=>by exact ((l.o _ hp.1).cell (p:=iu n 5) H id).trans cf.o) (h:=?_);refine RA.ik prog n 6 (h:=?_);refine RA.lk prog (.int .u32 g0) (hc:=λL hp=>by exact ((l.o _ hp.1).cell (p:=iu n 6) H id).trans cg.o) (h:=?_);refine RA.ik prog n 7 (h:=?_);refine RA.lk prog (.int .u32 k0) (hc:=λL hp=>by exact ((l.o _ hp.1).cell (p:=iu n 7) H id).trans ck.o) (h:=?_)
 repeat refine RA.qq ?_
 refine RA.RA.done rfl (λL hR hF hH=>?_);clear hF hH;simp only[RA.RP,cx];have s:=aA.no (l.o _ hR);have u:=Q.o.dB (s.block n H);have z:=b2.o.dB (s.block (n+1) om);have r:=T.o.dB (s.block wb fu);have y:Below n w L:=ax.o.trans (s.mono om);have cU:wb<L.heap.size:=dC r;refine G4 u z r y ?_;clear u z r y;intro u z r y;clear s hR l Q b2 T ax fu a6 ca cb cc cd ce cf cg ck hw yA xC bW sC H;go_wp2
 go_loopw [8,9,10,11,12,13,14,15,41] (λa b c d e f g k i wr=>∃ t:Nat,t<=64/\i=iw t/\∃ A B C D E F G K:Nat,(A<4294967296/\B<4294967296/\C<4294967296/\D<4294967296/\E<4294967296/\F<4294967296/\G<4294967296/\K<4294967296)/\
   a=.int .u32 A/\b=.int .u32 B/\c=.int .u32 C/\d=.int .u32 D/\e=.int .u32 E/\f=.int .u32 F/\g=.int .u32 G/\k=.int .u32 K/\Hd (re h WS t=[A,B,C,D,E,F,G,K])/\
   Below n w wr/\wb<wr.heap.size/\Hd (kN wr n 313 h)/\Hd (kN wr (n+1) 313 (List.replicate 8 0))/\Hd (kN wr wb 314 WS))
  (λ_ _ _ _ _ _ _ _ i _=>64 - (intOf i).toNat)
 case atStart=>exact⟨0,by omega,rfl,a0,b0,c0,d0,e0,f0,g0,k0,⟨la,lb,lc,ld,le,lf,lg,lk⟩,rfl,rfl,rfl,rfl,rfl,rfl,rfl,rfl,FU.trans h8.o,y.o,cU,u.o,z.o,r.o⟩
 case round=>
  clear u z r y cU la lb lc ld le lf lg lk;obtain⟨t,ht,rfl,A,B,C,D,E,F,G,K,⟨lA,lB,lC,lD,lE,lF,lG,lK⟩,rfl,rfl,rfl,rfl,rfl,rfl,rfl,rfl,hm,m,hs,HA,HC,HD⟩:=hrel;by_cases b4:t<64
  ·obtain⟨e1,c6⟩:=Ex (mB E 26);obtain⟨e2,c7⟩:=Ex (mB E 21);obtain⟨e3,c8⟩:=Ex (mB E 7);obtain⟨e4,c9⟩:=Ex (e1 ^^^ e2);obtain⟨e5,cj⟩:=Ex (e4 ^^^ e3);obtain⟨p1,cz⟩:=Ex (E &&& F);obtain⟨p2,cA⟩:=Ex (4294967295 - E);obtain⟨p3,cP⟩:=Ex (p2 &&& G);obtain⟨p4,cT⟩:=Ex (p1 ^^^ p3);obtain⟨u1,cV⟩:=Ex ((K+e5) % 4294967296);obtain⟨u2,da⟩:=Ex ((u1+p4) % 4294967296);obtain⟨KK,b6⟩:=Ex (n9.getD t 0);obtain⟨u3,dc⟩:=Ex ((u2+KK) % 4294967296);obtain⟨WW,bl⟩:=Ex (WS.getD t 0);obtain⟨u4,dg⟩:=Ex ((u3+WW) % 4294967296);obtain⟨a1,bz⟩:=Ex (mB A 30);obtain⟨a2,bB⟩:=Ex (mB A 19);obtain⟨a3,bD⟩:=Ex (mB A 10);obtain⟨a4,bR⟩:=Ex (a1 ^^^ a2);obtain⟨a5,c5⟩:=Ex (a4 ^^^ a3);obtain⟨m1,cl⟩:=Ex (A &&& B);obtain⟨m2,cm⟩:=Ex (A &&& C);obtain⟨m3,cr⟩:=Ex (m1 ^^^ m2);obtain⟨m4,ct⟩:=Ex (B &&& C);obtain⟨m5,cu⟩:=Ex (m3 ^^^ m4);obtain⟨v9,gb⟩:=Ex ((a5+m5) % 4294967296);obtain⟨na,en⟩:=Ex ((u4+v9) % 4294967296);obtain⟨ne,er⟩:=Ex ((D+u4) % 4294967296);have gA:e1<4294967296:=c6 ▸ qf lE;have h0:e2<4294967296:=c7 ▸ qf lE;have h2:e3<4294967296:=c8 ▸ qf lE;have h3:e4<4294967296:=c9 ▸ oo gA h0;have iI:e5<4294967296:=cj ▸ oo h3 h2;have h9:p1<4294967296:=cz ▸ cQ eX lE;have ha:p2<4294967296:=om;have hf:p3<4294967296:=cP ▸ cQ eX ha;have iK:p4<4294967296:=cT ▸ oo h9 hf;have gf:a1<4294967296:=bz ▸ qf lA;have gh:a2<4294967296:=bB ▸ qf lA;have gk:a3<4294967296:=bD ▸ qf lA;have gv:a4<4294967296:=bR ▸ oo gf gh;have iH:a5<4294967296:=c5 ▸ oo gv gk;have h4:m1<4294967296:=cl ▸ cQ eX lA;have h5:m2<4294967296:=cm ▸ cQ eX lA;have h6:m3<4294967296:=cr ▸ oo h4 h5;have h7:m4<4294967296:=ct ▸ cQ eX lB;have iJ:m5<4294967296:=cu ▸ oo h6 h7;have iF:KK<4294967296:=b6 ▸ FM t;have iG:WW<4294967296:=bl ▸ bp.o t;have iL:u1<4294967296:=om;have iM:u2<4294967296:=om;have iN:u3<4294967296:=om;have iO:u4<4294967296:=om;have iP:v9<4294967296:=om;have hG:na<4294967296:=om;have hI:ne<4294967296:=om;have hU:bits .xor .u32 (e1:Int) (e2:Int)=(e4:Int):=by rw[bI e1 e2 gA h0,c9]
   have hW:bits .xor .u32 (e4:Int) (e3:Int)=(e5:Int):=by rw[bI e4 e3 h3 h2,cj]
   have iD:bits .xor .u32 (p1:Int) (p3:Int)=(p4:Int):=by rw[bI p1 p3 h9 hf,cT]
   have hQ:bits .xor .u32 (a1:Int) (a2:Int)=(a4:Int):=by rw[bI a1 a2 gf gh,bR]
   have hT:bits .xor .u32 (a4:Int) (a3:Int)=(a5:Int):=by rw[bI a4 a3 gv gk,c5]
   have ig:bits .xor .u32 (m1:Int) (m2:Int)=(m3:Int):=by rw[bI m1 m2 h4 h5,cr]
   have iA:bits .xor .u32 (m3:Int) (m4:Int)=(m5:Int):=by rw[bI m3 m4 h6 h7,cu]
   have iB:bits .and .u32 (E:Int) (F:Int)=(p1:Int):=by rw[eY E F lE lF,cz]
   have iC:bits .and .u32 (p2:Int) (G:Int)=(p3:Int):=by rw[eY p2 G ha lG,cP]
   have ib:bits .and .u32 (A:Int) (B:Int)=(m1:Int):=by rw[eY A B lA lB,cl]
   have ic:bits .and .u32 (A:Int) (C:Int)=(m2:Int):=by rw[eY A C lA lC,cm]
   have ih:bits .and .u32 (B:Int) (C:Int)=(m4:Int):=by rw[eY B C lB lC,ct]
   have hO:((a5:Int)+(m5:Int)) % 4294967296=(v9:Int):=om;have hz:((u4:Int)+(v9:Int)) % 4294967296=(na:Int):=om;have hN:((D:Int)+(u4:Int)) % 4294967296=(ne:Int):=om;have ho:=LH (λw=>c6 ▸ qg E 26 (-6) lE om (.inr ⟨by omega,by omega⟩) w);have hq:=LH (λw=>c7 ▸ qg E 21 (-11) lE om (.inr ⟨by omega,by omega⟩) w);have hy:=LH (λw=>c8 ▸ qg E 7 (-25) lE om (.inr ⟨by omega,by omega⟩) w);have hJ:=LH (λw=>bz ▸ qg A 30 (-2) lA om (.inr ⟨by omega,by omega⟩) w);have hK:=LH (λw=>bB ▸ qg A 19 (-13) lA om (.inr ⟨by omega,by omega⟩) w);have hL:=LH (λw=>bD ▸ qg A 10 (-22) lA om (.inr ⟨by omega,by omega⟩) w)
   have I:re h WS (t+1)=[na,A,B,C,ne,E,F,G]:=by rw[FV,hm.o,<-b6,<-bl];simp only[yx,yw,AV,AQ,AS,AT,AU];rw[<-c6,<-c7,<-c8,<-c9,<-cj,<-cz,<-cA,<-cP,<-cT,<-cV,<-da,<-dc,<-dg,<-bz,<-bB,<-bD,<-bR,<-c5,<-cl,<-cm,<-cr,<-ct,<-cu,<-gb,<-en,<-er]
   have cK:=FO (hS.o.dB (m.block p (by rw[HN.o];exact hE))) t b4;have cW:=HD.o.cell t (by rw[W.o];exact b4);rw[<-b6] at cK;rw[<-bl] at cW;have fi:p<wr.heap.size:=by have:=m.size;omega
   clear c6;clear c7;clear c8;clear c9;clear cj;clear cz;replace cA:=LH cA;clear cP;clear cT;replace cV:=LH cV;replace da:=LH da;clear b6;replace dc:=LH dc;clear bl;replace dg:=LH dg;clear bz;clear bB;clear bD;clear bR;clear c5;clear cl;clear cm;clear cr;clear ct;clear cu;clear gb;clear en;clear er;refine G4 I cK cW m ?_;clear I cK cW m;intro I cK cW m;have l:=Dr wr
   replace l:=LH l
   go_wp2_with (first
    | ((with_reducible refine (ho.o _).mono ?_);rintro e w' ⟨rfl,rfl⟩)
    | ((with_reducible refine (hq.o _).mono ?_);rintro e w' ⟨rfl,rfl⟩)
    | ((with_reducible refine (hy.o _).mono ?_);rintro e w' ⟨rfl,rfl⟩))
   refine RA.rt (aA No) [1,1,1,1,1,1,1,1,1,1,1,1,1,1,1,1,1,1,1,1,1,1,1,1] [] (λ_=>True) trivial (λ_=>aA.refl _ _) (λ_ _ _ h k=>h.trans k) (h:=?_);intro cx
   repeat refine RA.qq ?_
   refine RA.vk prog (.int .u32 u1) (hr:=λw hp=>by (try go_simp);rw[cV.o,bG];omega) (h:=?_)
   repeat refine RA.qq ?_
   refine RA.vk prog (.int .u32 p1) (h:=?_)
   repeat refine RA.qq ?_
   refine RA.vk prog (.int .u32 p2) (hr:=λw hp=>by (try go_simp);exact FQ lE cA.o) (h:=?_)
   repeat refine RA.qq ?_
   refine RA.vk prog (.int .u32 p3) (h:=?_);refine RA.vk prog (.int .u32 p4) (h:=?_);refine RA.vk prog (.int .u32 u2) (hr:=λw hp=>by (try go_simp);rw[da.o,bG];omega) (h:=?_)
   repeat refine RA.qq ?_
   refine RA.fk prog p 8 (h:=?_);refine RA.ik prog p (8+t) (h:=?_);refine RA.lk prog (.int .u32 KK) (hc:=λL hp=>by exact ((l.o _ hp.1).cell (p:=iu p (8+t)) fi id).trans cK.o) (h:=?_);refine RA.vk prog (.int .u32 u3) (hr:=λw hp=>by (try go_simp);rw[dc.o,bG];omega) (h:=?_)
   repeat refine RA.qq ?_
   refine RA.ik prog wb t (h:=?_);refine RA.lk prog (.int .u32 WW) (hc:=λL hp=>by exact ((l.o _ hp.1).cell (p:=iu wb t) hs id).trans cW.o) (h:=?_);refine RA.vk prog (.int .u32 u4) (hr:=λw hp=>by (try go_simp);rw[dg.o,bG];omega) (h:=?_)
   repeat refine RA.qq ?_
   refine RA.RA.done rfl (λL hR hF hH=>?_);clear hF hH;simp only[RA.RP,cx];have s:=aA.no (l.o _ hR);have u:=HA.o.dB (s.block n om);have z:=HC.o.dB (s.block (n+1) om);have r:=HD.o.dB (s.block wb hs);have y:Below n w L:=m.o.trans (s.mono om);have cU:wb<L.heap.size:=dC r;refine G4 u z r y ?_;clear u z r y;intro u z r y;clear s hR l HA HC HD m hs cK cW ho hq hy
   go_wp2_with (first
    | ((with_reducible refine (hJ.o _).mono ?_);rintro e w' ⟨rfl,rfl⟩)
    | ((with_reducible refine (hK.o _).mono ?_);rintro e w' ⟨rfl,rfl⟩)
    | ((with_reducible refine (hL.o _).mono ?_);rintro e w' ⟨rfl,rfl⟩))
   go_roundw
   case rel=>exact⟨t+1,by omega,by go_num,na,A,B,C,ne,E,F,G,⟨hG,lA,lB,lC,hI,lE,lF,lG⟩,(by first|rfl|rw[hz]|rw[hO,hz]),rfl,rfl,rfl,(by first|rfl|rw[hN]),rfl,rfl,rfl,I.o,y.o,cU,u.o,z.o,r.o⟩
   case measure=>simp[intOf];omega
  ·have fz:t=64:=om;rw[fz] at hm;clear fz;obtain⟨M,hM⟩:=Ex (re h WS 64);rw[<-hM] at hm;have dT:pA h b=o0 h M 8:=by rw[N.o,hM]
   have hB:=LH (λw=>FR w (A:Int) B C D E F G K);replace hM:=LH hM;replace dT:=LH dT;replace m:=LH m;go_wp2;obtain⟨sb,mD⟩:=Ex wr.heap.size;rw[<-mD];obtain⟨b5,ad⟩:=Ex (wr.alloc (.cells #[.int .u32 (A:Int),.int .u32 (B:Int),.int .u32 (C:Int),.int .u32 (D:Int),.int .u32 (E:Int),.int .u32 (F:Int),.int .u32 (G:Int),.int .u32 (K:Int)] 244));rw[<-ad]
   have U:kN b5 sb 244 M:=by rw[ad,mD,hm];exact aj wr _
   have af:kN b5 n 313 h:=ad ▸ HA.o.dB (aB _ _ _ om);have ay:kN b5 (n+1) 313 (List.replicate 8 0):=ad ▸ HC.o.dB (aB _ _ _ om);have an:Below n w b5:=ad ▸ m.o.alloc om _;have b7:M.length=8:=by rw[hm];rfl
   have b8:∀ j,M.getD j 0<4294967296:=by
    intro j;rw[hm]
    match j with
    | 0=>exact lA
    | 1=>exact lB
    | 2=>exact lC
    | 3=>exact lD
    | 4=>exact lE
    | 5=>exact lF
    | 6=>exact lG
    | 7=>exact lK
    | j+8=>simp
   have hP:n+1<sb:=om;have hs0:sb<b5.heap.size:=dC U;refine G6 U af ay an b8 b7 ?_;clear U af ay an b8 b7;intro U af ay an b8 b7;clear ad mD HA HC HD m hs hm hB b4 ht;generalize decide ((t:Int)<64)=dd;generalize iw (t:Int)=kk
   go_loopw [119] (λi wr=>∃ k:Nat,k<=8/\i=iw k/\Below n w wr/\sb<wr.heap.size/\Hd (kN wr n 313 (o0 h M k))/\Hd (kN wr (n+1) 313 (List.replicate 8 0))/\Hd (kN wr sb 244 M))
    (λi _=>8 - (intOf i).toNat)
   case atStart=>exact⟨0,by omega,rfl,an.o,hs0,(by rw[FW];exact af.o:kN _ _ _ _),ay.o,U.o⟩
   case round=>
    clear U af ay an hs0;obtain⟨k,hk,rfl,m,hs,HA,HC,HE⟩:=hrel;replace m:=LH m;by_cases dp:k<8
    ·obtain⟨X,hX⟩:=Ex (h.getD k 0);obtain⟨Y,hY⟩:=Ex (M.getD k 0);obtain⟨Z,hZ⟩:=Ex ((X+Y) % 4294967296);have lX:X<4294967296:=hX ▸ hlt.o k;have lY:Y<4294967296:=hY ▸ b8.o k;have sZ:((X:Int)+(Y:Int)) % 4294967296=(Z:Int):=om;have cX:=HA.o.cell k (by rw[AW,hh.o];exact dp);rw[FH (ae k),<-hX] at cX;have cY:=HE.o.cell k (by rw[b7.o];exact dp);rw[<-hY] at cY;have f0:=HA.o.frozen k;have O:=HA.o.set k Z;have fb:o0 h M (k+1)=(o0 h M k).set k Z:=by rw[FX,<-hX,<-hY,<-hZ]
     rw[<-fb] at O;replace O:=LH O;clear hX hY hZ fb;go_wp2;go_roundw
     case rel=>
      refine⟨k+1,by omega,by go_num,m.o.setCell (p:=iu n k) (ae n) _,by simpa using hs,O.o,?_,?_⟩
      ·exact HC.o.dB (kD _ _ _ sm)
      ·exact HE.o.dB (kD _ _ _ (by simp;omega))
     case measure=>simp[intOf];omega
    ·have ed:k=8:=om;rw[ed,<-dT.o] at HA;clear ed;obtain⟨R,hR⟩:=Ex (pA h b);rw[<-hR] at HA;have ba:R.length=8:=hR ▸ AX hh.o;have hD:=LH (tV (P:=prog) HA.o underlying313 (pQ ba));have a6:=LH (tY (P:=prog) (ty:=313) (x:=R) HC.o (pQ ba) (by rw[ba,aK]));have ec:=LH (HC.o.setRow R);have hi:=LH (pQ ba);have hA:=LH (below_setRow m.o (show n<=n+1 by omega) (kG R).toArray);replace hR:=LH hR
     go_wp2_with (first|(refine kQ rfl 313 _ rfl _ _ rfl hD.o ?_)|(refine kI rfl 313 _ _ rfl _ _ rfl rfl a6.o ?_))
     refine aI (bd results194 _ _ (n+1) 313 _ (0,0) _ rfl ec.o underlying313 rfl (by rw[hi.o];simp[pz])) rfl ⟨by rw[hR.o],HN.o ▸ hA.o⟩
end Go.Proofs.YthmcbgidehjlbaaGreat.Fd
namespace Go.Proofs.YthmcbgidehjlbaaGreat.K
open _root_.Go.Proofs.Tryz
open Go Go.RowKit Fd
variable {w:World}{B:Nat}{xs:iz}
theorem FZ {α:Type}(cur:List α) (off n:Nat) (xs news:List α) (h:(cur.drop off).take n=xs) (hx:xs.length=n) (hfit:off+n+news.length<=cur.length):
  ((splice cur (off+n) news).drop off).take (n+news.length)=xs++news:=by
 simp only[splice];rw[gm (by simp;omega),fl,show off+n - off=n by omega,h,eN,eN,bh om,hx,show n+news.length - n=news.length by omega,bh (ae _)];simp
section
variable {P:Program}
theorem F3 (t ty e:TypeId) (ht:P.underlying t=some (.slice e)) (hi:(P.info? e).map (·.size)=some 1)
  (g off sLen sCap:Nat) (cur:Array Value) (hg:w.heap[g]?=some (.cells cur e (0,0))) (S:Nat->Prop) (y:Value) (m:Nat) (news:List Value) (hy:Cells w S y m 1 news) (h1:∀ u ∈ news,u.oneCell'=true)
  (hroom:sLen+m<=sCap) (hfit:off+sLen+news.length<=cur.size):
  (Builtin.append_ #[t,t] ty #[.slice (some (iu g off)) sLen sCap,y]).run P w=.ok (.slice (some (iu g off)) (sLen+m) sCap) (w.setRow g (splice cur.toList (off+sLen) news).toArray):=by
 obtain⟨i,f,h⟩:∃ i,P.info? e=some i/\i.size=1:=by
  cases hq:P.info? e with
  | none=>simp[hq] at hi
  | some i=>exact⟨i,rfl,by simpa [hq] using hi⟩
 obtain⟨k,a,cap,rfl,_,_,p,c⟩:=hy;have d:=run_storeCells_at (P:=P) g (off+sLen) e news 0 cur w hg om h1;simp only[dY] at d
 have fin:∀ (n:(Builtin.firstCells 1 m (.slice a m cap)).run P w=.ok news.toArray w),(Builtin.append_ #[t,t] ty #[.slice (some (iu g off)) sLen sCap,.slice a m cap]).run P w=.ok (.slice (some (iu g off)) (sLen+m) sCap) (w.setRow g (splice cur.toList (off+sLen) news).toArray):=by intro n;simp[Builtin.append_,bb ht,sizeOf,typeInfo,f,h,Builtin.lenOf,hroom,n,bJ,d,splice]
 cases a with
 | none=>
  obtain rfl:=p rfl
  have hm:m=0:=by
   rcases c with c|⟨b,o,h4,_⟩
   ·exact c
   ·cases h4
  subst hm;have l:news=[]:=cH (by simpa using k);subst l;exact fin (by simp[Builtin.firstCells])
 | some ad=>
  refine fin (gp (P:=P) w 1 m ad m cap news (by simpa using k) ?_);intro j u hu;rcases c with c|⟨b,o,h4,_,_,hc⟩
  ·subst c;have l:news=[]:=cH (by simpa using k);subst l;simp at hu
  ·cases h4
   rw[bJ];exact hc j u hu
end
def l3 (w:World) (B:Nat) (v:Value) (xs:iz):Prop:=(v=.slice none 0 0/\xs=[])\/∃ g off cap cur,v=.slice (some (iu g off)) xs.length cap/\B<=g/\w.heap[g]?=some (.cells cur 5 (0,0))/\xs.length<=cap/\cap<=maxLen/\off+cap<=cur.size/\(cur.toList.drop off).take xs.length=aQ xs
theorem l3.nil (w:World) (B:Nat):l3 w B (.slice none 0 0) []:=.inl ⟨rfl,rfl⟩
theorem l3.dB {w':World}{v:Value}(h:l3 w B v xs) (hk:Below w.heap.size w w'):l3 w' B v xs:=by
 rcases h with h|⟨g,off,cap,cur,hv,hb,hg,r⟩
 ·exact .inl h
 ·exact .inr ⟨g,off,cap,cur,hv,hb,(hk.block g (dC hg)).trans hg,r⟩
theorem l3.shape {v:Value}(h:l3 w B v xs):∃ a cap,v=.slice a xs.length cap/\xs.length<=cap/\cap<=maxLen:=by
 rcases h with ⟨rfl,rfl⟩|⟨g,off,cap,cur,hv,hb,hg,h1,b,_⟩
 ·exact⟨none,0,rfl,ae _,by unfold maxLen;omega⟩
 ·exact⟨_,cap,hv,h1,b⟩
theorem l3.bytes {v:Value}(h:l3 w B v xs):Bytes w (λg=>B<=g) v xs:=by
 rcases h with ⟨rfl,rfl⟩|⟨g,off,cap,cur,rfl,hb,hg,h1,b,d,a⟩
 ·exact Bytes.nil w _
 ·refine⟨by simp[km],_,cap,rfl,h1,b,λh=>(by cases h),.inr ⟨g,off,rfl,hb,dC hg,λj u hu=>?_⟩⟩;rw[cell_of hg,<-hu,<-a,aU];rw[<-a,aU] at hu;split at hu
  ·rename_i c;simp[c]
  ·cases hu
theorem l3.own {v:Value}{n:Nat}(h:w.ownsRow B 5 1 v n (aQ xs)):l3 w B v xs:=by
 have d:xs.length=n:=by have:=h.1;simpa [km] using this
 subst d;rcases h.2 with ⟨rfl,a⟩|⟨g,cap,cur,rfl,hb,hg,h1,b,e,c⟩
 ·have:=cH a;subst this;exact .inl ⟨rfl,rfl⟩
 ·exact .inr ⟨g,0,cap,cur,rfl,hb,hg,h1,b,by omega,by simpa using c⟩
theorem l3.append {v:Value}(h:l3 w B v xs) (hB:B<=w.heap.size){S:Nat->Prop}{y:Value}{news:iz}(hy:Bytes w S y news) (hfew:xs.length+news.length<=10000000) (ty:TypeId):
  ∃ v' w',(Builtin.append_ #[42,42] ty #[v,y]).run prog w=.ok v' w'/\l3 w' B v' (xs++news)/\Below B w w':=by
 obtain⟨i,l,m,f,p⟩:=cw nu;rcases h with ⟨rfl,rfl⟩|⟨g,off,cap,cur,rfl,hb,hg,h1,t,A,s⟩
 ·obtain⟨v',w',hr,E,q,_,H⟩:=tH (P:=prog) w B 42 ty 5 i _ 1 1 underlying42 l m f p rfl de (.slice none 0 0) 0 [] (aS _ _ _ _) S y news.length (aQ news) hy (nJ _) mx om hB;refine⟨v',w',hr,l3.own (n:=0+news.length) (by simpa using E),⟨q.os,q.tape,q.output,q.size,λk hk=>q.block k om (by simp[Value.ownBlock])⟩⟩
 ·by_cases c:xs.length+news.length<=cap
  ·have hr:=F3 (P:=prog) 42 ty 5 underlying42 kr g off xs.length cap cur hg S y news.length (aQ news) hy (nJ _) c (by rw[km];omega);refine⟨_,_,hr,.inr ⟨g,off,cap,_,by rw[aE],hb,aJ w g cur _ _ _ hg,by rw[aE];exact c,t,?_,?_⟩,below_setRow (ag _ _) hb _⟩
   ·have hc:cur.toList.length=cur.size:=dj;rw[aT,length_splice _ _ _ (by rw[km];omega),hc];exact A
   ·have hc:cur.toList.length=cur.size:=dj;have d:=FZ cur.toList off xs.length (aQ xs) (aQ news) s (km xs) (by rw[km];omega);rw[km] at d;rw[nI,aE];exact d
  ·obtain⟨G,a,r,rfl,_,_,F,d⟩:=hy;have x:=t
   have holds:∀ j u,(aQ xs)[j]?=some u->w.cell? (((iu g off):Addr).add j)=some u:=by
    intro j u hu;rw[bJ,cell_of hg,<-hu,<-s,aU];rw[<-s,aU] at hu;split at hu
    ·rename_i D;simp[D]
    ·cases hu
   have z:0<news.length:=om
   obtain⟨b,o,rfl,_,C,hc⟩:∃ b off,a=some (iu b off)/\S b/\b<w.heap.size/\∀ j u,(aQ news)[j]?=some u->w.cell? (iu b (off+j))=some u:=by
    rcases d with d|d
    ·omega
    ·exact d
   have hr:=fS (P:=prog) w 42 ty 5 i _ underlying42 l m (iu g off) xs.length cap (aQ xs) (by rw[f,km,aY]) holds (iu b o) news.length r (aQ news) (by rw[f,km,aY])
    (λj u hu=>by rw[bJ];exact hc j u hu) om om (ew om (by rw[p];omega))
   refine⟨_,_,hr,.inr ⟨w.heap.size,0,_,_,by rw[aE],hB,aj w.drew _,by rw[aE];exact eF _ _ _ _,fw _ _ _ _ mx,?_,?_⟩,?_⟩
   ·have:=eF w (xs.length+news.length) cap 5;simp only[fx,aT,fy,km];have e:(Value.int IntKind.u8 0).cells.size=1:=rfl;rw[e];omega
   ·simp only[gU,fA,nI,aE];rw[eG (by simp[km])];rw[bh (by simp[km])]
   ·exact⟨rfl,rfl,rfl,by simp,λk hk=>aB w.drew _ k (by show k<w.heap.size;omega)⟩
theorem l3.tail {v:Value}(h:l3 w B v xs) (k:Nat) (hk0:0<k) (hk:k<=xs.length):
  ∃ v',(∀ w3,(Instr.sliceAt 42 v (some (iw k)) none none).run prog w3=.ok v' w3)/\l3 w B v' (xs.drop k):=by
 rcases h with ⟨rfl,rfl⟩|⟨g,off,cap,cur,rfl,hb,hg,h1,c,d,a⟩
 ·simp at hk;omega
 ·refine⟨_,λw3=>rH (P:=prog) (s:=1) w3 underlying42 kr _ _ _ _ hk,?_⟩;by_cases hc:cap=k
  ·have b:xs.length=k:=om;have hd:xs.drop k=[]:=eV om;rw[hd];refine .inr ⟨g,off,0,cur,?_,hb,hg,ae _,by unfold maxLen;omega,by omega,by simp[aQ]⟩;simp[Go.sliced,hc,b]
  ·rw[pK _ _ _ _ _ _ om];refine .inr ⟨g,off+k,cap - k,cur,by rw[bM,aY],hb,hg,by rw[bM];omega,by omega,by omega,?_⟩;rw[bM,<-fB,<-fl,a];simp[aQ]
theorem l3.parts {v:Value}(h:l3 w B v xs) (hx:0<xs.length):∃ g off cap,v=.slice (some (iu g off)) xs.length cap/\xs.length<=cap/\cap<=maxLen:=by
 rcases h with ⟨_,rfl⟩|⟨g,off,cap,cur,hv,hb,hg,h1,a,b,c⟩
 ·simp at hx
 ·exact⟨g,off,cap,hv,h1,a⟩
theorem l3.AY {g off cap n:Nat}(h:l3 w B (.slice (some (iu g off)) n cap) xs) (hn:n=xs.length) (k:Nat) (hk0:0<k) (hk:k<=n):
  l3 w B (.slice (if cap=k then some (iu g off) else some (iu g (off+k))) (n - k) (cap - k)) (xs.drop k):=by
 subst hn;obtain⟨v',h1,d⟩:=h.tail k hk0 hk;have b:=h1 w;obtain⟨a,c,_,f,i⟩:=h.shape;rw[rH (P:=prog) (s:=1) w underlying42 kr _ _ _ _ hk] at b
 have e:v'=.slice (if cap=k then some (iu g off) else some (iu g (off+k))) (xs.length - k) (cap - k):=by
  have:=Result.ok.inj b;rw[<-this.1];by_cases hc:cap=k
  ·simp[Go.sliced,hc]
  ·simp[Go.sliced,hc,bJ]
 rw[<-e];exact d
theorem l3.front {v:Value}(h:l3 w B v xs) (k:Nat) (hk0:0<k) (hk:k<=xs.length):
  ∃ v',(∀ w3,(Instr.sliceAt 42 v none (some (iw k)) none).run prog w3=.ok v' w3)/\Bytes w (λg=>B<=g) v' (xs.take k):=by
 have hb:=h.bytes;obtain⟨a,cap,rfl,h1,c⟩:=h.shape;refine⟨_,λw3=>vV (P:=prog) (s:=1) w3 underlying42 kr a _ cap k om,?_⟩;have b:=vj hb 0 k om hk
 simpa using b
theorem wO {P:Program}{w':World}{ops:Array Oper}{rest:List Oper}{o:Oper}{a:Act}{Q:Exit->Act->World->Prop}(hgd:o.guard=none) (s x:Operand) (t:TypeId)
  (ho:o.op=.call { callee:=.builtin .append,args:=#[s,x],argTypes:=#[t,t] }) (v y v':Value) (hs:a.eval s=v) (hx:a.eval x=y)
  (hr:(Builtin.append_ #[t,t] o.type #[v,y]).run P w=.ok v' w') (h:wpList P ops Q rest (a.put o.dst v') w'):wpList P ops Q (o::rest) a w:=by
 refine cN hgd λK b=>?_
 unfold Oper.wp execOp;simp only[ho,resolve,invoke,builtin,aM,Sem.run_pure,bu,cI,bt,bT,hs,hx,hr];exact b _ _ h
end Go.Proofs.YthmcbgidehjlbaaGreat.K
namespace Go.Proofs.YthmcbgidehjlbaaGreat.Fd
open _root_.Go.Proofs.Tryz
open Go Go.RowKit K
variable {f:Nat}{h H:List Nat}{r R R':iz}{w x:World}{v':Value}
def o5:Nat->List Nat->iz->List Nat×iz
 | 0,h,r=>(h,r)
 | f+1,h,r=>if 64<=r.length then o5 f (pA h (r.take 64)) (r.drop 64) else (h,r)
theorem yy:o5 (f+1) h r=if 64<=r.length then o5 f (pA h (r.take 64)) (r.drop 64) else (h,r):=rfl
theorem AZ (hr:r.length<64):o5 f h r=(h,r):=by
 cases f with
 | zero=>rfl
 | succ f=>rw[yy,ah om]
structure Sm where
 h:List Nat
 r:iz
 n:Nat
def tZ (h:List Nat) (r:iz) (n:Nat):Sm:=⟨(o5 r.length h r).1,(o5 r.length h r).2,n⟩
def nE (parts:List iz):Nat->Sm
 | 0=>⟨nM,[],0⟩
 | k+1=>tZ (nE parts k).h ((nE parts k).r++parts.getD k []) ((nE parts k).n+(parts.getD k []).length)
theorem A5 {parts:List iz}:nE parts 0=⟨nM,[],0⟩:=rfl
theorem A6 {parts:List iz}{k:Nat}:nE parts (k+1)=tZ (nE parts k).h ((nE parts k).r++parts.getD k []) ((nE parts k).n+(parts.getD k []).length):=rfl
def rP:Nat->iz->iz
 | 0,r=>r
 | f+1,r=>if r.length % 64=56 then r else rP f (r++[0])
theorem F4:rP 0 r=r:=rfl
theorem A7:rP (f+1) r=if r.length % 64=56 then r else rP f (r++[0]):=rfl
def wP (n i:Nat):UInt8:=byte (n*8 / 2 ^ (56 - 8*i) % 256)
def qF (r:iz) (n:Nat):Nat->iz
 | 0=>r
 | k+1=>qF r n k++[wP n k]
theorem F5 {n:Nat}:qF r n 0=r:=rfl
theorem A8 {n k:Nat}:qF r n (k+1)=qF r n k++[wP n k]:=rfl
theorem Ga {n k:Nat}:(qF r n k).length=r.length+k:=by
 induction k with
 | zero=>rfl
 | succ k ih=>rw[A8,aE,ih];rfl
def wQ (h:List Nat) (i:Nat):UInt8:=byte (h.getD (i / 4) 0 / 2 ^ (24 - 8*(i % 4)) % 256)
def qG (h:List Nat):Nat->iz
 | 0=>List.replicate 32 0
 | k+1=>(qG h k).set k (wQ h k)
theorem Gb:qG h 0=List.replicate 32 0:=rfl
theorem Gc {k:Nat}:qG h (k+1)=(qG h k).set k (wQ h k):=rfl
theorem A9 {k:Nat}:(qG h k).length=32:=by
 induction k with
 | zero=>exact aK
 | succ k ih=>exact bg.trans ih
def ud (a:Sm):iz:=qF (rP 64 (a.r++[128])) a.n 8
def qi (parts:List iz):iz:=qG (o5 (ud (nE parts parts.length)).length (nE parts parts.length).h (ud (nE parts parts.length))).1 32
theorem wS {parts:List iz}:(qi parts).length=32:=A9
attribute [irreducible] o5 nE rP qF qG
structure kP (w:World) (S:Nat->Prop) (pv:Value) (parts:List iz):Prop where
 row:∃ vs:List Value,Cells w S pv parts.length 1 vs/\∀ j v,vs[j]?=some v->Bytes w S v (parts.getD j [])
theorem kP.dB {w':World}{S:Nat->Prop}{pv:Value}{parts:List iz}(h:kP w S pv parts) (hs:w.heap.size<=w'.heap.size) (hk:∀ b,S b->b<w.heap.size->w'.heap[b]?=w.heap[b]?):kP w' S pv parts:=by obtain⟨vs,h1,a⟩:=h.row;exact⟨vs,h1.dB hs hk,λj v hv=>Cells.dB (a j v hv) hs hk⟩
def oJ (h:List Nat):Prop:=h.length=8/\∀ j,h.getD j 0<4294967296
theorem Gd:oJ nM:=⟨vl,FN⟩
theorem Ba {b:iz}(hg:oJ h):oJ (pA h b):=⟨AX hg.1,FJ hg.2⟩
structure nb (w:World) (n:Nat) (x:World) (H:List Nat) (v:Value) (R:iz):Prop where
 below:Below n w x
 out:ke x n 209 (List.replicate 32 0)
 h:kN x (n+1) 313 H
 rest:l3 x (n+2) v R
 size:n+2<=x.heap.size
 oJ:oJ H
abbrev nb.o:=@nb.«out»
theorem nb.after {n:Nat}{y:World}{v:Value}(s:nb w n x H v R) (hb:Below x.heap.size x y):nb w n y H v R:=⟨s.below.trans (hb.mono (by have:=s.size;omega)),s.o.dB (hb.block n (dC s.o)),s.h.dB (hb.block (n+1) (dC s.h)),s.rest.dB hb,am s.size hb.size,s.oJ⟩
theorem nb.grow {n:Nat}{y:World}{v:Value}(s:nb w n x H v R) (hb:Below (n+2) x y) (hm:l3 y (n+2) v' R'):nb w n y H v' R':=⟨s.below.trans (hb.mono om),s.o.dB (hb.block n om),s.h.dB (hb.block (n+1) om),hm,am s.size hb.size,s.oJ⟩
theorem nb.cut {n:Nat}{v:Value}(s:nb w n x H v R) (hm:l3 x (n+2) v' R'):nb w n x H v' R':=⟨s.below,s.o,s.h,hm,s.size,s.oJ⟩
theorem l3.row {B:Nat}{v:Value}{xs:iz}(h:l3 w B v xs){g:Nat}(hg:g<B) (cs:Array Value):l3 (w.setRow g cs) B v xs:=by
 rcases h with h|⟨g',off,cap,cur,hv,hb,hgg,r⟩
 ·exact .inl h
 ·exact .inr ⟨g',off,cap,cur,hv,hb,(aG _ _ _ _ om).trans hgg,r⟩
theorem nb.put {n:Nat}{v:Value}(s:nb w n x H v R) (H':List Nat) (hg:Fd.oJ H'):nb w n (x.setRow (n+1) (kG H').toArray) H' v R:=⟨below_setRow s.below om _,s.o.dB (aG _ _ _ _ om),s.h.setRow H',l3.row s.rest om _,by simpa using s.size,hg⟩
theorem nb.push {n:Nat}{v:Value}(s:nb w n x H v R) (c:UInt8) (hR:R.length<=2000000):
  ∃ v' w',(Builtin.append_ #[42,42] 42 #[v,ir x.heap.size 1 1]).run prog (x.alloc (.cells #[iy c.toNat] 5))=.ok v' w'/\nb w n w' H v' (R++[c]):=by
 have h1:=s.after ((ag x.heap.size x).alloc (ae _) (.cells #[iy c.toNat] 5));have a:Bytes (x.alloc (.cells #[iy c.toNat] 5)) (λ_=>True) (ir x.heap.size 1 1) [c]:=mC x #[iy c.toNat] 5 1 1 rfl mx;obtain⟨v',w',hr,hm,hb⟩:=h1.rest.append h1.size a (by simp;omega) 42;exact⟨v',w',hr,h1.grow hb hm⟩
def oK:Value->Nat
 | .slice _ l _=>l
 | _=>0
theorem Ge {w:World}{p:Nat}(hS:qE w p){S:Nat→Prop}{pv:Value}{parts:List iz}(hp:kP w S pv parts) (hfew:parts.length≤1000) (hlen:∀ j,(parts.getD j []).length≤1000000) (N:Nat) (hN:(nE parts parts.length).n=N)
  (hnk:∀ k,k≤parts.length→(nE parts k).n≤1000000):
  Calls prog 186 #[.pointer (some ⟨p,0,none⟩),pv] w λe w'=>e=.returned (.agg (aQ (qi parts)).toArray)∧Below w.heap.size w w':=by
 obtain⟨n,hn⟩:=Ex w.heap.size;have HN:=LH hn;have hpl:=dC hS;obtain⟨m,hm⟩:=Ex parts.length;obtain⟨vs,hc,hvs⟩:=hp.row;rw[← hm] at hc hfew hN hnk;obtain⟨pa,pcap,rfl,hpc1,hpc2⟩:=hc.shape;unfold maxLen at hpc2;obtain⟨H0,hH0⟩:=Ex nM;have hg0:oJ H0:=hH0 ▸ Gd;have hz0:nE parts 0=⟨H0,[],0⟩:=by rw[A5,hH0]
 obtain⟨wA,hwA⟩:=Ex (w.alloc (.cells (aQ (List.replicate 32 0)).toArray 209));obtain⟨wC,hwC⟩:=Ex (wA.alloc (.cells (kG (List.replicate 8 0)).toArray 313));have sA:wA.heap.size=n+1:=by rw[hwA,hn];simp
 have sC:wC.heap.size=n+2:=by rw[hwC];simp[sA]
 have bA:Below n w wA:=by rw[hwA,hn];exact (ag _ _).alloc (ae _) _
 have bC:Below (n+1) wA wC:=by rw[hwC,← sA];exact (ag _ _).alloc (ae _) _
 have xA:ke wA n 209 (List.replicate 32 0):=by rw[hwA,hn];exact aj w _
 have xC:kN wC (n+1) 313 (List.replicate 8 0):=by rw[hwC,← sA];exact aj wA _
 have yA:ke wC n 209 (List.replicate 32 0):=xA.dB (bC.block n (by omega));have bW:Below n w wC:=bA.trans (bC.mono (by omega));have hst:=tY (P:=prog) (ty:=313) (x:=H0) xC (pQ hg0.1) (by rw[hg0.1,aK])
 have hld:∀ w3,Below n w w3→(Instr.loadAt 313 (.pointer (some ⟨p,0,none⟩))).run prog w3=.ok (.agg (kG H0).toArray) w3:=by
  intro w3 h3;have hS3:=hS.dB (h3.block p (by omega));refine tW (x:=kG H0) underlying313 (by rw[pQ hg0.1,pz]) (λj v hv=>?_);rw[hH0] at hv;have hj:j<(kG nM).length:=(aD.1 hv).1
  have e:(kG (nM++n9)).toArray[j]?=(kG nM)[j]?:=by rw[aV,show kG (nM++n9)=kG nM++kG n9 by simp[kG],aX hj]
  rw[aw,cell_of hS3,e,hv]
 have hSt:nb w n (wC.setRow (n+1) (kG H0).toArray) H0 (.slice none 0 0) []:=⟨below_setRow bW (by omega) _,yA.dB (aG _ _ _ _ (by omega)),xC.setRow _,l3.nil _ _,by simp[sC],hg0⟩;obtain⟨w2,hw2⟩:=Ex (wC.setRow (n+1) (kG H0).toArray);rw[← hw2] at hSt hst;have hBA:Below n w wA:=bA;subst hwA;subst hwC;have hmix:=λ(w3:World) (h3:Below n w w3){S:Nat→Prop}{v:Value}{b:iz}(hb:Bytes w3 S v b) (hl:b.length=64) (H:List Nat) (hg:oJ H)=>FY (hS.dB (h3.block p (by omega))) hb hl H hg.1 hg.2
 have hcr:∀ w3,Below n w w3→Cells w3 S (.slice pa m pcap) m 1 vs:=λw3 h3=>hc.dB (by have:=h3.size;exact this) (λg _ hg=>h3.block g (by omega))
 have hvr:∀ w3,Below n w w3→∀ j v,vs[j]?=some v→Bytes w3 S v (parts.getD j []):=λw3 h3 j v hv=>Cells.dB (hvs j v hv) (by have:=h3.size;exact this) (λg _ hg=>h3.block g (by omega))
 replace hmix:=LH @hmix;replace hcr:=LH hcr;replace hvr:=LH hvr;replace hld:=LH (hld _ hBA);replace hst:=LH hst;replace hSt:=LH hSt;replace hz0:=LH hz0;replace hN:=LH hN;replace hnk:=LH hnk;replace hlen:=LH hlen;replace hm:=LH hm;replace hS:=LH hS;replace hw2:=LH hw2;have hres:qi parts=qG (o5 (ud (nE parts m)).length (nE parts m).h (ud (nE parts m))).1 32:=by rw[qi,hm.o]
 replace hres:=LH hres;have hsz2:=hSt.o.size;rw[hn] at hst;clear hBA bA bC bW xA xC yA sA sC hp hc hvs hn hH0 hg0;go_enter func186,ntmps186
 go_wp2_with (first
  | (refine kQ rfl 313 _ rfl _ _ rfl hld.o ?_)
  | (refine kI rfl 313 _ _ rfl _ _ rfl rfl hst.o ?_))
 rw[← HN.o]
 go_loopw [5,7,18] (λv N i wr=>∃ k:Nat,k≤m∧i=.int .i64 k∧∃ (H:List Nat) (R:iz) (T:Nat),N=.int .i64 T∧R.length<64∧Hd (nE parts k=⟨H,R,T⟩)∧Hd (nb w n wr H v R))
  (λ_ _ i _=>m - (intOf i).toNat)
 case atStart=>exact⟨0,by omega,rfl,H0,[],0,rfl,by simp,hz0.o,hSt.o⟩
 case round=>
  clear hSt hld hst hw2 hz0;obtain⟨k,hk,rfl,H,R,T,rfl,hR,hab,hSt⟩:=hrel
  have hT:T≤1000000:=by have:=hnk.o k hk;rw[hab.o] at this;exact this
  have hsz:=hSt.o.size;by_cases hlt:k<m
  ·have hbr:=hSt.o.below;obtain⟨pg,poff,pc,hv,_,_,_,hgl,hcl⟩:=Cells.at (hcr.o wr hbr) (by omega);simp only[aC] at hv;obtain⟨rfl,_,rfl⟩:=hv;have hvl:vs.length=m:=by have:=(hcr.o wr hbr).1;omega
   obtain⟨q,hq⟩:∃ q,vs[k]?=some q:=⟨vs[k]'(by omega),av (by omega)⟩;have hcq:=hcl k q hq;have hqb:=hvr.o wr hbr k q hq;obtain⟨P,hP⟩:=Ex (parts.getD k []);rw[← hP] at hqb;have hPl:P.length≤1000000:=hP ▸ hlen.o k;obtain⟨qa,qcap,rfl,hq1,hq2⟩:=hqb.shape;unfold maxLen at hq2;obtain⟨L,hL⟩:=Ex P.length;obtain⟨v',w3,hrun,hM,hB⟩:=hSt.o.rest.append hsz hqb (by omega) 42;have hS3:=hSt.o.grow hB hM;have hab2:nE parts (k+1)=tZ H (R++P) (T+L):=by rw[A6,hab.o,← hP,← hL]
   rw[← hL] at hrun hcq hPl hq1;have hX:(R++P).length=R.length+L:=by rw[aE,hL]
   obtain⟨X,hXe⟩:=Ex (R++P);rw[← hXe] at hS3 hab2 hX;replace hcl:=LH hcl;replace hrun:=LH hrun;replace hS3:=LH hS3;replace hab2:=LH hab2;replace hX:=LH hX;clear hqb hM hB hP hL hXe hq hvl hbr
   go_wp2_with (at_builtin;(refine wO rfl _ _ 42 rfl _ _ _ rfl rfl hrun.o ?_))
   obtain⟨E,hE⟩:=Ex (o5 X.length H X);replace hE:=LH hE
   have hv0:oK v'=X.length:=by obtain⟨a,cap,rfl,_⟩:=hS3.o.rest.shape;rfl
   replace hv0:=LH hv0;obtain⟨va0,vc0,rfl,_,_⟩:=hS3.o.rest.shape
   go_loopw [5] (λv wr=>∃ (f:Nat) (H:List Nat) (R:iz),R.length≤f∧R.length≤2000000∧oK v=R.length∧Hd (o5 f H R=E)∧Hd (nb w n wr H v R))
    (λv _=>oK v)
   case atStart=>exact⟨X.length,H,X,ae _,by have:=hX.o;omega,rfl,hE.o.symm,hS3.o⟩
   case round=>
    clear hS3 hrun hcl hSt hv0;obtain⟨f,H2,R2,hf,hR2,hvl,hE2,hSt⟩:=hrel;obtain⟨ra,rcap,rfl,hr1,hr2⟩:=hSt.o.rest.shape;unfold maxLen at hr2;have hsz:=hSt.o.size;obtain⟨L2,hL2⟩:=Ex R2.length;rw[← hL2] at hr1 hf hR2 hSt ⊢;have hdr:∀ w3,aA No wr.drew w3→aA No wr w3:=λw3 h=>⟨h.os,h.tape,h.output,h.size,h.block⟩
    replace hdr:=LH hdr;by_cases h64:64≤L2
    ·obtain⟨rg,roff,rc,hrv,-,-⟩:=hSt.o.rest.parts (by omega);simp only[aC] at hrv;obtain⟨rfl,-,rfl⟩:=hrv;obtain⟨v1,hv1,hb1⟩:=hSt.o.rest.front 64 (by omega) (by omega);have hm2:=hSt.o.rest.AY hL2 64 (by omega) h64;have hg:=hSt.o.oJ
     have hE3:∃ f',f=f'+1∧o5 f' (pA H2 (R2.take 64)) (R2.drop 64)=E:=by
      cases f with
      | zero=>omega
      | succ f'=>refine⟨f',rfl,?_⟩;have h:=hE2.o;rw[yy,ak (by omega)] at h;exact h
     obtain⟨f',rfl,hE3⟩:=hE3;obtain⟨B64,hB64⟩:=Ex (R2.take 64);have hB64l:B64.length=64:=by rw[hB64];simp;omega
     rw[← hB64] at hb1 hE3;obtain⟨G,hG⟩:=Ex (pA H2 B64);rw[← hG] at hE3;have hGg:oJ G:=hG ▸ Ba hg;have hD:(R2.drop 64).length=L2 - 64:=by rw[bM,hL2]
     obtain⟨R3,hR3⟩:=Ex (R2.drop 64);rw[← hR3] at hE3 hD hm2;have hld3:∀ w3,aA No wr w3→(Instr.loadAt 313 (.pointer (some ⟨n+1,0,none⟩))).run prog w3=.ok (.agg (kG H2).toArray) w3:=λw3 h=>tV (P:=prog) (hSt.o.h.dB (h.block (n+1) (by omega) id)) underlying313 (pQ hg.1)
     have hmx:∀ w3,aA No wr w3→Calls prog 194 #[.pointer (some ⟨p,0,none⟩),.agg (kG H2).toArray,v1] w3 λe w'=>e=.returned (.agg (kG G).toArray)∧Below w3.heap.size w3 w':=λw3 h=>hG ▸ hmix.o w3 (hSt.o.below.trans ((aA.no h).mono (by omega))) (hb1.dB h.size (λb _ hb=>h.block b hb id)) hB64l H2 hg
     replace hv1:=LH hv1;replace hm2:=LH hm2;replace hld3:=LH hld3;replace hmx:=LH hmx;replace hE3:=LH hE3;replace hL2:=LH hL2;replace hD:=LH hD;clear hb1 hG hB64 hR3 hE2;go_wp2;refine RA.rt (aA No) [1,1,1,1,4,7] [5] (λ_=>True) (trivial) (λ_=>aA.refl _ _) (λ_ _ _ h k=>h.trans k) (h:=?_);intro cx
     repeat refine RA.qq (h:=?_)
     refine RA.ld (by kernel_rfl) (by rfl) (by rfl) (y':=.agg (kG H2).toArray) (λw3 hp=>hld3.o w3 (hdr.o _ hp.1)) ?_
     repeat refine RA.qq (h:=?_)
     refine RA.yc (by kernel_rfl) (by rfl) (by rfl) (by rfl) (y':=v1) (λw3 hp=>hv1.o w3) ?_;refine RA.kc (P:=prog) [_,_,_] (.agg (kG G).toArray) (λ_=>True) (λ_ _=>by go_simp) (by kernel_rfl) (by rfl) (by rfl) (by kernel_rfl) (λ_ _ _ h=>h) rfl (λw3 hp hH=>(hmx.o w3 (hdr.o _ hp.1)).mono (by rintro e w4 ⟨rfl,h2⟩;exact⟨rfl,aA.dD h2 _,trivial⟩)) ?_
     refine RA.lr (λw4=>∃ w5,Below wr.heap.size wr w5∧w4=w5.setRow (n+1) (kG G).toArray) (by rfl) (by rfl) (by kernel_rfl) (λ_ _ h k=>h ▸ k) (λw3 hp0 _=>by have hR:=hdr.o _ (hp0.first (by kernel_rfl)).1;exact⟨_,RA.kL (by rfl) (by rfl) (tY (P:=prog) (ty:=313) (x:=G) (hSt.o.h.dB (hR.block (n+1) (by omega) id)) (pQ hGg.1) (by rw[hGg.1,hg.1])),w3,aA.no hR,rfl⟩) ?_
     refine RA.RA.kZ (λw4 hH=>?_);simp only[RA.put,List.foldr_cons,List.foldr_nil,cx,Act.put,ar,aq,au];obtain⟨w5,hB5,hw4⟩:=hH;have hS4:nb w n w4 G (.slice (if rcap=64 then some ⟨rg,roff,none⟩ else some ⟨rg,roff+64,none⟩) (L2 - 64) (rcap - 64)) R3:=hw4 ▸ (((hSt.o.after hB5).cut (hm2.o.dB hB5)).put G hGg);replace hS4:=LH hS4;clear hw4 hB5 hSt hmx hld3;go_wp2;go_roundw
     case rel=>exact⟨f',G,R3,by have:=hD.o;omega,by have:=hD.o;omega,hD.o.symm,hE3.o,hS4.o⟩
     case measure=>have:=hD.o;simp only[oK];omega
    ·have hR64:R2.length<64:=by omega
     have hE4:tZ H X (T+L)=⟨H2,R2,T+L⟩:=by have h:=hE2.o;rw[AZ hR64] at h;rw[tZ,← hE.o,← h]
     replace hE4:=LH hE4;replace hL2:=LH hL2;replace hR64:=LH hR64;clear hE2;go_wp2;go_roundw
     case rel=>refine⟨k+1,by omega,by go_num,H2,R2,T+L,by go_num,hR64.o,?_,hSt.o⟩;show _=_;rw[hab2.o,hE4.o]
     case measure=>simp[intOf];omega
  ·have hkm:k=m:=by omega
   rw[hkm] at hab;clear hkm;obtain⟨Z,hZ⟩:=Ex (nE parts m:Sm);rw[← hZ] at hab hres;obtain⟨va,vc,rfl,hva1,hva2⟩:=hSt.o.rest.shape;unfold maxLen at hva2;obtain⟨v',w3,hrun,hS3⟩:=hSt.o.push 128 (by omega);have hrun2:(Builtin.append_ #[42,42] 42 #[.slice va R.length vc,.slice (some ⟨wr.heap.size,0,none⟩) 1 1]).run prog (wr.alloc (.cells #[.int .u8 128] 5))=.ok v' w3:=hrun;replace hrun2:=LH hrun2;replace hS3:=LH hS3;clear hrun
   go_wp2_with (at_builtin;(refine wO rfl _ _ 42 rfl _ _ _ rfl rfl hrun2.o ?_))
   generalize decide ((k:Int)<m)=dd;generalize Value.int .i64 (k:Int)=kk;obtain⟨X,hX⟩:=Ex (R++[128]);rw[← hX] at hS3;have hXl:X.length=R.length+1:=by rw[hX];simp
   obtain⟨PT,hPT⟩:=Ex (rP 64 X);have hZr:Z.r=R∧Z.h=H∧Z.n=T:=by rw[hab.o];exact⟨rfl,rfl,rfl⟩
   have hlast:ud Z=qF PT T 8:=by rw[ud,hZr.1,hZr.2.2,← hX,← hPT]
   rw[hlast,hZr.2.1] at hres;obtain⟨va3,vc3,rfl,_,_⟩:=hS3.o.rest.shape;replace hX:=LH hX;replace hPT:=LH hPT;replace hXl:=LH hXl;clear hZ hab hZr hlast hSt hrun2 hsz hva1 hva2;go_wp2
   go_loopw [5] (λv wr=>∃ (f:Nat) (R:iz),(120 - R.length % 64) % 64≤f∧R.length≤2000 - f∧f≤64∧oK v=R.length∧Hd (rP f R=PT)∧Hd (nb w n wr H v R))
    (λv _=>(120 - oK v % 64) % 64)
   case atStart=>exact⟨64,X,by omega,by have:=hXl.o;omega,ae _,rfl,hPT.o.symm,hS3.o⟩
   case round=>
    clear hS3;obtain⟨f,R2,hf,hR2,hf64,hvl,hP,hSt⟩:=hrel;obtain⟨ra,rcap,rfl,hr1,hr2⟩:=hSt.o.rest.shape;unfold maxLen at hr2;obtain⟨L2,hL2⟩:=Ex R2.length;rw[← hL2] at hr1 hf hR2 hSt ⊢;obtain⟨q,hq⟩:=Ex (L2 % 64);have hq1:(L2:Int) % 64=q:=by omega
    have hq2:(L2:Int).tmod 64=q:=by rw[bZ (by omega)];exact hq1
    rw[← hq] at hf;replace hq:=LH hq;by_cases h56:q=56
    ·subst h56
     have hPR:R2=PT:=by
      rw[← hP.o];cases f with
      | zero=>rw[F4]
      | succ f=>rw[A7,ak (by have:=hq.o;omega)]
     rw[hPR] at hSt hL2;replace hL2:=LH hL2;clear hPR hP hvl;replace hq1:(L2:Int) % 64=56:=hq1;replace hq2:(L2:Int).tmod 64=56:=hq2;go_wp2;have hPTl:PT.length≤2000:=by have:=hL2.o;omega
     go_loopw [5,50] (λv i wr=>∃ (k:Nat) (R:iz),k≤8∧i=.int .i64 k∧oK v=R.length∧R.length≤2000+k∧Hd (qF PT T k=R)∧Hd (nb w n wr H v R))
      (λ_ i _=>8 - (intOf i).toNat)
     case atStart=>exact⟨0,PT,by omega,rfl,by simp only[oK];exact hL2.o,by omega,F5,hSt.o⟩
     case round=>
      clear hSt hf hR2 hr1 hr2 hf64;obtain⟨k,R2,hk,rfl,hvl,hR2,hP,hSt⟩:=hrel;obtain⟨ra,rcap,rfl,hr1,hr2⟩:=hSt.o.rest.shape;unfold maxLen at hr2;obtain⟨L3,hL3⟩:=Ex R2.length;rw[← hL3] at hr1 hR2 hSt ⊢;by_cases hlt8:k<8
      ·obtain⟨sh,hsh⟩:=Ex (56 - 8*k);have hsh1:(56:Int) - 8*(k:Int)=sh:=by omega
       have hsh2:sh≤56:=by omega
       have hmin:min sh 64=sh:=by omega
       obtain⟨C,hC⟩:=Ex (wP T k)
       have hCn:((T:Int)*8) / 2 ^ sh % 256=(C.toNat:Int):=by rw[hC,wP,← hsh,lM (by omega)];simp
       obtain⟨v',w3,hrun,hS3⟩:=hSt.o.push C (by omega);have hP2:qF PT T (k+1)=R2++[C]:=by rw[A8,hP.o,hC]
       have hvl2:oK v'=(R2++[C]).length:=by obtain⟨a,c,rfl,_⟩:=hS3.rest.shape;rfl
       replace hrun:=LH hrun;replace hS3:=LH hS3;replace hvl2:=LH hvl2;replace hP2:=LH hP2;replace hsh:=LH hsh;replace hL3:=LH hL3;clear hC hvl hP
       go_wp2_with (at_builtin;(refine wO rfl _ _ 42 rfl _ _ _ rfl rfl hrun.o ?_))
       go_roundw
       case rel=>exact⟨k+1,R2++[C],by omega,by go_num,hvl2.o,by have:=hL3.o;simp;omega,hP2.o,hS3.o⟩
       case measure=>simp[intOf];omega
      ·have hk8:k=8:=by omega
       rw[hk8] at hP;have hL3b:L3≤2008:=by omega
       clear hk8 hk;have hLL:=hP.o;obtain⟨Y,hY⟩:=Ex (qF PT T 8);have hRY:R2=Y:=by rw[hY,hLL]
       have hYm:Y.length % 64=0:=by rw[hY,Ga];have:=hL2.o;have:=hq.o;omega
       rw[← hY] at hres;rw[hRY] at hSt hL3;obtain⟨E,hE⟩:=Ex (o5 Y.length H Y);rw[← hE] at hres;replace hE:=LH hE;replace hL3:=LH hL3;clear hRY hY hLL hP hvl;go_wp2;generalize decide ((k:Int)<8)=dd2;generalize Value.int .i64 (k:Int)=kk2
       go_loopw [5] (λv wr=>∃ (f:Nat) (H:List Nat) (R:iz),R.length≤f∧R.length≤2000000∧R.length % 64=0∧oK v=R.length∧Hd (o5 f H R=E)∧Hd (nb w n wr H v R))
        (λv _=>oK v)
       case atStart=>exact⟨Y.length,H,Y,ae _,by have:=hL3.o;omega,hYm,by simp only[oK];exact hL3.o,hE.o.symm,hSt.o⟩
       case round=>
        clear hSt;obtain⟨f,H2,R2,hf,hR2,h0m,hvl,hE2,hSt⟩:=hrel;obtain⟨ra,rcap,rfl,hr1,hr2⟩:=hSt.o.rest.shape;unfold maxLen at hr2;have hsz:=hSt.o.size;obtain⟨M2,hM2⟩:=Ex R2.length;rw[← hM2] at hr1 hf hR2 h0m hSt ⊢;have hdr:∀ w3,aA No wr.drew w3→aA No wr w3:=λw3 h=>⟨h.os,h.tape,h.output,h.size,h.block⟩
        replace hdr:=LH hdr;by_cases h64:0<M2
        ·have h64':64≤M2:=by omega
         obtain⟨rg,roff,rc,hrv,-,-⟩:=hSt.o.rest.parts (by omega);simp only[aC] at hrv;obtain⟨rfl,-,rfl⟩:=hrv;obtain⟨v1,hv1,hb1⟩:=hSt.o.rest.front 64 (by omega) (by omega);have hm2:=hSt.o.rest.AY hM2 64 (by omega) h64';have hg:=hSt.o.oJ
         have hE3:∃ f',f=f'+1∧o5 f' (pA H2 (R2.take 64)) (R2.drop 64)=E:=by
          cases f with
          | zero=>omega
          | succ f'=>refine⟨f',rfl,?_⟩;have h:=hE2.o;rw[yy,ak (by omega)] at h;exact h
         obtain⟨f',rfl,hE3⟩:=hE3;obtain⟨B64,hB64⟩:=Ex (R2.take 64);have hB64l:B64.length=64:=by rw[hB64];simp;omega
         rw[← hB64] at hb1 hE3;obtain⟨G,hG⟩:=Ex (pA H2 B64);rw[← hG] at hE3;have hGg:oJ G:=hG ▸ Ba hg;have hD:(R2.drop 64).length=M2 - 64:=by rw[bM,hM2]
         obtain⟨R3,hR3⟩:=Ex (R2.drop 64);rw[← hR3] at hE3 hD hm2;have hld3:∀ w3,aA No wr w3→(Instr.loadAt 313 (.pointer (some ⟨n+1,0,none⟩))).run prog w3=.ok (.agg (kG H2).toArray) w3:=λw3 h=>tV (P:=prog) (hSt.o.h.dB (h.block (n+1) (by omega) id)) underlying313 (pQ hg.1)
         have hmx:∀ w3,aA No wr w3→Calls prog 194 #[.pointer (some ⟨p,0,none⟩),.agg (kG H2).toArray,v1] w3 λe w'=>e=.returned (.agg (kG G).toArray)∧Below w3.heap.size w3 w':=λw3 h=>hG ▸ hmix.o w3 (hSt.o.below.trans ((aA.no h).mono (by omega))) (hb1.dB h.size (λb _ hb=>h.block b hb id)) hB64l H2 hg
         replace hv1:=LH hv1;replace hm2:=LH hm2;replace hld3:=LH hld3;replace hmx:=LH hmx;replace hE3:=LH hE3;replace hM2:=LH hM2;replace hD:=LH hD;clear hb1 hG hB64 hR3 hE2;go_wp2;refine RA.rt (aA No) [1,1,1,1,4,7] [5] (λ_=>True) (trivial) (λ_=>aA.refl _ _) (λ_ _ _ h k=>h.trans k) (h:=?_);intro cx
         repeat refine RA.qq (h:=?_)
         refine RA.ld (by kernel_rfl) (by rfl) (by rfl) (y':=.agg (kG H2).toArray) (λw3 hp=>hld3.o w3 (hdr.o _ hp.1)) ?_
         repeat refine RA.qq (h:=?_)
         refine RA.yc (by kernel_rfl) (by rfl) (by rfl) (by rfl) (y':=v1) (λw3 hp=>hv1.o w3) ?_;refine RA.kc (P:=prog) [_,_,_] (.agg (kG G).toArray) (λ_=>True) (λ_ _=>by go_simp) (by kernel_rfl) (by rfl) (by rfl) (by kernel_rfl) (λ_ _ _ h=>h) rfl (λw3 hp hH=>(hmx.o w3 (hdr.o _ hp.1)).mono (by rintro e w4 ⟨rfl,h2⟩;exact⟨rfl,aA.dD h2 _,trivial⟩)) ?_
         refine RA.lr (λw4=>∃ w5,Below wr.heap.size wr w5∧w4=w5.setRow (n+1) (kG G).toArray) (by rfl) (by rfl) (by kernel_rfl) (λ_ _ h k=>h ▸ k) (λw3 hp0 _=>by have hR:=hdr.o _ (hp0.first (by kernel_rfl)).1;exact⟨_,RA.kL (by rfl) (by rfl) (tY (P:=prog) (ty:=313) (x:=G) (hSt.o.h.dB (hR.block (n+1) (by omega) id)) (pQ hGg.1) (by rw[hGg.1,hg.1])),w3,aA.no hR,rfl⟩) ?_
         refine RA.RA.kZ (λw4 hH=>?_);simp only[RA.put,List.foldr_cons,List.foldr_nil,cx,Act.put,ar,aq,au];obtain⟨w5,hB5,hw4⟩:=hH;have hS4:nb w n w4 G (.slice (if rcap=64 then some ⟨rg,roff,none⟩ else some ⟨rg,roff+64,none⟩) (M2 - 64) (rcap - 64)) R3:=hw4 ▸ (((hSt.o.after hB5).cut (hm2.o.dB hB5)).put G hGg);replace hS4:=LH hS4;clear hw4 hB5 hSt hmx hld3;go_wp2;go_roundw
         case rel=>exact⟨f',G,R3,by have:=hD.o;omega,by have:=hD.o;omega,by have:=hD.o;omega,hD.o.symm,hE3.o,hS4.o⟩
         case measure=>have:=hD.o;simp only[oK];omega
        ·have hR0:R2=[]:=cH (by omega)
         have hE4:E.1=H2:=by have h:=hE2.o;rw[hR0,AZ (by simp)] at h;rw[← h]
         rw[hE4] at hres;have hg:=hSt.o.oJ;have hO:=hSt.o.o;have hHH:=hSt.o.h;have hbl:=hSt.o.below;replace hO:=LH hO;replace hHH:=LH hHH;replace hbl:=LH hbl;replace hg:=LH hg;clear hE4 hE2 hSt hR0 hvl;go_wp2;have hns:n+1<wr.heap.size:=dC hHH.o
         go_loopw [75] (λi wr=>∃ k:Nat,k≤32∧i=.int .i64 k∧Below n w wr∧n+1<wr.heap.size∧Hd (ke wr n 209 (qG H2 k))∧Hd (kN wr (n+1) 313 H2))
          (λi _=>32 - (intOf i).toNat)
         case atStart=>exact⟨0,by omega,rfl,hbl.o,hns,(by rw[Gb];exact hO.o:ke _ _ _ _),hHH.o⟩
         case round=>
          clear hO hHH hbl hns;obtain⟨k,hk,rfl,hbr,hs,HA,HH⟩:=hrel;replace hbr:=LH hbr;by_cases hlt32:k<32
          ·obtain⟨j,hj⟩:=Ex (k / 4);have hj1:(k:Int) / 4=j:=by omega
           have hj2:(k:Int).tdiv 4=j:=by rw[el (by omega)];exact hj1
           have hj8:j<8:=by omega
           obtain⟨q,hq⟩:=Ex (k % 4);have hq1:(k:Int) % 4=q:=by omega
           have hq2:(k:Int).tmod 4=q:=by rw[bZ (by omega)];exact hq1
           have hq4:q<4:=by omega
           obtain⟨sh,hsh⟩:=Ex (24 - 8*q);have hsh1:(24:Int) - 8*(q:Int)=sh:=by omega
           have hsh2:sh≤24:=by omega
           have hmin:min sh 32=sh:=by omega
           obtain⟨W,hW⟩:=Ex (H2.getD j 0);have hWl:W<4294967296:=hW ▸ hg.o.2 j;obtain⟨C,hC⟩:=Ex (wQ H2 k)
           have hCn:(W:Int) / 2 ^ sh % 256=(C.toNat:Int):=by rw[hC,wQ,← hj,← hq,← hW,← hsh,lM (by omega)];simp
           have cW:=HH.o.cell j (by rw[hg.o.1];exact hj8);rw[← hW] at cW;have f0:=HA.o.frozen k;have c0:=HA.o.cell k (by rw[A9];exact hlt32);have hset:=HA.o.set k C;rw[show (qG H2 k).set k C=qG H2 (k+1) by rw[Gc,hC]] at hset;replace hset:=LH hset;replace hsh:=LH hsh;clear hC hW hj hq;go_wp2;go_roundw
           case rel=>refine⟨k+1,by omega,by go_num,hbr.o.setCell (p:=⟨n,k,none⟩) (ae n) _,by simpa using hs,hset.o,?_⟩;exact HH.o.dB (kD _ _ _ (by simp))
           case measure=>simp[intOf];omega
          ·have hk32:k=32:=by omega
           rw[hk32] at HA;clear hk32;rw[← hres.o] at HA;obtain⟨O,hO⟩:=Ex (qi parts);rw[← hO] at HA;have hOl:O.length=32:=hO ▸ wS;have hsz:(prog.info? 209).map (·.size)=some O.length:=by rw[hOl];kernel_rfl
           have hld:=LH (mY (P:=prog) HA.o underlying209 hsz);have hst:=LH (sj (P:=prog) HA.o hsz);replace hsz:=LH hsz;replace hO:=LH hO
           go_wp2_with (first|(refine kQ rfl 209 _ rfl _ _ rfl hld.o ?_)|(refine kI rfl 209 _ _ rfl _ _ rfl rfl hst.o ?_))
           refine aI (bd results186 _ _ n 209 _ (0,0) _ rfl HA.o underlying209 rfl (by rw[hsz.o];simp[km])) rfl ⟨by rw[hO.o],HN.o ▸ hbr.o⟩
    ·have e56:((q:Int) != 56)=true:=by simp;omega
     obtain⟨f',rfl⟩:∃ f',f=f'+1:=⟨f - 1,by have:=hq.o;omega⟩
     have hP2:rP f' (R2++[0])=PT:=by have h:=hP.o;rw[A7,ah (by have:=hq.o;omega)] at h;exact h
     obtain⟨v',w3,hrun,hS3⟩:=hSt.o.push 0 (by omega);have hrun2:(Builtin.append_ #[42,42] 42 #[.slice ra L2 rcap,.slice (some ⟨wr.heap.size,0,none⟩) 1 1]).run prog (wr.alloc (.cells #[.int .u8 0] 5))=.ok v' w3:=hrun
     have hvl2:oK v'=L2+1:=by obtain⟨a,c,rfl,_⟩:=hS3.rest.shape;simp[oK,hL2]
     obtain⟨R3,hR3⟩:=Ex (R2++[0]);have hR3l:R3.length=L2+1:=by rw[hR3,hL2];simp
     rw[← hR3] at hP2 hS3;replace hrun2:=LH hrun2;replace hS3:=LH hS3;replace hvl2:=LH hvl2;replace hP2:=LH hP2;replace hR3l:=LH hR3l;replace hL2:=LH hL2;clear hrun hR3 hP hvl
     go_wp2_with (at_builtin;(refine wO rfl _ _ 42 rfl _ _ _ rfl rfl hrun2.o ?_))
     go_roundw
     case rel=>exact⟨f',R3,by have:=hR3l.o;have:=hq.o;omega,by have:=hR3l.o;omega,by omega,by rw[hvl2.o,hR3l.o],hP2.o,hS3.o⟩
     case measure=>rw[hvl2.o];simp only[oK];have:=hq.o;omega
end Go.Proofs.YthmcbgidehjlbaaGreat.Fd

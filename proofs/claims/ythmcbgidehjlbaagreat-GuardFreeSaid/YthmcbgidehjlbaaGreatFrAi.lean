/-
 Parts of the proof. No condition beyond what each theorem names.
-/
import Derived.Shelf.Abstract
import Derived.Test.YthmcbgidehjlbaaGreatFrAg
set_option maxHeartbeats 4000000
set_option maxRecDepth 100000
namespace Go.Proofs.YthmcbgidehjlbaaGreat.P
open _root_.Go.Proofs.Tryz
open Go Go.RowKit Go.Shelf K
variable {w:World}{S:Nat->Prop}{ad:Option Addr}{cap i j g mb:Nat}{l dk:List Ar}
def lj (a:Ar):Bool:=decide (1<=a.2)
def zf (a:Ar):List Value:=[iw a.1,iw a.2]
theorem CJ (a:Ar) (w:World):Calls prog 42 #[mm a] w λe w'=>e=.returned (.bool (!lj a))/\Below w.heap.size w w':=by
 obtain⟨x,y⟩:=a;unfold mm at*;have b:=((ag _ w).alloc (ae _) (.cells #[iw x,iw y] 27))
 have hc:(!lj (x,y))=decide (y<1):=by
  unfold lj;by_cases h:1<=y
  ·rw[dN h,dt om];rfl
  ·rw[dt h,dN om];rfl
 rw[hc];replace hc:=LH hc;go_enter func42,ntmps42;go_wp2;go_ret;exact⟨rfl,b⟩
def lV (l:List Ar):List Value:=l.flatMap zf
theorem sG (l:List Ar):(lV l).length=l.length*2:=by
 induction l with
 | nil=>rfl
 | cons a l ih=>simp only[lV,List.flatMap_cons,aE,bj] at *;rw[ih];simp[zf];omega
theorem I6 (l:List Ar):∀ u ∈ lV l,u.oneCell'=true:=by intro u hu;obtain⟨a,_,h⟩:=List.mem_flatMap.1 hu;simp[zf] at h;rcases h with rfl|rfl<;>rfl
theorem zh:∀ (l:List Ar) (k:Nat) (h:k<l.length),(lV l)[k*2]?=some (iw (l[k]).1)/\(lV l)[k*2+1]?=some (iw (l[k]).2):=by
 intro l
 induction l with
 | nil=>intro k h;simp at h
 | cons a l ih=>
  intro k h;cases k with
  | zero=>exact⟨rfl,rfl⟩
  | succ k=>
   obtain⟨h1,b⟩:=ih k (by simpa using h);have e:lV (a::l)=iw a.1::iw a.2::lV l:=rfl;rw[e,show (k+1)*2=k*2+1+1 by omega]
   simpa using ⟨h1,b⟩
theorem I7:(prog.info? 27).map (λi=>(i.zero,i.size,i.bytes))=some (some (.agg #[iw 0,iw 0]),2,16):=kr
theorem CK (w:World):Calls prog 41 #[.slice none 0 0] w λe w'=>e=.returned (.slice none 0 0)/\w=w':=by have he:=Lib.run_eql_slice_nil (P:=prog) w 23 27 none 0 0 0 0 underlying23;go_enter func41,ntmps41;go_wp2;go_ret;exact⟨rfl,rfl⟩
def nh (w:World) (g cap:Nat) (l:List Ar):Prop:=∃ cur:Array Value,w.heap[g]?=some (.cells cur 27 (0,0))/\l.length<=cap/\cap<=maxLen/\cur.size=cap*2/\cur.toList.take (l.length*2)=lV l
theorem zj {ad:Addr}{n:Nat}(hb:Cells w S (.slice (some ad) n cap) n 2 (lV l)) (hl:n<=1000000):
  Calls prog 41 #[.slice (some ad) n cap] w (λe w'=>∃ g c,e=.returned (ir g n c)/\nh w' g c l/\w.heap.size<=g/\Below w.heap.size w w'):=by
 have f:n=l.length:=by have:=hb.1;rw[sG] at this;omega
 have h:=ch (base:=w.heap.size) (e:=27) (size:=2) w #[] 0 (ae _) mx rfl;have d:Cells (w.alloc (.cells #[] 27)) S (.slice (some ad) n cap) n 2 (lV l):=hb.dB sm (λb _ hb=>aB w _ b hb);have he:=Lib.run_eql_slice_nil (P:=prog) w 23 27 (some ad) n cap 0 0 underlying23;have H:=LH d;have p:=LH f;clear d hb f;have m:(Value.agg #[iw 0,iw 0]).cells.size=2:=rfl;go_enter func41,ntmps41
 go_wp2_with (at_builtin;(refine K.append ?_ (.tmp 5) (.tmp 6) 23 ?_ w.heap.size 27 _ 2 16 underlying23 I7 m de _ 0 [] ?_ h S _ n (lV l) ?_ H.o (I6 l) mx om sm ?_))
 ·rfl
 ·rfl
 intro v' w' v hg u _;go_wp2;go_ret;have a:=(((ag _ w).alloc (ae _) (.cells #[] 27)).grown hg sm (λk hk=>by simp[Value.ownBlock] at hk;omega));rcases v.2 with ⟨q,_⟩|⟨g,c,cur,rfl,i,j,h1,r,s,t⟩
 ·exact absurd q u
 ·refine⟨g,c,rfl,⟨cur,j,by rw[<-p.o];exact h1,r,s,?_⟩,i,a⟩;rw[<-p.o]
  simpa using t
theorem CM {n:Nat}(hb:Cells w S (.slice ad n cap) n 2 (lV l)) (r:Int)
  (hr:(r=-1/\∀ j (h:j<l.length),lj l[j]=true)\/(∃ (k:Nat) (h:k<l.length),r=k/\lj l[k]=false/\∀ j (h:j<l.length),j<k->lj l[j]=true)):
  Calls prog 68 #[.slice ad n cap,.func (.func 42) #[] #[]] w λe w'=>e=.returned (iw r)/\Below w.heap.size w w':=by
 have u:n=l.length:=by have:=hb.1;rw[sG] at this;omega
 have E:n<=maxLen:=by obtain⟨_,_,hv,h1,B⟩:=Cells.shape hb;cases hv;omega
 unfold maxLen at E;have G:=LH hr;have F:=LH u;have H:=LH hb;have eg:∀ args w,(callFunc 42 args).run prog w=.ok (.enter 42 args) w:=enters_of func42 kr rfl;clear hr u hb;go_enter func68,ntmps68;go_wp2
 go_loopw [5,8] (λ_ i wr=>∃ k:Nat,k<=n/\i=iw k/\Below w.heap.size w wr/\Hd (∀ j (h:j<l.length),j<k->lj l[j]=true)) (λ_ i _=>n - (intOf i).toNat)
 case atStart=>exact⟨0,aW _,rfl,ag _ _,λj h L=>by omega⟩
 case round=>
  obtain⟨k,hk,rfl,c,A⟩:=hrel;by_cases D:k<n
  ·obtain⟨b,off,cp,hv,h1,_,_,t,hc⟩:=H.o.at om;cases hv
   have s:k<l.length:=by rw[<-F.o];exact D
   obtain⟨g1,g2⟩:=zh l k s;obtain⟨a,C⟩:=Ex (l[k]);rw[<-C] at g1 g2;obtain⟨x,y⟩:=a;have J:wr.cell? (iu b (off+k*2))=some (iw x):=(c.cell (p:=iu b (off+k*2)) t).trans (hc _ _ g1);have K:wr.cell? (iu b (off+k*2+1))=some (iw y):=(c.cell (p:=iu b (off+k*2+1)) t).trans (hc _ _ g2);have z:=LH (CJ (x,y) wr);have g:=LH C;clear hc g1 g2 C;cases hcb:lj (x,y) with
   | true=>
    rw[hcb] at z;have f:=LH hcb;clear hcb
    go_wp2_with fail
    refine z.o.mono ?_;rintro e M ⟨rfl,d⟩;have m:=c.trans (d.mono c.size);clear d;go_wp2;go_roundw
    case rel=>exact⟨k+1,by omega,by go_num,m,λj h L=>by
     by_cases e:j=k
     ·subst e;rw[<-g.o];exact f.o
     ·exact A.o j h om⟩
    case measure=>simp[intOf];omega
   | false=>
    rw[hcb] at z;have f:=LH hcb;clear hcb
    go_wp2_with fail
    refine z.o.mono ?_;rintro e M ⟨rfl,d⟩;have m:=c.trans (d.mono c.size);clear d;go_wp2;go_ret;refine⟨mI ?_,m⟩;rcases G.o with ⟨_,I⟩|⟨v,q,rfl,h1,B⟩
    ·have:=I k s;rw[<-g.o,f.o] at this;cases this
    ·have e:v=k:=by
      rcases dG v k with h|h|h
      ·have:=A.o v q h;rw[h1] at this;cases this
      ·exact h
      ·have:=B k s h;rw[<-g.o,f.o] at this;cases this
     rw[e]
  ·go_wp2;go_ret;refine⟨mI ?_,c⟩;rcases G.o with ⟨rfl,I⟩|⟨v,q,rfl,h1,B⟩
   ·rfl
   ·have:=A.o v q (by have:=F.o;omega);rw[h1] at this;cases this
theorem zk (l:List Ar) (j:Nat) (h:j<l.length):(l.take (j+1)).filter lj=(l.take j).filter lj++(if lj l[j] then [l[j]] else []):=by rw[bP h,List.filter_append];cases hc:lj l[j]<;>simp[hc]
structure rB (l dk:List Ar) (i j:Nat):Prop where
 len:dk.length=l.length
 lo:dk.take i=(l.take j).filter lj
 hi:dk.drop j=l.drop j
 le:i<=j
 jl:j<=l.length
theorem rB.get (h:rB l dk i j) (hj:j<l.length):dk[j]'(h.len.symm ▸ hj)=l[j]:=by
 have:=bV (·[0]?) h.hi;simp only[bF,dY] at this;rw[av (h.len.symm ▸ hj),av hj] at this
 simpa using this
theorem rB.skip (h:rB l dk i j) (hj:j<l.length) (hc:lj l[j]=false):rB l dk i (j+1):=⟨h.len,by rw[h.lo,zk l j hj,hc];simp,by have:=bV (List.drop 1) h.hi;simpa [fB] using this,by have:=h.le;omega,hj⟩
theorem rB.dB (h:rB l dk i j) (hj:j<l.length) (hc:lj l[j]=true):rB l (dk.set i l[j]) (i+1) (j+1):=by
 have hle:=h.le;have a:i<dk.length:=by rw[h.len];omega
 refine⟨by simp[h.len],?_,?_,by omega,hj⟩
 ·rw[zk l j hj,hc,<-h.lo,bP (by simpa using a)];rw[fe,List.set_eq_of_length_le (by simp;omega)];simp
 ·rw[List.drop_set_of_lt om];have:=bV (List.drop 1) h.hi
  simpa [fB] using this
theorem nh.set (h:nh w g cap l) (i:Nat) (a:Ar) (hi:i<l.length):nh ((w.setCell (iu g (i*2)) (iw a.1)).setCell (iu g (i*2+1)) (iw a.2)) g cap (l.set i a):=by
 obtain⟨cur,h1,d,f,j,k⟩:=h;refine⟨(cur.setIfInBounds (i*2) (iw a.1)).setIfInBounds (i*2+1) (iw a.2),lz (lz h1 _ _) _ _,by simpa using d,f,by simpa using j,?_⟩;rw[bg,eB,eB];rw[fe,fe,k]
 have key:∀ (l:List Ar) (i:Nat),i<l.length->((lV l).set (i*2) (iw a.1)).set (i*2+1) (iw a.2)=lV (l.set i a):=by
  intro l
  induction l with
  | nil=>intro i h;simp at h
  | cons b l ih=>
   intro i hi;cases i with
   | zero=>rfl
   | succ i=>
    have:=ih i (by simpa using hi);have e:∀ (c:Ar) (m:List Ar),lV (c::m)=iw c.1::iw c.2::lV m:=λ_ _=>rfl
    rw[aq,e,e,show (i+1)*2=i*2+1+1 by omega];simp only[aq];rw[this]
 exact key l i hi
theorem nh.get (h:nh w g cap l) (i:Nat) (hi:i<l.length):w.cell? (iu g (i*2))=some (iw (l[i]).1)/\w.cell? (iu g (i*2+1))=some (iw (l[i]).2):=by obtain⟨cur,h1,b,c,d,a⟩:=h;obtain⟨g1,g2⟩:=zh l i hi;rw[<-a,aU] at g1 g2;rw[ak om] at g1 g2;exact⟨by rw[cell_of h1];simpa using g1,by rw[cell_of h1];simpa using g2⟩
theorem nh.lt (h:nh w g cap l):g<w.heap.size:=by obtain⟨cur,h1,_⟩:=h;exact dC h1
theorem nh.free (h:nh w g cap l) (j:Nat):w.frozen? (iu g j)=false:=by obtain⟨cur,h1,_⟩:=h;exact kY h1 j
theorem nh.dB {w1:World}(h:nh w g cap l) (hb:w1.heap[g]?=w.heap[g]?):nh w1 g cap l:=by obtain⟨cur,h1,a⟩:=h;exact⟨cur,hb.trans h1,a⟩
theorem nh.cells (h:nh w g cap l):Cells w (·=g) (ir g l.length cap) l.length 2 (lV l):=by
 have e:=h;obtain⟨cur,h1,a,b,d,c⟩:=h;refine⟨sG l,_,cap,rfl,a,b,λh=>(by cases h),.inr ⟨g,0,rfl,rfl,dC h1,λj u hu=>?_⟩⟩;rw[<-c,aU] at hu;split at hu
 ·rw[cell_of h1,aw];simpa using hu
 ·cases hu
theorem I8 (n:Nat):(Builtin.zeroCells (Value.agg #[iw 0,iw 0]).cells n).toList=List.replicate (n*2) (iw 0):=by
 apply List.ext_getElem
 ·simp[Builtin.zeroCells,Value.cells]
 ·intro i h1 a;simp only[Builtin.zeroCells,Value.cells,Array.toList_map,List.getElem_map,List.getElem_replicate];have:i % 2=0\/i % 2=1:=om;rcases this with h|h<;>simp[h]
theorem I9 (h:nh w g cap l) (i:Nat) (hi:i<l.length) (c':Nat):
  ∃ w',(∀ ty,(Builtin.clear_ #[23] ty #[.slice (some (iu g (i*2))) (l.length - i) c']).run prog w=.ok (.tuple #[]) w')/\nh w' g cap (l.take i)/\aA (·=g) w w':=by
 obtain⟨cur,h1,k,f,n,j⟩:=h;have b:=run_storeCells_at (P:=prog) g (i*2) 27 (List.replicate ((l.length - i)*2) (iw 0)) 0 cur w h1 (by simp;omega) (λv hv=>by rw[ie hv];rfl);have hv:∀ w,(zeroValue 27).run prog w=.ok (.agg #[iw 0,iw 0]) w:=Tryz.zeroValue27;obtain⟨m,hm⟩:∃ m,l.length - i=m+1:=⟨l.length - i - 1,by omega⟩;have d:=I8 (l.length - i);refine⟨w.setRow g (List.take (i*2+0) cur.toList++List.replicate ((l.length - i)*2) (iw 0)++List.drop (i*2+0+(List.replicate ((l.length - i)*2) (iw 0)).length) cur.toList).toArray,λty=>?_,?_,aA.setRow (C:=(·=g)) (aA.refl _ _) (λ_=>rfl) _⟩
 ·rw[hm] at b d ⊢;simp[Builtin.clear_,bb underlying23,hv,d,b]
 ·refine⟨_,aJ _ _ _ _ _ _ h1,by simp;omega,f,?_,?_⟩
  ·simp;omega
  ·have e:(l.take i).length=i:=by simp;omega
   rw[e];simp only[dY,cC];rw[eG (by simp;omega),fj,gq];have:=bV (List.take (i*2)) j;rw[fj,dh om] at this;rw[this]
   have key:∀ (l:List Ar) (i:Nat),(lV l).take (i*2)=lV (l.take i):=by
    intro l
    induction l with
    | nil=>intro i;simp[lV]
    | cons a l ih=>
     intro i;cases i with
     | zero=>simp[lV]
     | succ i=>
      have e:∀ (c:Ar) (m:List Ar),lV (c::m)=iw c.1::iw c.2::lV m:=λ_ _=>rfl
      rw[eH,e,e,show (i+1)*2=i*2+1+1 by omega,eH,eH,ih]
   exact key l i
theorem CN {n:Nat}(hb:Cells w S (.slice ad n cap) n 2 (lV l)) (hr:∀ j (h:j<l.length),lj l[j]=true):
  Calls prog 40 #[.slice ad n cap,.func (.func 42) #[] #[]] w λe w'=>e=.returned (.slice ad n cap)/\Below w.heap.size w w':=by
 have b:=LH (CM hb (-1) (.inl ⟨rfl,hr⟩));clear hb hr;go_enter func40,ntmps40
 go_wp2_with (go_at_call 68;refine b.o.mono ?_;rintro e w' ⟨rfl,a⟩)
 go_ret;exact⟨rfl,a⟩
theorem Ja (hb:nh w g cap l) (hbig:l.length<=1000000) (k0:Nat) (hk0:k0<l.length) (hc0:lj l[k0]=false) (hall:∀ j (h:j<l.length),j<k0->lj l[j]=true):
  Calls prog 40 #[ir g l.length cap,.func (.func 42) #[] #[]] w λe w'=>e=.returned (ir g (l.filter lj).length cap)/\nh w' g cap (l.filter lj)/\aA (·=g) w w':=by
 have W:=LH (CM hb.cells k0 (.inr ⟨k0,hk0,rfl,hc0,hall⟩));have a1:((k0:Int) == -1)=false:=beq_eq_false_iff_ne.2 om
 have X:rB l l k0 (k0+1):=by
  refine⟨rfl,?_,rfl,by omega,hk0⟩;rw[zk l k0 hk0,hc0];simp only[fJ,dm,fI];rw[ii.2 (λa F=>?_)];obtain⟨j,hj,rfl⟩:=dI F;have I:j<k0/\j<l.length:=by simp at hj;omega
  simpa using hall j I.2 I.1
 have H0:=LH X;have HB:=LH hb;have eg:∀ args w,(callFunc 42 args).run prog w=.ok (.enter 42 args) w:=enters_of func42 kr rfl;have S:=hb.lt;have v:l.length<=cap/\cap<=maxLen:=by obtain⟨cur,_,h2,h3,_⟩:=hb;exact⟨h2,h3⟩
 obtain⟨n,L⟩:=Ex l.length;rw[<-L] at W hbig v ⊢;have Q:=LH L;have Z:k0<n:=by rw[L];exact hk0
 unfold maxLen at v;clear X hb hall hc0 L hk0;go_enter func40,ntmps40
 go_wp2_with (go_at_call 68;refine W.o.mono ?_;rintro e w' ⟨rfl,c⟩)
 have f:=HB.o.dB (c.block g S);have N:=LH (aA.dD c (·=g));have B:=LH f;clear c f
 go_loopw [5,6] (λs5 V wr=>∃ (i j:Nat) (dk:List Ar),s5=iw i/\V=iw j/\i<j/\j<=n/\Hd (rB l dk i j/\nh wr g cap dk/\aA (·=g) w wr)) (λ_ V _=>n - (intOf V).toNat)
 case atStart=>exact⟨k0,k0+1,l,rfl,by go_num,by omega,by omega,H0.o,B.o,N.o⟩
 case round=>
  obtain⟨i,j,dk,rfl,rfl,a6,a8,O⟩:=hrel;by_cases U:j<n
  ·obtain⟨b,d,q⟩:=O.o;have k:j<l.length:=by rw[<-Q.o];exact U
   have T:j<dk.length:=by rw[b.len];exact k
   obtain⟨g1,g2⟩:=d.get j T;rw[b.get k] at g1 g2;obtain⟨a,F⟩:=Ex (l[j]);rw[<-F] at g1 g2;obtain⟨x,y⟩:=a;have z:=d.lt;have K:=LH (CJ (x,y) (wr.alloc (.cells #[iw x,iw y] 27)));have M:=LH F;have s:=LH b;have E:=LH d;have D:=LH q;clear F b d q;cases hcb:lj (x,y) with
   | false=>
    rw[hcb] at K;have A:=LH hcb;clear hcb
    go_wp2_with fail
    refine K.o.mono ?_;rintro e J ⟨rfl,c⟩;have m:Below wr.heap.size wr J:=((ag _ wr).alloc (ae _) _).trans (c.mono sm);have r:=LH m;clear c m;go_wp2;go_roundw
    case rel=>exact⟨i,j+1,dk,rfl,by go_num,by omega,by omega,s.o.skip k (by rw[<-M.o];exact A.o),E.o.dB (r.o.block g z),D.o.trans (aA.dD r.o _)⟩
    case measure=>simp[intOf];omega
   | true=>
    rw[hcb] at K;have A:=LH hcb;clear hcb
    go_wp2_with fail
    refine K.o.mono ?_;rintro e J ⟨rfl,c⟩;have m:Below wr.heap.size wr J:=((ag _ wr).alloc (ae _) _).trans (c.mono sm);have aa:J.cell? (iu wr.heap.size 0)=some (iw x):=(c.cell (p:=iu wr.heap.size 0) sm).trans (by rw[cell_of (aj _ _)];rfl);have ad:J.cell? (iu wr.heap.size 1)=some (iw y):=(c.cell (p:=iu wr.heap.size 1) sm).trans (by rw[cell_of (aj _ _)];rfl);have f:=E.o.dB (m.block g z);obtain⟨q1,q2⟩:=f.get i (by rw[s.o.len];omega);have f1:=f.free (i*2);have f2:=f.free (i*2+1);have Y:=f.lt;have a7:i<n:=om;have B:=LH f;have r:=LH m;clear c m f g1 g2;go_wp2;go_roundw
    case rel=>
     refine⟨i+1,j+1,dk.set i l[j],by go_num,by go_num,by omega,by omega,s.o.dB k (by rw[<-M.o];exact A.o),?_,?_⟩
     ·rw[<-M.o];exact B.o.set i (x,y) (by rw[s.o.len];omega)
     ·exact ((D.o.trans (aA.dD r.o _)).setCell (p:=iu g (i*2)) (λ_=>rfl) _).setCell (p:=iu g (i*2+1)) (λ_=>rfl) _
    case measure=>simp[intOf];omega
  ·obtain⟨b,d,q⟩:=O.o;have t:dk.length=n:=by rw[b.len];exact Q.o.symm
   obtain⟨w',R,C,G⟩:=I9 d i (by rw[t];omega) (cap - i);rw[t] at R;have k:j=l.length:=by have:=Q.o;omega
   have u:=b.lo;rw[k,cS] at u;have H:i=(l.filter lj).length:=by rw[<-u];simp[t];omega
   rw[u] at C;have HR:=LH C;have HC:=LH (q.trans G);have P:=LH H;clear b d q t C G k u H O;go_wp2;go_ret;exact⟨by rw[<-P.o];rfl,HR.o,HC.o⟩
theorem CO (hb:nh w g cap l) (hbig:l.length<=1000000):
  Calls prog 40 #[ir g l.length cap,.func (.func 42) #[] #[]] w λe w'=>e=.returned (ir g (l.filter lj).length cap)/\nh w' g cap (l.filter lj)/\aA (·=g) w w':=by
 by_cases h:∀ j (h:j<l.length),lj l[j]=true
 ·refine (CN hb.cells h).mono ?_;rintro e w' ⟨rfl,c⟩
  have e:l.filter lj=l:=ii.2 λa o=>by obtain⟨j,b,rfl⟩:=dI o;exact h j b
  rw[e];exact⟨rfl,hb.dB (c.block g hb.lt),aA.dD c _⟩
 ·have h':∃ j,∃ h:j<l.length,lj l[j]=false:=by
   false_or_by_contra
   rename_i r
   exact h λj b=>by
    cases hc:lj l[j] with
    | true=>rfl
    | false=>exact absurd ⟨j,b,hc⟩ r
  have key:∀ m,(∃ j,∃ h:j<l.length,j<m/\lj l[j]=false)->∃ k,∃ h:k<l.length,lj l[k]=false/\∀ j (h:j<l.length),j<k->lj l[j]=true:=by
   intro m
   induction m with
   | zero=>rintro⟨j,_,h,_⟩;omega
   | succ m ih=>
    rintro⟨j,b,hm,hc⟩;by_cases f:∃ j,∃ h:j<l.length,j<m/\lj l[j]=false
    ·exact ih f
    ·have q:j=m:=by
      false_or_by_contra
      exact f ⟨j,b,by omega,hc⟩
     refine⟨j,b,hc,λi hi p=>?_⟩;cases hci:lj l[i] with
     | true=>rfl
     | false=>exact absurd ⟨i,hi,by omega,hci⟩ f
  obtain⟨j,b,hc⟩:=h';obtain⟨s,d,h1,n⟩:=key (j+1) ⟨j,b,by omega,hc⟩;exact Ja hb hbig s d h1 n
theorem Jb {q:Ar->Bool}{n:Nat}(hb:Cells w S (.slice ad n cap) n 2 (lV l)) (hq:∀ a ∈ l,∀ w1,Below w.heap.size w w1->Calls prog 46 #[mm a,iq mb] w1 λe w2=>e=.returned (.bool (q a))/\Below w1.heap.size w1 w2) (r:Int)
  (hr:(r=-1/\∀ j (h:j<l.length),q l[j]=false)\/(∃ (k:Nat) (h:k<l.length),r=k/\q l[k]=true/\∀ j (h:j<l.length),j<k->q l[j]=false)):
  Calls prog 68 #[.slice ad n cap,.func (.func 46) #[] #[iq mb]] w λe w'=>e=.returned (iw r)/\Below w.heap.size w w':=by
 have v:n=l.length:=by have:=hb.1;rw[sG] at this;omega
 have F:n<=maxLen:=by obtain⟨_,_,hv,h1,D⟩:=Cells.shape hb;cases hv;omega
 unfold maxLen at F;have I:=LH hr;have K:=LH hq;have G:=LH v;have H:=LH hb;have eg:∀ args w,(callFunc 46 args).run prog w=.ok (.enter 46 args) w:=enters_of func46 kr rfl;clear hr v hb hq;go_enter func68,ntmps68;go_wp2
 go_loopw [5,8] (λ_ i wr=>∃ k:Nat,k<=n/\i=iw k/\Below w.heap.size w wr/\Hd (∀ j (h:j<l.length),j<k->q l[j]=false)) (λ_ i _=>n - (intOf i).toNat)
 case atStart=>exact⟨0,aW _,rfl,ag _ _,λj h N=>by omega⟩
 case round=>
  obtain⟨k,hk,rfl,c,C⟩:=hrel;by_cases E:k<n
  ·obtain⟨b,off,cp,hv,h1,_,_,u,hc⟩:=H.o.at om;cases hv
   have t:k<l.length:=by rw[<-G.o];exact E
   obtain⟨g1,g2⟩:=zh l k t;obtain⟨a,B⟩:=Ex (l[k]);rw[<-B] at g1 g2;obtain⟨x,y⟩:=a;have L:wr.cell? (iu b (off+k*2))=some (iw x):=(c.cell (p:=iu b (off+k*2)) u).trans (hc _ _ g1);have M:wr.cell? (iu b (off+k*2+1))=some (iw y):=(c.cell (p:=iu b (off+k*2+1)) u).trans (hc _ _ g2);have A:=LH (K.o (x,y) (B ▸ bK _) wr c);have g:=LH B;clear hc g1 g2 B;cases hcb:q (x,y) with
   | false=>
    rw[hcb] at A;have f:=LH hcb;clear hcb
    go_wp2_with fail
    refine A.o.mono ?_;rintro e w1 ⟨rfl,d⟩;have m:=c.trans (d.mono c.size);clear d;go_wp2;go_roundw
    case rel=>exact⟨k+1,by omega,by go_num,m,λj h N=>by
     by_cases e:j=k
     ·subst e;rw[<-g.o];exact f.o
     ·exact C.o j h om⟩
    case measure=>simp[intOf];omega
   | true=>
    rw[hcb] at A;have f:=LH hcb;clear hcb
    go_wp2_with fail
    refine A.o.mono ?_;rintro e w1 ⟨rfl,d⟩;have m:=c.trans (d.mono c.size);clear d;go_wp2;go_ret;refine⟨mI ?_,m⟩;rcases I.o with ⟨_,J⟩|⟨z,s,rfl,h1,D⟩
    ·have:=J k t;rw[<-g.o,f.o] at this;cases this
    ·have e:z=k:=by
      rcases dG z k with h|h|h
      ·have:=C.o z s h;rw[h1] at this;cases this
      ·exact h
      ·have:=D k t h;rw[<-g.o,f.o] at this;cases this
     rw[e]
  ·go_wp2;go_ret;refine⟨mI ?_,c⟩;rcases I.o with ⟨rfl,J⟩|⟨z,s,rfl,h1,D⟩
   ·rfl
   ·have:=C.o z s (by have:=G.o;omega);rw[h1] at this;cases this
theorem CP {q:Ar->Bool}{n:Nat}(hb:Cells w S (.slice ad n cap) n 2 (lV l)) (hq:∀ a ∈ l,∀ w1,Below w.heap.size w w1->Calls prog 46 #[mm a,iq mb] w1 λe w2=>e=.returned (.bool (q a))/\Below w1.heap.size w1 w2):
  Calls prog 45 #[.slice ad n cap,.func (.func 46) #[] #[iq mb]] w λe w'=>e=.returned (.bool (l.any q))/\Below w.heap.size w w':=by
 have key:∃ r:Int,(decide (0<=r)=l.any q)/\((r=-1/\∀ j (h:j<l.length),q l[j]=false)\/(∃ (k:Nat) (h:k<l.length),r=k/\q l[k]=true/\∀ j (h:j<l.length),j<k->q l[j]=false)):=by
  cases hf:l.findIdx? q with
  | none=>
   rw[List.findIdx?_eq_none_iff] at hf;refine⟨-1,?_,.inl ⟨rfl,λj h=>by simpa using hf _ (bK h)⟩⟩;have:l.any q=false:=by rw[eo];intro x i;simpa using hf x i
   rw[this];rfl
  | some k=>rw[List.findIdx?_eq_some_iff_getElem] at hf;obtain⟨h,h1,g⟩:=hf;refine⟨k,?_,.inr ⟨k,h,rfl,h1,λj m d=>by simpa using g j d⟩⟩;have:l.any q=true:=bQ.2 ⟨_,bK h,h1⟩;rw[this];exact dN om
 obtain⟨r,hr,b⟩:=key;have f:=LH (Jb hb hq r b);rw[<-hr];replace hr:=LH hr;clear b hb hq;go_enter func45,ntmps45
 go_wp2_with (go_at_call 68;refine f.o.mono ?_;rintro e w' ⟨rfl,c⟩)
 go_ret;exact⟨rfl,c⟩
end Go.Proofs.YthmcbgidehjlbaaGreat.P

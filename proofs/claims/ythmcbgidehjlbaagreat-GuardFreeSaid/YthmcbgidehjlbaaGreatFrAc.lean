/-
 Parts of the proof. No condition beyond what each theorem names.
-/
import Derived.ChangeKeysEq
import Derived.Laws.BitsAllLaws
import Derived.Laws.Rows
import Derived.Test.YthmcbgidehjlbaaGreatRows
import Derived.Test.YthmcbgidehjlbaaGreatFrAa
import Derived.Test.YthmcbgidehjlbaaGreatFrAb
set_option maxHeartbeats 8000000
set_option maxRecDepth 100000
namespace Go.Proofs.YthmcbgidehjlbaaGreat.Fd
open _root_.Go.Proofs.Tryz
open Go Go.RowKit K
variable {a:Nat}
theorem l9 {b:Nat}(ha:a<256) (hb:b<256):a ^^^ b<256:=gL (n:=8) ha hb
def kK (a:Nat):Nat:=if a &&& 128=0 then a*2 % 256 else (a*2 % 256) ^^^ 27
theorem oi {a:Nat}:kK a<256:=by
 unfold kK;split
 ·omega
 ·exact l9 om om
theorem xT (a:Nat) (ha:a<256) (w:World):Calls prog 206 #[iy a] w λe w'=>e=.returned (iy (kK a))/\w=w':=by
 have hb:=LH (fV a 128 ha om);have b:=LH (dx (a*2 % 256) 27 om om);go_enter func206,ntmps206;go_wp2
 ·rename_i h;go_ret;refine⟨mI ?_,rfl⟩;have hb:=hb.o;have b:=b.o;simp only[eP,d9,Int.cast_ofNat_Int] at hb b;rw[hb] at h;rw[b,kK,ah (by intro c;rw[c] at h;simp at h)]
 ·rename_i h;go_ret;refine⟨mI ?_,rfl⟩;have hb:=hb.o;simp only[Int.cast_ofNat_Int] at hb;rw[hb] at h;rw[kK,ak (by simp at h;omega)];omega
def pL:Nat->Nat->Nat->Nat->Nat
 | 0,_,_,o=>o
 | n+1,a,b,o=>if b=0 then o else pL n (kK a) (b / 2) (if b % 2=0 then o else o ^^^ a)
def mul (a b:Nat):Nat:=pL 8 a b 0
theorem D9 {n o:Nat}:pL n a 0 o=o:=by cases n<;>simp[pL]
theorem Ea:∀ {n a b o:Nat},a<256->o<256->pL n a b o<256:=by
 intro n
 induction n with
 | zero=>intro a b o _ h;exact h
 | succ n ih=>
  intro a b o d c;unfold pL;split
  ·exact c
  ·refine ih oi ?_;split
   ·exact c
   ·exact l9 c d
theorem mul_lt {a b:Nat}(ha:a<256):mul a b<256:=Ea ha om
theorem sL (a b:Nat) (ha:a<256) (hb:b<256) (w:World):Calls prog 207 #[iy a,iy b] w λe w'=>e=.returned (iy (mul a b))/\w=w':=by
 go_enter func207,ntmps207;go_wp2
 go_loop [0,1,4] (λx y z=>∃ n A B O:Nat,n<=8/\A<256/\B<2 ^ n/\B<256/\O<256/\x=iy A/\y=iy B/\z=iy O/\pL n A B O=mul a b)
  (λ_ y _=>(intOf y).toNat)
 case atStart=>exact⟨8,a,b,0,by omega,ha,hb,hb,by omega,rfl,rfl,rfl,rfl⟩
 case round=>
  obtain⟨n,A,B,O,s,q,j,r,k,rfl,rfl,rfl,hm⟩:=hrel;replace hm:=LH hm;have h1:bits .and .u8 (B:Int) 1=((B % 2:Nat):Int):=by have h:=fV B 1 r om;rw[nat_mask1] at h;exact h
  have t:=dx O A k q;have p:=l9 k q
  have step:B≠0->∃ m,n=m+1/\B / 2<2 ^ m/\pL m (kK A) (B / 2) (if B % 2=0 then O else O ^^^ A)=mul a b:=by
   intro c;cases n with
   | zero=>omega
   | succ m=>refine⟨m,rfl,by rw[dK] at j;omega,?_⟩;have h:=hm.o;rw[pL,ah c] at h;exact h
  replace step:=LH step
  go_wp2_with (go_at_call 206;(with_reducible refine (xT _ (by assumption) _).mono ?_);rintro e w' ⟨rfl,rfl⟩)
  ·rename_i f i _;have c:B≠0:=by rintro rfl;simp at f
   have d:B % 2≠0:=by simp at i;omega
   obtain⟨m,rfl,l,g⟩:=step.o c;rw[ah d] at g
   go_round
   case rel=>exact⟨m,kK A,B / 2,O ^^^ A,by omega,oi,l,by omega,p,rfl,by simp,rfl,g⟩
   case measure=>simp[intOf];omega
  ·rename_i f i _;have c:B≠0:=by rintro rfl;simp at f
   have d:B % 2=0:=by simp at i;omega
   obtain⟨m,rfl,l,g⟩:=step.o c;rw[ak d] at g
   go_round
   case rel=>exact⟨m,kK A,B / 2,O,by omega,oi,l,by omega,k,rfl,by simp,rfl,g⟩
   case measure=>simp[intOf];omega
  ·have f:((B:Int) != 0)=false:=by assumption
   have c:B=0:=by simp at f;omega
   subst c;go_ret;refine⟨mI ?_,rfl⟩;rw[<-hm.o,D9]
def pj:Nat->Nat->Nat->Nat->Nat
 | 0,_,_,o=>o
 | n+1,a,k,o=>if k=0 then o else pj n (mul a a) (k / 2) (if k % 2=0 then o else mul o a)
def qS (k:Int):Nat:=((k.tmod 255+255).tmod 255).toNat
def pow (a:Nat) (k:Int):Nat:=if a=0/\k≠0 then 0 else pj 8 a (qS k) 1
theorem zL {n o:Nat}:pj n a 0 o=o:=by cases n<;>simp[pj]
theorem Eb:∀ {n a k o:Nat},a<256->o<256->pj n a k o<256:=by
 intro n
 induction n with
 | zero=>intro a k o _ h;exact h
 | succ n ih=>
  intro a k o c b;unfold pj;split
  ·exact b
  ·refine ih (mul_lt c) ?_;split
   ·exact b
   ·exact mul_lt b
theorem zM {k:Int}(ha:a<256):pow a k<256:=by
 unfold pow;split
 ·omega
 ·exact Eb ha om
theorem zN {k:Int}:qS k<255:=by unfold qS;have:=gM (k.tmod 255+255) (by omega:(0:Int)<255);omega
theorem Ec {k:Int}:(k.tmod 255+255).tmod 255=(qS k:Int):=by unfold qS;have h1:=gN k (by omega:(0:Int)<255);have:=Int.tmod_nonneg (255:Int) (a:=k.tmod 255+255) om;omega
theorem Ed (a:Nat) (k:Int) (hk0:0<=k) (hk:k<255) (ha:a<256) (hz:a≠0) (w:World):Calls prog 209 #[iy a,iw k] w λe w'=>e=.returned (iy (pow a k))/\w=w':=by
 have hp:pow a k=pj 8 a (qS k) 1:=by rw[pow,ah om]
 have r:=@zN k;have D:((qS k:Nat):Int)=k:=by rw[<-Ec,bZ hk0,bZ om];omega
 obtain⟨q,rfl⟩:∃ q:Nat,k=q:=⟨k.toNat,by omega⟩;have g:qS (q:Int)=q:=om;rw[g] at hp;clear D g r;replace hp:=LH hp;go_enter func209,ntmps209;go_wp2;have s:(q:Int) % 255=q:=om;have t:((q:Int)+255) % 255=q:=om;simp only[s,t];clear s t
 go_loop [0,1,5] (λx y z=>∃ n A B O:Nat,n<=8/\A<256/\B<2 ^ n/\B<256/\O<256/\x=iy A/\y=iw B/\z=iy O/\pj n A B O=pow a (q:Int))
  (λ_ y _=>(intOf y).toNat)
 case atStart=>exact⟨8,a,q,1,by omega,ha,by omega,by omega,by omega,by simp[*],by simp[*];try omega,rfl,hp.o.symm⟩
 case round=>
  obtain⟨n,A,B,O,F,C,j,E,v,rfl,rfl,rfl,hm⟩:=hrel;replace hm:=LH hm
  have h1:bits .and .i64 (B:Int) 1=((B % 2:Nat):Int):=by
   have h:=bits_mask .i64 63 de (λn u h1=>by rw[bO];omega) 1 de (B:Int) om om
   simpa using h
  have p:=@mul_lt O A v;have d:=@mul_lt A A C
  have step:B≠0->∃ m,n=m+1/\B / 2<2 ^ m/\pj m (mul A A) (B / 2) (if B % 2=0 then O else mul O A)=pow a (q:Int):=by
   intro b;cases n with
   | zero=>omega
   | succ m=>refine⟨m,rfl,by rw[dK] at j;omega,?_⟩;have h:=hm.o;rw[pj,ah b] at h;exact h
  replace step:=LH step
  go_wp2_with (go_at_call 207;(with_reducible refine (sL _ _ (by assumption) (by assumption) _).mono ?_);rintro e w' ⟨rfl,rfl⟩)
  ·have u:0<(B:Int):=om;have i:((B:Int) % 2 != 0)=true:=by assumption
   have b:B≠0:=om;have c:B % 2≠0:=by simp at i;omega
   obtain⟨m,rfl,l,f⟩:=step.o b;rw[ah c] at f
   go_round
   case rel=>exact⟨m,mul A A,B / 2,mul O A,by omega,d,l,by omega,p,rfl,by simp,rfl,f⟩
   case measure=>simp[intOf];omega
  ·have u:0<(B:Int):=om;have i:((B:Int) % 2 != 0)=false:=by assumption
   have b:B≠0:=om;have c:B % 2=0:=by simp at i;omega
   obtain⟨m,rfl,l,f⟩:=step.o b;rw[ak c] at f
   go_round
   case rel=>exact⟨m,mul A A,B / 2,O,by omega,d,l,by omega,v,rfl,by simp,rfl,f⟩
   case measure=>simp[intOf];omega
  ·have b:B=0:=om;subst b;go_ret;refine⟨mI ?_,rfl⟩;rw[<-hm.o,zL]
theorem Ee (a:Nat) (k:Int) (hk:k=-1) (ha:a<256) (hz:a≠0) (w:World):Calls prog 209 #[iy a,iw k] w λe w'=>e=.returned (iy (pow a k))/\w=w':=by
 have hp:pow a k=pj 8 a (qS k) 1:=by rw[pow,ah om]
 have q:=@zN k;obtain rfl:=hk;have g:qS (-1)=254:=de;rw[g] at hp;clear g q;replace hp:=LH hp;go_enter func209,ntmps209;go_wp2
 go_loop [0,1,5] (λx y z=>∃ n A B O:Nat,n<=8/\A<256/\B<2 ^ n/\B<256/\O<256/\x=iy A/\y=iw B/\z=iy O/\pj n A B O=pow a (-1))
  (λ_ y _=>(intOf y).toNat)
 case atStart=>exact⟨8,a,254,1,by omega,ha,by omega,by omega,by omega,rfl,rfl,rfl,hp.o.symm⟩
 case round=>
  obtain⟨n,A,B,O,v,t,j,u,s,rfl,rfl,rfl,hm⟩:=hrel;replace hm:=LH hm
  have h1:bits .and .i64 (B:Int) 1=((B % 2:Nat):Int):=by
   have h:=bits_mask .i64 63 de (λn r h1=>by rw[bO];omega) 1 de (B:Int) om om
   simpa using h
  have p:=@mul_lt O A s;have d:=@mul_lt A A t
  have step:B≠0->∃ m,n=m+1/\B / 2<2 ^ m/\pj m (mul A A) (B / 2) (if B % 2=0 then O else mul O A)=pow a (-1):=by
   intro b;cases n with
   | zero=>omega
   | succ m=>refine⟨m,rfl,by rw[dK] at j;omega,?_⟩;have h:=hm.o;rw[pj,ah b] at h;exact h
  replace step:=LH step
  go_wp2_with (go_at_call 207;(with_reducible refine (sL _ _ (by assumption) (by assumption) _).mono ?_);rintro e w' ⟨rfl,rfl⟩)
  ·have r:0<(B:Int):=om;have i:((B:Int) % 2 != 0)=true:=by assumption
   have b:B≠0:=om;have c:B % 2≠0:=by simp at i;omega
   obtain⟨m,rfl,l,f⟩:=step.o b;rw[ah c] at f
   go_round
   case rel=>exact⟨m,mul A A,B / 2,mul O A,by omega,d,l,by omega,p,rfl,by simp,rfl,f⟩
   case measure=>simp[intOf];omega
  ·have r:0<(B:Int):=om;have i:((B:Int) % 2 != 0)=false:=by assumption
   have b:B≠0:=om;have c:B % 2=0:=by simp at i;omega
   obtain⟨m,rfl,l,f⟩:=step.o b;rw[ak c] at f
   go_round
   case rel=>exact⟨m,mul A A,B / 2,O,by omega,d,l,by omega,s,rfl,by simp,rfl,f⟩
   case measure=>simp[intOf];omega
  ·have b:B=0:=om;subst b;go_ret;refine⟨mI ?_,rfl⟩;rw[<-hm.o,zL]
theorem Ef (k:Int) (hk:k≠0) (w:World):Calls prog 209 #[iy 0,iw k] w λe w'=>e=.returned (iy (pow 0 k))/\w=w':=by go_enter func209,ntmps209;go_wp2;go_ret;exact⟨mI (by simp[pow,hk]),rfl⟩
def inv (a:Nat):Nat:=pow a (-1)
theorem Eg (ha:a<256):inv a<256:=zM ha
theorem Eh (a:Nat) (ha:a<256) (w:World):Calls prog 213 #[iy a] w λe w'=>e=.returned (iy (inv a))/\w=w':=by
 by_cases b:a=0
 ·subst b;go_enter func213,ntmps213
  go_wp2_with (go_at_call 209;(with_reducible refine (Ef _ om _).mono ?_);rintro e w' ⟨rfl,rfl⟩)
  go_ret;exact⟨rfl,rfl⟩
 ·go_enter func213,ntmps213
  go_wp2_with (go_at_call 209;(with_reducible refine (Ee _ _ rfl ha b _).mono ?_);rintro e w' ⟨rfl,rfl⟩)
  go_ret;exact⟨rfl,rfl⟩
def sum (l:iz):Nat:=l.foldl (λo c=>o ^^^ c.toNat) 0
theorem Ei (l:iz):∀ o,o<256->l.foldl (λo c=>o ^^^ c.toNat) o<256:=by
 induction l with
 | nil=>intro o h;exact h
 | cons c l ih=>intro o h;exact ih _ (l9 h c.toNat_lt)
theorem Ej {l:iz}:sum l<256:=Ei l 0 om
variable {w:World}{sz:Nat}{xs:List Value}
theorem nu:(prog.info? 5).map (λi=>(i.zero,i.size,i.bytes))=some (some (iy 0),1,1):=kr
def qT (x k:Nat):Nat:=(x*2 ^ k % 256) ||| (x / 2 ^ (8 - k))
theorem Ek {x k:Nat}(hx:x<256):qT x k<256:=fp (n:=8) om (cQ (ey _ _) hx)
theorem El (x k:Nat) (hx:x<256) (hk:k<8) (w:World):Calls prog 215 #[iy x,iw k] w λe w'=>e=.returned (iy (qT x k))/\w=w':=by
 have h1:bits .and .u64 (k:Int) 7=(k:Int):=by have h:=fX k 7 om om;rw[nat_mask3,Nat.mod_eq_of_lt hk] at h;exact h
 have a:=u8_or_nat (x*2 ^ k % 256) (x / 2 ^ (8 - k)) om (cQ (ey _ _) hx);replace a:=LH a;go_enter func215,ntmps215;go_wp2;go_ret;refine⟨mI ?_,rfl⟩;have h:=a.o;simp only[eP,d9,Int.natCast_pow,fY,Int.cast_ofNat_Int] at h;exact h
theorem Em {S:Nat->Prop}{v:Value}{l:iz}(h:Bytes w S v l):Calls prog 216 #[v] w λe w'=>e=.returned (iy (sum l))/\w=w':=by
 obtain⟨m,hm⟩:=Ex l.length;have hc:Cells w S v m 1 (aQ l):=hm ▸ h;obtain⟨a,cap,rfl,h1,x⟩:=hc.shape;unfold maxLen at x;have r:=LH hm;have t:=LH hc;clear h hc hm;go_enter func216,ntmps216;go_wp2
 go_loop [2,7] (λo i=>∃ k:Nat,k<=m/\i=iw k/\∃ O:Nat,O<256/\o=iy O/\O=(l.take k).foldl (λo c=>o ^^^ c.toNat) 0)
  (λ_ i=>m - (intOf i).toNat)
 case atStart=>exact⟨0,aW _,rfl,0,by omega,rfl,rfl⟩
 case round=>
  obtain⟨k,hk,rfl,O,s,rfl,n⟩:=hrel;replace n:=LH n;by_cases p:k<m
  ·obtain⟨b,off,cp,hv,_,_,_,hb,g⟩:=Cells.at t.o om;simp only[IJ] at hv;obtain⟨rfl,_,rfl⟩:=hv;have j:k<l.length:=r.o ▸ p;have f:=g k _ (pI l k j);have u:=LH g;clear g;obtain⟨c,d⟩:=Ex (l[k]);rw[<-d] at f;have y:=dx O c.toNat s c.toNat_lt;have q:=l9 s c.toNat_lt;replace d:=LH d;go_wp2
   go_round
   case rel=>refine⟨k+1,by omega,by go_num,O ^^^ c.toNat,q,rfl,?_⟩;rw[n.o,d.o,bP j,dL];rfl
   case measure=>simp[intOf];omega
  ·go_wp2;go_ret;refine⟨mI ?_,rfl⟩;rw[n.o,bh (by have:=r.o;omega)];rfl
def byte (n:Nat):UInt8:=UInt8.ofNat n
theorem lM {n:Nat}(h:n<256):(byte n).toNat=n:=by simp[byte,UInt8.toNat_ofNat'];omega
def se (a k:Nat):iz:=99::(List.range k).map λj=>byte (qT a j)
theorem En {k:Nat}:(se a k).length=k+1:=by simp[se]
theorem Eo {k:Nat}:se a (k+1)=se a k++[byte (qT a k)]:=by simp[se,dF]
def qb (a:Nat):Nat:=sum (se a 5)
theorem xU:qb a<256:=Ej
theorem kt {base:Nat}{e:TypeId}{v:Value}{n:Nat}(h:w.ownsRow base e sz v n xs) (g:Nat) (hg:v.ownBlock=some g):g<w.heap.size:=by
 rcases h.2 with ⟨rfl,_⟩|⟨b,cap,cur,rfl,_,a,_⟩
 ·simp[Value.ownBlock] at hg
 ·simp[Value.ownBlock] at hg;subst hg;exact dC a
theorem kJ {base:Nat}{e:TypeId}{v:Value}{n:Nat}(h:w.ownsRow base e sz v n xs) (g:Nat) (hg:v.ownBlock=some g):base<=g:=by
 rcases h.2 with ⟨rfl,_⟩|⟨a,cap,cur,rfl,hb,_,_⟩
 ·simp[Value.ownBlock] at hg
 ·simp[Value.ownBlock] at hg;omega
theorem Ep (w:World) (c:Value):Cells (w.alloc (.cells #[c] 5)) (λ_=>True) (ir w.heap.size 1 1) 1 1 [c]:=by refine⟨rfl,some (iu w.heap.size 0),1,rfl,ae _,by unfold maxLen;omega,λh=>(by cases h),.inr ⟨_,0,rfl,trivial,by simp,λj u hu=>?_⟩⟩;rw[cell_of (aj w _),<-hu,aw];simp
theorem xV (a:Nat) (ha:a<256) (w:World):Calls prog 212 #[iy a] w λe w'=>e=.returned (iy (qb a))/\Below w.heap.size w w':=by
 have x:(iy 0).cells.size=1:=rfl;go_enter func212,ntmps212;go_wp2
 go_loopw [3,9] (λo i wr=>∃ k:Nat,k<=5/\i=iw k/\Below w.heap.size w wr/\w.heap.size+1<wr.heap.size/\(∀ g,o.ownBlock=some g->g≠w.heap.size+1)/\wr.heap[w.heap.size+1]?=some (.cells #[iw 0,iw 1,iw 2,iw 3,iw 4] 3 (0,0))/\Hd (wr.ownsRow w.heap.size 5 1 o (k+1) (aQ (se a k))))
  (λ_ i _=>5 - (intOf i).toNat)
 case atStart=>
  refine⟨0,by omega,rfl,((ag _ _).alloc (ae _) _).alloc sm _,by simp,by simp[Value.ownBlock],?_,?_⟩
  ·have h:=aj (w.alloc (.cells #[iy 99] 5)) (.cells #[iw 0,iw 1,iw 2,iw 3,iw 4] 3);simp only[aN] at h;exact h
  ·refine⟨rfl,.inr ⟨w.heap.size,1,#[iy 99],rfl,ae _,?_,ae _,by unfold maxLen;omega,rfl,rfl⟩⟩;exact (aB _ _ _ sm).trans (aj w _)
 case round=>
  obtain⟨k,hk,rfl,c,v,d,b,j⟩:=hrel;by_cases u:k<5
  ·have t:wr.cell? (iu (w.heap.size+1) k)=some (iw k):=by
    rw[cell_of b]
    match k,u with
    | 0,_=>rfl
    | 1,_=>rfl
    | 2,_=>rfl
    | 3,_=>rfl
    | 4,_=>rfl
   have n:(wr.alloc (.cells #[iy (qT a k)] 5)).ownsRow _ _ _ _ _ _:=dE j.o (λg hg=>aB _ _ _ (kt j.o g hg));have m:=Ep wr (iy (qT a k));have r:=LH n;have q:=LH m;have p:=LH (λg=>kJ j.o g);have f:=LH d;have l:=LH b;clear n m j d b
   go_wp2_with (first
    | (go_at_call 215;(with_reducible refine (El _ _ ha om _).mono ?_);rintro e w' ⟨rfl,rfl⟩)
    | (at_builtin;refine K.append ?_ (.tmp 13) (.tmp 17) 42 ?_ w.heap.size 5 (iy 0) 1 1 underlying42 nu x om _ (k+1) _ ?_ r.o (λ_=>True) _ 1 [iy (qT a k)] ?_ q.o (by simp[Value.oneCell']) mx om ?_ ?_))
   ·rfl
   ·rfl
   ·rfl
   ·rfl
   ·have:=c.size;simp;omega
   intro v' w2 B y E z;have D:=LH B;clear B;go_wp2;go_roundw
   case rel=>
    have s:Below w.heap.size w (wr.alloc (.cells #[iy (qT a k)] 5)):=c.alloc c.size _;refine⟨k+1,by omega,by go_num,((aA.dD s No).grown y (λg hg A=>absurd (p.o g hg) om)).no,?_,?_,?_,?_⟩
    ·have:=y.size;simp at this;omega
    ·intro g hg;rcases z with z|⟨g',hg',A⟩
     ·exact f.o g (by rw[<-z];exact hg)
     ·rw[hg'] at hg;simp at hg A;omega
    ·rw[y.block _ (by simp;omega) (λh=>f.o _ h.symm rfl),aB _ _ _ v];exact l.o
    ·show Hd _;rw[Eo,nI];have e:aQ [byte (qT a k)]=[iy (qT a k)]:=by simp[aQ,u8,lM (Ek ha)]
     rw[e];exact D
   case measure=>simp[intOf];omega
  ·obtain rfl:k=5:=om
   have hb:Bytes wr (λ_=>True) u3 (se a 5):=by have h:=Cells.own j.o;exact Cells.mono (by rw[<-En (a:=a) (k:=5)] at h;exact h) (λ_ _ _=>trivial)
   have C:=LH hb;clear hb b d
   go_wp2_with (go_at_call 216;(with_reducible refine (Em C.o).mono ?_);rintro e w' ⟨rfl,rfl⟩)
   go_ret;exact⟨rfl,c⟩
def sub (a:Nat):Nat:=qb (inv a)
theorem sub_lt {a:Nat}:sub a<256:=xU
theorem vW (a:Nat) (ha:a<256) (w:World):Calls prog 208 #[iy a] w λe w'=>e=.returned (iy (sub a))/\Below w.heap.size w w':=by
 go_enter func208,ntmps208
 go_wp2_with (first
  | (go_at_call 213;(with_reducible refine (Eh _ ha _).mono ?_);rintro e w' ⟨rfl,rfl⟩)
  | (go_at_call 212;(with_reducible refine (xV _ (Eg ha) _).mono ?_);rintro e w' ⟨rfl,hb⟩))
 go_ret;exact⟨rfl,hb⟩
def round (n:Nat):Nat:=if n<1 then 0 else pow 2 (n - 1)
theorem zO {n:Nat}:round n<256:=by
 unfold round;split
 ·omega
 ·exact zM om
theorem xW (n:Nat) (hn:n<200) (w:World):Calls prog 200 #[iw n] w λe w'=>e=.returned (iy (round n))/\w=w':=by
 by_cases h:n<1
 ·go_enter func200,ntmps200;go_wp2;go_ret;exact⟨mI (by simp[round,h]),rfl⟩
 ·have hr:round n=pow 2 ((n:Int) - 1):=by rw[round,ah h]
  replace hr:=LH hr;have hp:Calls prog 209 #[iy 2,iw ((n:Int) - 1)] w _:=Ed 2 ((n:Int) - 1) om om om om w;replace hp:=LH hp;go_enter func200,ntmps200
  go_wp2_with (go_at_call 209;(with_reducible refine hp.o.mono ?_);rintro e w' ⟨rfl,rfl⟩)
  go_ret;exact⟨mI (by rw[hr.o]),rfl⟩
def qw (a b c d:Nat):Nat:=a*16777216+b*65536+c*256+d
def rI (w:Nat):Nat:=qw (sub (w / 16777216 % 256)) (sub (w / 65536 % 256)) (sub (w / 256 % 256)) (sub (w % 256))
theorem zP {b c d:Nat}(ha:a<256) (hb:b<256) (hc:c<256) (hd:d<256):qw a b c d<4294967296:=by unfold qw;omega
theorem xX {w:Nat}:rI w<4294967296:=zP sub_lt sub_lt sub_lt sub_lt
def rJ (x:Nat):Nat->Nat
 | 0=>0
 | k+1=>rJ x k*256 % 4294967296+sub (x / 2 ^ (24 - 8*k) % 256)
theorem Er {x:Nat}:rJ x 4=rI x:=by have a:=@sub_lt (x / 16777216 % 256);have h1:=@sub_lt (x / 65536 % 256);have b:=@sub_lt (x / 256 % 256);simp only[rJ,rI,qw,Nat.mul_zero,fZ,Nat.reduceMul,Nat.reduceSub,Nat.reducePow,Nat.div_one];omega
theorem vX (O s:Nat) (hs:s<256):bits .or .u32 ((O:Int)*256 % 4294967296) (s:Int)=((O*256 % 4294967296+s:Nat):Int):=by have h:=di (O*256 % 4294967296) s om om;rw[dy 8 _ _ om om] at h;simp only[eP,d9,Int.cast_ofNat_Int] at h;exact h
theorem uT {P:Program}{f:Nat}{x y:Int}{Q:Ending->World->Prop}(h:Calls P f #[iy x] w Q) (e:y=x):Calls P f #[iy y] w Q:=e ▸ h
theorem xY (x:Nat) (hx:x<4294967296) (w:World):Calls prog 198 #[.int .u32 x] w λe w'=>e=.returned (.int .u32 (rI x))/\Below w.heap.size w w':=by
 go_enter func198,ntmps198;go_wp2
 go_loopw [2,3] (λo i wr=>Below w.heap.size w wr/\∃ O:Nat,O<4294967296/\o=.int .u32 O/\(i=iw 24/\O=rJ x 0\/i=iw 16/\O=rJ x 1\/i=iw 8/\O=rJ x 2\/i=iw 0/\O=rJ x 3\/i=iw (-8)/\O=rJ x 4))
  (λ_ i _=>(intOf i+8).toNat)
 case atStart=>exact⟨ag _ _,0,by omega,rfl,.inl ⟨rfl,rfl⟩⟩
 case round=>
  obtain⟨a,O,d,rfl,⟨rfl,b⟩|⟨rfl,b⟩|⟨rfl,b⟩|⟨rfl,b⟩|⟨rfl,b⟩⟩:=hrel
  ·replace b:=LH b;have hs:=@sub_lt (x / 16777216 % 256);have c:=LH (vX O (sub (x / 16777216 % 256)) hs)
   go_wp2_with (go_at_call 208;(with_reducible refine (uT (vW (x / 16777216 % 256) om _) om).mono ?_);rintro e w' ⟨rfl,hb⟩)
   go_roundw
   case rel=>refine⟨a.trans (hb.mono a.size),O*256 % 4294967296+sub (x / 16777216 % 256),by omega,by rw[c.o],.inr (.inl ⟨rfl,by rw[b.o];rfl⟩)⟩
   case measure=>simp[intOf]
  ·replace b:=LH b;have hs:=@sub_lt (x / 65536 % 256);have c:=LH (vX O (sub (x / 65536 % 256)) hs)
   go_wp2_with (go_at_call 208;(with_reducible refine (uT (vW (x / 65536 % 256) om _) om).mono ?_);rintro e w' ⟨rfl,hb⟩)
   go_roundw
   case rel=>refine⟨a.trans (hb.mono a.size),O*256 % 4294967296+sub (x / 65536 % 256),by omega,by rw[c.o],.inr (.inr (.inl ⟨rfl,by rw[b.o];rfl⟩))⟩
   case measure=>simp[intOf]
  ·replace b:=LH b;have hs:=@sub_lt (x / 256 % 256);have c:=LH (vX O (sub (x / 256 % 256)) hs)
   go_wp2_with (go_at_call 208;(with_reducible refine (uT (vW (x / 256 % 256) om _) om).mono ?_);rintro e w' ⟨rfl,hb⟩)
   go_roundw
   case rel=>refine⟨a.trans (hb.mono a.size),O*256 % 4294967296+sub (x / 256 % 256),by omega,by rw[c.o],.inr (.inr (.inr (.inl ⟨rfl,by rw[b.o];rfl⟩)))⟩
   case measure=>simp[intOf]
  ·replace b:=LH b;have hs:=@sub_lt (x % 256);have c:=LH (vX O (sub (x % 256)) hs)
   go_wp2_with (go_at_call 208;(with_reducible refine (uT (vW (x % 256) om _) om).mono ?_);rintro e w' ⟨rfl,hb⟩)
   go_roundw
   case rel=>refine⟨a.trans (hb.mono a.size),O*256 % 4294967296+sub (x % 256),by omega,by rw[c.o],.inr (.inr (.inr (.inr ⟨rfl,by rw[b.o];simp[rJ]⟩)))⟩
   case measure=>simp[intOf]
  ·replace b:=LH b;go_wp2;go_ret;exact⟨mI (by rw[b.o,Er]),a⟩
variable {t:TypeId}{cs:Array Value}{b:Nat}{l:iz}
def sN:Nat->UInt8
 | 0=>1
 | k+1=>byte ((sN k).toNat ^^^ kK (sN k).toNat)
def sO:Nat->iz
 | 0=>List.replicate 255 0
 | k+1=>(sO k).set k (sN k)
theorem zY {k:Nat}:(sO k).length=255:=by
 induction k with
 | zero=>exact aK
 | succ k ih=>exact bg.trans ih
def pw (i:Nat):UInt8:=(sO 255).getD i 0
def qB:Nat->iz
 | 0=>(List.replicate 256 0).set 0 (byte (qb 0))
 | k+1=>(qB k).set (pw k).toNat (byte (qb (pw ((255 - k) % 255)).toNat))
theorem tO {k:Nat}:(qB k).length=256:=by
 induction k with
 | zero=>exact bg.trans aK
 | succ k ih=>exact bg.trans ih
def sb (i:Nat):UInt8:=(qB 255).getD i 0
def qV:Nat->iz
 | 0=>List.replicate 256 0
 | k+1=>(qV k).set (sb k).toNat (byte k)
theorem tP {k:Nat}:(qV k).length=256:=by
 induction k with
 | zero=>exact aK
 | succ k ih=>exact bg.trans ih
theorem EL (l:iz) (i:Nat) (b:UInt8):aQ (l.set i b)=(aQ l).set i (u8 b):=by simp[aQ]
theorem tQ (l:iz) (j:Nat) (h:j<l.length):(aQ l).toArray[j]?=some (iy (l.getD j 0).toNat):=by simp[aQ,u8,List.getD,h]
theorem zZ (l:iz):(aQ l).toArray.all (·.oneCell')=true:=by rw[Array.all_eq_true_iff_forall_mem];intro x a;exact nJ l x (by simpa using a)
theorem tR {P:Program}{e:TypeId}{n:Nat}{k:IntKind}{j:Nat}{v:Value}(h:P.underlying t=some (.array n e)) (hi:(P.info? e).isSome=true) (hp:P.plainKey e=true) (hc:P.cellsOf e=1) (hj:j<n) (hv:cs[j]?=some v) (w:World):
  (Instr.index t (.agg cs) (.int k j)).run P w=.ok v w:=by
 obtain⟨inf,a⟩:=Option.isSome_iff_exists.1 hi;have d:=gg (P:=P) (w:=w) hp hv;have c:=run_sizeOf (P:=P) (w:=w) a;rw[hc] at c;have b:(j:Int)<n:=om;simp only[Instr.index,bb h,asIntOf,aM,Sem.run_pure,Result.andThen,Int.toNat_natCast,c,aY,d,Int.natCast_nonneg,b,and_self,ea]
def ke (w:World) (b:Nat) (t:TypeId) (l:iz):Prop:=w.heap[b]?=some (.cells (aQ l).toArray t (0,0))
theorem ke.cell (h:ke w b t l) (j:Nat) (hj:j<l.length):w.cell? (iu b j)=some (iy (l.getD j 0).toNat):=by rw[cell_of h];simp[aQ,u8,hj,List.getD]
theorem ke.frozen (h:ke w b t l) (j:Nat):w.frozen? (iu b j)=false:=kY h j
theorem ke.set (h:ke w b t l) (j:Nat) (c:UInt8):ke (w.setCell (iu b j) (iy c.toNat)) b t (l.set j c):=by unfold ke;rw[lz h,EL];simp[u8]
theorem ke.dB {w':World}(h:ke w b t l) (e:w'.heap[b]?=w.heap[b]?):ke w' b t l:=e.trans h
theorem ke.of (e:cs=(aQ l).toArray) (h:w.heap[b]?=some (.cells cs t (0,0))):ke w b t l:=by subst e;exact h
theorem yh {g:Nat}(h:w.heap[g]?=some (.cells cs t (0,0))):w.setRow g cs=w:=by
 have e:(w.setRow g cs).heap=w.heap:=by
  apply ga;intro i;by_cases hi:i=g
  ·subst hi;rw[aJ w _ cs cs t (0,0) h,h]
  ·rw[aG _ _ _ _ hi]
 have a:w.setRow g cs={ w with heap:=(w.setRow g cs).heap }:=rfl;rw[a,e]
theorem mY {P:Program}{n m:Nat}{e:TypeId}(h:ke w n t l) (hu:P.underlying t=some (.array m e)) (hi:(P.info? t).map (·.size)=some l.length):
  (Instr.loadAt t (iq n)).run P w=.ok (.agg (aQ l).toArray) w:=by
 simp only[Instr.loadAt,Instr.sureAddr,aM,Sem.run_pure,Result.andThen];exact cR w n t t _ (0,0) _ h hu rfl (by rw[hi];simp[km])
theorem sj {P:Program}{n:Nat}(h:ke w n t l) (hi:(P.info? t).map (·.size)=some l.length):
  (Instr.storeAt t (iq n) (.agg (aQ l).toArray)).run P w=.ok () w:=by
 simp only[Instr.storeAt,Instr.sureAddr,aM,Sem.run_pure,Result.andThen];rw[gi w n t t _ _ h (by rw[hi];simp[km]) rfl (zZ l),yh h]
theorem Aa {P:Program}{fn:Func}{p q:Tmp}{ty ty':TypeId}(h:fn.results=#[.cell p ty,.cell q ty']) (tmps:Array Value) (w:World){a b:Addr}{u v:Value}
  (hp:tmps.getD p undef=.pointer (some a)) (hq:tmps.getD q undef=.pointer (some b)) (h0:(loadVar ty a).run P w=.ok u w) (h1:(loadVar ty' b).run P w=.ok v w):
  (results fn tmps).run P w=.ok (.tuple #[u,v]) w:=by
 have c:tmps[p]?.getD undef=.pointer (some a):=by simpa using hp
 have d:tmps[q]?.getD undef=.pointer (some b):=by simpa using hq
 simp[results,h,c,d,asAddr,h0,h1]
theorem Ab:Tryz.zeroCells295=(aQ (List.replicate 256 0)).toArray:=kr
theorem EM:Tryz.zeroCells338=(aQ (List.replicate 255 0)).toArray:=kr
theorem EN (w:World):Calls prog 205 #[] w λe w'=>e=.returned (.tuple #[.agg (aQ (qB 255)).toArray,.agg (aQ (qV 256)).toArray])/\Below w.heap.size w w':=by
 obtain⟨n,z⟩:=Ex w.heap.size;go_enter func205,ntmps205;go_wp2;rw[<-z];replace z:=LH z
 go_loopw [3,9] (λx i wr=>∃ k:Nat,k<=255/\i=iw k/\x=iy (sN k).toNat/\Below n w wr/\n+2<wr.heap.size/\Hd (ke wr n 295 (List.replicate 256 0))/\Hd (ke wr (n+1) 295 (List.replicate 256 0))/\Hd (ke wr (n+1+1) 338 (sO k)))
  (λ_ i _=>255 - (intOf i).toNat)
 case atStart=>
  refine⟨0,by omega,rfl,rfl,?_,?_,?_,?_,?_⟩
  ·exact (((ag _ _).alloc (cJ z.o) _).alloc (by simp[z.o]) _).alloc (by simp[z.o];omega) _
  ·simp[z.o]
  ·rw[z.o];exact ke.of Ab <| (aB _ _ _ (by simp;omega)).trans ((aB _ _ _ sm).trans (aj w _))
  ·have h:=aj (w.alloc (.cells Tryz.zeroCells295 295)) (.cells Tryz.zeroCells295 295);simp only[aN] at h;rw[z.o];exact ke.of Ab <| (aB _ _ _ sm).trans h
  ·have h:=aj ((w.alloc (.cells Tryz.zeroCells295 295)).alloc (.cells Tryz.zeroCells295 295)) (.cells Tryz.zeroCells338 338);simp only[aN] at h;rw[z.o];exact ke.of EM h
 case round=>
  obtain⟨k,hk,rfl,rfl,f,m,t,H1,A⟩:=hrel;by_cases r:k<255
  ·have hc:=A.o.cell k (by rw[zY];exact r);have hf:=A.o.frozen k;obtain⟨X,Q⟩:=Ex (sN k);rw[<-Q];have Y:=X.toNat_lt;have hx:=dx X.toNat (kK X.toNat) Y oi;have an:=l9 Y (@oi X.toNat);replace Q:=LH Q
   go_wp2_with (go_at_call 206;(with_reducible refine (xT _ Y _).mono ?_);rintro e w' ⟨rfl,rfl⟩)
   go_roundw
   case rel=>
    refine⟨k+1,by omega,by go_num,?_,f.setCell (by show n<=n+1+1;omega) _,by simp;omega,?_,?_,?_⟩
    ·rw[sN,<-Q.o,lM an]
    ·exact t.o.dB (kD _ _ _ (by simp;omega))
    ·exact H1.o.dB (kD _ _ _ sm)
    ·show ke _ _ _ _;rw[sO,<-Q.o];exact A.o.set k X
   case measure=>simp[intOf];omega
  ·have N:k=255:=om;rw[N] at A;replace N:=LH N;obtain⟨X,Q⟩:=Ex (sN k);rw[<-Q];clear Q;obtain⟨L,hL⟩:=Ex (sO 255);rw[<-hL] at A;have G:L.length=255:=hL ▸ zY;replace hL:=LH hL;replace G:=LH G
   go_wp2_with (go_at_call 212;fail)
   refine (uT (xV 0 om _) rfl).mono ?_;rintro e w1 ⟨rfl,hb⟩;have f:=LH f;have O:=LH (t.o.dB (hb.block n om));have G1:=LH (H1.o.dB (hb.block (n+1) om));have G2:=LH (A.o.dB (hb.block (n+1+1) om));have K:=LH (f.o.trans (hb.mono (by have:=f.o.size;rw[z.o];exact this)));have y:=LH (aH m hb.size);clear t H1 A f hb m;have T:=O.o.frozen 0;have R:=O.o.cell 0 de;have I:=O.o.set 0 (byte (qb 0));rw[lM xU] at I;have F0:=LH I;clear I;have F1:=LH (G1.o.dB (kD w1 (iu n 0) (iy (qb 0)) (k:=n+1) sm));have F2:=LH (G2.o.dB (kD w1 (iu n 0) (iy (qb 0)) (k:=n+1+1) (by simp;omega)));have fb:=LH (K.o.setCell (p:=iu n 0) (ae n) (iy (qb 0)))
   go_wp2_with (refine eR rfl 338 _ rfl (n+1+1) rfl 338 _ (0,0) _ F2.o underlying338 rfl (by simp only[aT,km,G.o];kernel_rfl) ?_)
   generalize decide ((k:Int)<255)=dd;have s:=LH (show n+2<(w1.setCell (iu n 0) (iy (qb 0))).heap.size by simpa using y.o);generalize w1.setCell (iu n 0) (iy (qb 0))=w2 at*
   go_loopw [23] (λi wr=>∃ j:Nat,j<=255/\i=iw j/\Below n w wr/\n+2<wr.heap.size/\Hd (ke wr n 295 (qB j))/\Hd (ke wr (n+1) 295 (List.replicate 256 0))/\Hd (ke wr (n+1+1) 338 L))
    (λi _=>255 - (intOf i).toNat)
   case atStart=>exact⟨0,by omega,rfl,fb.o,s.o,F0.o,F1.o,F2.o⟩
   case round=>
    obtain⟨j,hj,rfl,f,m,t,H1,A⟩:=hrel;by_cases r:j<255
    ·have H:(aQ L).toArray[j]?=some (iy (L.getD j 0).toNat):=by exact tQ L j (by rw[G.o];exact r)
     have l:=λ(w:World) (c:UInt8) hv=>tR (P:=prog) (cs:=(aQ L).toArray) (k:=.i64) (j:=j) (v:=iy c.toNat) underlying338 kr kr kr r hv w
     replace l:=LH l;obtain⟨M,hM⟩:=Ex ((255 - j) % 255:Nat);have ax:(255 - (j:Int)) % 255=M:=om;have aa:M<255:=om;replace hM:=LH hM;have a1:=A.o.cell M (by rw[G.o];exact aa);obtain⟨c,hc⟩:=Ex (L.getD j 0);rw[<-hc] at H;have af:=λw=>l.o w c H
     replace hc:=LH hc;obtain⟨d,hd⟩:=Ex (L.getD M 0);rw[<-hd] at a1;replace hd:=LH hd;have S:=c.toNat_lt;have ad:=d.toNat_lt
     go_wp2_with fail
     refine (xV d.toNat ad _).mono ?_;rintro e w1 ⟨rfl,hb⟩;have O:=LH (t.o.dB (hb.block n om));have G1:=LH (H1.o.dB (hb.block (n+1) om));have G2:=LH (A.o.dB (hb.block (n+1+1) om));have K:=LH (f.trans (hb.mono (by have:=f.size;rw[z.o];exact this)));have y:=LH (aH m hb.size);clear t H1 A f hb m a1;have T:=O.o.frozen c.toNat;have R:=O.o.cell c.toNat (by rw[tO];exact S);go_wp2;go_roundw
     case rel=>refine⟨j+1,by omega,by go_num,K.o.setCell (p:=iu n c.toNat) (ae n) _,by simpa using y.o,?_,G1.o.dB (kD _ _ _ sm),G2.o.dB (kD _ _ _ (by simp;omega))⟩;have h:=O.o.set c.toNat (byte (qb d.toNat));rw[lM xU] at h;show ke _ _ _ _;rw[qB,pw,pw,<-hL.o,<-hM.o,<-hc.o,<-hd.o];exact h
     case measure=>simp[intOf];omega
    ·have a6:j=255:=om;rw[a6] at t;clear a6 N F0 F1 F2 O G1 G2 K fb y s T R A;obtain⟨B,Z⟩:=Ex (qB 255);rw[<-Z] at t;have E:B.length=256:=Z ▸ tO;replace Z:=LH Z;replace E:=LH E
     go_wp2_with (refine eR rfl 295 _ rfl n rfl 295 _ (0,0) _ t.o underlying295 rfl (by simp only[aT,km,E.o];kernel_rfl) ?_)
     generalize decide ((j:Int)<255)=dd2;have F0:=t;have F1:=H1;have u:=LH f;have s:=LH m;clear t H1 f m
     go_loopw [37] (λi wr=>∃ j:Nat,j<=256/\i=iw j/\Below n w wr/\n+2<wr.heap.size/\Hd (ke wr n 295 B)/\Hd (ke wr (n+1) 295 (qV j)))
      (λi _=>256 - (intOf i).toNat)
     case atStart=>exact⟨0,by omega,rfl,u.o,s.o,F0.o,F1.o⟩
     case round=>
      clear F0 F1 u s;obtain⟨q,hq,rfl,f,m,t,H1⟩:=hrel;by_cases r:q<256
      ·have H:(aQ B).toArray[q]?=some (iy (B.getD q 0).toNat):=by exact tQ B q (by rw[E.o];exact r)
       have l:=λ(w:World) (c:UInt8) hv=>tR (P:=prog) (cs:=(aQ B).toArray) (k:=.i64) (j:=q) (v:=iy c.toNat) underlying295 kr kr kr r hv w
       replace l:=LH l;obtain⟨c,hc⟩:=Ex (B.getD q 0);rw[<-hc] at H;have af:=λw=>l.o w c H
       replace hc:=LH hc;have S:=c.toNat_lt;have T:=H1.o.frozen c.toNat;have R:=H1.o.cell c.toNat (by rw[tP];exact S);replace f:=LH f;go_wp2;go_roundw
       case rel=>refine⟨q+1,by omega,by go_num,f.o.setCell (p:=iu (n+1) c.toNat) (by show n<=n+1;omega) _,by simpa using m,t.o.dB (kD _ _ _ sm),?_⟩;have h:=H1.o.set c.toNat (byte q);rw[lM r] at h;show ke _ _ _ _;rw[qV,sb,<-Z.o,<-hc.o];exact h
       case measure=>simp[intOf];omega
      ·have a7:q=256:=om;rw[a7] at H1;clear a7;obtain⟨C,hC⟩:=Ex (qV 256);rw[<-hC] at H1;have a8:C.length=256:=hC ▸ tP;replace hC:=LH hC;have F:(prog.info? 295).map (·.size)=some C.length:=by rw[a8];kernel_rfl
       have D:(prog.info? 295).map (·.size)=some B.length:=by rw[E.o];kernel_rfl
       have k0:=λ(g:World) (h:aA No wr.drew g)=>t.o.dB (h.block n (by show n<wr.heap.size;omega) id)
       have k1:=λ(g:World) (h:aA No wr.drew g)=>H1.o.dB (h.block (n+1) (by show n+1<wr.heap.size;omega) id)
       have U:=λ(g:World) (h:aA No wr.drew g)=>mY (P:=prog) (k0 g h) underlying295 D
       have V:=λ(g:World) (h:aA No wr.drew g)=>mY (P:=prog) (k1 g h) underlying295 F
       have hs0:=λ(g:World) (h:aA No wr.drew g)=>sj (P:=prog) (k0 g h) D
       have W:=λ(g:World) (h:aA No wr.drew g)=>sj (P:=prog) (k1 g h) F
       revert k0 k1 U V hs0 W;refine H6 ?_;intro k0 k1 U V hs0 W;have F:=LH F;have D:=LH D;have u:=LH f;clear f;go_wp2;refine RA.rt (aA No) [1,1,2,2] [] (λ_=>True) trivial (λ_=>aA.refl _ _) (λ_ _ _ h k=>h.trans k) (h:=?_);intro cx;refine RA.ld (y':=.agg (aQ B).toArray) (hr:=λg hp=>U.o g hp.1) (h:=?_);refine RA.ld (y':=.agg (aQ C).toArray) (hr:=λg hp=>V.o g hp.1) (h:=?_);refine RA.sg rf rf (λw=>rfl) (λ_ _=>trivial) (λg hp=>RA.kL rf rf (hs0.o g hp.1)) (λu1=>?_);refine RA.sg rf rf (λw=>rfl) (λ_ _=>trivial) (λg hp=>RA.kL rf rf (W.o g hp.1)) (λu2=>?_);refine RA.RA.done rfl (λg J hF hH=>?_);clear hF hH;simp only[RA.RP,cx];go_wp2;have J:aA No wr.drew g:=J;refine aI (v:=.tuple #[.agg (aQ B).toArray,.agg (aQ C).toArray]) ?_ rfl ⟨by rw[Z.o,hC.o],?_⟩
       ·exact Aa results205 _ g (a:=iu n 0) (b:=iu (n+1) 0) rfl rfl (cR g n _ _ _ (0,0) _ (k0.o g J) underlying295 rfl (by rw[D.o];simp[km])) (cR g (n+1) _ _ _ (0,0) _ (k1.o g J) underlying295 rfl (by rw[F.o];simp[km]))
       ·rw[<-z.o];have h:Below wr.heap.size wr g:=aA.no ⟨J.os,J.tape,J.output,J.size,J.block⟩;exact u.o.trans (h.mono om)
attribute [irreducible] sO qB qV
end Go.Proofs.YthmcbgidehjlbaaGreat.Fd
namespace Go.Proofs.YthmcbgidehjlbaaGreat.Fd
open Go Go.RowKit K
theorem wi (l x:iz) (off i:Nat) (h:off+x.length<=l.length):(splice l off x).getD i 0=if off<=i/\i<off+x.length then x.getD (i - off) 0 else l.getD i 0:=by
 have h1:(l.take off).length=off:=by simp;omega
 simp only[splice,List.getD];by_cases a:i<off
 ·rw[aX om,aU,ak a,ah om]
 ·rw[aL om,h1];by_cases hb:i<off+x.length
  ·rw[aX om,ak ⟨by omega,hb⟩]
  ·rw[aL om,bF,ah om];congr 2;omega
section
variable {P:Program}
theorem run_storeCells_at (g off:Nat) (t:TypeId):∀ (vs:List Value) (i:Nat) (cur:Array Value) (w:World),w.heap[g]?=some (.cells cur t (0,0))->off+i+vs.length<=cur.size->(∀ v ∈ vs,v.oneCell'=true)->
  (storeCells (iu g off) vs i).run P w=.ok () (w.setRow g (splice cur.toList (off+i) vs).toArray)
 | [],i,cur,w,hg,hl,_=>by
  have:splice cur.toList (off+i) []=cur.toList:=by simp[splice]
  simp only[storeCells,this,Array.toArray_toList,yh hg];rfl
 | v::rest,i,cur,w,hg,hl,h1=>by
  have hi:off+i<cur.size:=by simp at hl;omega
  have b:((iu g off):Addr).add i=(iu g (off+i)):=bJ _ _ _;have a:w.cell? (iu g (off+i))=some cur[off+i]:=by simp[World.cell?,hg,hi]
  have c:w.frozen? (iu g (off+i))=false:=by simp[World.frozen?,hg]
  have e:(store (((iu g off):Addr).add i) v).run P w=.ok () (w.setRow g (cur.setIfInBounds (off+i) v)):=by rw[b,run_store P w _ v _ (h1 v sm),a];simp[c,setCell_eq_setRow w g (off+i) cur t (0,0) v hg]
  have ih:=run_storeCells_at g off t rest (i+1) (cur.setIfInBounds (off+i) v) (w.setRow g (cur.setIfInBounds (off+i) v)) (aJ w g cur _ t _ hg) (by simp at hl ⊢;omega) (λx j=>h1 x (by simp[j]));simp only[storeCells,aM,e,bu,ih,setRow_setRow];congr 3;apply b9;intro k;simp only[eB,splice,gR,aR,bg,dj,aU,bF,ej,bj];simp only[bj] at hl;by_cases hk:k<off+i
  ·simp[hk,show k<off+(i+1) by omega,show min (off+(i+1)) cur.size=off+(i+1) by omega,show min (off+i) cur.size=off+i by omega,show off+i≠k by omega]
  ·by_cases d:k=off+i
   ·subst d;simp[show min (off+(i+1)) cur.size=off+(i+1) by omega,show min (off+i) cur.size=off+i by omega,show off+i<off+(i+1) by omega,hi]
   ·have f:k - (off+i)=(k - (off+(i+1)))+1:=om;simp[hk,show ¬ k<off+(i+1) by omega,show min (off+(i+1)) cur.size=off+(i+1) by omega,show min (off+i) cur.size=off+i by omega,f];split
    ·rfl
    ·have h:off+(i+1)+rest.length+(k - (off+(i+1)) - rest.length)=off+i+(rest.length+1)+(k - (off+(i+1)) - rest.length):=om;rw[h,ah om]
theorem EO {w:World}{n off:Nat}{t ty:TypeId}{l x:iz}(h:ke w n t l) (hi:(P.info? ty).map (·.size)=some x.length) (hl:off+x.length<=l.length):
  (storeVar ty (iu n off) (.agg (aQ x).toArray)).run P w=.ok () (w.setRow n (aQ (splice l off x)).toArray):=by
 have:=run_storeCells_at (P:=P) n off t (aQ x) 0 _ w h (by simp[km];omega) (nJ x);cases hq:P.info? ty with
 | none=>simp[hq] at hi
 | some i=>
  have hs:x.length=i.size:=by simp[hq] at hi;omega
  rw[zK]
  simpa [storeVar,sizeOf,typeInfo,hq,Value.cells,km,hs] using this
theorem rK {w:World}{n off:Nat}{t ty:TypeId}{l x:iz}(h:ke w n t l) (hi:(P.info? ty).map (·.size)=some x.length) (hl:off+x.length<=l.length):
  (Instr.storeAt ty (.pointer (some (iu n off))) (.agg (aQ x).toArray)).run P w=.ok () (w.setRow n (aQ (splice l off x)).toArray):=by
 simp only[Instr.storeAt,Instr.sureAddr,aM,Sem.run_pure,Result.andThen];exact EO h hi hl
theorem wj {w:World}{g off m:Nat}{ty e:TypeId}{x:iz}(hu:P.underlying ty=some (.array m e)) (hi:(P.info? ty).map (·.size)=some x.length)
  (hx:∀ j,j<x.length->w.cell? (iu g (off+j))=some (iy (x.getD j 0).toNat)):(Instr.loadAt ty (.pointer (some (iu g off)))).run P w=.ok (.agg (aQ x).toArray) w:=by
 have c:(loadCells (iu g off) (aQ x).length).run P w=.ok (aQ x).toArray w:=
  gj (P:=P) w (iu g off) (aQ x) (λj v hv=>by
   have a:j<x.length:=by
    rcases eu j x.length with a|a
    ·exact a
    ·rw[cB (by rw[km];exact a)] at hv;cases hv
   rw[bJ,hx j a,<-hv];simp[aQ,u8,List.getD,a])
 have h:(loadVar ty (iu g off)).run P w=.ok (.agg (aQ x).toArray) w:=by
  cases hq:P.info? ty with
  | none=>simp[hq] at hi
  | some i=>
   have hs:i.size=x.length:=by simpa [hq] using hi
   have b:(isAgg ty).run P w=.ok true w:=by unfold isAgg;rw[aM,bb hu w];simp
   rw[km] at c;simp[loadVar,b,sizeOf,typeInfo,hq,hs,c]
 simp only[Instr.loadAt,Instr.sureAddr,aM,Sem.run_pure,Result.andThen];exact h
theorem kQ {w:World}{ops:Array Oper}{rest:List Oper}{o:Oper}{a:Act}{Q:Exit->Act->World->Prop}(hgd:o.guard=none) (ty:TypeId) (x:Operand) (ho:o.op=.load ty x)
  (p v:Value) (hx:a.eval x=p) (hr:(Instr.loadAt ty p).run P w=.ok v w) (h:wpList P ops Q rest (a.put o.dst v) w):wpList P ops Q (o::rest) a w:=
 cN hgd λK b=>by unfold Oper.wp execOp;simp only[ho,hx,aM,hr,bu];exact b _ _ h
theorem wk (w:World) (T:TypeId) (b c:iz):
  ke ((w.alloc (.cells (aQ b).toArray T)).alloc (.cells (aQ c).toArray T)) w.heap.size T b/\ke ((w.alloc (.cells (aQ b).toArray T)).alloc (.cells (aQ c).toArray T)) (w.heap.size+1) T c/\
   Below w.heap.size w ((w.alloc (.cells (aQ b).toArray T)).alloc (.cells (aQ c).toArray T))/\((w.alloc (.cells (aQ b).toArray T)).alloc (.cells (aQ c).toArray T)).heap.size=w.heap.size+2:=by
 refine⟨(aB _ _ _ sm).trans (aj w _),?_,((ag _ _).alloc (ae _) _).alloc sm _,by simp⟩;have h:=aj (w.alloc (.cells (aQ b).toArray T)) (.cells (aQ c).toArray T);simp only[aN] at h;exact h
theorem below_setRow {B:Nat}{a w:World}(h:Below B a w){g:Nat}(hg:B<=g) (cs:Array Value):Below B a (w.setRow g cs):=⟨h.os,h.tape,h.output,by simpa using h.size,λk hk=>(aG _ _ _ _ om).trans (h.block k hk)⟩
theorem kI {w w':World}{ops:Array Oper}{rest:List Oper}{o:Oper}{a:Act}{Q:Exit->Act->World->Prop}(hgd:o.guard=none) (ty:TypeId) (x y:Operand) (ho:o.op=.store ty x y)
  (p q:Value) (hx:a.eval x=p) (hy:a.eval y=q) (hr:(Instr.storeAt ty p q).run P w=.ok () w') (h:wpList P ops Q rest (a.put o.dst undef) w'):wpList P ops Q (o::rest) a w:=
 cN hgd λK b=>by unfold Oper.wp execOp;simp only[ho,hx,hy,aM,hr,bu];exact b _ _ h
theorem ke.setRow {w:World}{b:Nat}{t:TypeId}{l:iz}(h:ke w b t l) (l':iz):ke (w.setRow b (aQ l').toArray) b t l':=aJ w b _ _ t _ h
end
end Go.Proofs.YthmcbgidehjlbaaGreat.Fd
namespace Go.Proofs.YthmcbgidehjlbaaGreat.Fd
open _root_.Go.Proofs.Tryz
open Go Go.RowKit K
variable {l:iz}
def bk (i:Nat):UInt8:=(qV 256).getD i 0
def lN (a:Nat):iz:=[byte (kK a),byte a,byte a,byte (mul a 3)]
def nm (a:Nat):iz:=[byte (mul a 14),byte (mul a 9),byte (mul a 13),byte (mul a 11)]
def sP (k i:Nat):UInt8:=
 if i<256 then sb i else if i<512 then bk (i - 256)
 else if i<1536 then (if (i - 512) / 4<k then (lN ((i - 512) / 4)).getD ((i - 512) % 4) 0 else 0)
 else (if (i - 1536) / 4<k then (nm ((i - 1536) / 4)).getD ((i - 1536) % 4) 0 else 0)
def rL (k:Nat) (l:iz):Prop:=l.length=2560/\∀ i,i<2560->l.getD i 0=sP k i
theorem EP:rL 0 (splice (splice (List.replicate 2560 0) 0 (qB 255)) 256 (qV 256)):=by
 have b:(List.replicate 2560 (0:UInt8)).length=2560:=aK;have h1:(splice (List.replicate 2560 0) 0 (qB 255)).length=2560:=by rw[length_splice _ _ _ (by rw[b,tO];omega),b]
 refine⟨by rw[length_splice _ _ _ (by rw[h1,tP];omega),h1],λi hi=>?_⟩;rw[wi _ _ _ _ (by rw[h1,tP];omega),wi _ _ _ _ (by rw[b,tO];omega),tP,tO];unfold sP;by_cases a:i<256
 ·rw[ah om,ak om,ak a];rfl
 ·by_cases a2:i<512
  ·rw[ak om,ah a,ak a2];rfl
  ·rw[ah om,ah om,ah a,ah a2]
   have e:(List.replicate 2560 (0:UInt8)).getD i 0=0:=by rw[List.getD,eC,ak hi];rfl
   rw[e];split
   ·rw[ah om]
   ·rw[ah om]
theorem ER {k:Nat}(hk:k<256) (h:rL k l):rL (k+1) (splice (splice l (512+4*k) (lN k)) (1536+4*k) (nm k)):=by
 have hm:(lN k).length=4:=rfl;have hu:(nm k).length=4:=rfl;have h1:(splice l (512+4*k) (lN k)).length=2560:=by rw[length_splice _ _ _ (by rw[h.1,hm];omega),h.1]
 refine⟨by rw[length_splice _ _ _ (by rw[h1,hu];omega),h1],λi hi=>?_⟩;rw[wi _ _ _ _ (by rw[h1,hu];omega),wi _ _ _ _ (by rw[h.1,hm];omega),h.2 i hi,hm,hu];unfold sP;by_cases a:i<256
 ·rw[ah om,ah om,ak a,ak a]
 ·by_cases a2:i<512
  ·rw[ah om,ah om,ah a,ah a,ak a2,ak a2]
  ·rw[ah a,ah a,ah a2,ah a2];by_cases a3:i<1536
   ·rw[ah om,ak a3,ak a3];by_cases a4:512+4*k<=i/\i<512+4*k+4
    ·have b:(i - 512) / 4=k:=om;have c:(i - 512) % 4=i - (512+4*k):=om;rw[ak a4,b,c,ak om]
    ·rw[ah a4];by_cases a5:(i - 512) / 4<k
     ·rw[ak a5,ak om]
     ·rw[ah a5,ah om]
   ·rw[ah a3,ah a3,ah (by omega:¬ (512+4*k<=i/\i<512+4*k+4))];by_cases a4:1536+4*k<=i/\i<1536+4*k+4
    ·have b:(i - 1536) / 4=k:=om;have c:(i - 1536) % 4=i - (1536+4*k):=om;rw[ak a4,b,c,ak om]
    ·rw[ah a4];by_cases a5:(i - 1536) / 4<k
     ·rw[ak a5,ak om]
     ·rw[ah a5,ah om]
def uZ (w:World) (b k:Nat):Prop:=∃ l,ke w b 299 l/\rL k l
theorem ES:Tryz.zeroCells299=(aQ (List.replicate 2560 0)).toArray:=kr
theorem Ac (h:l.length=256):(prog.info? 295).map (·.size)=some l.length:=by rw[h];kernel_rfl
theorem yi (h:l.length=4):(prog.info? 296).map (·.size)=some l.length:=by rw[h];kernel_rfl
def qW (w:World) (n k:Nat) (x:World):Prop:=Below n w x/\n<x.heap.size/\uZ x n k
theorem qW.drew {w:World}{n k:Nat}{x:World}(h:qW w n k x):qW w n k x.drew:=⟨⟨h.1.os,h.1.tape,h.1.output,h.1.size,h.1.block⟩,h.2⟩
def qC (w:World) (n k:Nat) (x:World):Prop:=Below n w x/\n<x.heap.size/\∃ l,rL k l/\ke x n 299 (splice l (512+4*k) (lN k))
theorem qC.drew {w:World}{n k:Nat}{x:World}(h:qC w n k x):qC w n k x.drew:=⟨⟨h.1.os,h.1.tape,h.1.output,h.1.size,h.1.block⟩,h.2⟩
theorem ET {w:World}{n k:Nat}{x:World}(hn:n<=n) (h:qW w n k x) (hk:k<256):
  ∃ x',(Instr.storeAt 296 (.pointer (some (iu n (512+4*k)))) (.agg #[iy (kK k),iy k,iy k,iy (mul k 3)])).run prog x=.ok () x'/\aA (·=n) x x'/\qC w n k x':=by
 obtain⟨hb,hs,l,a,b⟩:=h
 have e:(aQ (lN k)).toArray=#[iy (kK k),iy k,iy k,iy (mul k 3)]:=by simp[aQ,u8,lN,lM (@oi k),lM hk,lM (@mul_lt k 3 hk)]
 have hr:=rK (P:=prog) (off:=512+4*k) a (yi (l:=lN k) rfl) (by rw[b.1];show 512+4*k+4<=2560;omega);rw[e] at hr;exact⟨_,hr,aA.setRow (C:=(·=n)) (aA.refl _ x) (λ_=>rfl) _,below_setRow hb hn _,by simpa using hs,l,b,a.setRow _⟩
theorem EU {w:World}{n k:Nat}{x:World}(hn:n<=n) (h:qC w n k x) (hk:k<256):
  ∃ x',(Instr.storeAt 296 (.pointer (some (iu n (1536+4*k)))) (.agg #[iy (mul k 14),iy (mul k 9),iy (mul k 13),iy (mul k 11)])).run prog x=.ok () x'/\aA (·=n) x x'/\qW w n (k+1) x':=by
 obtain⟨hb,hs,l,a,b⟩:=h
 have e:(aQ (nm k)).toArray=#[iy (mul k 14),iy (mul k 9),iy (mul k 13),iy (mul k 11)]:=by simp[aQ,u8,nm,lM (mul_lt hk)]
 have c:(splice l (512+4*k) (lN k)).length=2560:=by rw[length_splice _ _ _ (by rw[a.1];show 512+4*k+4<=2560;omega),a.1]
 have hr:=rK (P:=prog) (off:=1536+4*k) b (yi (l:=nm k) rfl) (by rw[c];show 1536+4*k+4<=2560;omega);rw[e] at hr;exact⟨_,hr,aA.setRow (C:=(·=n)) (aA.refl _ x) (λ_=>rfl) _,below_setRow hb hn _,by simpa using hs,_,b.setRow _,ER hk a⟩
theorem Ad (w:World):Calls prog 197 #[] w λe w'=>∃ b,e=.returned (.pointer (some ⟨b,0,none⟩))/\w.heap.size<=b/\uZ w' b 256/\Below w.heap.size w w':=by
 obtain⟨n,hn⟩:=Ex w.heap.size;have t:=LH hn;go_enter func197,ntmps197
 go_wp2_with (go_at_call 205;fail)
 rw[<-t.o];clear hn;refine (EN _).mono ?_;rintro e M ⟨rfl,hb⟩;have q:=LH EP;have y:=@tO 255;have z:=@tP 256;generalize qB 255=B at*;generalize qV 256=C at*;obtain⟨Z,F⟩:=Ex (List.replicate 2560 (0:UInt8));rw[<-F] at q;have J:Z.length=2560:=by rw[F,aK]
 have s:n<(w.alloc (.cells Tryz.zeroCells299 299)).heap.size:=by simp[t.o]
 have K:ke M n 299 Z:=by rw[F];refine ke.of ES ((hb.block n s).trans ?_);rw[t.o];exact aj w _
 have D:Below n w M:=((ag _ _).alloc (cJ t.o) _).trans (hb.mono om);have l:=rK (P:=prog) (off:=0) K (Ac y) om;have r:=K.setRow (splice Z 0 B);have f:=rK (P:=prog) (off:=256) r (Ac z) (by rw[length_splice _ _ _ om];omega);have j:=r.setRow (splice (splice Z 0 B) 256 C);rw[setRow_setRow] at j f;obtain⟨w2,m⟩:=Ex (M.setRow n (aQ (splice (splice Z 0 B) 256 C)).toArray);rw[<-m] at j f;have E:=LH (show uZ w2 n 0 from ⟨_,j,q.o⟩);have p:=LH (show n<w2.heap.size by rw[m,eS];exact aH s hb.size);have A:=LH (show Below n w w2 by rw[m];exact below_setRow D (ae n) _);clear m q y z F J;clear D K r j s hb;replace l:=LH l;replace f:=LH f
 go_wp2_with (first|(refine kI rfl 295 _ _ rfl _ _ rfl rfl l.o ?_)|(refine kI rfl 295 _ _ rfl _ _ rfl rfl f.o ?_))
 clear l f
 go_loopw [16] (λi wr=>∃ k:Nat,k<=256/\i=.int .i64 k/\qW w n k wr)
  (λi _=>256 - (intOf i).toNat)
 case atStart=>exact⟨0,by omega,rfl,A.o,p.o,E.o⟩
 case round=>
  clear E p A;obtain⟨k,hk,rfl,g⟩:=hrel;replace g:=LH g;by_cases c:k<256
  ·go_wp2;refine RA.region (λa b=>aA (·=n) a b) (·=·) [1,1,1,4,1,1,1,4,1,1,1,1,4] (λ_ _ _=>True) (qW w n k) kr (aA.refl _ _) (λ_ _ h=>h ▸ aA.refl _ _) (λ_ _ _ h k=>h.trans k) (λ_ _ h k=>h ▸ k) (g.o.drew) kr ?_;intro cx
   repeat refine RA.qq ?_
   refine RA.kc (P:=prog) [.int .u8 (k:Int)] (.int .u8 (kK k)) (qW w n k) (hr:=λd hp hH=>(xT k c _).mono (by rintro e u ⟨rfl,rfl⟩;exact⟨rfl,aA.refl _ _,hH⟩)) (hn:=?_)
   repeat refine RA.qq ?_
   refine RA.kc (P:=prog) [.int .u8 (k:Int),.int .u8 3] (.int .u8 (mul k 3)) (qW w n k) (hr:=λd hp hH=>(sL k 3 c om _).mono (by rintro e u ⟨rfl,rfl⟩;exact⟨rfl,aA.refl _ _,hH⟩)) (hn:=?_);refine RA.v prog (x:=.agg #[.int .u8 (kK k),.int .u8 k,.int .u8 k,.int .u8 (mul k 3)]) rf rf rf (λw hp=>by go_simp) ?_;simp only[RA.add];refine RA.nc rf rf rf ?_;refine RA.fa rf rf rf (y':=.pointer (some ⟨n,512,none⟩)) (λd hp=>by show (Instr.fieldAt _ _ _).run prog d=_;go_simp) ?_;refine RA.ia rf rf rf rf (y':=.pointer (some ⟨n,512+4*k,none⟩)) (λd hp=>by show (Instr.indexAt _ _ _).run prog d=_;go_simp) ?_;refine RA.st (qC w n k) (hr:=λd hp hH=>?_) (hn:=?_)
   ·obtain⟨x',h1,G,H⟩:=ET (ae n) hH c;exact⟨x',RA.kL rf rf h1,G,H⟩
   refine RA.RA.done rfl (λd N I hH=>?_);clear I;simp only[RA.RP,cx];replace hH:=LH hH;clear g;go_wp2;refine RA.region (λa b=>aA (·=n) a b) (·=·) [1,1,1,4,1,4,1,4,1,4,1,1,1,1,4] (λ_ _ _=>True) (qC w n k) kr (aA.refl _ _) (λ_ _ h=>h ▸ aA.refl _ _) (λ_ _ _ h k=>h.trans k) (λ_ _ h k=>h ▸ k) (hH.o.drew) kr ?_;intro cx
   repeat refine RA.qq ?_
   refine RA.kc (P:=prog) [.int .u8 (k:Int),.int .u8 14] (.int .u8 (mul k 14)) (qC w n k) (hr:=λd hp hH=>(sL k 14 c om _).mono (by rintro e u ⟨rfl,rfl⟩;exact⟨rfl,aA.refl _ _,hH⟩)) (hn:=?_)
   repeat refine RA.qq ?_
   refine RA.kc (P:=prog) [.int .u8 (k:Int),.int .u8 9] (.int .u8 (mul k 9)) (qC w n k) (hr:=λd hp hH=>(sL k 9 c om _).mono (by rintro e u ⟨rfl,rfl⟩;exact⟨rfl,aA.refl _ _,hH⟩)) (hn:=?_)
   repeat refine RA.qq ?_
   refine RA.kc (P:=prog) [.int .u8 (k:Int),.int .u8 13] (.int .u8 (mul k 13)) (qC w n k) (hr:=λd hp hH=>(sL k 13 c om _).mono (by rintro e u ⟨rfl,rfl⟩;exact⟨rfl,aA.refl _ _,hH⟩)) (hn:=?_)
   repeat refine RA.qq ?_
   refine RA.kc (P:=prog) [.int .u8 (k:Int),.int .u8 11] (.int .u8 (mul k 11)) (qC w n k) (hr:=λd hp hH=>(sL k 11 c om _).mono (by rintro e u ⟨rfl,rfl⟩;exact⟨rfl,aA.refl _ _,hH⟩)) (hn:=?_);refine RA.v prog (x:=.agg #[.int .u8 (mul k 14),.int .u8 (mul k 9),.int .u8 (mul k 13),.int .u8 (mul k 11)]) rf rf rf (λw hp=>by go_simp) ?_;simp only[RA.add];refine RA.nc rf rf rf ?_;refine RA.fa rf rf rf (y':=.pointer (some ⟨n,1536,none⟩)) (λd hp=>by show (Instr.fieldAt _ _ _).run prog d=_;go_simp) ?_;refine RA.ia rf rf rf rf (y':=.pointer (some ⟨n,1536+4*k,none⟩)) (λd hp=>by show (Instr.indexAt _ _ _).run prog d=_;go_simp) ?_;refine RA.st (qW w n (k+1)) (hr:=λd hp hH=>?_) (hn:=?_)
   ·obtain⟨x',h1,G,H⟩:=EU (ae n) hH c;exact⟨x',RA.kL rf rf h1,G,H⟩
   clear hH;refine RA.RA.done rfl (λu N I hH=>?_);clear I;simp only[RA.RP,cx];replace hH:=LH hH;go_wp2;go_roundw
   case rel=>exact⟨k+1,by omega,by go_num,hH.o⟩
   case measure=>simp[intOf];omega
  ·go_wp2;go_ret;obtain⟨hb,_,E⟩:=g.o;have L:k=256:=om;subst L;exact⟨n,rfl,cJ t.o.symm,E,t.o ▸ hb⟩
variable {ks:List UInt32}
def sQ (l:List UInt32):List Value:=l.map λx=>.int .u32 x.toNat
theorem yj (l:List UInt32) (j:Nat) (h:j<l.length):(sQ l)[j]?=some (.int .u32 (l.getD j 0).toNat):=by simp[sQ,List.getD,h]
structure nB (w:World) (F:Nat->Prop) (p b:Nat) (kv:Value) (ks:List UInt32):Prop where
 box:w.heap[p]?=some (.cells #[iq b,kv] 294 (0,0))
 own:F p
 rM:uZ w b 256
 yk:F b
 mL:ks.length<=1000
 keys:Cells w F kv ks.length 1 (sQ ks)
theorem nB.dB {w w':World}{F:Nat->Prop}{p b:Nat}{kv:Value}(h:nB w F p b kv ks) (hs:w.heap.size<=w'.heap.size) (hk:∀ g,F g->g<w.heap.size->w'.heap[g]?=w.heap[g]?):nB w' F p b kv ks:=by obtain⟨l,a,c⟩:=h.rM;exact⟨(hk p h.own (dC h.box)).trans h.box,h.own,⟨l,a.dB (hk b h.yk (dC a)),c⟩,h.yk,h.mL,Cells.dB h.keys hs hk⟩
def nD (ks:List UInt32):Nat:=ks.length / 4 - 1
def Ae (b:iz) (ks:List UInt32) (r i:Nat):UInt8:=byte ((b.getD i 0).toNat ^^^ (ks.getD (4*r+i / 4) 0).toNat / 2 ^ (24 - 8*(i % 4)) % 256)
def nK (b:iz) (ks:List UInt32) (r:Nat):Nat->iz
 | 0=>b
 | k+1=>(nK b ks r k).set k (Ae b ks r k)
theorem qX {b:iz}{r k:Nat}:(nK b ks r k).length=b.length:=by
 induction k with
 | zero=>rfl
 | succ k ih=>exact bg.trans ih
theorem EV {b:iz}{r k i:Nat}(h:k<=i):(nK b ks r k).getD i 0=b.getD i 0:=by
 induction k with
 | zero=>rfl
 | succ k ih=>rw[nK,List.getD,eT om,<-List.getD,ih om]
theorem kV {l:iz}(h:l.length=16):(prog.info? 179).map (·.size)=some l.length:=by rw[h];kernel_rfl
theorem ve {w:World}{F:Nat->Prop}{p tb:Nat}{kv:Value}(h:nB w F p tb kv ks) (b:iz) (hb:b.length=16) (r:Nat) (hr:4*r+4<=ks.length):
  Calls prog 182 #[iq p,.agg (aQ b).toArray,iw r] w λe w'=>e=.returned (.agg (aQ (nK b ks r 16)).toArray)/\Below w.heap.size w w':=by
 obtain⟨n,hn⟩:=Ex w.heap.size;have l:=LH hn;have an:=h.mL;have a7:=dC h.box;rw[<-hn] at a7;have H:=LH h;clear h hn;obtain⟨V,T⟩:=Ex ((aQ b).toArray);rw[<-T];replace T:=LH T;go_enter func182,ntmps182;go_wp2
 go_loopw [8] (λi wr=>∃ k:Nat,k<=16/\i=iw k/\Below n w wr/\n+1<wr.heap.size/\Hd (ke wr n 179 (nK b ks r k))/\Hd (ke wr (n+1) 179 (List.replicate 16 0)))
  (λi _=>16 - (intOf i).toNat)
 case atStart=>
  refine⟨0,by omega,rfl,?_,?_,?_,?_⟩
  ·rw[l.o];exact ((ag _ _).alloc (ae _) _).alloc sm _
  ·simp[l.o]
  ·rw[l.o];exact ke.of T.o ((aB _ _ _ sm).trans (aj w _))
  ·have h:=aj (w.alloc (.cells V 179)) (.cells (aQ (List.replicate 16 0)).toArray 179);simp only[aN] at h;rw[l.o];exact h
 case round=>
  obtain⟨k,hk,rfl,a,ad,A,H1⟩:=hrel;rw[<-l.o];by_cases N:k<16
  ·have hc:=LH (H.o.dB (w':=wr) (by have:=a.size;exact this) (λg hg hl=>a.block g (by rw[l.o];exact hl)));obtain⟨q,hq⟩:=Ex (k / 4);obtain⟨j,hj⟩:=Ex (k % 4);obtain⟨s,hs⟩:=Ex (24 - 8*j);have b4:j<4:=om;obtain⟨M,R⟩:=Ex (4*r+q);have a6:M<ks.length:=om;obtain⟨g,off,cap,rfl,Y,Z,_,a1,c⟩:=Cells.at hc.o.keys om;have hw:=c _ _ (yj ks _ a6);have ay:=LH c;clear c;obtain⟨W,J⟩:=Ex ((ks.getD M 0).toNat);rw[<-J] at hw;obtain⟨B,C⟩:=Ex ((b.getD k 0).toNat);have b3:W<4294967296:=J ▸ eU _;have E:B<256:=C ▸ aP _;obtain⟨D,Q⟩:=Ex (W / 2 ^ s % 256);have G:D<256:=om;have b2:(W:Int) / 2 ^ s % 256=D:=by rw[Q];simp
   have hx:=dx B D E G;replace Q:=LH Q;have t:=A.o.cell k (by rw[qX,hb];exact N);rw[EV (ae k),<-C] at t;have y:=cell_of hc.o.box 1;have hd:(k:Int) / 4=q:=om;have hm:(k:Int) % 4=j:=om;have b5:(k:Int).tmod 4=j:=by rw[bZ om];exact hm
   have ax:min s 32=s:=om;have O:n<wr.heap.size:=om;have a8:p<wr.heap.size:=dC hc.o.box;revert hq hj hs R hw J C t y;refine H9 ?_;intro hq hj hs R hw J C t y;have d:=Dr wr
   replace d:=LH d;replace a:=LH a;go_wp2;refine RA.rt (aA No) [1,1,1,1,1,1,1,1,1,1,1,1,1,1,1,1,1,1,1,1,1,1,7] [22] (λ_=>True) trivial (λ_=>aA.refl _ _) (λ_ _ _ h k=>h.trans k) (h:=?_);intro cx
   repeat refine RA.qq ?_
   refine RA.ik prog n k (h:=?_);refine RA.lk prog (iy B) (hc:=λz hp=>by exact ((d.o _ hp.1).cell (p:=iu n k) O id).trans t.o) (h:=?_)
   repeat refine RA.qq ?_
   refine RA.fk prog p 1 (h:=?_);refine RA.lk prog (.slice (some (iu g off)) ks.length cap) (hc:=λz hp=>by exact ((d.o _ hp.1).cell (p:=iu p 1) a8 id).trans y.o) (h:=?_)
   repeat refine RA.qq ?_
   refine RA.mi (r:=4*(r:Int)) (h:=?_)
   repeat refine RA.qq ?_
   refine RA.vw prog (iw q) (h:=?_);refine RA.ai (r:=(M:Int)) (he:=by have:=R.o;omega) (h:=?_);refine RA.ik prog g (off+M) (h:=?_);refine RA.lk prog (.int .u32 W) (hc:=λz hp=>by exact ((d.o _ hp.1).cell (p:=iu g (off+M)) a1 id).trans hw.o) (h:=?_)
   repeat refine RA.qq ?_
   refine RA.vw prog (iw j) (h:=?_);refine RA.mi (r:=8*(j:Int)) (h:=?_);refine RA.si (r:=(s:Int)) (he:=by have:=hs.o;omega) (hr:=by have:=hs.o;omega) (h:=?_);refine RA.vw prog (.int .u32 ((W:Int) / 2 ^ s)) (h:=?_);refine RA.vw prog (iy D) (h:=?_);refine RA.vw prog (iy ((B ^^^ D:Nat):Int)) (h:=?_);refine RA.ik prog n k (h:=?_);refine RA.lr (λU=>Below n w U/\n+1<U.heap.size/\ke U n 179 (nK b ks r (k+1))/\ke U (n+1) 179 (List.replicate 16 0)) (hr:=λz hp _=>?_) (hn:=?_)
   ·have S:=d.o _ (hp.first kr).1;have X:=A.o.dB (S.block n O id);have A1:=H1.o.dB (S.block (n+1) ad id);have f0:=X.frozen k;have c0:=X.cell k (by rw[qX,hb];exact N);have v:=X.set k (byte (B ^^^ D));have af:=l9 E G;rw[lM af] at v;have e:(Instr.storeAt 5 (.pointer (some (iu n k))) (iy ((B ^^^ D:Nat):Int))).run prog z=.ok () (z.setCell (iu n k) (iy ((B ^^^ D:Nat):Int))):=by go_simp
    refine⟨_,RA.kL rf rf e,(a.o.trans ((aA.no S).mono (by have:=a.o.size;rw[l.o];exact this))).setCell (p:=iu n k) (ae n) _,?_,?_,A1.dB (kD _ _ _ sm)⟩
    ·have:=S.size;simp;omega
    ·rw[nK,Ae,<-hq.o,<-hj.o,<-R.o,<-hs.o,<-J.o,<-C.o,<-Q.o];exact v
   refine RA.RA.kZ (λz hH=>?_);simp only[RA.RP,cx];replace hH:=LH hH;go_wp2;go_roundw
   case rel=>exact⟨k+1,by omega,by go_num,hH.o.1,hH.o.2.1,hH.o.2.2.1,hH.o.2.2.2⟩
   case measure=>simp[intOf];omega
  ·have K:k=16:=om;rw[K] at A;clear K;obtain⟨L,I⟩:=Ex (nK b ks r 16);rw[<-I] at A;have m:L.length=16:=I ▸ qX.trans hb;replace I:=LH I;have u:=rK (P:=prog) (off:=0) (x:=L) H1.o (kV m) (by rw[m,aK];omega)
   have aa:splice (List.replicate 16 0) 0 L=L:=by simp only[splice,dX,bE];rw[eV (by rw[m,aK];omega),dm]
   rw[aa] at u;have f:=H1.o.setRow L;have hi:=kV m;revert a u f hi;refine H4 ?_;intro a u f hi
   go_wp2_with (first
    | (refine eR rfl 179 _ rfl n rfl 179 _ (0,0) _ A.o underlying179 rfl (by rw[hi.o];simp[km]) ?_)
    | (refine kI rfl 179 _ _ rfl _ _ rfl rfl u.o ?_))
   refine aI (bd results182 _ _ (n+1) 179 _ (0,0) _ rfl f.o underlying179 rfl (by rw[hi.o];simp[km])) rfl ⟨by rw[I.o],?_⟩;exact below_setRow (l.o ▸ a.o) (by rw[l.o];omega) _
variable {b:iz}
def sR (b:iz) (k:Nat):Nat:=if k=0 then 0 else (b.getD (k - 1) 0).toNat / 128
theorem EW {k:Nat}:sR b k<2:=by
 unfold sR;split
 ·omega
 ·have:=(b.getD (k - 1) 0).toNat_lt;omega
def sk (b:iz):Nat->iz
 | 0=>List.replicate 16 0
 | k+1=>(sk b k).set k (byte (((b.getD k 0).toNat*2 % 256) ||| sR b k))
theorem wu {k:Nat}:(sk b k).length=16:=by
 induction k with
 | zero=>exact aK
 | succ k ih=>exact bg.trans ih
def double (b:iz):iz:=if sR b 16=0 then sk b 16 else (sk b 16).set 0 (byte (((sk b 16).getD 0 0).toNat ^^^ 135))
theorem Af:(double b).length=16:=by
 unfold double;split
 ·exact wu
 ·exact bg.trans wu
theorem EY (b:iz) (hb:b.length=16) (w:World):
  Calls prog 192 #[.agg (aQ b).toArray] w λe w'=>e=.returned (.agg (aQ (double b)).toArray)/\Below w.heap.size w w':=by
 obtain⟨n,S⟩:=Ex w.heap.size;have F:=LH S;have l:=LH (wk w 179 b (List.replicate 16 0));have K:=LH (kV hb);clear S;obtain⟨V,y⟩:=Ex ((aQ b).toArray);rw[<-y] at l ⊢;have U:(aQ (List.replicate 16 0)).toArray=#[iy 0,iy 0,iy 0,iy 0,iy 0,iy 0,iy 0,iy 0,iy 0,iy 0,iy 0,iy 0,iy 0,iy 0,iy 0,iy 0]:=rfl;rw[U] at l;clear U;have s:(prog.info? 179).map (·.size)=some V.size:=by rw[K.o,y];simp[km]
 have r:∀ k,k<16->V[k]?=some (iy (b.getD k 0).toNat):=λk hk=>by rw[y];exact tQ b k om
 revert y s r;refine H3 ?_;intro y s r;go_enter func192,ntmps192
 go_wp2_with (refine eR rfl 179 _ rfl _ rfl 179 V (0,0) _ (fq l.o.1 (by rw[y.o])) underlying179 rfl s.o ?_)
 obtain⟨w2,E⟩:=Ex ((w.alloc (.cells V 179)).alloc (.cells #[iy 0,iy 0,iy 0,iy 0,iy 0,iy 0,iy 0,iy 0,iy 0,iy 0,iy 0,iy 0,iy 0,iy 0,iy 0,iy 0] 179));rw[<-E] at l ⊢;rw[<-F.o] at l ⊢;clear E
 go_loopw [3,7] (λc i wr=>∃ k:Nat,k<=16/\i=iw k/\c=iy (sR b k)/\Below n w wr/\n+1<wr.heap.size/\Hd (ke wr (n+1) 179 (sk b k)))
  (λ_ i _=>16 - (intOf i).toNat)
 case atStart=>exact⟨0,by omega,rfl,rfl,l.o.2.2.1,by have:=l.o.2.2.2;omega,l.o.2.1⟩
 case round=>
  obtain⟨k,hk,rfl,rfl,f,M,H1⟩:=hrel;obtain⟨c,hc⟩:=Ex (sR b k);rw[<-hc];have W:c<2:=hc ▸ EW;replace f:=LH f;by_cases u:k<16
  ·have t:=r.o k u;have D:=λw=>tR (P:=prog) (k:=.i64) (j:=k) (v:=iy (b.getD k 0).toNat) underlying179 kr kr kr u t w
   obtain⟨B,d⟩:=Ex ((b.getD k 0).toNat);rw[<-d] at D t;have m:B<256:=d ▸ aP _;have T:=u8_or_nat (B*2 % 256) c om om;have X:bits .or .u8 ((B:Int)*2 % 256) (c:Int)=((B*2 % 256 ||| c:Nat):Int):=by rw[<-T];simp
   have J:B*2 % 256 ||| c<256:=fp (n:=8) om om
   have f0:=H1.o.frozen k;have c0:=H1.o.cell k (by rw[wu];exact u);replace hc:=LH hc;replace d:=LH d;clear T t;go_wp2;go_roundw
   case rel=>
    refine⟨k+1,by omega,by go_num,?_,f.o.setCell (p:=iu (n+1) k) (by show n<=n+1;omega) _,by simpa using M,?_⟩
    ·rw[sR,ah om,Nat.add_sub_cancel,<-d.o];simp
    ·have h:=H1.o.set k (byte (B*2 % 256 ||| c));rw[lM J] at h;show ke _ _ _ _;rw[sk,<-d.o,<-hc.o];exact h
   case measure=>simp[intOf];omega
  ·have C:k=16:=om;rw[C] at H1 hc;clear C;obtain⟨L,x⟩:=Ex (sk b 16);rw[<-x] at H1;have A:L.length=16:=x ▸ wu;replace hc:=LH hc;replace x:=LH x
   have a:∀ (z:World) (R:iz),R.length=16->ke z (n+1) 179 R->(prog.info? 179).map (·.size)=some (aQ R).toArray.size/\(Instr.loadAt 179 (iq (n+1))).run prog z=.ok (.agg (aQ R).toArray) z/\(Instr.storeAt 179 (iq (n+1)) (.agg (aQ R).toArray)).run prog z=.ok () z:=λz R G Q=>⟨by rw[kV G];simp[km],mY Q underlying179 (kV G),sj Q (kV G)⟩
   replace a:=LH a;by_cases H:c=0
   ·have q:=LH (a.o wr L A H1.o)
    go_wp2_with (first|(refine kQ rfl 179 _ rfl _ _ rfl q.o.2.1 ?_)|(refine kI rfl 179 _ _ rfl _ _ rfl rfl q.o.2.2 ?_))
    refine aI (bd results192 _ _ (n+1) 179 _ (0,0) _ rfl H1.o underlying179 rfl q.o.1) rfl ⟨?_,F.o ▸ f.o⟩;rw[double,ak (hc.o ▸ H),x.o]
   ·have I:c=1:=om;subst I;have f0:=H1.o.frozen 0;have c0:=H1.o.cell 0 om;obtain⟨B,d⟩:=Ex ((L.getD 0 0).toNat);rw[<-d] at c0;have m:B<256:=d ▸ aP _;have Y:bits .xor .u8 (B:Int) 135=((B ^^^ 135:Nat):Int):=dx B 135 m om;have N:=l9 m (show 135<256 by omega);have g:=H1.o.set 0 (byte (B ^^^ 135));rw[lM N] at g;have O:=LH g;have q:=LH (a.o _ _ (bg.trans A) O.o);clear g;replace d:=LH d
    go_wp2_with (first|(refine kQ rfl 179 _ rfl _ _ rfl q.o.2.1 ?_)|(refine kI rfl 179 _ _ rfl _ _ rfl rfl q.o.2.2 ?_))
    refine aI (bd results192 _ _ (n+1) 179 _ (0,0) _ rfl O.o underlying179 rfl q.o.1) rfl ⟨?_,F.o ▸ f.o.setCell (p:=iu (n+1) 0) (by show n<=n+1;omega) _⟩;rw[double,ah (by rw[<-hc.o];omega),<-x.o,<-d.o]
def rN:Nat->Nat->Nat->iz->iz
 | 0,_,_,l=>l
 | f+1,i,n,l=>if n=0 then l else rN f (i+1) (n / 256) (l.set i (byte (n % 256)))
def number (n:Nat):iz:=rN 16 0 n (List.replicate 16 0)
theorem EZ {f i:Nat}{l:iz}:rN f i 0 l=l:=by cases f<;>simp[rN]
theorem E0 {f:Nat}:∀ {i n:Nat}{l:iz},(rN f i n l).length=l.length:=by
 induction f with
 | zero=>intro i n l;rfl
 | succ f ih=>
  intro i n l;rw[rN];split
  ·rfl
  ·exact ih.trans bg
theorem wv {n:Nat}:(number n).length=16:=E0.trans aK
theorem E1 (x:Nat) (hx:x<=9223372036854775807) (w:World):
  Calls prog 191 #[iw x] w λe w'=>e=.returned (.agg (aQ (number x)).toArray)/\Below w.heap.size w w':=by
 obtain⟨n,k⟩:=Ex w.heap.size;have u:=LH k
 have H1:ke (w.alloc (.cells #[iy 0,iy 0,iy 0,iy 0,iy 0,iy 0,iy 0,iy 0,iy 0,iy 0,iy 0,iy 0,iy 0,iy 0,iy 0,iy 0] 179)) n 179 (List.replicate 16 0):=by rw[k];exact aj w _
 have hb:Below n w (w.alloc (.cells #[iy 0,iy 0,iy 0,iy 0,iy 0,iy 0,iy 0,iy 0,iy 0,iy 0,iy 0,iy 0,iy 0,iy 0,iy 0,iy 0] 179)):=(ag _ _).alloc (cJ k) _;have hs:n<(w.alloc (.cells #[iy 0,iy 0,iy 0,iy 0,iy 0,iy 0,iy 0,iy 0,iy 0,iy 0,iy 0,iy 0,iy 0,iy 0,iy 0,iy 0] 179)).heap.size:=by simp[k]
 revert H1 hb hs;refine H3 ?_;intro H1 hb hs;clear k;go_enter func191,ntmps191;go_wp2;rw[<-u.o]
 go_loopw [0,3] (λy i wr=>∃ f t N:Nat,∃ l:iz,f+t=16/\N<256 ^ f/\N<=9223372036854775807/\l.length=16/\y=iw N/\i=iw t/\Below n w wr/\n<wr.heap.size/\Hd (ke wr n 179 l)/\Hd (rN f t N l=number x))
  (λy _ _=>(intOf y).toNat)
 case atStart=>exact⟨16,0,x,List.replicate 16 0,rfl,by omega,hx,aK,rfl,rfl,hb.o,hs.o,H1.o,rfl⟩
 case round=>
  clear H1 hb hs;obtain⟨f,i,N,l,A,m,z,q,rfl,rfl,b,s,H1,hm⟩:=hrel;replace b:=LH b;by_cases B:0<N
  ·have step:∃ c,f=c+1/\N / 256<256 ^ c/\rN c (i+1) (N / 256) (l.set i (byte (N % 256)))=number x:=by
    cases f with
    | zero=>simp at m;omega
    | succ c=>refine⟨c,rfl,by rw[dK] at m;omega,?_⟩;have h:=hm.o;rw[rN,ah om] at h;exact h
   obtain⟨c,rfl,d,j⟩:=step;replace d:=LH d;replace j:=LH j;clear m hm;have f0:=H1.o.frozen i;have c0:=H1.o.cell i om;have a:=H1.o.set i (byte (N % 256));rw[lM om] at a;replace a:=LH a;have v:i<16:=om;go_wp2;go_roundw
   case rel=>
    refine⟨c,i+1,N / 256,l.set i (byte (N % 256)),by omega,d.o,by omega,by rw[bg];exact q,by simp,by go_num,b.o.setCell (p:=iu n i) (ae n) _,by simpa using s,?_,j.o⟩;have h:=a.o;show ke _ _ _ _
    simpa using h
   case measure=>simp[intOf];omega
  ·obtain rfl:N=0:=om;have g:l=number x:=by have h:=hm.o;rw[EZ] at h;exact h
   replace g:=LH g;clear hm m
   have r:=LH (show (prog.info? 179).map (·.size)=some (aQ l).toArray.size/\(Instr.loadAt 179 (iq n)).run prog wr=.ok (.agg (aQ l).toArray) wr/\(Instr.storeAt 179 (iq n) (.agg (aQ l).toArray)).run prog wr=.ok () wr from
    ⟨by rw[kV q];simp[km],mY H1.o underlying179 (kV q),sj H1.o (kV q)⟩)
   go_wp2_with (first|(refine kQ rfl 179 _ rfl _ _ rfl r.o.2.1 ?_)|(refine kI rfl 179 _ _ rfl _ _ rfl rfl r.o.2.2 ?_))
   refine aI (bd results191 _ _ n 179 _ (0,0) _ rfl H1.o underlying179 rfl r.o.1) rfl ⟨by rw[g.o],u.o ▸ b.o⟩
def sS (R:iz) (i:Nat) (o:iz):Nat->iz
 | 0=>o
 | k+1=>(sS R i o k).set (i / 4*4+(i+k) % 4) (byte (((sS R i o k).getD (i / 4*4+(i+k) % 4) 0).toNat ^^^ (R.getD k 0).toNat))
theorem Ag {R:iz}{i:Nat}{o:iz}{k:Nat}:(sS R i o k).length=o.length:=by
 induction k with
 | zero=>rfl
 | succ k ih=>exact bg.trans ih
def nT (M:Nat->iz) (b:iz):Nat->iz
 | 0=>List.replicate 16 0
 | i+1=>sS (M (b.getD i 0).toNat) i (nT M b i) 4
theorem sU {M:Nat->iz}{b:iz}{i:Nat}:(nT M b i).length=16:=by
 induction i with
 | zero=>exact aK
 | succ i ih=>exact Ag.trans ih
theorem Ah (M:Nat->iz) (hM4:∀ a,(M a).length=4) (b:iz) (hb:b.length=16) (tb off:Nat) (w:World) (ht:tb<w.heap.size)
  (hM:∀ a,a<256->∀ j,j<4->w.cell? (iu tb (off+a*4+j))=some (iy ((M a).getD j 0).toNat)):
  Calls prog 183 #[.agg (aQ b).toArray,.pointer (some (iu tb off))] w λe w'=>e=.returned (.agg (aQ (nT M b 16)).toArray)/\Below w.heap.size w w':=by
 obtain⟨n,hn⟩:=Ex w.heap.size;have HN:=LH hn;have h:=LH (wk w 179 b (List.replicate 16 0));have a6:=LH (kV hb);rw[<-hn] at ht;clear hn;obtain⟨V,x⟩:=Ex ((aQ b).toArray);rw[<-x] at h ⊢;have hz:(aQ (List.replicate 16 0)).toArray=#[iy 0,iy 0,iy 0,iy 0,iy 0,iy 0,iy 0,iy 0,iy 0,iy 0,iy 0,iy 0,iy 0,iy 0,iy 0,iy 0]:=rfl;rw[hz] at h;clear hz;have t:(prog.info? 179).map (·.size)=some V.size:=by rw[a6.o,x];simp[km]
 have s:∀ k,k<16->V[k]?=some (iy (b.getD k 0).toNat):=λk hk=>by rw[x];exact tQ b k om
 have l:∀ wr,Below n w wr->∀ a,a<256->(Instr.loadAt 296 (.pointer (some (iu tb (off+a*4))))).run prog wr=.ok (.agg (aQ (M a)).toArray) wr:=by intro wr c a ha;refine wj underlying296 (yi (hM4 a)) (λj y=>?_);rw[hM4] at y;rw[az (w:=w) (c.block tb ht)];exact hM a ha j y
 refine G6 l hM hM4 x t s ?_;clear l hM hM4 x t s;intro l hM hM4 x t s;go_enter func183,ntmps183
 go_wp2_with (refine eR rfl 179 _ rfl _ rfl 179 V (0,0) _ (fq h.o.1 (by rw[x.o])) underlying179 rfl t.o ?_)
 obtain⟨w2,U⟩:=Ex ((w.alloc (.cells V 179)).alloc (.cells #[iy 0,iy 0,iy 0,iy 0,iy 0,iy 0,iy 0,iy 0,iy 0,iy 0,iy 0,iy 0,iy 0,iy 0,iy 0,iy 0] 179));rw[<-U] at h ⊢;rw[<-HN.o] at h ⊢;clear U
 go_loopw [10] (λi wr=>∃ k:Nat,k<=16/\i=iw k/\Below n w wr/\n+1<wr.heap.size/\Hd (ke wr (n+1) 179 (nT M b k)))
  (λi _=>16 - (intOf i).toNat)
 case atStart=>exact⟨0,by omega,rfl,h.o.2.2.1,by have:=h.o.2.2.2;omega,h.o.2.1⟩
 case round=>
  clear h;obtain⟨k,hk,rfl,c,g,H1⟩:=hrel;by_cases Q:k<16
  ·have d:=s.o k Q;have T:=λw=>tR (P:=prog) (k:=.i64) (j:=k) (v:=iy (b.getD k 0).toNat) underlying179 kr kr kr Q d w
   obtain⟨B,A⟩:=Ex ((b.getD k 0).toNat);rw[<-A] at T d;have Y:B<256:=A ▸ aP _;have z:=LH (l.o wr c B Y);obtain⟨R,F⟩:=Ex (M B);rw[<-F] at z;have r:R.length=4:=F ▸ hM4.o B;refine G4 A F r c ?_;clear A F r c;intro A F r c;clear d
   go_wp2_with (refine kQ rfl 296 _ rfl _ _ rfl z.o ?_)
   go_loopw [19] (λi wr=>∃ m:Nat,m<=4/\i=iw m/\Below n w wr/\n+1<wr.heap.size/\Hd (ke wr (n+1) 179 (sS R k (nT M b k) m)))
    (λi _=>4 - (intOf i).toNat)
   case atStart=>exact⟨0,by omega,rfl,c.o,g,H1.o⟩
   case round=>
    clear H1 g c z;obtain⟨m,hm,rfl,c,g,H1⟩:=hrel;replace c:=LH c;by_cases O:m<4
    ·have d:=tQ R m (by rw[r.o];exact O);have a1:=λw=>tR (P:=prog) (k:=.i64) (j:=m) (v:=iy (R.getD m 0).toNat) underlying296 kr kr kr O d w
     obtain⟨C,hC⟩:=Ex ((R.getD m 0).toNat);rw[<-hC] at a1 d;have G:C<256:=hC ▸ aP _;obtain⟨q,X⟩:=Ex (k / 4);obtain⟨j,y⟩:=Ex ((k+m) % 4);obtain⟨I,W⟩:=Ex (q*4+j);have J:I<16:=om;have hd:(k:Int) / 4=q:=om;have a7:((k:Int)+m) % 4=j:=om;have a8:(q:Int)*4+j=I:=om;have ad:q<4:=om;have aa:j<4:=om;have f0:=H1.o.frozen I;have c0:=H1.o.cell I (by rw[Ag,sU];exact J);obtain⟨D,E⟩:=Ex (((sS R k (nT M b k) m).getD I 0).toNat);rw[<-E] at c0;have H:D<256:=E ▸ aP _;have hx:=dx D C H G;have f:=H1.o.set I (byte (D ^^^ C));rw[lM (l9 H G)] at f;have HS:=LH f;clear f d;refine G5 X y W hC E ?_;clear X y W hC E;intro X y W hC E;go_wp2;go_roundw
     case rel=>refine⟨m+1,by omega,by go_num,c.o.setCell (p:=iu (n+1) I) (by show n<=n+1;omega) _,by simpa using g,?_⟩;show ke _ _ _ _;rw[sS,<-X.o,<-y.o,<-W.o,<-hC.o,<-E.o];exact HS.o
     case measure=>simp[intOf];omega
    ·have S:m=4:=om;rw[S] at H1;clear S;go_wp2;go_roundw
     case rel=>refine⟨k+1,by omega,by go_num,c.o,g,?_⟩;show ke _ _ _ _;rw[nT,<-A.o,<-F.o];exact H1.o
     case measure=>simp[intOf];omega
  ·have N:k=16:=om;rw[N] at H1;clear N;obtain⟨L,K⟩:=Ex (nT M b 16);rw[<-K] at H1;have u:L.length=16:=K ▸ sU;replace K:=LH K;replace c:=LH c
   have Z:=LH (show (prog.info? 179).map (·.size)=some (aQ L).toArray.size/\(Instr.loadAt 179 (iq (n+1))).run prog wr=.ok (.agg (aQ L).toArray) wr/\(Instr.storeAt 179 (iq (n+1)) (.agg (aQ L).toArray)).run prog wr=.ok () wr from
    ⟨by rw[kV u];simp[km],mY H1.o underlying179 (kV u),sj H1.o (kV u)⟩)
   go_wp2_with (first|(refine kQ rfl 179 _ rfl _ _ rfl Z.o.2.1 ?_)|(refine kI rfl 179 _ _ rfl _ _ rfl rfl Z.o.2.2 ?_))
   refine aI (bd results183 _ _ (n+1) 179 _ (0,0) _ rfl H1.o underlying179 rfl Z.o.1) rfl ⟨by rw[K.o],HN.o ▸ c.o⟩
def sV (o b:iz):Nat->iz
 | 0=>o
 | k+1=>(sV o b k).set k (byte (((sV o b k).getD k 0).toNat ^^^ (b.getD k 0).toNat))
theorem Ai {o b:iz}{k:Nat}:(sV o b k).length=o.length:=by
 induction k with
 | zero=>rfl
 | succ k ih=>exact bg.trans ih
def qY (L:Nat->iz):Nat->iz
 | 0=>List.replicate 16 0
 | m+1=>sV (qY L m) (L m) 16
theorem yl {L:Nat->iz}{m:Nat}:(qY L m).length=16:=by
 induction m with
 | zero=>exact aK
 | succ m ih=>exact Ai.trans ih
theorem Aj {l x:iz}(h:l.length=x.length):splice l 0 x=x:=by simp only[splice,dX,bE];rw[eV om,dm]
theorem Ak (w:World) (b:iz) (hb:b.length=16):∃ w',(Instr.storeAt 179 (iq w.heap.size) (.agg (aQ b).toArray)).run prog (w.alloc (.cells #[iy 0,iy 0,iy 0,iy 0,iy 0,iy 0,iy 0,iy 0,iy 0,iy 0,iy 0,iy 0,iy 0,iy 0,iy 0,iy 0] 179))=.ok () w'/\
  ke w' w.heap.size 179 b/\Below w.heap.size w w'/\w'.heap.size=w.heap.size+1:=by
 have H1:ke (w.alloc (.cells #[iy 0,iy 0,iy 0,iy 0,iy 0,iy 0,iy 0,iy 0,iy 0,iy 0,iy 0,iy 0,iy 0,iy 0,iy 0,iy 0] 179)) w.heap.size 179 (List.replicate 16 0):=aj w _;have a:=rK (P:=prog) (off:=0) (x:=b) H1 (kV hb) (by rw[hb,aK];omega);rw[Aj (by rw[hb,aK])] at a;exact⟨_,a,H1.setRow b,below_setRow ((ag _ _).alloc (ae _) _) (ae _) _,by simp⟩
theorem E4 (L:Nat->iz) (hL:∀ m,(L m).length=16) (g off cnt cap:Nat) (hcnt:cnt<=1000) (w:World) (hg:g<w.heap.size)
  (hc:∀ m,m<cnt->∀ j,j<16->w.cell? (iu g (off+m*16+j))=some (iy ((L m).getD j 0).toNat)):
  Calls prog 180 #[.slice (some (iu g off)) cnt cap] w λe w'=>e=.returned (.agg (aQ (qY L cnt)).toArray)/\Below w.heap.size w w':=by
 obtain⟨n,y⟩:=Ex w.heap.size;have Y:=LH y;rw[<-y] at hg
 have H1:ke (w.alloc (.cells #[iy 0,iy 0,iy 0,iy 0,iy 0,iy 0,iy 0,iy 0,iy 0,iy 0,iy 0,iy 0,iy 0,iy 0,iy 0,iy 0] 179)) n 179 (List.replicate 16 0):=by rw[y];exact aj w _
 have hb:Below n w (w.alloc (.cells #[iy 0,iy 0,iy 0,iy 0,iy 0,iy 0,iy 0,iy 0,iy 0,iy 0,iy 0,iy 0,iy 0,iy 0,iy 0,iy 0] 179)):=(ag _ _).alloc (cJ y) _;have hs:n<(w.alloc (.cells #[iy 0,iy 0,iy 0,iy 0,iy 0,iy 0,iy 0,iy 0,iy 0,iy 0,iy 0,iy 0,iy 0,iy 0,iy 0,iy 0] 179)).heap.size:=by simp[y]
 have u:∀ wr,Below n w wr->∀ m,m<cnt->(Instr.loadAt 179 (.pointer (some (iu g (off+m*16))))).run prog wr=.ok (.agg (aQ (L m)).toArray) wr:=by intro wr a m hm;refine wj underlying179 (kV (hL m)) (λj Z=>?_);rw[hL] at Z;rw[az (w:=w) (a.block g hg)];exact hc m hm j Z
 revert hL H1 hb hs u;refine H5 ?_;intro hL H1 hb hs u;clear y hc;go_enter func180,ntmps180;go_wp2;rw[<-Y.o]
 go_loopw [9] (λi wr=>∃ m:Nat,m<=cnt/\i=iw m/\Below n w wr/\n<wr.heap.size/\Hd (ke wr n 179 (qY L m)))
  (λi _=>cnt - (intOf i).toNat)
 case atStart=>exact⟨0,by omega,rfl,hb.o,hs.o,H1.o⟩
 case round=>
  clear H1 hb hs;obtain⟨m,hm,rfl,a,f,H1⟩:=hrel;by_cases T:m<cnt
  ·have l:=LH (u.o wr a m T);obtain⟨B,E⟩:=Ex (L m);rw[<-E] at l;have F:B.length=16:=E ▸ hL.o m;obtain⟨V,K⟩:=Ex ((aQ B).toArray);rw[<-K] at l;have r:∀ k,k<16->V[k]?=some (iy (B.getD k 0).toNat):=λk hk=>by rw[K];exact tQ B k om
   obtain⟨X,d,h,s,W⟩:=Ak wr B F;have b:=mY (P:=prog) h underlying179 (kV F);rw[<-K] at d b;have A:Hd (ke X n 179 (qY L m)):=H1.o.dB (s.block n f);have M:=LH (show Below n w X from a.trans (s.mono om));have Q:=LH (show n<X.heap.size by omega);revert E K r d h b;refine H6 ?_;intro E K r d h b;clear a s W f H1
   go_wp2_with (first|(refine kQ rfl 179 _ rfl _ _ rfl l.o ?_)|(refine kI rfl 179 _ _ rfl _ _ rfl rfl d.o ?_)|(refine kQ rfl 179 _ rfl _ _ rfl b.o ?_))
   clear d l b h;generalize wr.heap.size=z
   go_loopw [14] (λi wr=>∃ k:Nat,k<=16/\i=iw k/\Below n w wr/\n<wr.heap.size/\Hd (ke wr n 179 (sV (qY L m) B k)))
    (λi _=>16 - (intOf i).toNat)
   case atStart=>exact⟨0,by omega,rfl,M.o,Q.o,A.o⟩
   case round=>
    clear A M Q;obtain⟨k,hk,rfl,a,f,H1⟩:=hrel;replace a:=LH a;by_cases x:k<16
    ·have t:=r.o k x;have U:=λw=>tR (P:=prog) (k:=.i64) (j:=k) (v:=iy (B.getD k 0).toNat) underlying179 kr kr kr x t w
     obtain⟨C,hC⟩:=Ex ((B.getD k 0).toNat);rw[<-hC] at U t;have G:C<256:=hC ▸ aP _;have f0:=H1.o.frozen k;have c0:=H1.o.cell k (by rw[Ai,yl];exact x);obtain⟨D,H⟩:=Ex (((sV (qY L m) B k).getD k 0).toNat);rw[<-H] at c0;have I:D<256:=H ▸ aP _;have hx:=dx D C I G;have c:=H1.o.set k (byte (D ^^^ C));rw[lM (l9 I G)] at c;have HS:=LH c;clear c t;replace hC:=LH hC;replace H:=LH H;go_wp2;go_roundw
     case rel=>refine⟨k+1,by omega,by go_num,a.o.setCell (p:=iu n k) (ae n) _,by simpa using f,?_⟩;show ke _ _ _ _;rw[sV,<-hC.o,<-H.o];exact HS.o
     case measure=>simp[intOf];omega
    ·have N:k=16:=om;rw[N] at H1;clear N;go_wp2;go_roundw
     case rel=>refine⟨m+1,by omega,by go_num,a.o,f,?_⟩;show ke _ _ _ _;rw[qY,<-E.o];exact H1.o
     case measure=>simp[intOf];omega
  ·have O:m=cnt:=om;rw[O] at H1;clear O;obtain⟨R,J⟩:=Ex (qY L cnt);rw[<-J] at H1;have q:R.length=16:=J ▸ yl;replace J:=LH J;replace a:=LH a
   have S:=LH (show (prog.info? 179).map (·.size)=some (aQ R).toArray.size/\(Instr.loadAt 179 (iq n)).run prog wr=.ok (.agg (aQ R).toArray) wr/\(Instr.storeAt 179 (iq n) (.agg (aQ R).toArray)).run prog wr=.ok () wr from
    ⟨by rw[kV q];simp[km],mY H1.o underlying179 (kV q),sj H1.o (kV q)⟩)
   go_wp2_with (first|(refine kQ rfl 179 _ rfl _ _ rfl S.o.2.1 ?_)|(refine kI rfl 179 _ _ rfl _ _ rfl rfl S.o.2.2 ?_))
   refine aI (bd results180 _ _ n 179 _ (0,0) _ rfl H1.o underlying179 rfl S.o.1) rfl ⟨by rw[J.o],Y.o ▸ a.o⟩
variable {w:World}{tb:Nat}
theorem Al {F:Nat->Prop}{p:Nat}{kv:Value}(h:nB w F p tb kv ks) (h4:4<=ks.length):
  Calls prog 181 #[iq p] w λe w'=>e=.returned (iw (nD ks))/\w=w':=by
 have c:=h.mL;obtain⟨a,cap,rfl,f,g⟩:=h.keys.shape;have b:=cell_of h.box 1;clear h;have d:w.cell? (iu p 1)=some (.slice a ks.length cap):=b;clear b;go_enter func181,ntmps181;go_wp2;go_ret;exact⟨mI (by simp[nD];omega),rfl⟩
def oW (T:Nat->UInt8) (b:iz):Nat->iz
 | 0=>List.replicate 16 0
 | k+1=>(oW T b k).set k (T (b.getD ((k+4*(k % 4)) % 16) 0).toNat)
theorem wz {T:Nat->UInt8}{b:iz}{k:Nat}:(oW T b k).length=16:=by
 induction k with
 | zero=>exact aK
 | succ k ih=>exact bg.trans ih
def oX (mix:Nat->iz) (N t:Nat) (x:iz):iz:=if t<N then nT mix x 16 else x
theorem Am {mix:Nat->iz}{N t:Nat}{x:iz}(h:x.length=16):(oX mix N t x).length=16:=by
 unfold oX;split
 ·exact sU
 ·exact h
def oj (ks:List UInt32) (b:iz):Nat->iz
 | 0=>nK b ks 0 16
 | t+1=>nK (oX lN (nD ks) (t+1) (oW sb (oj ks b t) 16)) ks (t+1) 16
theorem vf {b:iz}(hb:b.length=16){t:Nat}:(oj ks b t).length=16:=by
 cases t with
 | zero=>exact qX.trans hb
 | succ t=>exact qX.trans (Am wz)
def nL (ks:List UInt32) (b:iz):iz:=oj ks b (nD ks)
theorem E5 (h:rL 256 l) (a:Nat) (ha:a<256):l.getD a 0=sb a:=by rw[h.2 a om,sP,ak ha]
theorem An (h:rL 256 l) (a:Nat) (ha:a<256):l.getD (256+a) 0=bk a:=by rw[h.2 _ om,sP,ah om,ak om,ek]
theorem E6 (h:rL 256 l) (a j:Nat) (ha:a<256) (hj:j<4):l.getD (512+a*4+j) 0=(lN a).getD j 0:=by rw[h.2 _ om,sP,ah om,ah om,ak om,ak om];have b:(512+a*4+j - 512) / 4=a:=om;have c:(512+a*4+j - 512) % 4=j:=om;rw[b,c]
theorem E7 (h:rL 256 l) (a j:Nat) (ha:a<256) (hj:j<4):l.getD (1536+a*4+j) 0=(nm a).getD j 0:=by rw[h.2 _ om,sP,ah om,ah om,ah om,ak om];have b:(1536+a*4+j - 1536) / 4=a:=om;have c:(1536+a*4+j - 1536) % 4=j:=om;rw[b,c]
theorem nn {g:Nat}{o:iz}(h:ke w g 179 o) (ho:o.length=16) (x:iz) (hx:x.length=16):
  (Instr.storeAt 179 (iq g) (.agg (aQ x).toArray)).run prog w=.ok () (w.setRow g (aQ x).toArray):=by
 have a:=rK (P:=prog) (off:=0) (x:=x) h (kV hx) om;rw[Aj om] at a;exact a
def mZ (w:World) (n:Nat) (X:iz) (x:World):Prop:=Below n w x/\n+1<x.heap.size/\ke x n 179 X/\ke x (n+1) 179 (List.replicate 16 0)
theorem mZ.after {n:Nat}{X:iz}{x y:World}(h:mZ w n X x) (hb:Below x.heap.size x y):mZ w n X y:=⟨h.1.trans (hb.mono (by have:=h.2.1;omega)),aH h.2.1 hb.size,h.2.2.1.dB (hb.block n (by have:=h.2.1;omega)),h.2.2.2.dB (hb.block (n+1) h.2.1)⟩
theorem mZ.put {n:Nat}{X:iz}{x:World}(h:mZ w n X x) (Y:iz):mZ w n Y (x.setRow n (aQ Y).toArray):=⟨below_setRow h.1 (ae n) _,by simpa using h.2.1,h.2.2.1.setRow Y,h.2.2.2.dB (aG _ _ _ _ om)⟩
theorem Ao {F:Nat->Prop}{p:Nat}{kv:Value}(h:nB w F p tb kv ks) (h4:8<=ks.length) (hk4:ks.length % 4=0) (b:iz) (hb:b.length=16):
  Calls prog 167 #[iq p,.agg (aQ b).toArray] w λe w'=>e=.returned (.agg (aQ (nL ks b)).toArray)/\Below w.heap.size w w':=by
 obtain⟨n,hn⟩:=Ex w.heap.size;have HN:=LH hn;have U:=LH (wk w 179 b (List.replicate 16 0));obtain⟨N,u⟩:=Ex (nD ks);have cf:1<=N:=by rw[u];unfold nD;omega
 have cg:4*N+4<=ks.length:=by rw[u];unfold nD;omega
 have cc:=h.mL;have O:∀ wr,Below n w wr->nB wr F p tb kv ks:=λwr bA=>h.dB bA.size (λg _ hl=>bA.block g (by rw[hn];exact hl))
 obtain⟨lt,Q,L⟩:=h.rM;have b7:=dC Q;have b5:=dC h.box;have bR:=cell_of h.box 0;have B:w.cell? (iu p 0)=some (iq tb):=bR;clear bR;rw[<-hn] at b7 b5;obtain⟨V,hV⟩:=Ex ((aQ b).toArray);rw[<-hV] at U ⊢;have hz:(aQ (List.replicate 16 0)).toArray=#[iy 0,iy 0,iy 0,iy 0,iy 0,iy 0,iy 0,iy 0,iy 0,iy 0,iy 0,iy 0,iy 0,iy 0,iy 0,iy 0]:=rfl;rw[hz] at U;clear hz;refine G7 h O Q L B hV u ?_;clear h O Q L B hV u;intro h O Q L B hV u;clear hn;have cu:=LH (show (List.replicate 16 (0:UInt8)).length=16 from aK);go_enter func167,ntmps167
 go_wp2_with fail
 obtain⟨w2,c6⟩:=Ex ((w.alloc (.cells V 179)).alloc (.cells #[iy 0,iy 0,iy 0,iy 0,iy 0,iy 0,iy 0,iy 0,iy 0,iy 0,iy 0,iy 0,iy 0,iy 0,iy 0,iy 0] 179));rw[<-c6] at U ⊢;rw[<-HN.o] at U ⊢;clear c6;have b4:=LH (O.o w2 U.o.2.2.1);refine (Al b4.o om).mono ?_;rintro e cA ⟨rfl,rfl⟩;rw[<-u.o];have v:=LH (mY (P:=prog) U.o.1 underlying179 (kV hb))
 go_wp2_with (refine kQ rfl 179 _ rfl _ _ rfl v.o ?_)
 have b8:mZ w n b w2:=⟨U.o.2.2.1,by have:=U.o.2.2.2;omega,U.o.1,U.o.2.1⟩;refine (ve b4.o b hb 0 om).mono ?_;rintro e l ⟨rfl,bz⟩;have m:=b8.after bz;obtain⟨X0,W⟩:=Ex (oj ks b 0);have bp:X0.length=16:=W ▸ vf hb;have bW:=LH (nn m.2.2.1 hb X0 bp);have ba:=LH (m.put X0);have bB:nK b ks 0 16=X0:=W.symm;rw[bB];replace W:=LH W;clear bB b8 m bz v b4 U
 go_wp2_with (refine kI rfl 179 _ _ rfl _ _ rfl rfl bW.o ?_)
 go_loopw [6] (λi wr=>∃ t:Nat,t<=N/\i=iw ((t+1:Nat):Int)/\Hd (mZ w n (oj ks b t) wr))
  (λi _=>N+1 - (intOf i).toNat)
 case atStart=>exact⟨0,by omega,rfl,W.o ▸ ba.o⟩
 case round=>
  clear ba bW;obtain⟨t,ht,rfl,d⟩:=hrel;obtain⟨s,hs⟩:=Ex (t+1);rw[<-hs];have cr:1<=s:=om;have ct:t<N↔s<=N:=om;replace hs:=LH hs;by_cases ck:s<=N
  ·obtain⟨X,hX⟩:=Ex (oj ks b t);rw[<-hX] at d;have ay:X.length=16:=hX ▸ vf hb;replace hX:=LH hX;obtain⟨z,E⟩:=Ex wr.heap.size;have m:mZ w n X (wr.alloc (.cells #[iy 0,iy 0,iy 0,iy 0,iy 0,iy 0,iy 0,iy 0,iy 0,iy 0,iy 0,iy 0,iy 0,iy 0,iy 0,iy 0] 179)):=d.o.after ((ag _ _).alloc (ae _) _)
   have a1:ke (wr.alloc (.cells #[iy 0,iy 0,iy 0,iy 0,iy 0,iy 0,iy 0,iy 0,iy 0,iy 0,iy 0,iy 0,iy 0,iy 0,iy 0,iy 0] 179)) z 179 (List.replicate 16 0):=by rw[E];exact aj wr _
   have D:z<(wr.alloc (.cells #[iy 0,iy 0,iy 0,iy 0,iy 0,iy 0,iy 0,iy 0,iy 0,iy 0,iy 0,iy 0,iy 0,iy 0,iy 0,iy 0] 179)).heap.size:=by simp[E]
   have cz:n+1<z:=by rw[E];exact d.o.2.1
   refine G4 E m a1 D ?_;clear E m a1 D;intro E m a1 D;clear d;go_wp2;rw[<-E.o]
   go_loopw [22] (λi wr=>∃ k:Nat,k<=16/\i=iw k/\Hd (mZ w n X wr)/\z<wr.heap.size/\Hd (ke wr z 179 (oW sb X k)))
    (λi _=>16 - (intOf i).toNat)
   case atStart=>exact⟨0,by omega,rfl,m.o,D.o,a1.o⟩
   case round=>
    clear m a1 D E;obtain⟨k,hk,rfl,d,b6,hZ⟩:=hrel;by_cases c9:k<16
    ·obtain⟨j,hj⟩:=Ex (k % 4);obtain⟨I,hI⟩:=Ex ((k+4*j) % 16);have cj:j<4:=om;have bl:I<16:=om;have hm:(k:Int) % 4=j:=om;have cl:(k:Int).tmod 4=j:=by rw[bZ om];exact hm
     have ca:((k:Int)+4*(j:Int)) % 16=I:=om;have cm:((k:Int)+4*(j:Int)).tmod 16=I:=by rw[bZ om];exact ca
     have cX:=d.o.2.2.1.cell I (by rw[ay];exact bl);obtain⟨x,hx⟩:=Ex ((X.getD I 0).toNat);rw[<-hx] at cX;have cb:x<256:=hx ▸ aP _;have cT:=Q.o.cell x (by rw[L.o.1];omega);rw[E5 L.o x cb,<-az (w:=w) (d.o.1.block tb b7)] at cT;have T:=B.o;rw[<-az (w:=w) (d.o.1.block p b5)] at T;obtain⟨Y,J⟩:=Ex ((sb x).toNat);rw[<-J] at cT;have c7:(I:Int)<16:=om;have cd:(x:Int)<256:=om;have c8:n<wr.heap.size:=om;have b3:p<wr.heap.size:=om;have aa:tb<wr.heap.size:=om;refine G7 cX cT T hj hI hx J ?_;clear cX cT T hj hI hx J;intro cX cT T hj hI hx J;have c:=Dr wr
     replace c:=LH c;go_wp2;refine RA.rt (aA No) [1,1,1,1,1,1,1,1,1,1,1,1,1,1,1,1,1,1,7] [18] (λ_=>True) trivial (λ_=>aA.refl _ _) (λ_ _ _ h k=>h.trans k) (h:=?_);intro cx
     repeat refine RA.qq ?_
     refine RA.fk prog p 0 (h:=?_);refine RA.lk prog (iq tb) (hc:=λl hp=>by exact ((c.o _ hp.1).cell (p:=iu p 0) b3 id).trans T.o) (h:=?_)
     repeat refine RA.qq ?_
     refine RA.vw prog (iw j) (h:=?_);refine RA.mi (r:=4*(j:Int)) (h:=?_);refine RA.ai (r:=(k:Int)+4*(j:Int)) (h:=?_);refine RA.vw prog (iw I) (h:=?_);refine RA.ik prog n I (h:=?_);refine RA.lk prog (iy x) (hc:=λl hp=>by exact ((c.o _ hp.1).cell (p:=iu n I) c8 id).trans cX.o) (h:=?_)
     repeat refine RA.qq ?_
     refine RA.fk prog tb 0 (h:=?_);refine RA.ik prog tb x (h:=?_);refine RA.lk prog (iy Y) (hc:=λl hp=>by exact ((c.o _ hp.1).cell (p:=iu tb x) aa id).trans cT.o) (h:=?_);refine RA.ik prog z k (h:=?_);refine RA.lr (λw4=>mZ w n X w4/\z<w4.heap.size/\ke w4 z 179 (oW sb X (k+1))) (hr:=λl hp _=>?_) (hn:=?_)
     ·have G:=c.o _ (hp.first kr).1;have q:=d.o.after (aA.no G);have M:=hZ.o.dB (G.block z b6 id);have f0:=M.frozen k;have c0:=M.cell k (by rw[wz];exact c9);have af:=M.set k (sb x);rw[<-J.o] at af;have e:(Instr.storeAt 5 (.pointer (some (iu z k))) (iy Y)).run prog l=.ok () (l.setCell (iu z k) (iy Y)):=by go_simp
      refine⟨_,RA.kL rf rf e,⟨q.1.setCell (p:=iu z k) (by show n<=z;omega) _,by simpa using q.2.1,q.2.2.1.dB (kD _ _ _ (by simp;omega)),q.2.2.2.dB (kD _ _ _ (by simp;omega))⟩,?_,?_⟩
      ·have:=G.size;simp;omega
      ·rw[oW,<-hj.o,<-hI.o,<-hx.o];exact af
     refine RA.RA.kZ (λl hH=>?_);simp only[RA.RP,cx];replace hH:=LH hH;go_wp2;go_roundw
     case rel=>exact⟨k+1,by omega,by go_num,hH.o.1,hH.o.2.1,hH.o.2.2⟩
     case measure=>simp[intOf];omega
    ·have bD:k=16:=om;rw[bD] at hZ;clear bD;have y:(oW sb X 16).length=16:=wz;obtain⟨S,hS⟩:=Ex (oW sb X 16);rw[<-hS] at hZ y;replace hS:=LH hS;by_cases ad:s<N
     ·have v:=λ(l:World) (h:ke l z 179 S)=>mY (P:=prog) h underlying179 (kV y)
      replace v:=LH v;have T:=B.o;rw[<-az (w:=w) (d.o.1.block p b5)] at T;have b3:p<wr.heap.size:=by have:=d.o.2.1;omega
      have aa:tb<wr.heap.size:=by have:=d.o.2.1;omega
      have c:=Dr wr
      have A:∀ l,aA No wr l->Calls prog 183 #[.agg (aQ S).toArray,.pointer (some (iu tb 512))] l λe w'=>e=.returned (.agg (aQ (nT lN S 16)).toArray)/\Below l.heap.size l w':=by intro l G;refine Ah lN (λ_=>rfl) S y tb 512 l (aH aa G.size) (λa ha j hj=>?_);rw[G.cell (p:=iu tb (512+a*4+j)) aa id,az (w:=w) (d.o.1.block tb b7),Q.o.cell _ (by rw[L.o.1];omega),E6 L.o a j ha hj]
      refine G4 A T c y ?_;clear A T c y;intro A T c y;go_wp2;refine RA.rt (aA No) [1,1,1,1,1,1,1,4,7] [8] (λ_=>True) trivial (λ_=>aA.refl _ _) (λ_ _ _ h k=>h.trans k) (h:=?_);intro cx;refine RA.ld (y':=.agg (aQ S).toArray) (hr:=λl hp=>v.o l (hZ.o.dB ((c.o _ hp.1).block z b6 id))) (h:=?_)
      repeat refine RA.qq ?_
      refine RA.fk prog p 0 (h:=?_);refine RA.lk prog (iq tb) (hc:=λl hp=>by exact ((c.o _ hp.1).cell (p:=iu p 0) b3 id).trans T.o) (h:=?_)
      repeat refine RA.qq ?_
      refine RA.fk prog tb 512 (h:=?_);refine RA.kc (P:=prog) [_,_] (.agg (aQ (nT lN S 16)).toArray) (hr:=λl hp hH=>(A.o l (c.o _ hp.1)).mono (by rintro e w4 ⟨rfl,h2⟩;exact⟨rfl,aA.dD h2 _,trivial⟩)) (hn:=?_);refine RA.lr (λw4=>mZ w n X w4/\z<w4.heap.size/\ke w4 z 179 (nT lN S 16)) (hr:=λl hp _=>?_) (hn:=?_)
      ·have G:=c.o _ (hp.first kr).1;have q:=d.o.after (aA.no G);have M:=hZ.o.dB (G.block z b6 id);refine⟨_,RA.kL rf rf (nn M y.o _ sU),⟨below_setRow q.1 om _,by simpa using q.2.1,q.2.2.1.dB (aG _ _ _ _ om),q.2.2.2.dB (aG _ _ _ _ om)⟩,?_,M.setRow _⟩;have:=G.size;simp;omega
      refine RA.RA.kZ (λw4 hH=>?_);simp only[RA.RP,cx];clear d hZ;have d:=LH hH.1;have hZ:=LH hH.2.2;clear hH v A T;obtain⟨Y,J⟩:=Ex (nT lN S 16);rw[<-J] at hZ;have K:=LH (show Y.length=16 from J ▸ sU);have b2:=LH (show Y=oX lN N s (oW sb X 16) by rw[oX,ak ad,J,hS.o]);clear J;have a8:=LH (mY (P:=prog) hZ.o underlying179 (kV K.o));have a7:=LH (O.o w4 d.o.1)
      go_wp2_with (first|(refine kQ rfl 179 _ rfl _ _ rfl a8.o ?_)|(go_at_call 182;fail))
      refine (ve a7.o Y K.o s om).mono ?_;rintro e w5 ⟨rfl,a6⟩;have H:=d.o.after a6;obtain⟨X2,f⟩:=Ex (nK Y ks s 16);rw[<-f];have Z:X2.length=16:=f ▸ qX.trans K.o;have C:=LH (nn H.2.2.1 ay X2 Z);have an:=LH (H.put X2);replace f:=LH f;clear H a6 a7 a8
      go_wp2_with (refine kI rfl 179 _ _ rfl _ _ rfl rfl C.o ?_)
      go_roundw
      case rel=>
       refine⟨t+1,by omega,by have:=hs.o;go_num,?_⟩;show mZ _ _ _ _;have e:oj ks b (t+1)=X2:=by rw[oj,<-hX.o,<-u.o,<-hs.o,<-b2.o,f.o]
       rw[e];exact an.o
      case measure=>have:=hs.o;simp[intOf];omega
     ·obtain⟨Y,J⟩:=Ex S;rw[<-J] at hZ;have K:=LH (show Y.length=16 from J ▸ y);have b2:=LH (show Y=oX lN N s (oW sb X 16) by rw[oX,ah ad,J,hS.o]);clear J;have a8:=LH (mY (P:=prog) hZ.o underlying179 (kV K.o));have a7:=LH (O.o wr d.o.1)
      go_wp2_with (first|(refine kQ rfl 179 _ rfl _ _ rfl a8.o ?_)|(go_at_call 182;fail))
      refine (ve a7.o Y K.o s om).mono ?_;rintro e w5 ⟨rfl,a6⟩;have H:=d.o.after a6;obtain⟨X2,f⟩:=Ex (nK Y ks s 16);rw[<-f];have Z:X2.length=16:=f ▸ qX.trans K.o;have C:=LH (nn H.2.2.1 ay X2 Z);have an:=LH (H.put X2);replace f:=LH f;clear H a6 a7 a8
      go_wp2_with (refine kI rfl 179 _ _ rfl _ _ rfl rfl C.o ?_)
      go_roundw
      case rel=>
       refine⟨t+1,by omega,by have:=hs.o;go_num,?_⟩;show mZ _ _ _ _;have e:oj ks b (t+1)=X2:=by rw[oj,<-hX.o,<-u.o,<-hs.o,<-b2.o,f.o]
       rw[e];exact an.o
      case measure=>have:=hs.o;simp[intOf];omega
  ·have ad:s=N+1:=by have:=hs.o;omega
   have c5:t=N:=by have:=hs.o;omega
   rw[c5] at d;clear c5 ad;obtain⟨R,G⟩:=Ex (oj ks b N);rw[<-G] at d;have ax:R.length=16:=G ▸ vf hb;replace G:=LH G;have v:=LH (mY (P:=prog) d.o.2.2.1 underlying179 (kV ax));have C:=LH (nn d.o.2.2.2 aK R ax);have bC:=LH (d.o.2.2.2.setRow R);have hi:=LH (kV ax)
   go_wp2_with (first|(refine kQ rfl 179 _ rfl _ _ rfl v.o ?_)|(refine kI rfl 179 _ _ rfl _ _ rfl rfl C.o ?_))
   refine aI (bd results167 _ _ (n+1) 179 _ (0,0) _ rfl bC.o underlying179 rfl (by rw[hi.o];simp[km])) rfl ⟨by rw[nL,<-u.o,<-G.o],HN.o ▸ below_setRow d.o.1 om _⟩
def mB (x k:Nat):Nat:=(x*2 ^ k % 4294967296) ||| (x / 2 ^ (32 - k))
theorem qf {x k:Nat}(hx:x<4294967296):mB x k<4294967296:=fp (n:=32) om (cQ (ey _ _) hx)
theorem qg (x k:Nat) (z:Int) (hx:x<4294967296) (hk:k<32) (hz:z=k\/z=(k:Int) - 32/\0<k) (w:World):Calls prog 199 #[.int .u32 x,iw z] w λe w'=>e=.returned (.int .u32 (mB x k))/\w=w':=by
 have h1:bits .and .u64 (IntKind.u64.wrap z) 31=(k:Int):=by
  rcases hz with rfl|⟨rfl,hk0⟩
  ·have h:=fX k 31 om om;rw[nat_mask5,Nat.mod_eq_of_lt hk] at h;rw[ft,Int.emod_eq_of_lt om om];exact h
  ·have h:=fX (18446744073709551616 - 32+k) 31 om om;rw[nat_mask5,show (18446744073709551616 - 32+k) % 32=k by omega] at h;have e:IntKind.u64.wrap ((k:Int) - 32)=((18446744073709551616 - 32+k:Nat):Int):=by rw[ft];omega
   rw[e];exact h
 have b:=di (x*2 ^ k % 4294967296) (x / 2 ^ (32 - k)) om (cQ (ey _ _) hx);replace b:=LH b
 have key:∀ Z:Int,Z=z->Calls prog 199 #[.int .u32 x,iw Z] w λe w'=>e=.returned (.int .u32 (mB x k))/\w=w':=by
  intro Z c;rw[<-c] at h1;rcases hz with hz|⟨hz,hk0⟩
  ·rw[hz] at c;subst c;have h1:bits .and .u64 (k:Int) 31=(k:Int):=by rw[ft,Int.emod_eq_of_lt om om] at h1;exact h1
   go_enter func199,ntmps199;go_wp2;go_ret;refine⟨mI ?_,rfl⟩;have h:=b.o;simp only[eP,d9,Int.natCast_pow,fY,Int.cast_ofNat_Int] at h;exact h
  ·have a:Z=(k:Int) - 32:=om;clear c hz;have f:-32<Z/\Z<0:=om;have e:IntKind.u64.wrap Z=Z % 18446744073709551616:=by rw[ft]
   have d:bits .and .u64 (Z % 18446744073709551616) 31=(k:Int):=by rw[<-e];exact h1
   have g:bits .and .u64 (Z+18446744073709551616) 31=(k:Int):=by rw[show Z+18446744073709551616=Z % 18446744073709551616 by omega];exact d
   clear e;replace a:=LH a;go_enter func199,ntmps199;go_wp2;go_ret;refine⟨mI ?_,rfl⟩;have h:=b.o;simp only[eP,d9,Int.natCast_pow,fY,Int.cast_ofNat_Int] at h;exact h
 exact key z rfl
end Go.Proofs.YthmcbgidehjlbaaGreat.Fd
namespace Go.Proofs.YthmcbgidehjlbaaGreat.K
open Go Go.RowKit
section
variable {P:Program}
theorem tS {n:Nat}{e t:TypeId}{z:Value}{bytes sz:Nat}(ht:P.underlying t=some (.slice e)) (hi:(P.info? e).map (λi=>(i.zero,i.size,i.bytes))=some (some z,sz,bytes)) (hz:z.cells.size=sz) (hs:0<sz)
  {x w3:World}{kv:Value}{m:Nat}{vs:List Value}(ho:x.ownsRow n e sz kv m vs) (hn:n<=x.heap.size) (hR:aA No x w3){S:Nat->Prop}{u:Value}{k:Nat}{news:List Value}(hu:Cells w3 S u k sz news)
  (h1:∀ v ∈ news,v.oneCell'=true) (hm:m+k<=maxLen) (hb:(m+k)*bytes<=140737488355328) (ty:TypeId):
  ∃ v' w4,(Builtin.append_ #[t,t] ty #[kv,u]).run P w3=.ok v' w4/\w4.ownsRow n e sz v' (m+k) (vs++news)/\aA (λg=>kv.ownBlock=some g) x w4/\(v'.ownBlock=kv.ownBlock\/∃ g,v'.ownBlock=some g/\x.heap.size<=g):=by
 obtain⟨i,a,b,c,d⟩:=cw hi;have f:=dE ho (λg hg=>hR.block g (ho.lt g hg).2 id);obtain⟨v',w4,hr,j,l,_,o⟩:=tH (P:=P) w3 n t ty e i z sz bytes ht a b c d hz hs kv m vs f S u k news hu h1 hm hb (am hn hR.size);refine⟨v',w4,hr,j,(hR.mono (λ_ _ h=>h.elim)).grown l (λ_ h _=>h),?_⟩;rcases o with e|⟨g,e,hg⟩
 ·exact .inl e
 ·exact .inr ⟨g,e,am hR.size hg⟩
theorem kz {w:World}{n:Nat}{e:TypeId}{sz:Nat}{v:Value}{m:Nat}{xs:List Value}(h:w.ownsRow n e sz v m xs) (hm:0<m):∃ g cp,v=ir g m cp/\m<=cp/\cp<=maxLen:=by
 rcases h.2 with ⟨_,a⟩|⟨g,cp,cur,a,_,_,h1,b,_⟩
 ·omega
 ·exact⟨g,cp,a,h1,b⟩
theorem mC (w:World) (vs:Array Value) (T:TypeId) (k sz:Nat) (hk:vs.size=k*sz) (hl:k<=maxLen):
  Cells (w.alloc (.cells vs T)) (λ_=>True) (ir w.heap.size k k) k sz vs.toList:=
 (Cells.own (ch (base:=0) (e:=T) (size:=sz) w vs k (aW _) hl hk)).mono (λ_ _ _=>trivial)
end
end Go.Proofs.YthmcbgidehjlbaaGreat.K

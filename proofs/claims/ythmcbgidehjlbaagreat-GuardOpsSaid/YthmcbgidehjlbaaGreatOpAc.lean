/-
 Parts of the proof. No condition beyond what each theorem names.
-/
import Derived.ChangeKeysEq
import Derived.Laws.BitsAllLaws
import Derived.Laws.Rows
import Derived.Test.YthmcbgidehjlbaaGreatRows
import Derived.Test.YthmcbgidehjlbaaGreatOpAa
import Derived.Test.YthmcbgidehjlbaaGreatOpAb
set_option maxHeartbeats 8000000
set_option maxRecDepth 100000
namespace Go.Proofs.YthmcbgidehjlbaaGreat.Fd
open _root_.Go.Proofs.Tryz
open Go Go.RowKit K
variable {a:Nat}
theorem mq {b:Nat}(ha:a<256) (hb:b<256):a ^^^ b<256:=gL (n:=8) ha hb
def kM (a:Nat):Nat:=if a &&& 128=0 then a*2 % 256 else (a*2 % 256) ^^^ 27
theorem ox {a:Nat}:kM a<256:=by
 unfold kM;split
 ·omega
 ·exact mq om om
theorem xT (a:Nat) (ha:a<256) (w:World):Calls prog 206 #[iy a] w λe w'=>e=.returned (iy (kM a))/\w=w':=by
 have hb:=LH (fV a 128 ha om);have b:=LH (dx (a*2 % 256) 27 om om);go_enter func206,ntmps206;go_wp2
 ·rename_i h;go_ret;refine⟨mI ?_,rfl⟩;have hb:=hb.o;have b:=b.o;simp only[eP,d9,Int.cast_ofNat_Int] at hb b;rw[hb] at h;rw[b,kM,ah (by intro c;rw[c] at h;simp at h)]
 ·rename_i h;go_ret;refine⟨mI ?_,rfl⟩;have hb:=hb.o;simp only[Int.cast_ofNat_Int] at hb;rw[hb] at h;rw[kM,ak (by simp at h;omega)];omega
def pM:Nat->Nat->Nat->Nat->Nat
 | 0,_,_,o=>o
 | n+1,a,b,o=>if b=0 then o else pM n (kM a) (b / 2) (if b % 2=0 then o else o ^^^ a)
def mul (a b:Nat):Nat:=pM 8 a b 0
theorem Ee {n o:Nat}:pM n a 0 o=o:=by cases n<;>simp[pM]
theorem Ef:∀ {n a b o:Nat},a<256->o<256->pM n a b o<256:=by
 intro n
 induction n with
 | zero=>intro a b o _ h;exact h
 | succ n ih=>
  intro a b o d c;unfold pM;split
  ·exact c
  ·refine ih ox ?_;split
   ·exact c
   ·exact mq c d
theorem mul_lt {a b:Nat}(ha:a<256):mul a b<256:=Ef ha om
theorem sO (a b:Nat) (ha:a<256) (hb:b<256) (w:World):Calls prog 207 #[iy a,iy b] w λe w'=>e=.returned (iy (mul a b))/\w=w':=by
 go_enter func207,ntmps207;go_wp2
 go_loop [0,1,4] (λx y z=>∃ n A B O:Nat,n<=8/\A<256/\B<2 ^ n/\B<256/\O<256/\x=iy A/\y=iy B/\z=iy O/\pM n A B O=mul a b)
  (λ_ y _=>(intOf y).toNat)
 case atStart=>exact⟨8,a,b,0,by omega,ha,hb,hb,by omega,rfl,rfl,rfl,rfl⟩
 case round=>
  obtain⟨n,A,B,O,s,q,j,r,k,rfl,rfl,rfl,hm⟩:=hrel;replace hm:=LH hm;have h1:bits .and .u8 (B:Int) 1=((B % 2:Nat):Int):=by have h:=fV B 1 r om;rw[nat_mask1] at h;exact h
  have t:=dx O A k q;have p:=mq k q
  have step:B≠0->∃ m,n=m+1/\B / 2<2 ^ m/\pM m (kM A) (B / 2) (if B % 2=0 then O else O ^^^ A)=mul a b:=by
   intro c;cases n with
   | zero=>omega
   | succ m=>refine⟨m,rfl,by rw[dK] at j;omega,?_⟩;have h:=hm.o;rw[pM,ah c] at h;exact h
  replace step:=LH step
  go_wp2_with (go_at_call 206;(with_reducible refine (xT _ (by assumption) _).mono ?_);rintro e w' ⟨rfl,rfl⟩)
  ·rename_i f i _;have c:B≠0:=by rintro rfl;simp at f
   have d:B % 2≠0:=by simp at i;omega
   obtain⟨m,rfl,l,g⟩:=step.o c;rw[ah d] at g
   go_round
   case rel=>exact⟨m,kM A,B / 2,O ^^^ A,by omega,ox,l,by omega,p,rfl,by simp,rfl,g⟩
   case measure=>simp[intOf];omega
  ·rename_i f i _;have c:B≠0:=by rintro rfl;simp at f
   have d:B % 2=0:=by simp at i;omega
   obtain⟨m,rfl,l,g⟩:=step.o c;rw[ak d] at g
   go_round
   case rel=>exact⟨m,kM A,B / 2,O,by omega,ox,l,by omega,k,rfl,by simp,rfl,g⟩
   case measure=>simp[intOf];omega
  ·have f:((B:Int) != 0)=false:=by assumption
   have c:B=0:=by simp at f;omega
   subst c;go_ret;refine⟨mI ?_,rfl⟩;rw[<-hm.o,Ee]
def px:Nat->Nat->Nat->Nat->Nat
 | 0,_,_,o=>o
 | n+1,a,k,o=>if k=0 then o else px n (mul a a) (k / 2) (if k % 2=0 then o else mul o a)
def qU (k:Int):Nat:=((k.tmod 255+255).tmod 255).toNat
def pow (a:Nat) (k:Int):Nat:=if a=0/\k≠0 then 0 else px 8 a (qU k) 1
theorem zP {n o:Nat}:px n a 0 o=o:=by cases n<;>simp[px]
theorem Eg:∀ {n a k o:Nat},a<256->o<256->px n a k o<256:=by
 intro n
 induction n with
 | zero=>intro a k o _ h;exact h
 | succ n ih=>
  intro a k o c b;unfold px;split
  ·exact b
  ·refine ih (mul_lt c) ?_;split
   ·exact b
   ·exact mul_lt b
theorem zQ {k:Int}(ha:a<256):pow a k<256:=by
 unfold pow;split
 ·omega
 ·exact Eg ha om
theorem zR {k:Int}:qU k<255:=by unfold qU;have:=gM (k.tmod 255+255) (by omega:(0:Int)<255);omega
theorem Eh {k:Int}:(k.tmod 255+255).tmod 255=(qU k:Int):=by unfold qU;have h1:=gN k (by omega:(0:Int)<255);have:=Int.tmod_nonneg (255:Int) (a:=k.tmod 255+255) om;omega
theorem Ei (a:Nat) (k:Int) (hk0:0<=k) (hk:k<255) (ha:a<256) (hz:a≠0) (w:World):Calls prog 209 #[iy a,iw k] w λe w'=>e=.returned (iy (pow a k))/\w=w':=by
 have hp:pow a k=px 8 a (qU k) 1:=by rw[pow,ah om]
 have r:=@zR k;have D:((qU k:Nat):Int)=k:=by rw[<-Eh,bZ hk0,bZ om];omega
 obtain⟨q,rfl⟩:∃ q:Nat,k=q:=⟨k.toNat,by omega⟩;have g:qU (q:Int)=q:=om;rw[g] at hp;clear D g r;replace hp:=LH hp;go_enter func209,ntmps209;go_wp2;have s:(q:Int) % 255=q:=om;have t:((q:Int)+255) % 255=q:=om;simp only[s,t];clear s t
 go_loop [0,1,5] (λx y z=>∃ n A B O:Nat,n<=8/\A<256/\B<2 ^ n/\B<256/\O<256/\x=iy A/\y=iw B/\z=iy O/\px n A B O=pow a (q:Int))
  (λ_ y _=>(intOf y).toNat)
 case atStart=>exact⟨8,a,q,1,by omega,ha,by omega,by omega,by omega,by simp[*],by simp[*];try omega,rfl,hp.o.symm⟩
 case round=>
  obtain⟨n,A,B,O,F,C,j,E,v,rfl,rfl,rfl,hm⟩:=hrel;replace hm:=LH hm
  have h1:bits .and .i64 (B:Int) 1=((B % 2:Nat):Int):=by
   have h:=bits_mask .i64 63 de (λn u h1=>by rw[bO];omega) 1 de (B:Int) om om
   simpa using h
  have p:=@mul_lt O A v;have d:=@mul_lt A A C
  have step:B≠0->∃ m,n=m+1/\B / 2<2 ^ m/\px m (mul A A) (B / 2) (if B % 2=0 then O else mul O A)=pow a (q:Int):=by
   intro b;cases n with
   | zero=>omega
   | succ m=>refine⟨m,rfl,by rw[dK] at j;omega,?_⟩;have h:=hm.o;rw[px,ah b] at h;exact h
  replace step:=LH step
  go_wp2_with (go_at_call 207;(with_reducible refine (sO _ _ (by assumption) (by assumption) _).mono ?_);rintro e w' ⟨rfl,rfl⟩)
  ·have u:0<(B:Int):=om;have i:((B:Int) % 2 != 0)=true:=by assumption
   have b:B≠0:=om;have c:B % 2≠0:=by simp at i;omega
   obtain⟨m,rfl,l,f⟩:=step.o b;rw[ah c] at f
   go_round
   case rel=>exact⟨m,mul A A,B / 2,mul O A,by omega,d,l,by omega,p,rfl,by simp,rfl,f⟩
   case measure=>simp[intOf];omega
  ·have u:0<(B:Int):=om;have i:((B:Int) % 2 != 0)=false:=by assumption
   have b:B≠0:=om;have c:B % 2=0:=by simp at i;omega
   obtain⟨m,rfl,l,f⟩:=step.o b;rw[ak c] at f
   go_round
   case rel=>exact⟨m,mul A A,B / 2,O,by omega,d,l,by omega,v,rfl,by simp,rfl,f⟩
   case measure=>simp[intOf];omega
  ·have b:B=0:=om;subst b;go_ret;refine⟨mI ?_,rfl⟩;rw[<-hm.o,zP]
theorem Ej (a:Nat) (k:Int) (hk:k=-1) (ha:a<256) (hz:a≠0) (w:World):Calls prog 209 #[iy a,iw k] w λe w'=>e=.returned (iy (pow a k))/\w=w':=by
 have hp:pow a k=px 8 a (qU k) 1:=by rw[pow,ah om]
 have q:=@zR k;obtain rfl:=hk;have g:qU (-1)=254:=de;rw[g] at hp;clear g q;replace hp:=LH hp;go_enter func209,ntmps209;go_wp2
 go_loop [0,1,5] (λx y z=>∃ n A B O:Nat,n<=8/\A<256/\B<2 ^ n/\B<256/\O<256/\x=iy A/\y=iw B/\z=iy O/\px n A B O=pow a (-1))
  (λ_ y _=>(intOf y).toNat)
 case atStart=>exact⟨8,a,254,1,by omega,ha,by omega,by omega,by omega,rfl,rfl,rfl,hp.o.symm⟩
 case round=>
  obtain⟨n,A,B,O,v,t,j,u,s,rfl,rfl,rfl,hm⟩:=hrel;replace hm:=LH hm
  have h1:bits .and .i64 (B:Int) 1=((B % 2:Nat):Int):=by
   have h:=bits_mask .i64 63 de (λn r h1=>by rw[bO];omega) 1 de (B:Int) om om
   simpa using h
  have p:=@mul_lt O A s;have d:=@mul_lt A A t
  have step:B≠0->∃ m,n=m+1/\B / 2<2 ^ m/\px m (mul A A) (B / 2) (if B % 2=0 then O else mul O A)=pow a (-1):=by
   intro b;cases n with
   | zero=>omega
   | succ m=>refine⟨m,rfl,by rw[dK] at j;omega,?_⟩;have h:=hm.o;rw[px,ah b] at h;exact h
  replace step:=LH step
  go_wp2_with (go_at_call 207;(with_reducible refine (sO _ _ (by assumption) (by assumption) _).mono ?_);rintro e w' ⟨rfl,rfl⟩)
  ·have r:0<(B:Int):=om;have i:((B:Int) % 2 != 0)=true:=by assumption
   have b:B≠0:=om;have c:B % 2≠0:=by simp at i;omega
   obtain⟨m,rfl,l,f⟩:=step.o b;rw[ah c] at f
   go_round
   case rel=>exact⟨m,mul A A,B / 2,mul O A,by omega,d,l,by omega,p,rfl,by simp,rfl,f⟩
   case measure=>simp[intOf];omega
  ·have r:0<(B:Int):=om;have i:((B:Int) % 2 != 0)=false:=by assumption
   have b:B≠0:=om;have c:B % 2=0:=by simp at i;omega
   obtain⟨m,rfl,l,f⟩:=step.o b;rw[ak c] at f
   go_round
   case rel=>exact⟨m,mul A A,B / 2,O,by omega,d,l,by omega,s,rfl,by simp,rfl,f⟩
   case measure=>simp[intOf];omega
  ·have b:B=0:=om;subst b;go_ret;refine⟨mI ?_,rfl⟩;rw[<-hm.o,zP]
theorem Ek (k:Int) (hk:k≠0) (w:World):Calls prog 209 #[iy 0,iw k] w λe w'=>e=.returned (iy (pow 0 k))/\w=w':=by go_enter func209,ntmps209;go_wp2;go_ret;exact⟨mI (by simp[pow,hk]),rfl⟩
def inv (a:Nat):Nat:=pow a (-1)
theorem El (ha:a<256):inv a<256:=zQ ha
theorem Em (a:Nat) (ha:a<256) (w:World):Calls prog 213 #[iy a] w λe w'=>e=.returned (iy (inv a))/\w=w':=by
 by_cases b:a=0
 ·subst b;go_enter func213,ntmps213
  go_wp2_with (go_at_call 209;(with_reducible refine (Ek _ om _).mono ?_);rintro e w' ⟨rfl,rfl⟩)
  go_ret;exact⟨rfl,rfl⟩
 ·go_enter func213,ntmps213
  go_wp2_with (go_at_call 209;(with_reducible refine (Ej _ _ rfl ha b _).mono ?_);rintro e w' ⟨rfl,rfl⟩)
  go_ret;exact⟨rfl,rfl⟩
def sum (l:iz):Nat:=l.foldl (λo c=>o ^^^ c.toNat) 0
theorem En (l:iz):∀ o,o<256->l.foldl (λo c=>o ^^^ c.toNat) o<256:=by
 induction l with
 | nil=>intro o h;exact h
 | cons c l ih=>intro o h;exact ih _ (mq h c.toNat_lt)
theorem Eo {l:iz}:sum l<256:=En l 0 om
variable {w:World}{sz:Nat}{xs:List Value}
theorem np:(prog.info? 5).map (λi=>(i.zero,i.size,i.bytes))=some (some (iy 0),1,1):=kr
def qV (x k:Nat):Nat:=(x*2 ^ k % 256) ||| (x / 2 ^ (8 - k))
theorem Ep {x k:Nat}(hx:x<256):qV x k<256:=fp (n:=8) om (cQ (ey _ _) hx)
theorem Er (x k:Nat) (hx:x<256) (hk:k<8) (w:World):Calls prog 215 #[iy x,iw k] w λe w'=>e=.returned (iy (qV x k))/\w=w':=by
 have h1:bits .and .u64 (k:Int) 7=(k:Int):=by have h:=fX k 7 om om;rw[nat_mask3,Nat.mod_eq_of_lt hk] at h;exact h
 have a:=u8_or_nat (x*2 ^ k % 256) (x / 2 ^ (8 - k)) om (cQ (ey _ _) hx);replace a:=LH a;go_enter func215,ntmps215;go_wp2;go_ret;refine⟨mI ?_,rfl⟩;have h:=a.o;simp only[eP,d9,Int.natCast_pow,fY,Int.cast_ofNat_Int] at h;exact h
theorem Es {S:Nat->Prop}{v:Value}{l:iz}(h:Bytes w S v l):Calls prog 216 #[v] w λe w'=>e=.returned (iy (sum l))/\w=w':=by
 obtain⟨m,hm⟩:=Ex l.length;have hc:Cells w S v m 1 (dB l):=hm ▸ h;obtain⟨a,cap,rfl,h1,x⟩:=hc.shape;unfold maxLen at x;have r:=LH hm;have t:=LH hc;clear h hc hm;go_enter func216,ntmps216;go_wp2
 go_loop [2,7] (λo i=>∃ k:Nat,k<=m/\i=iw k/\∃ O:Nat,O<256/\o=iy O/\O=(l.take k).foldl (λo c=>o ^^^ c.toNat) 0)
  (λ_ i=>m - (intOf i).toNat)
 case atStart=>exact⟨0,aW _,rfl,0,by omega,rfl,rfl⟩
 case round=>
  obtain⟨k,hk,rfl,O,s,rfl,n⟩:=hrel;replace n:=LH n;by_cases p:k<m
  ·obtain⟨b,off,cp,hv,_,_,_,hb,g⟩:=Cells.at t.o om;simp only[IJ] at hv;obtain⟨rfl,_,rfl⟩:=hv;have j:k<l.length:=r.o ▸ p;have f:=g k _ (qB l k j);have u:=LH g;clear g;obtain⟨c,d⟩:=Ex (l[k]);rw[<-d] at f;have y:=dx O c.toNat s c.toNat_lt;have q:=mq s c.toNat_lt;replace d:=LH d;go_wp2
   go_round
   case rel=>refine⟨k+1,by omega,by go_num,O ^^^ c.toNat,q,rfl,?_⟩;rw[n.o,d.o,bP j,dL];rfl
   case measure=>simp[intOf];omega
  ·go_wp2;go_ret;refine⟨mI ?_,rfl⟩;rw[n.o,bh (by have:=r.o;omega)];rfl
def byte (n:Nat):UInt8:=UInt8.ofNat n
theorem lM {n:Nat}(h:n<256):(byte n).toNat=n:=by simp[byte,UInt8.toNat_ofNat'];omega
def sr (a k:Nat):iz:=99::(List.range k).map λj=>byte (qV a j)
theorem Et {k:Nat}:(sr a k).length=k+1:=by simp[sr]
theorem Eu {k:Nat}:sr a (k+1)=sr a k++[byte (qV a k)]:=by simp[sr,dF]
def qf (a:Nat):Nat:=sum (sr a 5)
theorem xU:qf a<256:=Eo
theorem kp {base:Nat}{e:TypeId}{v:Value}{n:Nat}(h:w.ownsRow base e sz v n xs) (g:Nat) (hg:v.ownBlock=some g):g<w.heap.size:=by
 rcases h.2 with ⟨rfl,_⟩|⟨b,cap,cur,rfl,_,a,_⟩
 ·simp[Value.ownBlock] at hg
 ·simp[Value.ownBlock] at hg;subst hg;exact dD a
theorem kK {base:Nat}{e:TypeId}{v:Value}{n:Nat}(h:w.ownsRow base e sz v n xs) (g:Nat) (hg:v.ownBlock=some g):base<=g:=by
 rcases h.2 with ⟨rfl,_⟩|⟨a,cap,cur,rfl,hb,_,_⟩
 ·simp[Value.ownBlock] at hg
 ·simp[Value.ownBlock] at hg;omega
theorem Ev (w:World) (c:Value):Cells (w.alloc (.cells #[c] 5)) (λ_=>True) (ir w.heap.size 1 1) 1 1 [c]:=by refine⟨rfl,some (iu w.heap.size 0),1,rfl,ae _,by unfold maxLen;omega,λh=>(by cases h),.inr ⟨_,0,rfl,trivial,by simp,λj u hu=>?_⟩⟩;rw[cell_of (aj w _),<-hu,aw];simp
theorem xV (a:Nat) (ha:a<256) (w:World):Calls prog 212 #[iy a] w λe w'=>e=.returned (iy (qf a))/\Below w.heap.size w w':=by
 have x:(iy 0).cells.size=1:=rfl;go_enter func212,ntmps212;go_wp2
 go_loopw [3,9] (λo i wr=>∃ k:Nat,k<=5/\i=iw k/\Below w.heap.size w wr/\w.heap.size+1<wr.heap.size/\(∀ g,o.ownBlock=some g->g≠w.heap.size+1)/\wr.heap[w.heap.size+1]?=some (.cells #[iw 0,iw 1,iw 2,iw 3,iw 4] 3 (0,0))/\Hd (wr.ownsRow w.heap.size 5 1 o (k+1) (dB (sr a k))))
  (λ_ i _=>5 - (intOf i).toNat)
 case atStart=>
  refine⟨0,by omega,rfl,((ag _ _).alloc (ae _) _).alloc sm _,by simp,by simp[Value.ownBlock],?_,?_⟩
  ·have h:=aj (w.alloc (.cells #[iy 99] 5)) (.cells #[iw 0,iw 1,iw 2,iw 3,iw 4] 3);simp only[aN] at h;exact h
  ·refine⟨rfl,.inr ⟨w.heap.size,1,#[iy 99],rfl,ae _,?_,ae _,by unfold maxLen;omega,rfl,rfl⟩⟩;exact (aB _ _ _ sm).trans (aj w _)
 case round=>
  obtain⟨k,hk,rfl,c,v,d,b,j⟩:=hrel;by_cases u:k<5
  ·have t:wr.cell? (iu (w.heap.size+1) k)=some (iw k):=by
    rw[cell_of b]
    match k,u with
    | 0,_=>rfl
    | 1,_=>rfl
    | 2,_=>rfl
    | 3,_=>rfl
    | 4,_=>rfl
   have n:(wr.alloc (.cells #[iy (qV a k)] 5)).ownsRow _ _ _ _ _ _:=gF j.o (λg hg=>aB _ _ _ (kp j.o g hg));have m:=Ev wr (iy (qV a k));have r:=LH n;have q:=LH m;have p:=LH (λg=>kK j.o g);have f:=LH d;have l:=LH b;clear n m j d b
   go_wp2_with (first
    | (go_at_call 215;(with_reducible refine (Er _ _ ha om _).mono ?_);rintro e w' ⟨rfl,rfl⟩)
    | (at_builtin;refine K.append ?_ (.tmp 13) (.tmp 17) 42 ?_ w.heap.size 5 (iy 0) 1 1 underlying42 np x om _ (k+1) _ ?_ r.o (λ_=>True) _ 1 [iy (qV a k)] ?_ q.o (by simp[Value.oneCell']) mx om ?_ ?_))
   ·rfl
   ·rfl
   ·rfl
   ·rfl
   ·have:=c.size;simp;omega
   intro v' w2 B y E z;have D:=LH B;clear B;go_wp2;go_roundw
   case rel=>
    have s:Below w.heap.size w (wr.alloc (.cells #[iy (qV a k)] 5)):=c.alloc c.size _;refine⟨k+1,by omega,by go_num,((aQ.dE s No).grown y (λg hg A=>absurd (p.o g hg) om)).no,?_,?_,?_,?_⟩
    ·have:=y.size;simp at this;omega
    ·intro g hg;rcases z with z|⟨g',hg',A⟩
     ·exact f.o g (by rw[<-z];exact hg)
     ·rw[hg'] at hg;simp at hg A;omega
    ·rw[y.block _ (by simp;omega) (λh=>f.o _ h.symm rfl),aB _ _ _ v];exact l.o
    ·show Hd _;rw[Eu,nH];have e:dB [byte (qV a k)]=[iy (qV a k)]:=by simp[dB,u8,lM (Ep ha)]
     rw[e];exact D
   case measure=>simp[intOf];omega
  ·obtain rfl:k=5:=om
   have hb:Bytes wr (λ_=>True) u3 (sr a 5):=by have h:=Cells.own j.o;exact Cells.mono (by rw[<-Et (a:=a) (k:=5)] at h;exact h) (λ_ _ _=>trivial)
   have C:=LH hb;clear hb b d
   go_wp2_with (go_at_call 216;(with_reducible refine (Es C.o).mono ?_);rintro e w' ⟨rfl,rfl⟩)
   go_ret;exact⟨rfl,c⟩
def sub (a:Nat):Nat:=qf (inv a)
theorem sub_lt {a:Nat}:sub a<256:=xU
theorem vR (a:Nat) (ha:a<256) (w:World):Calls prog 208 #[iy a] w λe w'=>e=.returned (iy (sub a))/\Below w.heap.size w w':=by
 go_enter func208,ntmps208
 go_wp2_with (first
  | (go_at_call 213;(with_reducible refine (Em _ ha _).mono ?_);rintro e w' ⟨rfl,rfl⟩)
  | (go_at_call 212;(with_reducible refine (xV _ (El ha) _).mono ?_);rintro e w' ⟨rfl,hb⟩))
 go_ret;exact⟨rfl,hb⟩
def round (n:Nat):Nat:=if n<1 then 0 else pow 2 (n - 1)
theorem zS {n:Nat}:round n<256:=by
 unfold round;split
 ·omega
 ·exact zQ om
theorem xW (n:Nat) (hn:n<200) (w:World):Calls prog 200 #[iw n] w λe w'=>e=.returned (iy (round n))/\w=w':=by
 by_cases h:n<1
 ·go_enter func200,ntmps200;go_wp2;go_ret;exact⟨mI (by simp[round,h]),rfl⟩
 ·have hr:round n=pow 2 ((n:Int) - 1):=by rw[round,ah h]
  replace hr:=LH hr;have hp:Calls prog 209 #[iy 2,iw ((n:Int) - 1)] w _:=Ei 2 ((n:Int) - 1) om om om om w;replace hp:=LH hp;go_enter func200,ntmps200
  go_wp2_with (go_at_call 209;(with_reducible refine hp.o.mono ?_);rintro e w' ⟨rfl,rfl⟩)
  go_ret;exact⟨mI (by rw[hr.o]),rfl⟩
def qD (a b c d:Nat):Nat:=a*16777216+b*65536+c*256+d
def rN (w:Nat):Nat:=qD (sub (w / 16777216 % 256)) (sub (w / 65536 % 256)) (sub (w / 256 % 256)) (sub (w % 256))
theorem zT {b c d:Nat}(ha:a<256) (hb:b<256) (hc:c<256) (hd:d<256):qD a b c d<4294967296:=by unfold qD;omega
theorem xX {w:Nat}:rN w<4294967296:=zT sub_lt sub_lt sub_lt sub_lt
def rO (x:Nat):Nat->Nat
 | 0=>0
 | k+1=>rO x k*256 % 4294967296+sub (x / 2 ^ (24 - 8*k) % 256)
theorem Ew {x:Nat}:rO x 4=rN x:=by have a:=@sub_lt (x / 16777216 % 256);have h1:=@sub_lt (x / 65536 % 256);have b:=@sub_lt (x / 256 % 256);simp only[rO,rN,qD,Nat.mul_zero,fZ,Nat.reduceMul,Nat.reduceSub,Nat.reducePow,Nat.div_one];omega
theorem vS (O s:Nat) (hs:s<256):bits .or .u32 ((O:Int)*256 % 4294967296) (s:Int)=((O*256 % 4294967296+s:Nat):Int):=by have h:=di (O*256 % 4294967296) s om om;rw[dy 8 _ _ om om] at h;simp only[eP,d9,Int.cast_ofNat_Int] at h;exact h
theorem uP {P:Program}{f:Nat}{x y:Int}{Q:Ending->World->Prop}(h:Calls P f #[iy x] w Q) (e:y=x):Calls P f #[iy y] w Q:=e ▸ h
theorem xY (x:Nat) (hx:x<4294967296) (w:World):Calls prog 198 #[.int .u32 x] w λe w'=>e=.returned (.int .u32 (rN x))/\Below w.heap.size w w':=by
 go_enter func198,ntmps198;go_wp2
 go_loopw [2,3] (λo i wr=>Below w.heap.size w wr/\∃ O:Nat,O<4294967296/\o=.int .u32 O/\(i=iw 24/\O=rO x 0\/i=iw 16/\O=rO x 1\/i=iw 8/\O=rO x 2\/i=iw 0/\O=rO x 3\/i=iw (-8)/\O=rO x 4))
  (λ_ i _=>(intOf i+8).toNat)
 case atStart=>exact⟨ag _ _,0,by omega,rfl,.inl ⟨rfl,rfl⟩⟩
 case round=>
  obtain⟨a,O,d,rfl,⟨rfl,b⟩|⟨rfl,b⟩|⟨rfl,b⟩|⟨rfl,b⟩|⟨rfl,b⟩⟩:=hrel
  ·replace b:=LH b;have hs:=@sub_lt (x / 16777216 % 256);have c:=LH (vS O (sub (x / 16777216 % 256)) hs)
   go_wp2_with (go_at_call 208;(with_reducible refine (uP (vR (x / 16777216 % 256) om _) om).mono ?_);rintro e w' ⟨rfl,hb⟩)
   go_roundw
   case rel=>refine⟨a.trans (hb.mono a.size),O*256 % 4294967296+sub (x / 16777216 % 256),by omega,by rw[c.o],.inr (.inl ⟨rfl,by rw[b.o];rfl⟩)⟩
   case measure=>simp[intOf]
  ·replace b:=LH b;have hs:=@sub_lt (x / 65536 % 256);have c:=LH (vS O (sub (x / 65536 % 256)) hs)
   go_wp2_with (go_at_call 208;(with_reducible refine (uP (vR (x / 65536 % 256) om _) om).mono ?_);rintro e w' ⟨rfl,hb⟩)
   go_roundw
   case rel=>refine⟨a.trans (hb.mono a.size),O*256 % 4294967296+sub (x / 65536 % 256),by omega,by rw[c.o],.inr (.inr (.inl ⟨rfl,by rw[b.o];rfl⟩))⟩
   case measure=>simp[intOf]
  ·replace b:=LH b;have hs:=@sub_lt (x / 256 % 256);have c:=LH (vS O (sub (x / 256 % 256)) hs)
   go_wp2_with (go_at_call 208;(with_reducible refine (uP (vR (x / 256 % 256) om _) om).mono ?_);rintro e w' ⟨rfl,hb⟩)
   go_roundw
   case rel=>refine⟨a.trans (hb.mono a.size),O*256 % 4294967296+sub (x / 256 % 256),by omega,by rw[c.o],.inr (.inr (.inr (.inl ⟨rfl,by rw[b.o];rfl⟩)))⟩
   case measure=>simp[intOf]
  ·replace b:=LH b;have hs:=@sub_lt (x % 256);have c:=LH (vS O (sub (x % 256)) hs)
   go_wp2_with (go_at_call 208;(with_reducible refine (uP (vR (x % 256) om _) om).mono ?_);rintro e w' ⟨rfl,hb⟩)
   go_roundw
   case rel=>refine⟨a.trans (hb.mono a.size),O*256 % 4294967296+sub (x % 256),by omega,by rw[c.o],.inr (.inr (.inr (.inr ⟨rfl,by rw[b.o];simp[rO]⟩)))⟩
   case measure=>simp[intOf]
  ·replace b:=LH b;go_wp2;go_ret;exact⟨mI (by rw[b.o,Ew]),a⟩
variable {t:TypeId}{cs:Array Value}{b:Nat}{l:iz}
def sQ:Nat->UInt8
 | 0=>1
 | k+1=>byte ((sQ k).toNat ^^^ kM (sQ k).toNat)
def sR:Nat->iz
 | 0=>List.replicate 255 0
 | k+1=>(sR k).set k (sQ k)
theorem Ac {k:Nat}:(sR k).length=255:=by
 induction k with
 | zero=>exact aK
 | succ k ih=>exact bg.trans ih
def pw (i:Nat):UInt8:=(sR 255).getD i 0
def qH:Nat->iz
 | 0=>(List.replicate 256 0).set 0 (byte (qf 0))
 | k+1=>(qH k).set (pw k).toNat (byte (qf (pw ((255 - k) % 255)).toNat))
theorem tR {k:Nat}:(qH k).length=256:=by
 induction k with
 | zero=>exact bg.trans aK
 | succ k ih=>exact bg.trans ih
def sb (i:Nat):UInt8:=(qH 255).getD i 0
def qX:Nat->iz
 | 0=>List.replicate 256 0
 | k+1=>(qX k).set (sb k).toNat (byte k)
theorem tS {k:Nat}:(qX k).length=256:=by
 induction k with
 | zero=>exact aK
 | succ k ih=>exact bg.trans ih
theorem ER (l:iz) (i:Nat) (b:UInt8):dB (l.set i b)=(dB l).set i (u8 b):=by simp[dB]
theorem tT (l:iz) (j:Nat) (h:j<l.length):(dB l).toArray[j]?=some (iy (l.getD j 0).toNat):=by simp[dB,u8,List.getD,h]
theorem Ad (l:iz):(dB l).toArray.all (·.oneCell')=true:=by rw[Array.all_eq_true_iff_forall_mem];intro x a;exact nO l x (by simpa using a)
theorem tU {P:Program}{e:TypeId}{n:Nat}{k:IntKind}{j:Nat}{v:Value}(h:P.underlying t=some (.array n e)) (hi:(P.info? e).isSome=true) (hp:P.plainKey e=true) (hc:P.cellsOf e=1) (hj:j<n) (hv:cs[j]?=some v) (w:World):
  (Instr.index t (.agg cs) (.int k j)).run P w=.ok v w:=by
 obtain⟨inf,a⟩:=Option.isSome_iff_exists.1 hi;have d:=gg (P:=P) (w:=w) hp hv;have c:=run_sizeOf (P:=P) (w:=w) a;rw[hc] at c;have b:(j:Int)<n:=om;simp only[Instr.index,bb h,asIntOf,aM,Sem.run_pure,Result.andThen,Int.toNat_natCast,c,aY,d,Int.natCast_nonneg,b,and_self,ea]
def kf (w:World) (b:Nat) (t:TypeId) (l:iz):Prop:=w.heap[b]?=some (.cells (dB l).toArray t (0,0))
theorem kf.cell (h:kf w b t l) (j:Nat) (hj:j<l.length):w.cell? (iu b j)=some (iy (l.getD j 0).toNat):=by rw[cell_of h];simp[dB,u8,hj,List.getD]
theorem kf.frozen (h:kf w b t l) (j:Nat):w.frozen? (iu b j)=false:=lh h j
theorem kf.set (h:kf w b t l) (j:Nat) (c:UInt8):kf (w.setCell (iu b j) (iy c.toNat)) b t (l.set j c):=by unfold kf;rw[lr h,ER];simp[u8]
theorem kf.dC {w':World}(h:kf w b t l) (e:w'.heap[b]?=w.heap[b]?):kf w' b t l:=e.trans h
theorem kf.of (e:cs=(dB l).toArray) (h:w.heap[b]?=some (.cells cs t (0,0))):kf w b t l:=by subst e;exact h
theorem yh {g:Nat}(h:w.heap[g]?=some (.cells cs t (0,0))):w.setRow g cs=w:=by
 have e:(w.setRow g cs).heap=w.heap:=by
  apply ga;intro i;by_cases hi:i=g
  ·subst hi;rw[aJ w _ cs cs t (0,0) h,h]
  ·rw[aG _ _ _ _ hi]
 have a:w.setRow g cs={ w with heap:=(w.setRow g cs).heap }:=rfl;rw[a,e]
theorem nf {P:Program}{n m:Nat}{e:TypeId}(h:kf w n t l) (hu:P.underlying t=some (.array m e)) (hi:(P.info? t).map (·.size)=some l.length):
  (Instr.loadAt t (iq n)).run P w=.ok (.agg (dB l).toArray) w:=by
 simp only[Instr.loadAt,Instr.sureAddr,aM,Sem.run_pure,Result.andThen];exact cR w n t t _ (0,0) _ h hu rfl (by rw[hi];simp[kn])
theorem sy {P:Program}{n:Nat}(h:kf w n t l) (hi:(P.info? t).map (·.size)=some l.length):
  (Instr.storeAt t (iq n) (.agg (dB l).toArray)).run P w=.ok () w:=by
 simp only[Instr.storeAt,Instr.sureAddr,aM,Sem.run_pure,Result.andThen];rw[gi w n t t _ _ h (by rw[hi];simp[kn]) rfl (Ad l),yh h]
theorem Ae {P:Program}{fn:Func}{p q:Tmp}{ty ty':TypeId}(h:fn.results=#[.cell p ty,.cell q ty']) (tmps:Array Value) (w:World){a b:Addr}{u v:Value}
  (hp:tmps.getD p undef=.pointer (some a)) (hq:tmps.getD q undef=.pointer (some b)) (h0:(loadVar ty a).run P w=.ok u w) (h1:(loadVar ty' b).run P w=.ok v w):
  (results fn tmps).run P w=.ok (.tuple #[u,v]) w:=by
 have c:tmps[p]?.getD undef=.pointer (some a):=by simpa using hp
 have d:tmps[q]?.getD undef=.pointer (some b):=by simpa using hq
 simp[results,h,c,d,asAddr,h0,h1]
theorem Af:Tryz.zeroCells295=(dB (List.replicate 256 0)).toArray:=kr
theorem ES:Tryz.zeroCells338=(dB (List.replicate 255 0)).toArray:=kr
theorem ET (w:World):Calls prog 205 #[] w λe w'=>e=.returned (.tuple #[.agg (dB (qH 255)).toArray,.agg (dB (qX 256)).toArray])/\Below w.heap.size w w':=by
 obtain⟨n,z⟩:=Ex w.heap.size;go_enter func205,ntmps205;go_wp2;rw[<-z];replace z:=LH z
 go_loopw [3,9] (λx i wr=>∃ k:Nat,k<=255/\i=iw k/\x=iy (sQ k).toNat/\Below n w wr/\n+2<wr.heap.size/\Hd (kf wr n 295 (List.replicate 256 0))/\Hd (kf wr (n+1) 295 (List.replicate 256 0))/\Hd (kf wr (n+1+1) 338 (sR k)))
  (λ_ i _=>255 - (intOf i).toNat)
 case atStart=>
  refine⟨0,by omega,rfl,rfl,?_,?_,?_,?_,?_⟩
  ·exact (((ag _ _).alloc (cJ z.o) _).alloc (by simp[z.o]) _).alloc (by simp[z.o];omega) _
  ·simp[z.o]
  ·rw[z.o];exact kf.of Af <| (aB _ _ _ (by simp;omega)).trans ((aB _ _ _ sm).trans (aj w _))
  ·have h:=aj (w.alloc (.cells Tryz.zeroCells295 295)) (.cells Tryz.zeroCells295 295);simp only[aN] at h;rw[z.o];exact kf.of Af <| (aB _ _ _ sm).trans h
  ·have h:=aj ((w.alloc (.cells Tryz.zeroCells295 295)).alloc (.cells Tryz.zeroCells295 295)) (.cells Tryz.zeroCells338 338);simp only[aN] at h;rw[z.o];exact kf.of ES h
 case round=>
  obtain⟨k,hk,rfl,rfl,f,m,t,H1,A⟩:=hrel;by_cases r:k<255
  ·have hc:=A.o.cell k (by rw[Ac];exact r);have hf:=A.o.frozen k;obtain⟨X,Q⟩:=Ex (sQ k);rw[<-Q];have Y:=X.toNat_lt;have hx:=dx X.toNat (kM X.toNat) Y ox;have an:=mq Y (@ox X.toNat);replace Q:=LH Q
   go_wp2_with (go_at_call 206;(with_reducible refine (xT _ Y _).mono ?_);rintro e w' ⟨rfl,rfl⟩)
   go_roundw
   case rel=>
    refine⟨k+1,by omega,by go_num,?_,f.setCell (by show n<=n+1+1;omega) _,by simp;omega,?_,?_,?_⟩
    ·rw[sQ,<-Q.o,lM an]
    ·exact t.o.dC (kA _ _ _ (by simp;omega))
    ·exact H1.o.dC (kA _ _ _ sm)
    ·show kf _ _ _ _;rw[sR,<-Q.o];exact A.o.set k X
   case measure=>simp[intOf];omega
  ·have N:k=255:=om;rw[N] at A;replace N:=LH N;obtain⟨X,Q⟩:=Ex (sQ k);rw[<-Q];clear Q;obtain⟨L,hL⟩:=Ex (sR 255);rw[<-hL] at A;have G:L.length=255:=hL ▸ Ac;replace hL:=LH hL;replace G:=LH G
   go_wp2_with (go_at_call 212;fail)
   refine (uP (xV 0 om _) rfl).mono ?_;rintro e w1 ⟨rfl,hb⟩;have f:=LH f;have O:=LH (t.o.dC (hb.block n om));have G1:=LH (H1.o.dC (hb.block (n+1) om));have G2:=LH (A.o.dC (hb.block (n+1+1) om));have K:=LH (f.o.trans (hb.mono (by have:=f.o.size;rw[z.o];exact this)));have y:=LH (aH m hb.size);clear t H1 A f hb m;have T:=O.o.frozen 0;have R:=O.o.cell 0 de;have I:=O.o.set 0 (byte (qf 0));rw[lM xU] at I;have F0:=LH I;clear I;have F1:=LH (G1.o.dC (kA w1 (iu n 0) (iy (qf 0)) (k:=n+1) sm));have F2:=LH (G2.o.dC (kA w1 (iu n 0) (iy (qf 0)) (k:=n+1+1) (by simp;omega)));have fb:=LH (K.o.setCell (p:=iu n 0) (ae n) (iy (qf 0)))
   go_wp2_with (refine eR rfl 338 _ rfl (n+1+1) rfl 338 _ (0,0) _ F2.o underlying338 rfl (by simp only[aT,kn,G.o];kernel_rfl) ?_)
   generalize decide ((k:Int)<255)=dd;have s:=LH (show n+2<(w1.setCell (iu n 0) (iy (qf 0))).heap.size by simpa using y.o);generalize w1.setCell (iu n 0) (iy (qf 0))=w2 at*
   go_loopw [23] (λi wr=>∃ j:Nat,j<=255/\i=iw j/\Below n w wr/\n+2<wr.heap.size/\Hd (kf wr n 295 (qH j))/\Hd (kf wr (n+1) 295 (List.replicate 256 0))/\Hd (kf wr (n+1+1) 338 L))
    (λi _=>255 - (intOf i).toNat)
   case atStart=>exact⟨0,by omega,rfl,fb.o,s.o,F0.o,F1.o,F2.o⟩
   case round=>
    obtain⟨j,hj,rfl,f,m,t,H1,A⟩:=hrel;by_cases r:j<255
    ·have H:(dB L).toArray[j]?=some (iy (L.getD j 0).toNat):=by exact tT L j (by rw[G.o];exact r)
     have l:=λ(w:World) (c:UInt8) hv=>tU (P:=prog) (cs:=(dB L).toArray) (k:=.i64) (j:=j) (v:=iy c.toNat) underlying338 kr kr kr r hv w
     replace l:=LH l;obtain⟨M,hM⟩:=Ex ((255 - j) % 255:Nat);have ax:(255 - (j:Int)) % 255=M:=om;have aa:M<255:=om;replace hM:=LH hM;have a1:=A.o.cell M (by rw[G.o];exact aa);obtain⟨c,hc⟩:=Ex (L.getD j 0);rw[<-hc] at H;have af:=λw=>l.o w c H
     replace hc:=LH hc;obtain⟨d,hd⟩:=Ex (L.getD M 0);rw[<-hd] at a1;replace hd:=LH hd;have S:=c.toNat_lt;have ad:=d.toNat_lt
     go_wp2_with fail
     refine (xV d.toNat ad _).mono ?_;rintro e w1 ⟨rfl,hb⟩;have O:=LH (t.o.dC (hb.block n om));have G1:=LH (H1.o.dC (hb.block (n+1) om));have G2:=LH (A.o.dC (hb.block (n+1+1) om));have K:=LH (f.trans (hb.mono (by have:=f.size;rw[z.o];exact this)));have y:=LH (aH m hb.size);clear t H1 A f hb m a1;have T:=O.o.frozen c.toNat;have R:=O.o.cell c.toNat (by rw[tR];exact S);go_wp2;go_roundw
     case rel=>refine⟨j+1,by omega,by go_num,K.o.setCell (p:=iu n c.toNat) (ae n) _,by simpa using y.o,?_,G1.o.dC (kA _ _ _ sm),G2.o.dC (kA _ _ _ (by simp;omega))⟩;have h:=O.o.set c.toNat (byte (qf d.toNat));rw[lM xU] at h;show kf _ _ _ _;rw[qH,pw,pw,<-hL.o,<-hM.o,<-hc.o,<-hd.o];exact h
     case measure=>simp[intOf];omega
    ·have a6:j=255:=om;rw[a6] at t;clear a6 N F0 F1 F2 O G1 G2 K fb y s T R A;obtain⟨B,Z⟩:=Ex (qH 255);rw[<-Z] at t;have E:B.length=256:=Z ▸ tR;replace Z:=LH Z;replace E:=LH E
     go_wp2_with (refine eR rfl 295 _ rfl n rfl 295 _ (0,0) _ t.o underlying295 rfl (by simp only[aT,kn,E.o];kernel_rfl) ?_)
     generalize decide ((j:Int)<255)=dd2;have F0:=t;have F1:=H1;have u:=LH f;have s:=LH m;clear t H1 f m
     go_loopw [37] (λi wr=>∃ j:Nat,j<=256/\i=iw j/\Below n w wr/\n+2<wr.heap.size/\Hd (kf wr n 295 B)/\Hd (kf wr (n+1) 295 (qX j)))
      (λi _=>256 - (intOf i).toNat)
     case atStart=>exact⟨0,by omega,rfl,u.o,s.o,F0.o,F1.o⟩
     case round=>
      clear F0 F1 u s;obtain⟨q,hq,rfl,f,m,t,H1⟩:=hrel;by_cases r:q<256
      ·have H:(dB B).toArray[q]?=some (iy (B.getD q 0).toNat):=by exact tT B q (by rw[E.o];exact r)
       have l:=λ(w:World) (c:UInt8) hv=>tU (P:=prog) (cs:=(dB B).toArray) (k:=.i64) (j:=q) (v:=iy c.toNat) underlying295 kr kr kr r hv w
       replace l:=LH l;obtain⟨c,hc⟩:=Ex (B.getD q 0);rw[<-hc] at H;have af:=λw=>l.o w c H
       replace hc:=LH hc;have S:=c.toNat_lt;have T:=H1.o.frozen c.toNat;have R:=H1.o.cell c.toNat (by rw[tS];exact S);replace f:=LH f;go_wp2;go_roundw
       case rel=>refine⟨q+1,by omega,by go_num,f.o.setCell (p:=iu (n+1) c.toNat) (by show n<=n+1;omega) _,by simpa using m,t.o.dC (kA _ _ _ sm),?_⟩;have h:=H1.o.set c.toNat (byte q);rw[lM r] at h;show kf _ _ _ _;rw[qX,sb,<-Z.o,<-hc.o];exact h
       case measure=>simp[intOf];omega
      ·have a7:q=256:=om;rw[a7] at H1;clear a7;obtain⟨C,hC⟩:=Ex (qX 256);rw[<-hC] at H1;have a8:C.length=256:=hC ▸ tS;replace hC:=LH hC;have F:(prog.info? 295).map (·.size)=some C.length:=by rw[a8];kernel_rfl
       have D:(prog.info? 295).map (·.size)=some B.length:=by rw[E.o];kernel_rfl
       have k0:=λ(g:World) (h:aQ No wr.drew g)=>t.o.dC (h.block n (by show n<wr.heap.size;omega) id)
       have k1:=λ(g:World) (h:aQ No wr.drew g)=>H1.o.dC (h.block (n+1) (by show n+1<wr.heap.size;omega) id)
       have U:=λ(g:World) (h:aQ No wr.drew g)=>nf (P:=prog) (k0 g h) underlying295 D
       have V:=λ(g:World) (h:aQ No wr.drew g)=>nf (P:=prog) (k1 g h) underlying295 F
       have hs0:=λ(g:World) (h:aQ No wr.drew g)=>sy (P:=prog) (k0 g h) D
       have W:=λ(g:World) (h:aQ No wr.drew g)=>sy (P:=prog) (k1 g h) F
       revert k0 k1 U V hs0 W;refine H6 ?_;intro k0 k1 U V hs0 W;have F:=LH F;have D:=LH D;have u:=LH f;clear f;go_wp2;refine RA.rt (aQ No) [1,1,2,2] [] (λ_=>True) trivial (λ_=>aQ.refl _ _) (λ_ _ _ h k=>h.trans k) (h:=?_);intro cx;refine RA.ld (y':=.agg (dB B).toArray) (hr:=λg hp=>U.o g hp.1) (h:=?_);refine RA.ld (y':=.agg (dB C).toArray) (hr:=λg hp=>V.o g hp.1) (h:=?_);refine RA.sw rf rf (λw=>rfl) (λ_ _=>trivial) (λg hp=>RA.kL rf rf (hs0.o g hp.1)) (λu1=>?_);refine RA.sw rf rf (λw=>rfl) (λ_ _=>trivial) (λg hp=>RA.kL rf rf (W.o g hp.1)) (λu2=>?_);refine RA.RA.done rfl (λg J hF hH=>?_);clear hF hH;simp only[RA.RP,cx];go_wp2;have J:aQ No wr.drew g:=J;refine aI (v:=.tuple #[.agg (dB B).toArray,.agg (dB C).toArray]) ?_ rfl ⟨by rw[Z.o,hC.o],?_⟩
       ·exact Ae results205 _ g (a:=iu n 0) (b:=iu (n+1) 0) rfl rfl (cR g n _ _ _ (0,0) _ (k0.o g J) underlying295 rfl (by rw[D.o];simp[kn])) (cR g (n+1) _ _ _ (0,0) _ (k1.o g J) underlying295 rfl (by rw[F.o];simp[kn]))
       ·rw[<-z.o];have h:Below wr.heap.size wr g:=aQ.no ⟨J.os,J.tape,J.output,J.size,J.block⟩;exact u.o.trans (h.mono om)
attribute [irreducible] sR qH qX
end Go.Proofs.YthmcbgidehjlbaaGreat.Fd
namespace Go.Proofs.YthmcbgidehjlbaaGreat.Fd
open Go Go.RowKit K
theorem vZ (l x:iz) (off i:Nat) (h:off+x.length<=l.length):(splice l off x).getD i 0=if off<=i/\i<off+x.length then x.getD (i - off) 0 else l.getD i 0:=by
 have h1:(l.take off).length=off:=by simp;omega
 simp only[splice,List.getD];by_cases a:i<off
 ·rw[aX om,aU,ak a,ah om]
 ·rw[aL om,h1];by_cases hb:i<off+x.length
  ·rw[aX om,ak ⟨by omega,hb⟩]
  ·rw[aL om,bF,ah om];congr 2;omega
section
variable {P:Program}
theorem run_storeCells_at (g off:Nat) (t:TypeId):∀ (vs:List Value) (i:Nat) (cur:Array Value) (w:World),w.heap[g]?=some (.cells cur t (0,0))->off+i+vs.length<=cur.size->(∀ v ∈ vs,v.oneCell'=true)->
  (storeCells (iu g off) vs i).run P w=.ok () (w.setRow g (splice cur.toList (off+i) vs).toArray)
 | [],i,cur,w,hg,hl,_=>by
  have:splice cur.toList (off+i) []=cur.toList:=by simp[splice]
  simp only[storeCells,this,Array.toArray_toList,yh hg];rfl
 | v::rest,i,cur,w,hg,hl,h1=>by
  have hi:off+i<cur.size:=by simp at hl;omega
  have b:((iu g off):Addr).add i=(iu g (off+i)):=bJ _ _ _;have a:w.cell? (iu g (off+i))=some cur[off+i]:=by simp[World.cell?,hg,hi]
  have c:w.frozen? (iu g (off+i))=false:=by simp[World.frozen?,hg]
  have e:(store (((iu g off):Addr).add i) v).run P w=.ok () (w.setRow g (cur.setIfInBounds (off+i) v)):=by rw[b,run_store P w _ v _ (h1 v sm),a];simp[c,setCell_eq_setRow w g (off+i) cur t (0,0) v hg]
  have ih:=run_storeCells_at g off t rest (i+1) (cur.setIfInBounds (off+i) v) (w.setRow g (cur.setIfInBounds (off+i) v)) (aJ w g cur _ t _ hg) (by simp at hl ⊢;omega) (λx j=>h1 x (by simp[j]));simp only[storeCells,aM,e,bu,ih,setRow_setRow];congr 3;apply b9;intro k;simp only[eB,splice,gR,aR,bg,dj,aU,bF,ej,bj];simp only[bj] at hl;by_cases hk:k<off+i
  ·simp[hk,show k<off+(i+1) by omega,show min (off+(i+1)) cur.size=off+(i+1) by omega,show min (off+i) cur.size=off+i by omega,show off+i≠k by omega]
  ·by_cases d:k=off+i
   ·subst d;simp[show min (off+(i+1)) cur.size=off+(i+1) by omega,show min (off+i) cur.size=off+i by omega,show off+i<off+(i+1) by omega,hi]
   ·have f:k - (off+i)=(k - (off+(i+1)))+1:=om;simp[hk,show ¬ k<off+(i+1) by omega,show min (off+(i+1)) cur.size=off+(i+1) by omega,show min (off+i) cur.size=off+i by omega,f];split
    ·rfl
    ·have h:off+(i+1)+rest.length+(k - (off+(i+1)) - rest.length)=off+i+(rest.length+1)+(k - (off+(i+1)) - rest.length):=om;rw[h,ah om]
theorem EU {w:World}{n off:Nat}{t ty:TypeId}{l x:iz}(h:kf w n t l) (hi:(P.info? ty).map (·.size)=some x.length) (hl:off+x.length<=l.length):
  (storeVar ty (iu n off) (.agg (dB x).toArray)).run P w=.ok () (w.setRow n (dB (splice l off x)).toArray):=by
 have:=run_storeCells_at (P:=P) n off t (dB x) 0 _ w h (by simp[kn];omega) (nO x);cases hq:P.info? ty with
 | none=>simp[hq] at hi
 | some i=>
  have hs:x.length=i.size:=by simp[hq] at hi;omega
  rw[zO]
  simpa [storeVar,sizeOf,typeInfo,hq,Value.cells,kn,hs] using this
theorem rP {w:World}{n off:Nat}{t ty:TypeId}{l x:iz}(h:kf w n t l) (hi:(P.info? ty).map (·.size)=some x.length) (hl:off+x.length<=l.length):
  (Instr.storeAt ty (.pointer (some (iu n off))) (.agg (dB x).toArray)).run P w=.ok () (w.setRow n (dB (splice l off x)).toArray):=by
 simp only[Instr.storeAt,Instr.sureAddr,aM,Sem.run_pure,Result.andThen];exact EU h hi hl
theorem v7 {w:World}{g off m:Nat}{ty e:TypeId}{x:iz}(hu:P.underlying ty=some (.array m e)) (hi:(P.info? ty).map (·.size)=some x.length)
  (hx:∀ j,j<x.length->w.cell? (iu g (off+j))=some (iy (x.getD j 0).toNat)):(Instr.loadAt ty (.pointer (some (iu g off)))).run P w=.ok (.agg (dB x).toArray) w:=by
 have c:(loadCells (iu g off) (dB x).length).run P w=.ok (dB x).toArray w:=
  gj (P:=P) w (iu g off) (dB x) (λj v hv=>by
   have a:j<x.length:=by
    rcases eu j x.length with a|a
    ·exact a
    ·rw[cB (by rw[kn];exact a)] at hv;cases hv
   rw[bJ,hx j a,<-hv];simp[dB,u8,List.getD,a])
 have h:(loadVar ty (iu g off)).run P w=.ok (.agg (dB x).toArray) w:=by
  cases hq:P.info? ty with
  | none=>simp[hq] at hi
  | some i=>
   have hs:i.size=x.length:=by simpa [hq] using hi
   have b:(isAgg ty).run P w=.ok true w:=by unfold isAgg;rw[aM,bb hu w];simp
   rw[kn] at c;simp[loadVar,b,sizeOf,typeInfo,hq,hs,c]
 simp only[Instr.loadAt,Instr.sureAddr,aM,Sem.run_pure,Result.andThen];exact h
theorem kU {w:World}{ops:Array Oper}{rest:List Oper}{o:Oper}{a:Act}{Q:Exit->Act->World->Prop}(hgd:o.guard=none) (ty:TypeId) (x:Operand) (ho:o.op=.load ty x)
  (p v:Value) (hx:a.eval x=p) (hr:(Instr.loadAt ty p).run P w=.ok v w) (h:wpList P ops Q rest (a.put o.dst v) w):wpList P ops Q (o::rest) a w:=
 cN hgd λK b=>by unfold Oper.wp execOp;simp only[ho,hx,aM,hr,bu];exact b _ _ h
theorem v8 (w:World) (T:TypeId) (b c:iz):
  kf ((w.alloc (.cells (dB b).toArray T)).alloc (.cells (dB c).toArray T)) w.heap.size T b/\kf ((w.alloc (.cells (dB b).toArray T)).alloc (.cells (dB c).toArray T)) (w.heap.size+1) T c/\
   Below w.heap.size w ((w.alloc (.cells (dB b).toArray T)).alloc (.cells (dB c).toArray T))/\((w.alloc (.cells (dB b).toArray T)).alloc (.cells (dB c).toArray T)).heap.size=w.heap.size+2:=by
 refine⟨(aB _ _ _ sm).trans (aj w _),?_,((ag _ _).alloc (ae _) _).alloc sm _,by simp⟩;have h:=aj (w.alloc (.cells (dB b).toArray T)) (.cells (dB c).toArray T);simp only[aN] at h;exact h
theorem below_setRow {B:Nat}{a w:World}(h:Below B a w){g:Nat}(hg:B<=g) (cs:Array Value):Below B a (w.setRow g cs):=⟨h.os,h.tape,h.output,by simpa using h.size,λk hk=>(aG _ _ _ _ om).trans (h.block k hk)⟩
theorem kN {w w':World}{ops:Array Oper}{rest:List Oper}{o:Oper}{a:Act}{Q:Exit->Act->World->Prop}(hgd:o.guard=none) (ty:TypeId) (x y:Operand) (ho:o.op=.store ty x y)
  (p q:Value) (hx:a.eval x=p) (hy:a.eval y=q) (hr:(Instr.storeAt ty p q).run P w=.ok () w') (h:wpList P ops Q rest (a.put o.dst undef) w'):wpList P ops Q (o::rest) a w:=
 cN hgd λK b=>by unfold Oper.wp execOp;simp only[ho,hx,hy,aM,hr,bu];exact b _ _ h
theorem kf.setRow {w:World}{b:Nat}{t:TypeId}{l:iz}(h:kf w b t l) (l':iz):kf (w.setRow b (dB l').toArray) b t l':=aJ w b _ _ t _ h
end
end Go.Proofs.YthmcbgidehjlbaaGreat.Fd
namespace Go.Proofs.YthmcbgidehjlbaaGreat.Fd
open _root_.Go.Proofs.Tryz
open Go Go.RowKit K
variable {l:iz}
def bk (i:Nat):UInt8:=(qX 256).getD i 0
def lI (a:Nat):iz:=[byte (kM a),byte a,byte a,byte (mul a 3)]
def ny (a:Nat):iz:=[byte (mul a 14),byte (mul a 9),byte (mul a 13),byte (mul a 11)]
def sS (k i:Nat):UInt8:=
 if i<256 then sb i else if i<512 then bk (i - 256)
 else if i<1536 then (if (i - 512) / 4<k then (lI ((i - 512) / 4)).getD ((i - 512) % 4) 0 else 0)
 else (if (i - 1536) / 4<k then (ny ((i - 1536) / 4)).getD ((i - 1536) % 4) 0 else 0)
def rQ (k:Nat) (l:iz):Prop:=l.length=2560/\∀ i,i<2560->l.getD i 0=sS k i
theorem EV:rQ 0 (splice (splice (List.replicate 2560 0) 0 (qH 255)) 256 (qX 256)):=by
 have b:(List.replicate 2560 (0:UInt8)).length=2560:=aK;have h1:(splice (List.replicate 2560 0) 0 (qH 255)).length=2560:=by rw[length_splice _ _ _ (by rw[b,tR];omega),b]
 refine⟨by rw[length_splice _ _ _ (by rw[h1,tS];omega),h1],λi hi=>?_⟩;rw[vZ _ _ _ _ (by rw[h1,tS];omega),vZ _ _ _ _ (by rw[b,tR];omega),tS,tR];unfold sS;by_cases a:i<256
 ·rw[ah om,ak om,ak a];rfl
 ·by_cases a2:i<512
  ·rw[ak om,ah a,ak a2];rfl
  ·rw[ah om,ah om,ah a,ah a2]
   have e:(List.replicate 2560 (0:UInt8)).getD i 0=0:=by rw[List.getD,eC,ak hi];rfl
   rw[e];split
   ·rw[ah om]
   ·rw[ah om]
theorem EW {k:Nat}(hk:k<256) (h:rQ k l):rQ (k+1) (splice (splice l (512+4*k) (lI k)) (1536+4*k) (ny k)):=by
 have hm:(lI k).length=4:=rfl;have hu:(ny k).length=4:=rfl;have h1:(splice l (512+4*k) (lI k)).length=2560:=by rw[length_splice _ _ _ (by rw[h.1,hm];omega),h.1]
 refine⟨by rw[length_splice _ _ _ (by rw[h1,hu];omega),h1],λi hi=>?_⟩;rw[vZ _ _ _ _ (by rw[h1,hu];omega),vZ _ _ _ _ (by rw[h.1,hm];omega),h.2 i hi,hm,hu];unfold sS;by_cases a:i<256
 ·rw[ah om,ah om,ak a,ak a]
 ·by_cases a2:i<512
  ·rw[ah om,ah om,ah a,ah a,ak a2,ak a2]
  ·rw[ah a,ah a,ah a2,ah a2];by_cases a3:i<1536
   ·rw[ah om,ak a3,ak a3];by_cases a4:512+4*k<=i/\i<512+4*k+4
    ·have b:(i - 512) / 4=k:=om;have c:(i - 512) % 4=i - (512+4*k):=om;rw[ak a4,b,c,ak om]
    ·rw[ah a4];by_cases a5:(i - 512) / 4<k
     ·rw[ak a5,ak om]
     ·rw[ah a5,ah om]
   ·rw[ah a3,ah a3,ah (by omega:¬ (512+4*k<=i/\i<512+4*k+4))];by_cases a4:1536+4*k<=i/\i<1536+4*k+4
    ·have b:(i - 1536) / 4=k:=om;have c:(i - 1536) % 4=i - (1536+4*k):=om;rw[ak a4,b,c,ak om]
    ·rw[ah a4];by_cases a5:(i - 1536) / 4<k
     ·rw[ak a5,ak om]
     ·rw[ah a5,ah om]
def uW (w:World) (b k:Nat):Prop:=∃ l,kf w b 299 l/\rQ k l
theorem EY:Tryz.zeroCells299=(dB (List.replicate 2560 0)).toArray:=kr
theorem Ag (h:l.length=256):(prog.info? 295).map (·.size)=some l.length:=by rw[h];kernel_rfl
theorem yi (h:l.length=4):(prog.info? 296).map (·.size)=some l.length:=by rw[h];kernel_rfl
def qY (w:World) (n k:Nat) (x:World):Prop:=Below n w x/\n<x.heap.size/\uW x n k
theorem qY.drew {w:World}{n k:Nat}{x:World}(h:qY w n k x):qY w n k x.drew:=⟨⟨h.1.os,h.1.tape,h.1.output,h.1.size,h.1.block⟩,h.2⟩
def qI (w:World) (n k:Nat) (x:World):Prop:=Below n w x/\n<x.heap.size/\∃ l,rQ k l/\kf x n 299 (splice l (512+4*k) (lI k))
theorem qI.drew {w:World}{n k:Nat}{x:World}(h:qI w n k x):qI w n k x.drew:=⟨⟨h.1.os,h.1.tape,h.1.output,h.1.size,h.1.block⟩,h.2⟩
theorem EZ {w:World}{n k:Nat}{x:World}(hn:n<=n) (h:qY w n k x) (hk:k<256):
  ∃ x',(Instr.storeAt 296 (.pointer (some (iu n (512+4*k)))) (.agg #[iy (kM k),iy k,iy k,iy (mul k 3)])).run prog x=.ok () x'/\aQ (·=n) x x'/\qI w n k x':=by
 obtain⟨hb,hs,l,a,b⟩:=h
 have e:(dB (lI k)).toArray=#[iy (kM k),iy k,iy k,iy (mul k 3)]:=by simp[dB,u8,lI,lM (@ox k),lM hk,lM (@mul_lt k 3 hk)]
 have hr:=rP (P:=prog) (off:=512+4*k) a (yi (l:=lI k) rfl) (by rw[b.1];show 512+4*k+4<=2560;omega);rw[e] at hr;exact⟨_,hr,aQ.setRow (C:=(·=n)) (aQ.refl _ x) (λ_=>rfl) _,below_setRow hb hn _,by simpa using hs,l,b,a.setRow _⟩
theorem E1 {w:World}{n k:Nat}{x:World}(hn:n<=n) (h:qI w n k x) (hk:k<256):
  ∃ x',(Instr.storeAt 296 (.pointer (some (iu n (1536+4*k)))) (.agg #[iy (mul k 14),iy (mul k 9),iy (mul k 13),iy (mul k 11)])).run prog x=.ok () x'/\aQ (·=n) x x'/\qY w n (k+1) x':=by
 obtain⟨hb,hs,l,a,b⟩:=h
 have e:(dB (ny k)).toArray=#[iy (mul k 14),iy (mul k 9),iy (mul k 13),iy (mul k 11)]:=by simp[dB,u8,ny,lM (mul_lt hk)]
 have c:(splice l (512+4*k) (lI k)).length=2560:=by rw[length_splice _ _ _ (by rw[a.1];show 512+4*k+4<=2560;omega),a.1]
 have hr:=rP (P:=prog) (off:=1536+4*k) b (yi (l:=ny k) rfl) (by rw[c];show 1536+4*k+4<=2560;omega);rw[e] at hr;exact⟨_,hr,aQ.setRow (C:=(·=n)) (aQ.refl _ x) (λ_=>rfl) _,below_setRow hb hn _,by simpa using hs,_,b.setRow _,EW hk a⟩
theorem Ah (w:World):Calls prog 197 #[] w λe w'=>∃ b,e=.returned (.pointer (some ⟨b,0,none⟩))/\w.heap.size<=b/\uW w' b 256/\Below w.heap.size w w':=by
 obtain⟨n,hn⟩:=Ex w.heap.size;have t:=LH hn;go_enter func197,ntmps197
 go_wp2_with (go_at_call 205;fail)
 rw[<-t.o];clear hn;refine (ET _).mono ?_;rintro e M ⟨rfl,hb⟩;have q:=LH EV;have y:=@tR 255;have z:=@tS 256;generalize qH 255=B at*;generalize qX 256=C at*;obtain⟨Z,F⟩:=Ex (List.replicate 2560 (0:UInt8));rw[<-F] at q;have J:Z.length=2560:=by rw[F,aK]
 have s:n<(w.alloc (.cells Tryz.zeroCells299 299)).heap.size:=by simp[t.o]
 have K:kf M n 299 Z:=by rw[F];refine kf.of EY ((hb.block n s).trans ?_);rw[t.o];exact aj w _
 have D:Below n w M:=((ag _ _).alloc (cJ t.o) _).trans (hb.mono om);have l:=rP (P:=prog) (off:=0) K (Ag y) om;have r:=K.setRow (splice Z 0 B);have f:=rP (P:=prog) (off:=256) r (Ag z) (by rw[length_splice _ _ _ om];omega);have j:=r.setRow (splice (splice Z 0 B) 256 C);rw[setRow_setRow] at j f;obtain⟨w2,m⟩:=Ex (M.setRow n (dB (splice (splice Z 0 B) 256 C)).toArray);rw[<-m] at j f;have E:=LH (show uW w2 n 0 from ⟨_,j,q.o⟩);have p:=LH (show n<w2.heap.size by rw[m,eS];exact aH s hb.size);have A:=LH (show Below n w w2 by rw[m];exact below_setRow D (ae n) _);clear m q y z F J;clear D K r j s hb;replace l:=LH l;replace f:=LH f
 go_wp2_with (first|(refine kN rfl 295 _ _ rfl _ _ rfl rfl l.o ?_)|(refine kN rfl 295 _ _ rfl _ _ rfl rfl f.o ?_))
 clear l f
 go_loopw [16] (λi wr=>∃ k:Nat,k<=256/\i=.int .i64 k/\qY w n k wr)
  (λi _=>256 - (intOf i).toNat)
 case atStart=>exact⟨0,by omega,rfl,A.o,p.o,E.o⟩
 case round=>
  clear E p A;obtain⟨k,hk,rfl,g⟩:=hrel;replace g:=LH g;by_cases c:k<256
  ·go_wp2;refine RA.region (λa b=>aQ (·=n) a b) (·=·) [1,1,1,4,1,1,1,4,1,1,1,1,4] (λ_ _ _=>True) (qY w n k) kr (aQ.refl _ _) (λ_ _ h=>h ▸ aQ.refl _ _) (λ_ _ _ h k=>h.trans k) (λ_ _ h k=>h ▸ k) (g.o.drew) kr ?_;intro cx
   repeat refine RA.qq ?_
   refine RA.kc (P:=prog) [.int .u8 (k:Int)] (.int .u8 (kM k)) (qY w n k) (hr:=λd hp hH=>(xT k c _).mono (by rintro e u ⟨rfl,rfl⟩;exact⟨rfl,aQ.refl _ _,hH⟩)) (hn:=?_)
   repeat refine RA.qq ?_
   refine RA.kc (P:=prog) [.int .u8 (k:Int),.int .u8 3] (.int .u8 (mul k 3)) (qY w n k) (hr:=λd hp hH=>(sO k 3 c om _).mono (by rintro e u ⟨rfl,rfl⟩;exact⟨rfl,aQ.refl _ _,hH⟩)) (hn:=?_);refine RA.v prog (x:=.agg #[.int .u8 (kM k),.int .u8 k,.int .u8 k,.int .u8 (mul k 3)]) rf rf rf (λw hp=>by go_simp) ?_;simp only[RA.add];refine RA.nc rf rf rf ?_;refine RA.fa rf rf rf (y':=.pointer (some ⟨n,512,none⟩)) (λd hp=>by show (Instr.fieldAt _ _ _).run prog d=_;go_simp) ?_;refine RA.ia rf rf rf rf (y':=.pointer (some ⟨n,512+4*k,none⟩)) (λd hp=>by show (Instr.indexAt _ _ _).run prog d=_;go_simp) ?_;refine RA.st (qI w n k) (hr:=λd hp hH=>?_) (hn:=?_)
   ·obtain⟨x',h1,G,H⟩:=EZ (ae n) hH c;exact⟨x',RA.kL rf rf h1,G,H⟩
   refine RA.RA.done rfl (λd N I hH=>?_);clear I;simp only[RA.RP,cx];replace hH:=LH hH;clear g;go_wp2;refine RA.region (λa b=>aQ (·=n) a b) (·=·) [1,1,1,4,1,4,1,4,1,4,1,1,1,1,4] (λ_ _ _=>True) (qI w n k) kr (aQ.refl _ _) (λ_ _ h=>h ▸ aQ.refl _ _) (λ_ _ _ h k=>h.trans k) (λ_ _ h k=>h ▸ k) (hH.o.drew) kr ?_;intro cx
   repeat refine RA.qq ?_
   refine RA.kc (P:=prog) [.int .u8 (k:Int),.int .u8 14] (.int .u8 (mul k 14)) (qI w n k) (hr:=λd hp hH=>(sO k 14 c om _).mono (by rintro e u ⟨rfl,rfl⟩;exact⟨rfl,aQ.refl _ _,hH⟩)) (hn:=?_)
   repeat refine RA.qq ?_
   refine RA.kc (P:=prog) [.int .u8 (k:Int),.int .u8 9] (.int .u8 (mul k 9)) (qI w n k) (hr:=λd hp hH=>(sO k 9 c om _).mono (by rintro e u ⟨rfl,rfl⟩;exact⟨rfl,aQ.refl _ _,hH⟩)) (hn:=?_)
   repeat refine RA.qq ?_
   refine RA.kc (P:=prog) [.int .u8 (k:Int),.int .u8 13] (.int .u8 (mul k 13)) (qI w n k) (hr:=λd hp hH=>(sO k 13 c om _).mono (by rintro e u ⟨rfl,rfl⟩;exact⟨rfl,aQ.refl _ _,hH⟩)) (hn:=?_)
   repeat refine RA.qq ?_
   refine RA.kc (P:=prog) [.int .u8 (k:Int),.int .u8 11] (.int .u8 (mul k 11)) (qI w n k) (hr:=λd hp hH=>(sO k 11 c om _).mono (by rintro e u ⟨rfl,rfl⟩;exact⟨rfl,aQ.refl _ _,hH⟩)) (hn:=?_);refine RA.v prog (x:=.agg #[.int .u8 (mul k 14),.int .u8 (mul k 9),.int .u8 (mul k 13),.int .u8 (mul k 11)]) rf rf rf (λw hp=>by go_simp) ?_;simp only[RA.add];refine RA.nc rf rf rf ?_;refine RA.fa rf rf rf (y':=.pointer (some ⟨n,1536,none⟩)) (λd hp=>by show (Instr.fieldAt _ _ _).run prog d=_;go_simp) ?_;refine RA.ia rf rf rf rf (y':=.pointer (some ⟨n,1536+4*k,none⟩)) (λd hp=>by show (Instr.indexAt _ _ _).run prog d=_;go_simp) ?_;refine RA.st (qY w n (k+1)) (hr:=λd hp hH=>?_) (hn:=?_)
   ·obtain⟨x',h1,G,H⟩:=E1 (ae n) hH c;exact⟨x',RA.kL rf rf h1,G,H⟩
   clear hH;refine RA.RA.done rfl (λu N I hH=>?_);clear I;simp only[RA.RP,cx];replace hH:=LH hH;go_wp2;go_roundw
   case rel=>exact⟨k+1,by omega,by go_num,hH.o⟩
   case measure=>simp[intOf];omega
  ·go_wp2;go_ret;obtain⟨hb,_,E⟩:=g.o;have L:k=256:=om;subst L;exact⟨n,rfl,cJ t.o.symm,E,t.o ▸ hb⟩
variable {ks:List UInt32}
def sU (l:List UInt32):List Value:=l.map λx=>.int .u32 x.toNat
theorem yj (l:List UInt32) (j:Nat) (h:j<l.length):(sU l)[j]?=some (.int .u32 (l.getD j 0).toNat):=by simp[sU,List.getD,h]
structure nI (w:World) (F:Nat->Prop) (p b:Nat) (kv:Value) (ks:List UInt32):Prop where
 box:w.heap[p]?=some (.cells #[iq b,kv] 294 (0,0))
 own:F p
 rR:uW w b 256
 yk:F b
 mu:ks.length<=1000
 keys:Cells w F kv ks.length 1 (sU ks)
theorem nI.dC {w w':World}{F:Nat->Prop}{p b:Nat}{kv:Value}(h:nI w F p b kv ks) (hs:w.heap.size<=w'.heap.size) (hk:∀ g,F g->g<w.heap.size->w'.heap[g]?=w.heap[g]?):nI w' F p b kv ks:=by obtain⟨l,a,c⟩:=h.rR;exact⟨(hk p h.own (dD h.box)).trans h.box,h.own,⟨l,a.dC (hk b h.yk (dD a)),c⟩,h.yk,h.mu,Cells.dC h.keys hs hk⟩
def nJ (ks:List UInt32):Nat:=ks.length / 4 - 1
def Ai (b:iz) (ks:List UInt32) (r i:Nat):UInt8:=byte ((b.getD i 0).toNat ^^^ (ks.getD (4*r+i / 4) 0).toNat / 2 ^ (24 - 8*(i % 4)) % 256)
def nQ (b:iz) (ks:List UInt32) (r:Nat):Nat->iz
 | 0=>b
 | k+1=>(nQ b ks r k).set k (Ai b ks r k)
theorem qZ {b:iz}{r k:Nat}:(nQ b ks r k).length=b.length:=by
 induction k with
 | zero=>rfl
 | succ k ih=>exact bg.trans ih
theorem E4 {b:iz}{r k i:Nat}(h:k<=i):(nQ b ks r k).getD i 0=b.getD i 0:=by
 induction k with
 | zero=>rfl
 | succ k ih=>rw[nQ,List.getD,eT om,<-List.getD,ih om]
theorem kX {l:iz}(h:l.length=16):(prog.info? 179).map (·.size)=some l.length:=by rw[h];kernel_rfl
theorem uX {w:World}{F:Nat->Prop}{p tb:Nat}{kv:Value}(h:nI w F p tb kv ks) (b:iz) (hb:b.length=16) (r:Nat) (hr:4*r+4<=ks.length):
  Calls prog 182 #[iq p,.agg (dB b).toArray,iw r] w λe w'=>e=.returned (.agg (dB (nQ b ks r 16)).toArray)/\Below w.heap.size w w':=by
 obtain⟨n,hn⟩:=Ex w.heap.size;have l:=LH hn;have an:=h.mu;have a7:=dD h.box;rw[<-hn] at a7;have H:=LH h;clear h hn;obtain⟨V,T⟩:=Ex ((dB b).toArray);rw[<-T];replace T:=LH T;go_enter func182,ntmps182;go_wp2
 go_loopw [8] (λi wr=>∃ k:Nat,k<=16/\i=iw k/\Below n w wr/\n+1<wr.heap.size/\Hd (kf wr n 179 (nQ b ks r k))/\Hd (kf wr (n+1) 179 (List.replicate 16 0)))
  (λi _=>16 - (intOf i).toNat)
 case atStart=>
  refine⟨0,by omega,rfl,?_,?_,?_,?_⟩
  ·rw[l.o];exact ((ag _ _).alloc (ae _) _).alloc sm _
  ·simp[l.o]
  ·rw[l.o];exact kf.of T.o ((aB _ _ _ sm).trans (aj w _))
  ·have h:=aj (w.alloc (.cells V 179)) (.cells (dB (List.replicate 16 0)).toArray 179);simp only[aN] at h;rw[l.o];exact h
 case round=>
  obtain⟨k,hk,rfl,a,ad,A,H1⟩:=hrel;rw[<-l.o];by_cases N:k<16
  ·have hc:=LH (H.o.dC (w':=wr) (by have:=a.size;exact this) (λg hg hl=>a.block g (by rw[l.o];exact hl)));obtain⟨q,hq⟩:=Ex (k / 4);obtain⟨j,hj⟩:=Ex (k % 4);obtain⟨s,hs⟩:=Ex (24 - 8*j);have b4:j<4:=om;obtain⟨M,R⟩:=Ex (4*r+q);have a6:M<ks.length:=om;obtain⟨g,off,cap,rfl,Y,Z,_,a1,c⟩:=Cells.at hc.o.keys om;have hw:=c _ _ (yj ks _ a6);have ay:=LH c;clear c;obtain⟨W,J⟩:=Ex ((ks.getD M 0).toNat);rw[<-J] at hw;obtain⟨B,C⟩:=Ex ((b.getD k 0).toNat);have b3:W<4294967296:=J ▸ eU _;have E:B<256:=C ▸ aP _;obtain⟨D,Q⟩:=Ex (W / 2 ^ s % 256);have G:D<256:=om;have b2:(W:Int) / 2 ^ s % 256=D:=by rw[Q];simp
   have hx:=dx B D E G;replace Q:=LH Q;have t:=A.o.cell k (by rw[qZ,hb];exact N);rw[E4 (ae k),<-C] at t;have y:=cell_of hc.o.box 1;have hd:(k:Int) / 4=q:=om;have hm:(k:Int) % 4=j:=om;have b5:(k:Int).tmod 4=j:=by rw[bZ om];exact hm
   have ax:min s 32=s:=om;have O:n<wr.heap.size:=om;have a8:p<wr.heap.size:=dD hc.o.box;revert hq hj hs R hw J C t y;refine H9 ?_;intro hq hj hs R hw J C t y;have d:=Dr wr
   replace d:=LH d;replace a:=LH a;go_wp2;refine RA.rt (aQ No) [1,1,1,1,1,1,1,1,1,1,1,1,1,1,1,1,1,1,1,1,1,1,7] [22] (λ_=>True) trivial (λ_=>aQ.refl _ _) (λ_ _ _ h k=>h.trans k) (h:=?_);intro cx
   repeat refine RA.qq ?_
   refine RA.ik prog n k (h:=?_);refine RA.lk prog (iy B) (hc:=λz hp=>by exact ((d.o _ hp.1).cell (p:=iu n k) O id).trans t.o) (h:=?_)
   repeat refine RA.qq ?_
   refine RA.fk prog p 1 (h:=?_);refine RA.lk prog (.slice (some (iu g off)) ks.length cap) (hc:=λz hp=>by exact ((d.o _ hp.1).cell (p:=iu p 1) a8 id).trans y.o) (h:=?_)
   repeat refine RA.qq ?_
   refine RA.mi (r:=4*(r:Int)) (h:=?_)
   repeat refine RA.qq ?_
   refine RA.vw prog (iw q) (h:=?_);refine RA.ai (r:=(M:Int)) (he:=by have:=R.o;omega) (h:=?_);refine RA.ik prog g (off+M) (h:=?_);refine RA.lk prog (.int .u32 W) (hc:=λz hp=>by exact ((d.o _ hp.1).cell (p:=iu g (off+M)) a1 id).trans hw.o) (h:=?_)
   repeat refine RA.qq ?_
   refine RA.vw prog (iw j) (h:=?_);refine RA.mi (r:=8*(j:Int)) (h:=?_);refine RA.si (r:=(s:Int)) (he:=by have:=hs.o;omega) (hr:=by have:=hs.o;omega) (h:=?_);refine RA.vw prog (.int .u32 ((W:Int) / 2 ^ s)) (h:=?_);refine RA.vw prog (iy D) (h:=?_);refine RA.vw prog (iy ((B ^^^ D:Nat):Int)) (h:=?_);refine RA.ik prog n k (h:=?_);refine RA.lj (λU=>Below n w U/\n+1<U.heap.size/\kf U n 179 (nQ b ks r (k+1))/\kf U (n+1) 179 (List.replicate 16 0)) (hr:=λz hp _=>?_) (hn:=?_)
   ·have S:=d.o _ (hp.first kr).1;have X:=A.o.dC (S.block n O id);have A1:=H1.o.dC (S.block (n+1) ad id);have f0:=X.frozen k;have c0:=X.cell k (by rw[qZ,hb];exact N);have v:=X.set k (byte (B ^^^ D));have af:=mq E G;rw[lM af] at v;have e:(Instr.storeAt 5 (.pointer (some (iu n k))) (iy ((B ^^^ D:Nat):Int))).run prog z=.ok () (z.setCell (iu n k) (iy ((B ^^^ D:Nat):Int))):=by go_simp
    refine⟨_,RA.kL rf rf e,(a.o.trans ((aQ.no S).mono (by have:=a.o.size;rw[l.o];exact this))).setCell (p:=iu n k) (ae n) _,?_,?_,A1.dC (kA _ _ _ sm)⟩
    ·have:=S.size;simp;omega
    ·rw[nQ,Ai,<-hq.o,<-hj.o,<-R.o,<-hs.o,<-J.o,<-C.o,<-Q.o];exact v
   refine RA.RA.kW (λz hH=>?_);simp only[RA.RP,cx];replace hH:=LH hH;go_wp2;go_roundw
   case rel=>exact⟨k+1,by omega,by go_num,hH.o.1,hH.o.2.1,hH.o.2.2.1,hH.o.2.2.2⟩
   case measure=>simp[intOf];omega
  ·have K:k=16:=om;rw[K] at A;clear K;obtain⟨L,I⟩:=Ex (nQ b ks r 16);rw[<-I] at A;have m:L.length=16:=I ▸ qZ.trans hb;replace I:=LH I;have u:=rP (P:=prog) (off:=0) (x:=L) H1.o (kX m) (by rw[m,aK];omega)
   have aa:splice (List.replicate 16 0) 0 L=L:=by simp only[splice,dX,bE];rw[eV (by rw[m,aK];omega),dm]
   rw[aa] at u;have f:=H1.o.setRow L;have hi:=kX m;revert a u f hi;refine H4 ?_;intro a u f hi
   go_wp2_with (first
    | (refine eR rfl 179 _ rfl n rfl 179 _ (0,0) _ A.o underlying179 rfl (by rw[hi.o];simp[kn]) ?_)
    | (refine kN rfl 179 _ _ rfl _ _ rfl rfl u.o ?_))
   refine aI (bd results182 _ _ (n+1) 179 _ (0,0) _ rfl f.o underlying179 rfl (by rw[hi.o];simp[kn])) rfl ⟨by rw[I.o],?_⟩;exact below_setRow (l.o ▸ a.o) (by rw[l.o];omega) _
variable {b:iz}
def sV (b:iz) (k:Nat):Nat:=if k=0 then 0 else (b.getD (k - 1) 0).toNat / 128
theorem E5 {k:Nat}:sV b k<2:=by
 unfold sV;split
 ·omega
 ·have:=(b.getD (k - 1) 0).toNat_lt;omega
def sE (b:iz):Nat->iz
 | 0=>List.replicate 16 0
 | k+1=>(sE b k).set k (byte (((b.getD k 0).toNat*2 % 256) ||| sV b k))
theorem wc {k:Nat}:(sE b k).length=16:=by
 induction k with
 | zero=>exact aK
 | succ k ih=>exact bg.trans ih
def double (b:iz):iz:=if sV b 16=0 then sE b 16 else (sE b 16).set 0 (byte (((sE b 16).getD 0 0).toNat ^^^ 135))
theorem Aj:(double b).length=16:=by
 unfold double;split
 ·exact wc
 ·exact bg.trans wc
theorem E6 (b:iz) (hb:b.length=16) (w:World):
  Calls prog 192 #[.agg (dB b).toArray] w λe w'=>e=.returned (.agg (dB (double b)).toArray)/\Below w.heap.size w w':=by
 obtain⟨n,S⟩:=Ex w.heap.size;have F:=LH S;have l:=LH (v8 w 179 b (List.replicate 16 0));have K:=LH (kX hb);clear S;obtain⟨V,y⟩:=Ex ((dB b).toArray);rw[<-y] at l ⊢;have U:(dB (List.replicate 16 0)).toArray=#[iy 0,iy 0,iy 0,iy 0,iy 0,iy 0,iy 0,iy 0,iy 0,iy 0,iy 0,iy 0,iy 0,iy 0,iy 0,iy 0]:=rfl;rw[U] at l;clear U;have s:(prog.info? 179).map (·.size)=some V.size:=by rw[K.o,y];simp[kn]
 have r:∀ k,k<16->V[k]?=some (iy (b.getD k 0).toNat):=λk hk=>by rw[y];exact tT b k om
 revert y s r;refine H3 ?_;intro y s r;go_enter func192,ntmps192
 go_wp2_with (refine eR rfl 179 _ rfl _ rfl 179 V (0,0) _ (fq l.o.1 (by rw[y.o])) underlying179 rfl s.o ?_)
 obtain⟨w2,E⟩:=Ex ((w.alloc (.cells V 179)).alloc (.cells #[iy 0,iy 0,iy 0,iy 0,iy 0,iy 0,iy 0,iy 0,iy 0,iy 0,iy 0,iy 0,iy 0,iy 0,iy 0,iy 0] 179));rw[<-E] at l ⊢;rw[<-F.o] at l ⊢;clear E
 go_loopw [3,7] (λc i wr=>∃ k:Nat,k<=16/\i=iw k/\c=iy (sV b k)/\Below n w wr/\n+1<wr.heap.size/\Hd (kf wr (n+1) 179 (sE b k)))
  (λ_ i _=>16 - (intOf i).toNat)
 case atStart=>exact⟨0,by omega,rfl,rfl,l.o.2.2.1,by have:=l.o.2.2.2;omega,l.o.2.1⟩
 case round=>
  obtain⟨k,hk,rfl,rfl,f,M,H1⟩:=hrel;obtain⟨c,hc⟩:=Ex (sV b k);rw[<-hc];have W:c<2:=hc ▸ E5;replace f:=LH f;by_cases u:k<16
  ·have t:=r.o k u;have D:=λw=>tU (P:=prog) (k:=.i64) (j:=k) (v:=iy (b.getD k 0).toNat) underlying179 kr kr kr u t w
   obtain⟨B,d⟩:=Ex ((b.getD k 0).toNat);rw[<-d] at D t;have m:B<256:=d ▸ aP _;have T:=u8_or_nat (B*2 % 256) c om om;have X:bits .or .u8 ((B:Int)*2 % 256) (c:Int)=((B*2 % 256 ||| c:Nat):Int):=by rw[<-T];simp
   have J:B*2 % 256 ||| c<256:=fp (n:=8) om om
   have f0:=H1.o.frozen k;have c0:=H1.o.cell k (by rw[wc];exact u);replace hc:=LH hc;replace d:=LH d;clear T t;go_wp2;go_roundw
   case rel=>
    refine⟨k+1,by omega,by go_num,?_,f.o.setCell (p:=iu (n+1) k) (by show n<=n+1;omega) _,by simpa using M,?_⟩
    ·rw[sV,ah om,Nat.add_sub_cancel,<-d.o];simp
    ·have h:=H1.o.set k (byte (B*2 % 256 ||| c));rw[lM J] at h;show kf _ _ _ _;rw[sE,<-d.o,<-hc.o];exact h
   case measure=>simp[intOf];omega
  ·have C:k=16:=om;rw[C] at H1 hc;clear C;obtain⟨L,x⟩:=Ex (sE b 16);rw[<-x] at H1;have A:L.length=16:=x ▸ wc;replace hc:=LH hc;replace x:=LH x
   have a:∀ (z:World) (R:iz),R.length=16->kf z (n+1) 179 R->(prog.info? 179).map (·.size)=some (dB R).toArray.size/\(Instr.loadAt 179 (iq (n+1))).run prog z=.ok (.agg (dB R).toArray) z/\(Instr.storeAt 179 (iq (n+1)) (.agg (dB R).toArray)).run prog z=.ok () z:=λz R G Q=>⟨by rw[kX G];simp[kn],nf Q underlying179 (kX G),sy Q (kX G)⟩
   replace a:=LH a;by_cases H:c=0
   ·have q:=LH (a.o wr L A H1.o)
    go_wp2_with (first|(refine kU rfl 179 _ rfl _ _ rfl q.o.2.1 ?_)|(refine kN rfl 179 _ _ rfl _ _ rfl rfl q.o.2.2 ?_))
    refine aI (bd results192 _ _ (n+1) 179 _ (0,0) _ rfl H1.o underlying179 rfl q.o.1) rfl ⟨?_,F.o ▸ f.o⟩;rw[double,ak (hc.o ▸ H),x.o]
   ·have I:c=1:=om;subst I;have f0:=H1.o.frozen 0;have c0:=H1.o.cell 0 om;obtain⟨B,d⟩:=Ex ((L.getD 0 0).toNat);rw[<-d] at c0;have m:B<256:=d ▸ aP _;have Y:bits .xor .u8 (B:Int) 135=((B ^^^ 135:Nat):Int):=dx B 135 m om;have N:=mq m (show 135<256 by omega);have g:=H1.o.set 0 (byte (B ^^^ 135));rw[lM N] at g;have O:=LH g;have q:=LH (a.o _ _ (bg.trans A) O.o);clear g;replace d:=LH d
    go_wp2_with (first|(refine kU rfl 179 _ rfl _ _ rfl q.o.2.1 ?_)|(refine kN rfl 179 _ _ rfl _ _ rfl rfl q.o.2.2 ?_))
    refine aI (bd results192 _ _ (n+1) 179 _ (0,0) _ rfl O.o underlying179 rfl q.o.1) rfl ⟨?_,F.o ▸ f.o.setCell (p:=iu (n+1) 0) (by show n<=n+1;omega) _⟩;rw[double,ah (by rw[<-hc.o];omega),<-x.o,<-d.o]
def rS:Nat->Nat->Nat->iz->iz
 | 0,_,_,l=>l
 | f+1,i,n,l=>if n=0 then l else rS f (i+1) (n / 256) (l.set i (byte (n % 256)))
def number (n:Nat):iz:=rS 16 0 n (List.replicate 16 0)
theorem E7 {f i:Nat}{l:iz}:rS f i 0 l=l:=by cases f<;>simp[rS]
theorem E8 {f:Nat}:∀ {i n:Nat}{l:iz},(rS f i n l).length=l.length:=by
 induction f with
 | zero=>intro i n l;rfl
 | succ f ih=>
  intro i n l;rw[rS];split
  ·rfl
  ·exact ih.trans bg
theorem we {n:Nat}:(number n).length=16:=E8.trans aK
theorem E9 (x:Nat) (hx:x<=9223372036854775807) (w:World):
  Calls prog 191 #[iw x] w λe w'=>e=.returned (.agg (dB (number x)).toArray)/\Below w.heap.size w w':=by
 obtain⟨n,k⟩:=Ex w.heap.size;have u:=LH k
 have H1:kf (w.alloc (.cells #[iy 0,iy 0,iy 0,iy 0,iy 0,iy 0,iy 0,iy 0,iy 0,iy 0,iy 0,iy 0,iy 0,iy 0,iy 0,iy 0] 179)) n 179 (List.replicate 16 0):=by rw[k];exact aj w _
 have hb:Below n w (w.alloc (.cells #[iy 0,iy 0,iy 0,iy 0,iy 0,iy 0,iy 0,iy 0,iy 0,iy 0,iy 0,iy 0,iy 0,iy 0,iy 0,iy 0] 179)):=(ag _ _).alloc (cJ k) _;have hs:n<(w.alloc (.cells #[iy 0,iy 0,iy 0,iy 0,iy 0,iy 0,iy 0,iy 0,iy 0,iy 0,iy 0,iy 0,iy 0,iy 0,iy 0,iy 0] 179)).heap.size:=by simp[k]
 revert H1 hb hs;refine H3 ?_;intro H1 hb hs;clear k;go_enter func191,ntmps191;go_wp2;rw[<-u.o]
 go_loopw [0,3] (λy i wr=>∃ f t N:Nat,∃ l:iz,f+t=16/\N<256 ^ f/\N<=9223372036854775807/\l.length=16/\y=iw N/\i=iw t/\Below n w wr/\n<wr.heap.size/\Hd (kf wr n 179 l)/\Hd (rS f t N l=number x))
  (λy _ _=>(intOf y).toNat)
 case atStart=>exact⟨16,0,x,List.replicate 16 0,rfl,by omega,hx,aK,rfl,rfl,hb.o,hs.o,H1.o,rfl⟩
 case round=>
  clear H1 hb hs;obtain⟨f,i,N,l,A,m,z,q,rfl,rfl,b,s,H1,hm⟩:=hrel;replace b:=LH b;by_cases B:0<N
  ·have step:∃ c,f=c+1/\N / 256<256 ^ c/\rS c (i+1) (N / 256) (l.set i (byte (N % 256)))=number x:=by
    cases f with
    | zero=>simp at m;omega
    | succ c=>refine⟨c,rfl,by rw[dK] at m;omega,?_⟩;have h:=hm.o;rw[rS,ah om] at h;exact h
   obtain⟨c,rfl,d,j⟩:=step;replace d:=LH d;replace j:=LH j;clear m hm;have f0:=H1.o.frozen i;have c0:=H1.o.cell i om;have a:=H1.o.set i (byte (N % 256));rw[lM om] at a;replace a:=LH a;have v:i<16:=om;go_wp2;go_roundw
   case rel=>
    refine⟨c,i+1,N / 256,l.set i (byte (N % 256)),by omega,d.o,by omega,by rw[bg];exact q,by simp,by go_num,b.o.setCell (p:=iu n i) (ae n) _,by simpa using s,?_,j.o⟩;have h:=a.o;show kf _ _ _ _
    simpa using h
   case measure=>simp[intOf];omega
  ·obtain rfl:N=0:=om;have g:l=number x:=by have h:=hm.o;rw[E7] at h;exact h
   replace g:=LH g;clear hm m
   have r:=LH (show (prog.info? 179).map (·.size)=some (dB l).toArray.size/\(Instr.loadAt 179 (iq n)).run prog wr=.ok (.agg (dB l).toArray) wr/\(Instr.storeAt 179 (iq n) (.agg (dB l).toArray)).run prog wr=.ok () wr from
    ⟨by rw[kX q];simp[kn],nf H1.o underlying179 (kX q),sy H1.o (kX q)⟩)
   go_wp2_with (first|(refine kU rfl 179 _ rfl _ _ rfl r.o.2.1 ?_)|(refine kN rfl 179 _ _ rfl _ _ rfl rfl r.o.2.2 ?_))
   refine aI (bd results191 _ _ n 179 _ (0,0) _ rfl H1.o underlying179 rfl r.o.1) rfl ⟨by rw[g.o],u.o ▸ b.o⟩
def sW (R:iz) (i:Nat) (o:iz):Nat->iz
 | 0=>o
 | k+1=>(sW R i o k).set (i / 4*4+(i+k) % 4) (byte (((sW R i o k).getD (i / 4*4+(i+k) % 4) 0).toNat ^^^ (R.getD k 0).toNat))
theorem Ak {R:iz}{i:Nat}{o:iz}{k:Nat}:(sW R i o k).length=o.length:=by
 induction k with
 | zero=>rfl
 | succ k ih=>exact bg.trans ih
def nZ (M:Nat->iz) (b:iz):Nat->iz
 | 0=>List.replicate 16 0
 | i+1=>sW (M (b.getD i 0).toNat) i (nZ M b i) 4
theorem sX {M:Nat->iz}{b:iz}{i:Nat}:(nZ M b i).length=16:=by
 induction i with
 | zero=>exact aK
 | succ i ih=>exact Ak.trans ih
theorem Al (M:Nat->iz) (hM4:∀ a,(M a).length=4) (b:iz) (hb:b.length=16) (tb off:Nat) (w:World) (ht:tb<w.heap.size)
  (hM:∀ a,a<256->∀ j,j<4->w.cell? (iu tb (off+a*4+j))=some (iy ((M a).getD j 0).toNat)):
  Calls prog 183 #[.agg (dB b).toArray,.pointer (some (iu tb off))] w λe w'=>e=.returned (.agg (dB (nZ M b 16)).toArray)/\Below w.heap.size w w':=by
 obtain⟨n,hn⟩:=Ex w.heap.size;have HN:=LH hn;have h:=LH (v8 w 179 b (List.replicate 16 0));have a6:=LH (kX hb);rw[<-hn] at ht;clear hn;obtain⟨V,x⟩:=Ex ((dB b).toArray);rw[<-x] at h ⊢;have hz:(dB (List.replicate 16 0)).toArray=#[iy 0,iy 0,iy 0,iy 0,iy 0,iy 0,iy 0,iy 0,iy 0,iy 0,iy 0,iy 0,iy 0,iy 0,iy 0,iy 0]:=rfl;rw[hz] at h;clear hz;have t:(prog.info? 179).map (·.size)=some V.size:=by rw[a6.o,x];simp[kn]
 have s:∀ k,k<16->V[k]?=some (iy (b.getD k 0).toNat):=λk hk=>by rw[x];exact tT b k om
 have l:∀ wr,Below n w wr->∀ a,a<256->(Instr.loadAt 296 (.pointer (some (iu tb (off+a*4))))).run prog wr=.ok (.agg (dB (M a)).toArray) wr:=by intro wr c a ha;refine v7 underlying296 (yi (hM4 a)) (λj y=>?_);rw[hM4] at y;rw[az (w:=w) (c.block tb ht)];exact hM a ha j y
 refine G6 l hM hM4 x t s ?_;clear l hM hM4 x t s;intro l hM hM4 x t s;go_enter func183,ntmps183
 go_wp2_with (refine eR rfl 179 _ rfl _ rfl 179 V (0,0) _ (fq h.o.1 (by rw[x.o])) underlying179 rfl t.o ?_)
 obtain⟨w2,U⟩:=Ex ((w.alloc (.cells V 179)).alloc (.cells #[iy 0,iy 0,iy 0,iy 0,iy 0,iy 0,iy 0,iy 0,iy 0,iy 0,iy 0,iy 0,iy 0,iy 0,iy 0,iy 0] 179));rw[<-U] at h ⊢;rw[<-HN.o] at h ⊢;clear U
 go_loopw [10] (λi wr=>∃ k:Nat,k<=16/\i=iw k/\Below n w wr/\n+1<wr.heap.size/\Hd (kf wr (n+1) 179 (nZ M b k)))
  (λi _=>16 - (intOf i).toNat)
 case atStart=>exact⟨0,by omega,rfl,h.o.2.2.1,by have:=h.o.2.2.2;omega,h.o.2.1⟩
 case round=>
  clear h;obtain⟨k,hk,rfl,c,g,H1⟩:=hrel;by_cases Q:k<16
  ·have d:=s.o k Q;have T:=λw=>tU (P:=prog) (k:=.i64) (j:=k) (v:=iy (b.getD k 0).toNat) underlying179 kr kr kr Q d w
   obtain⟨B,A⟩:=Ex ((b.getD k 0).toNat);rw[<-A] at T d;have Y:B<256:=A ▸ aP _;have z:=LH (l.o wr c B Y);obtain⟨R,F⟩:=Ex (M B);rw[<-F] at z;have r:R.length=4:=F ▸ hM4.o B;refine G4 A F r c ?_;clear A F r c;intro A F r c;clear d
   go_wp2_with (refine kU rfl 296 _ rfl _ _ rfl z.o ?_)
   go_loopw [19] (λi wr=>∃ m:Nat,m<=4/\i=iw m/\Below n w wr/\n+1<wr.heap.size/\Hd (kf wr (n+1) 179 (sW R k (nZ M b k) m)))
    (λi _=>4 - (intOf i).toNat)
   case atStart=>exact⟨0,by omega,rfl,c.o,g,H1.o⟩
   case round=>
    clear H1 g c z;obtain⟨m,hm,rfl,c,g,H1⟩:=hrel;replace c:=LH c;by_cases O:m<4
    ·have d:=tT R m (by rw[r.o];exact O);have a1:=λw=>tU (P:=prog) (k:=.i64) (j:=m) (v:=iy (R.getD m 0).toNat) underlying296 kr kr kr O d w
     obtain⟨C,hC⟩:=Ex ((R.getD m 0).toNat);rw[<-hC] at a1 d;have G:C<256:=hC ▸ aP _;obtain⟨q,X⟩:=Ex (k / 4);obtain⟨j,y⟩:=Ex ((k+m) % 4);obtain⟨I,W⟩:=Ex (q*4+j);have J:I<16:=om;have hd:(k:Int) / 4=q:=om;have a7:((k:Int)+m) % 4=j:=om;have a8:(q:Int)*4+j=I:=om;have ad:q<4:=om;have aa:j<4:=om;have f0:=H1.o.frozen I;have c0:=H1.o.cell I (by rw[Ak,sX];exact J);obtain⟨D,E⟩:=Ex (((sW R k (nZ M b k) m).getD I 0).toNat);rw[<-E] at c0;have H:D<256:=E ▸ aP _;have hx:=dx D C H G;have f:=H1.o.set I (byte (D ^^^ C));rw[lM (mq H G)] at f;have HS:=LH f;clear f d;refine G5 X y W hC E ?_;clear X y W hC E;intro X y W hC E;go_wp2;go_roundw
     case rel=>refine⟨m+1,by omega,by go_num,c.o.setCell (p:=iu (n+1) I) (by show n<=n+1;omega) _,by simpa using g,?_⟩;show kf _ _ _ _;rw[sW,<-X.o,<-y.o,<-W.o,<-hC.o,<-E.o];exact HS.o
     case measure=>simp[intOf];omega
    ·have S:m=4:=om;rw[S] at H1;clear S;go_wp2;go_roundw
     case rel=>refine⟨k+1,by omega,by go_num,c.o,g,?_⟩;show kf _ _ _ _;rw[nZ,<-A.o,<-F.o];exact H1.o
     case measure=>simp[intOf];omega
  ·have N:k=16:=om;rw[N] at H1;clear N;obtain⟨L,K⟩:=Ex (nZ M b 16);rw[<-K] at H1;have u:L.length=16:=K ▸ sX;replace K:=LH K;replace c:=LH c
   have Z:=LH (show (prog.info? 179).map (·.size)=some (dB L).toArray.size/\(Instr.loadAt 179 (iq (n+1))).run prog wr=.ok (.agg (dB L).toArray) wr/\(Instr.storeAt 179 (iq (n+1)) (.agg (dB L).toArray)).run prog wr=.ok () wr from
    ⟨by rw[kX u];simp[kn],nf H1.o underlying179 (kX u),sy H1.o (kX u)⟩)
   go_wp2_with (first|(refine kU rfl 179 _ rfl _ _ rfl Z.o.2.1 ?_)|(refine kN rfl 179 _ _ rfl _ _ rfl rfl Z.o.2.2 ?_))
   refine aI (bd results183 _ _ (n+1) 179 _ (0,0) _ rfl H1.o underlying179 rfl Z.o.1) rfl ⟨by rw[K.o],HN.o ▸ c.o⟩
def sY (o b:iz):Nat->iz
 | 0=>o
 | k+1=>(sY o b k).set k (byte (((sY o b k).getD k 0).toNat ^^^ (b.getD k 0).toNat))
theorem Am {o b:iz}{k:Nat}:(sY o b k).length=o.length:=by
 induction k with
 | zero=>rfl
 | succ k ih=>exact bg.trans ih
def re (L:Nat->iz):Nat->iz
 | 0=>List.replicate 16 0
 | m+1=>sY (re L m) (L m) 16
theorem yl {L:Nat->iz}{m:Nat}:(re L m).length=16:=by
 induction m with
 | zero=>exact aK
 | succ m ih=>exact Am.trans ih
theorem An {l x:iz}(h:l.length=x.length):splice l 0 x=x:=by simp only[splice,dX,bE];rw[eV om,dm]
theorem Ao (w:World) (b:iz) (hb:b.length=16):∃ w',(Instr.storeAt 179 (iq w.heap.size) (.agg (dB b).toArray)).run prog (w.alloc (.cells #[iy 0,iy 0,iy 0,iy 0,iy 0,iy 0,iy 0,iy 0,iy 0,iy 0,iy 0,iy 0,iy 0,iy 0,iy 0,iy 0] 179))=.ok () w'/\
  kf w' w.heap.size 179 b/\Below w.heap.size w w'/\w'.heap.size=w.heap.size+1:=by
 have H1:kf (w.alloc (.cells #[iy 0,iy 0,iy 0,iy 0,iy 0,iy 0,iy 0,iy 0,iy 0,iy 0,iy 0,iy 0,iy 0,iy 0,iy 0,iy 0] 179)) w.heap.size 179 (List.replicate 16 0):=aj w _;have a:=rP (P:=prog) (off:=0) (x:=b) H1 (kX hb) (by rw[hb,aK];omega);rw[An (by rw[hb,aK])] at a;exact⟨_,a,H1.setRow b,below_setRow ((ag _ _).alloc (ae _) _) (ae _) _,by simp⟩
theorem Fa (L:Nat->iz) (hL:∀ m,(L m).length=16) (g off cnt cap:Nat) (hcnt:cnt<=1000) (w:World) (hg:g<w.heap.size)
  (hc:∀ m,m<cnt->∀ j,j<16->w.cell? (iu g (off+m*16+j))=some (iy ((L m).getD j 0).toNat)):
  Calls prog 180 #[.slice (some (iu g off)) cnt cap] w λe w'=>e=.returned (.agg (dB (re L cnt)).toArray)/\Below w.heap.size w w':=by
 obtain⟨n,y⟩:=Ex w.heap.size;have Y:=LH y;rw[<-y] at hg
 have H1:kf (w.alloc (.cells #[iy 0,iy 0,iy 0,iy 0,iy 0,iy 0,iy 0,iy 0,iy 0,iy 0,iy 0,iy 0,iy 0,iy 0,iy 0,iy 0] 179)) n 179 (List.replicate 16 0):=by rw[y];exact aj w _
 have hb:Below n w (w.alloc (.cells #[iy 0,iy 0,iy 0,iy 0,iy 0,iy 0,iy 0,iy 0,iy 0,iy 0,iy 0,iy 0,iy 0,iy 0,iy 0,iy 0] 179)):=(ag _ _).alloc (cJ y) _;have hs:n<(w.alloc (.cells #[iy 0,iy 0,iy 0,iy 0,iy 0,iy 0,iy 0,iy 0,iy 0,iy 0,iy 0,iy 0,iy 0,iy 0,iy 0,iy 0] 179)).heap.size:=by simp[y]
 have u:∀ wr,Below n w wr->∀ m,m<cnt->(Instr.loadAt 179 (.pointer (some (iu g (off+m*16))))).run prog wr=.ok (.agg (dB (L m)).toArray) wr:=by intro wr a m hm;refine v7 underlying179 (kX (hL m)) (λj Z=>?_);rw[hL] at Z;rw[az (w:=w) (a.block g hg)];exact hc m hm j Z
 revert hL H1 hb hs u;refine H5 ?_;intro hL H1 hb hs u;clear y hc;go_enter func180,ntmps180;go_wp2;rw[<-Y.o]
 go_loopw [9] (λi wr=>∃ m:Nat,m<=cnt/\i=iw m/\Below n w wr/\n<wr.heap.size/\Hd (kf wr n 179 (re L m)))
  (λi _=>cnt - (intOf i).toNat)
 case atStart=>exact⟨0,by omega,rfl,hb.o,hs.o,H1.o⟩
 case round=>
  clear H1 hb hs;obtain⟨m,hm,rfl,a,f,H1⟩:=hrel;by_cases T:m<cnt
  ·have l:=LH (u.o wr a m T);obtain⟨B,E⟩:=Ex (L m);rw[<-E] at l;have F:B.length=16:=E ▸ hL.o m;obtain⟨V,K⟩:=Ex ((dB B).toArray);rw[<-K] at l;have r:∀ k,k<16->V[k]?=some (iy (B.getD k 0).toNat):=λk hk=>by rw[K];exact tT B k om
   obtain⟨X,d,h,s,W⟩:=Ao wr B F;have b:=nf (P:=prog) h underlying179 (kX F);rw[<-K] at d b;have A:Hd (kf X n 179 (re L m)):=H1.o.dC (s.block n f);have M:=LH (show Below n w X from a.trans (s.mono om));have Q:=LH (show n<X.heap.size by omega);revert E K r d h b;refine H6 ?_;intro E K r d h b;clear a s W f H1
   go_wp2_with (first|(refine kU rfl 179 _ rfl _ _ rfl l.o ?_)|(refine kN rfl 179 _ _ rfl _ _ rfl rfl d.o ?_)|(refine kU rfl 179 _ rfl _ _ rfl b.o ?_))
   clear d l b h;generalize wr.heap.size=z
   go_loopw [14] (λi wr=>∃ k:Nat,k<=16/\i=iw k/\Below n w wr/\n<wr.heap.size/\Hd (kf wr n 179 (sY (re L m) B k)))
    (λi _=>16 - (intOf i).toNat)
   case atStart=>exact⟨0,by omega,rfl,M.o,Q.o,A.o⟩
   case round=>
    clear A M Q;obtain⟨k,hk,rfl,a,f,H1⟩:=hrel;replace a:=LH a;by_cases x:k<16
    ·have t:=r.o k x;have U:=λw=>tU (P:=prog) (k:=.i64) (j:=k) (v:=iy (B.getD k 0).toNat) underlying179 kr kr kr x t w
     obtain⟨C,hC⟩:=Ex ((B.getD k 0).toNat);rw[<-hC] at U t;have G:C<256:=hC ▸ aP _;have f0:=H1.o.frozen k;have c0:=H1.o.cell k (by rw[Am,yl];exact x);obtain⟨D,H⟩:=Ex (((sY (re L m) B k).getD k 0).toNat);rw[<-H] at c0;have I:D<256:=H ▸ aP _;have hx:=dx D C I G;have c:=H1.o.set k (byte (D ^^^ C));rw[lM (mq I G)] at c;have HS:=LH c;clear c t;replace hC:=LH hC;replace H:=LH H;go_wp2;go_roundw
     case rel=>refine⟨k+1,by omega,by go_num,a.o.setCell (p:=iu n k) (ae n) _,by simpa using f,?_⟩;show kf _ _ _ _;rw[sY,<-hC.o,<-H.o];exact HS.o
     case measure=>simp[intOf];omega
    ·have N:k=16:=om;rw[N] at H1;clear N;go_wp2;go_roundw
     case rel=>refine⟨m+1,by omega,by go_num,a.o,f,?_⟩;show kf _ _ _ _;rw[re,<-E.o];exact H1.o
     case measure=>simp[intOf];omega
  ·have O:m=cnt:=om;rw[O] at H1;clear O;obtain⟨R,J⟩:=Ex (re L cnt);rw[<-J] at H1;have q:R.length=16:=J ▸ yl;replace J:=LH J;replace a:=LH a
   have S:=LH (show (prog.info? 179).map (·.size)=some (dB R).toArray.size/\(Instr.loadAt 179 (iq n)).run prog wr=.ok (.agg (dB R).toArray) wr/\(Instr.storeAt 179 (iq n) (.agg (dB R).toArray)).run prog wr=.ok () wr from
    ⟨by rw[kX q];simp[kn],nf H1.o underlying179 (kX q),sy H1.o (kX q)⟩)
   go_wp2_with (first|(refine kU rfl 179 _ rfl _ _ rfl S.o.2.1 ?_)|(refine kN rfl 179 _ _ rfl _ _ rfl rfl S.o.2.2 ?_))
   refine aI (bd results180 _ _ n 179 _ (0,0) _ rfl H1.o underlying179 rfl S.o.1) rfl ⟨by rw[J.o],Y.o ▸ a.o⟩
variable {w:World}{tb:Nat}
theorem Ap {F:Nat->Prop}{p:Nat}{kv:Value}(h:nI w F p tb kv ks) (h4:4<=ks.length):
  Calls prog 181 #[iq p] w λe w'=>e=.returned (iw (nJ ks))/\w=w':=by
 have c:=h.mu;obtain⟨a,cap,rfl,f,g⟩:=h.keys.shape;have b:=cell_of h.box 1;clear h;have d:w.cell? (iu p 1)=some (.slice a ks.length cap):=b;clear b;go_enter func181,ntmps181;go_wp2;go_ret;exact⟨mI (by simp[nJ];omega),rfl⟩
def oZ (T:Nat->UInt8) (b:iz):Nat->iz
 | 0=>List.replicate 16 0
 | k+1=>(oZ T b k).set k (T (b.getD ((k+4*(k % 4)) % 16) 0).toNat)
theorem wg {T:Nat->UInt8}{b:iz}{k:Nat}:(oZ T b k).length=16:=by
 induction k with
 | zero=>exact aK
 | succ k ih=>exact bg.trans ih
def o0 (mix:Nat->iz) (N t:Nat) (x:iz):iz:=if t<N then nZ mix x 16 else x
theorem Aq {mix:Nat->iz}{N t:Nat}{x:iz}(h:x.length=16):(o0 mix N t x).length=16:=by
 unfold o0;split
 ·exact sX
 ·exact h
def oy (ks:List UInt32) (b:iz):Nat->iz
 | 0=>nQ b ks 0 16
 | t+1=>nQ (o0 lI (nJ ks) (t+1) (oZ sb (oy ks b t) 16)) ks (t+1) 16
theorem uY {b:iz}(hb:b.length=16){t:Nat}:(oy ks b t).length=16:=by
 cases t with
 | zero=>exact qZ.trans hb
 | succ t=>exact qZ.trans (Aq wg)
def nR (ks:List UInt32) (b:iz):iz:=oy ks b (nJ ks)
theorem Fb (h:rQ 256 l) (a:Nat) (ha:a<256):l.getD a 0=sb a:=by rw[h.2 a om,sS,ak ha]
theorem As (h:rQ 256 l) (a:Nat) (ha:a<256):l.getD (256+a) 0=bk a:=by rw[h.2 _ om,sS,ah om,ak om,ek]
theorem Fc (h:rQ 256 l) (a j:Nat) (ha:a<256) (hj:j<4):l.getD (512+a*4+j) 0=(lI a).getD j 0:=by rw[h.2 _ om,sS,ah om,ah om,ak om,ak om];have b:(512+a*4+j - 512) / 4=a:=om;have c:(512+a*4+j - 512) % 4=j:=om;rw[b,c]
theorem Fe (h:rQ 256 l) (a j:Nat) (ha:a<256) (hj:j<4):l.getD (1536+a*4+j) 0=(ny a).getD j 0:=by rw[h.2 _ om,sS,ah om,ah om,ah om,ak om];have b:(1536+a*4+j - 1536) / 4=a:=om;have c:(1536+a*4+j - 1536) % 4=j:=om;rw[b,c]
theorem nz {g:Nat}{o:iz}(h:kf w g 179 o) (ho:o.length=16) (x:iz) (hx:x.length=16):
  (Instr.storeAt 179 (iq g) (.agg (dB x).toArray)).run prog w=.ok () (w.setRow g (dB x).toArray):=by
 have a:=rP (P:=prog) (off:=0) (x:=x) h (kX hx) om;rw[An om] at a;exact a
def ng (w:World) (n:Nat) (X:iz) (x:World):Prop:=Below n w x/\n+1<x.heap.size/\kf x n 179 X/\kf x (n+1) 179 (List.replicate 16 0)
theorem ng.after {n:Nat}{X:iz}{x y:World}(h:ng w n X x) (hb:Below x.heap.size x y):ng w n X y:=⟨h.1.trans (hb.mono (by have:=h.2.1;omega)),aH h.2.1 hb.size,h.2.2.1.dC (hb.block n (by have:=h.2.1;omega)),h.2.2.2.dC (hb.block (n+1) h.2.1)⟩
theorem ng.put {n:Nat}{X:iz}{x:World}(h:ng w n X x) (Y:iz):ng w n Y (x.setRow n (dB Y).toArray):=⟨below_setRow h.1 (ae n) _,by simpa using h.2.1,h.2.2.1.setRow Y,h.2.2.2.dC (aG _ _ _ _ om)⟩
theorem Au {F:Nat->Prop}{p:Nat}{kv:Value}(h:nI w F p tb kv ks) (h4:8<=ks.length) (hk4:ks.length % 4=0) (b:iz) (hb:b.length=16):
  Calls prog 167 #[iq p,.agg (dB b).toArray] w λe w'=>e=.returned (.agg (dB (nR ks b)).toArray)/\Below w.heap.size w w':=by
 obtain⟨n,hn⟩:=Ex w.heap.size;have HN:=LH hn;have U:=LH (v8 w 179 b (List.replicate 16 0));obtain⟨N,u⟩:=Ex (nJ ks);have cf:1<=N:=by rw[u];unfold nJ;omega
 have cg:4*N+4<=ks.length:=by rw[u];unfold nJ;omega
 have cc:=h.mu;have O:∀ wr,Below n w wr->nI wr F p tb kv ks:=λwr bA=>h.dC bA.size (λg _ hl=>bA.block g (by rw[hn];exact hl))
 obtain⟨lt,Q,L⟩:=h.rR;have b7:=dD Q;have b5:=dD h.box;have bR:=cell_of h.box 0;have B:w.cell? (iu p 0)=some (iq tb):=bR;clear bR;rw[<-hn] at b7 b5;obtain⟨V,hV⟩:=Ex ((dB b).toArray);rw[<-hV] at U ⊢;have hz:(dB (List.replicate 16 0)).toArray=#[iy 0,iy 0,iy 0,iy 0,iy 0,iy 0,iy 0,iy 0,iy 0,iy 0,iy 0,iy 0,iy 0,iy 0,iy 0,iy 0]:=rfl;rw[hz] at U;clear hz;refine G7 h O Q L B hV u ?_;clear h O Q L B hV u;intro h O Q L B hV u;clear hn;have cu:=LH (show (List.replicate 16 (0:UInt8)).length=16 from aK);go_enter func167,ntmps167
 go_wp2_with fail
 obtain⟨w2,c6⟩:=Ex ((w.alloc (.cells V 179)).alloc (.cells #[iy 0,iy 0,iy 0,iy 0,iy 0,iy 0,iy 0,iy 0,iy 0,iy 0,iy 0,iy 0,iy 0,iy 0,iy 0,iy 0] 179));rw[<-c6] at U ⊢;rw[<-HN.o] at U ⊢;clear c6;have b4:=LH (O.o w2 U.o.2.2.1);refine (Ap b4.o om).mono ?_;rintro e cA ⟨rfl,rfl⟩;rw[<-u.o];have v:=LH (nf (P:=prog) U.o.1 underlying179 (kX hb))
 go_wp2_with (refine kU rfl 179 _ rfl _ _ rfl v.o ?_)
 have b8:ng w n b w2:=⟨U.o.2.2.1,by have:=U.o.2.2.2;omega,U.o.1,U.o.2.1⟩;refine (uX b4.o b hb 0 om).mono ?_;rintro e l ⟨rfl,bz⟩;have m:=b8.after bz;obtain⟨X0,W⟩:=Ex (oy ks b 0);have bp:X0.length=16:=W ▸ uY hb;have bW:=LH (nz m.2.2.1 hb X0 bp);have ba:=LH (m.put X0);have bB:nQ b ks 0 16=X0:=W.symm;rw[bB];replace W:=LH W;clear bB b8 m bz v b4 U
 go_wp2_with (refine kN rfl 179 _ _ rfl _ _ rfl rfl bW.o ?_)
 go_loopw [6] (λi wr=>∃ t:Nat,t<=N/\i=iw ((t+1:Nat):Int)/\Hd (ng w n (oy ks b t) wr))
  (λi _=>N+1 - (intOf i).toNat)
 case atStart=>exact⟨0,by omega,rfl,W.o ▸ ba.o⟩
 case round=>
  clear ba bW;obtain⟨t,ht,rfl,d⟩:=hrel;obtain⟨s,hs⟩:=Ex (t+1);rw[<-hs];have cr:1<=s:=om;have ct:t<N↔s<=N:=om;replace hs:=LH hs;by_cases ck:s<=N
  ·obtain⟨X,hX⟩:=Ex (oy ks b t);rw[<-hX] at d;have ay:X.length=16:=hX ▸ uY hb;replace hX:=LH hX;obtain⟨z,E⟩:=Ex wr.heap.size;have m:ng w n X (wr.alloc (.cells #[iy 0,iy 0,iy 0,iy 0,iy 0,iy 0,iy 0,iy 0,iy 0,iy 0,iy 0,iy 0,iy 0,iy 0,iy 0,iy 0] 179)):=d.o.after ((ag _ _).alloc (ae _) _)
   have a1:kf (wr.alloc (.cells #[iy 0,iy 0,iy 0,iy 0,iy 0,iy 0,iy 0,iy 0,iy 0,iy 0,iy 0,iy 0,iy 0,iy 0,iy 0,iy 0] 179)) z 179 (List.replicate 16 0):=by rw[E];exact aj wr _
   have D:z<(wr.alloc (.cells #[iy 0,iy 0,iy 0,iy 0,iy 0,iy 0,iy 0,iy 0,iy 0,iy 0,iy 0,iy 0,iy 0,iy 0,iy 0,iy 0] 179)).heap.size:=by simp[E]
   have cz:n+1<z:=by rw[E];exact d.o.2.1
   refine G4 E m a1 D ?_;clear E m a1 D;intro E m a1 D;clear d;go_wp2;rw[<-E.o]
   go_loopw [22] (λi wr=>∃ k:Nat,k<=16/\i=iw k/\Hd (ng w n X wr)/\z<wr.heap.size/\Hd (kf wr z 179 (oZ sb X k)))
    (λi _=>16 - (intOf i).toNat)
   case atStart=>exact⟨0,by omega,rfl,m.o,D.o,a1.o⟩
   case round=>
    clear m a1 D E;obtain⟨k,hk,rfl,d,b6,hZ⟩:=hrel;by_cases c9:k<16
    ·obtain⟨j,hj⟩:=Ex (k % 4);obtain⟨I,hI⟩:=Ex ((k+4*j) % 16);have cj:j<4:=om;have bl:I<16:=om;have hm:(k:Int) % 4=j:=om;have cl:(k:Int).tmod 4=j:=by rw[bZ om];exact hm
     have ca:((k:Int)+4*(j:Int)) % 16=I:=om;have cm:((k:Int)+4*(j:Int)).tmod 16=I:=by rw[bZ om];exact ca
     have cX:=d.o.2.2.1.cell I (by rw[ay];exact bl);obtain⟨x,hx⟩:=Ex ((X.getD I 0).toNat);rw[<-hx] at cX;have cb:x<256:=hx ▸ aP _;have cT:=Q.o.cell x (by rw[L.o.1];omega);rw[Fb L.o x cb,<-az (w:=w) (d.o.1.block tb b7)] at cT;have T:=B.o;rw[<-az (w:=w) (d.o.1.block p b5)] at T;obtain⟨Y,J⟩:=Ex ((sb x).toNat);rw[<-J] at cT;have c7:(I:Int)<16:=om;have cd:(x:Int)<256:=om;have c8:n<wr.heap.size:=om;have b3:p<wr.heap.size:=om;have aa:tb<wr.heap.size:=om;refine G7 cX cT T hj hI hx J ?_;clear cX cT T hj hI hx J;intro cX cT T hj hI hx J;have c:=Dr wr
     replace c:=LH c;go_wp2;refine RA.rt (aQ No) [1,1,1,1,1,1,1,1,1,1,1,1,1,1,1,1,1,1,7] [18] (λ_=>True) trivial (λ_=>aQ.refl _ _) (λ_ _ _ h k=>h.trans k) (h:=?_);intro cx
     repeat refine RA.qq ?_
     refine RA.fk prog p 0 (h:=?_);refine RA.lk prog (iq tb) (hc:=λl hp=>by exact ((c.o _ hp.1).cell (p:=iu p 0) b3 id).trans T.o) (h:=?_)
     repeat refine RA.qq ?_
     refine RA.vw prog (iw j) (h:=?_);refine RA.mi (r:=4*(j:Int)) (h:=?_);refine RA.ai (r:=(k:Int)+4*(j:Int)) (h:=?_);refine RA.vw prog (iw I) (h:=?_);refine RA.ik prog n I (h:=?_);refine RA.lk prog (iy x) (hc:=λl hp=>by exact ((c.o _ hp.1).cell (p:=iu n I) c8 id).trans cX.o) (h:=?_)
     repeat refine RA.qq ?_
     refine RA.fk prog tb 0 (h:=?_);refine RA.ik prog tb x (h:=?_);refine RA.lk prog (iy Y) (hc:=λl hp=>by exact ((c.o _ hp.1).cell (p:=iu tb x) aa id).trans cT.o) (h:=?_);refine RA.ik prog z k (h:=?_);refine RA.lj (λw4=>ng w n X w4/\z<w4.heap.size/\kf w4 z 179 (oZ sb X (k+1))) (hr:=λl hp _=>?_) (hn:=?_)
     ·have G:=c.o _ (hp.first kr).1;have q:=d.o.after (aQ.no G);have M:=hZ.o.dC (G.block z b6 id);have f0:=M.frozen k;have c0:=M.cell k (by rw[wg];exact c9);have af:=M.set k (sb x);rw[<-J.o] at af;have e:(Instr.storeAt 5 (.pointer (some (iu z k))) (iy Y)).run prog l=.ok () (l.setCell (iu z k) (iy Y)):=by go_simp
      refine⟨_,RA.kL rf rf e,⟨q.1.setCell (p:=iu z k) (by show n<=z;omega) _,by simpa using q.2.1,q.2.2.1.dC (kA _ _ _ (by simp;omega)),q.2.2.2.dC (kA _ _ _ (by simp;omega))⟩,?_,?_⟩
      ·have:=G.size;simp;omega
      ·rw[oZ,<-hj.o,<-hI.o,<-hx.o];exact af
     refine RA.RA.kW (λl hH=>?_);simp only[RA.RP,cx];replace hH:=LH hH;go_wp2;go_roundw
     case rel=>exact⟨k+1,by omega,by go_num,hH.o.1,hH.o.2.1,hH.o.2.2⟩
     case measure=>simp[intOf];omega
    ·have bD:k=16:=om;rw[bD] at hZ;clear bD;have y:(oZ sb X 16).length=16:=wg;obtain⟨S,hS⟩:=Ex (oZ sb X 16);rw[<-hS] at hZ y;replace hS:=LH hS;by_cases ad:s<N
     ·have v:=λ(l:World) (h:kf l z 179 S)=>nf (P:=prog) h underlying179 (kX y)
      replace v:=LH v;have T:=B.o;rw[<-az (w:=w) (d.o.1.block p b5)] at T;have b3:p<wr.heap.size:=by have:=d.o.2.1;omega
      have aa:tb<wr.heap.size:=by have:=d.o.2.1;omega
      have c:=Dr wr
      have A:∀ l,aQ No wr l->Calls prog 183 #[.agg (dB S).toArray,.pointer (some (iu tb 512))] l λe w'=>e=.returned (.agg (dB (nZ lI S 16)).toArray)/\Below l.heap.size l w':=by intro l G;refine Al lI (λ_=>rfl) S y tb 512 l (aH aa G.size) (λa ha j hj=>?_);rw[G.cell (p:=iu tb (512+a*4+j)) aa id,az (w:=w) (d.o.1.block tb b7),Q.o.cell _ (by rw[L.o.1];omega),Fc L.o a j ha hj]
      refine G4 A T c y ?_;clear A T c y;intro A T c y;go_wp2;refine RA.rt (aQ No) [1,1,1,1,1,1,1,4,7] [8] (λ_=>True) trivial (λ_=>aQ.refl _ _) (λ_ _ _ h k=>h.trans k) (h:=?_);intro cx;refine RA.ld (y':=.agg (dB S).toArray) (hr:=λl hp=>v.o l (hZ.o.dC ((c.o _ hp.1).block z b6 id))) (h:=?_)
      repeat refine RA.qq ?_
      refine RA.fk prog p 0 (h:=?_);refine RA.lk prog (iq tb) (hc:=λl hp=>by exact ((c.o _ hp.1).cell (p:=iu p 0) b3 id).trans T.o) (h:=?_)
      repeat refine RA.qq ?_
      refine RA.fk prog tb 512 (h:=?_);refine RA.kc (P:=prog) [_,_] (.agg (dB (nZ lI S 16)).toArray) (hr:=λl hp hH=>(A.o l (c.o _ hp.1)).mono (by rintro e w4 ⟨rfl,h2⟩;exact⟨rfl,aQ.dE h2 _,trivial⟩)) (hn:=?_);refine RA.lj (λw4=>ng w n X w4/\z<w4.heap.size/\kf w4 z 179 (nZ lI S 16)) (hr:=λl hp _=>?_) (hn:=?_)
      ·have G:=c.o _ (hp.first kr).1;have q:=d.o.after (aQ.no G);have M:=hZ.o.dC (G.block z b6 id);refine⟨_,RA.kL rf rf (nz M y.o _ sX),⟨below_setRow q.1 om _,by simpa using q.2.1,q.2.2.1.dC (aG _ _ _ _ om),q.2.2.2.dC (aG _ _ _ _ om)⟩,?_,M.setRow _⟩;have:=G.size;simp;omega
      refine RA.RA.kW (λw4 hH=>?_);simp only[RA.RP,cx];clear d hZ;have d:=LH hH.1;have hZ:=LH hH.2.2;clear hH v A T;obtain⟨Y,J⟩:=Ex (nZ lI S 16);rw[<-J] at hZ;have K:=LH (show Y.length=16 from J ▸ sX);have b2:=LH (show Y=o0 lI N s (oZ sb X 16) by rw[o0,ak ad,J,hS.o]);clear J;have a8:=LH (nf (P:=prog) hZ.o underlying179 (kX K.o));have a7:=LH (O.o w4 d.o.1)
      go_wp2_with (first|(refine kU rfl 179 _ rfl _ _ rfl a8.o ?_)|(go_at_call 182;fail))
      refine (uX a7.o Y K.o s om).mono ?_;rintro e w5 ⟨rfl,a6⟩;have H:=d.o.after a6;obtain⟨X2,f⟩:=Ex (nQ Y ks s 16);rw[<-f];have Z:X2.length=16:=f ▸ qZ.trans K.o;have C:=LH (nz H.2.2.1 ay X2 Z);have an:=LH (H.put X2);replace f:=LH f;clear H a6 a7 a8
      go_wp2_with (refine kN rfl 179 _ _ rfl _ _ rfl rfl C.o ?_)
      go_roundw
      case rel=>
       refine⟨t+1,by omega,by have:=hs.o;go_num,?_⟩;show ng _ _ _ _;have e:oy ks b (t+1)=X2:=by rw[oy,<-hX.o,<-u.o,<-hs.o,<-b2.o,f.o]
       rw[e];exact an.o
      case measure=>have:=hs.o;simp[intOf];omega
     ·obtain⟨Y,J⟩:=Ex S;rw[<-J] at hZ;have K:=LH (show Y.length=16 from J ▸ y);have b2:=LH (show Y=o0 lI N s (oZ sb X 16) by rw[o0,ah ad,J,hS.o]);clear J;have a8:=LH (nf (P:=prog) hZ.o underlying179 (kX K.o));have a7:=LH (O.o wr d.o.1)
      go_wp2_with (first|(refine kU rfl 179 _ rfl _ _ rfl a8.o ?_)|(go_at_call 182;fail))
      refine (uX a7.o Y K.o s om).mono ?_;rintro e w5 ⟨rfl,a6⟩;have H:=d.o.after a6;obtain⟨X2,f⟩:=Ex (nQ Y ks s 16);rw[<-f];have Z:X2.length=16:=f ▸ qZ.trans K.o;have C:=LH (nz H.2.2.1 ay X2 Z);have an:=LH (H.put X2);replace f:=LH f;clear H a6 a7 a8
      go_wp2_with (refine kN rfl 179 _ _ rfl _ _ rfl rfl C.o ?_)
      go_roundw
      case rel=>
       refine⟨t+1,by omega,by have:=hs.o;go_num,?_⟩;show ng _ _ _ _;have e:oy ks b (t+1)=X2:=by rw[oy,<-hX.o,<-u.o,<-hs.o,<-b2.o,f.o]
       rw[e];exact an.o
      case measure=>have:=hs.o;simp[intOf];omega
  ·have ad:s=N+1:=by have:=hs.o;omega
   have c5:t=N:=by have:=hs.o;omega
   rw[c5] at d;clear c5 ad;obtain⟨R,G⟩:=Ex (oy ks b N);rw[<-G] at d;have ax:R.length=16:=G ▸ uY hb;replace G:=LH G;have v:=LH (nf (P:=prog) d.o.2.2.1 underlying179 (kX ax));have C:=LH (nz d.o.2.2.2 aK R ax);have bC:=LH (d.o.2.2.2.setRow R);have hi:=LH (kX ax)
   go_wp2_with (first|(refine kU rfl 179 _ rfl _ _ rfl v.o ?_)|(refine kN rfl 179 _ _ rfl _ _ rfl rfl C.o ?_))
   refine aI (bd results167 _ _ (n+1) 179 _ (0,0) _ rfl bC.o underlying179 rfl (by rw[hi.o];simp[kn])) rfl ⟨by rw[nR,<-u.o,<-G.o],HN.o ▸ below_setRow d.o.1 om _⟩
def mD (x k:Nat):Nat:=(x*2 ^ k % 4294967296) ||| (x / 2 ^ (32 - k))
theorem qi {x k:Nat}(hx:x<4294967296):mD x k<4294967296:=fp (n:=32) om (cQ (ey _ _) hx)
theorem qj (x k:Nat) (z:Int) (hx:x<4294967296) (hk:k<32) (hz:z=k\/z=(k:Int) - 32/\0<k) (w:World):Calls prog 199 #[.int .u32 x,iw z] w λe w'=>e=.returned (.int .u32 (mD x k))/\w=w':=by
 have h1:bits .and .u64 (IntKind.u64.wrap z) 31=(k:Int):=by
  rcases hz with rfl|⟨rfl,hk0⟩
  ·have h:=fX k 31 om om;rw[nat_mask5,Nat.mod_eq_of_lt hk] at h;rw[ft,Int.emod_eq_of_lt om om];exact h
  ·have h:=fX (18446744073709551616 - 32+k) 31 om om;rw[nat_mask5,show (18446744073709551616 - 32+k) % 32=k by omega] at h;have e:IntKind.u64.wrap ((k:Int) - 32)=((18446744073709551616 - 32+k:Nat):Int):=by rw[ft];omega
   rw[e];exact h
 have b:=di (x*2 ^ k % 4294967296) (x / 2 ^ (32 - k)) om (cQ (ey _ _) hx);replace b:=LH b
 have key:∀ Z:Int,Z=z->Calls prog 199 #[.int .u32 x,iw Z] w λe w'=>e=.returned (.int .u32 (mD x k))/\w=w':=by
  intro Z c;rw[<-c] at h1;rcases hz with hz|⟨hz,hk0⟩
  ·rw[hz] at c;subst c;have h1:bits .and .u64 (k:Int) 31=(k:Int):=by rw[ft,Int.emod_eq_of_lt om om] at h1;exact h1
   go_enter func199,ntmps199;go_wp2;go_ret;refine⟨mI ?_,rfl⟩;have h:=b.o;simp only[eP,d9,Int.natCast_pow,fY,Int.cast_ofNat_Int] at h;exact h
  ·have a:Z=(k:Int) - 32:=om;clear c hz;have f:-32<Z/\Z<0:=om;have e:IntKind.u64.wrap Z=Z % 18446744073709551616:=by rw[ft]
   have d:bits .and .u64 (Z % 18446744073709551616) 31=(k:Int):=by rw[<-e];exact h1
   have g:bits .and .u64 (Z+18446744073709551616) 31=(k:Int):=by rw[show Z+18446744073709551616=Z % 18446744073709551616 by omega];exact d
   clear e;replace a:=LH a;go_enter func199,ntmps199;go_wp2;go_ret;refine⟨mI ?_,rfl⟩;have h:=b.o;simp only[eP,d9,Int.natCast_pow,fY,Int.cast_ofNat_Int] at h;exact h
 exact key z rfl
end Go.Proofs.YthmcbgidehjlbaaGreat.Fd
namespace Go.Proofs.YthmcbgidehjlbaaGreat.K
open Go Go.RowKit
section
variable {P:Program}
theorem tV {n:Nat}{e t:TypeId}{z:Value}{bytes sz:Nat}(ht:P.underlying t=some (.slice e)) (hi:(P.info? e).map (λi=>(i.zero,i.size,i.bytes))=some (some z,sz,bytes)) (hz:z.cells.size=sz) (hs:0<sz)
  {x w3:World}{kv:Value}{m:Nat}{vs:List Value}(ho:x.ownsRow n e sz kv m vs) (hn:n<=x.heap.size) (hR:aQ No x w3){S:Nat->Prop}{u:Value}{k:Nat}{news:List Value}(hu:Cells w3 S u k sz news)
  (h1:∀ v ∈ news,v.oneCell'=true) (hm:m+k<=maxLen) (hb:(m+k)*bytes<=140737488355328) (ty:TypeId):
  ∃ v' w4,(Builtin.append_ #[t,t] ty #[kv,u]).run P w3=.ok v' w4/\w4.ownsRow n e sz v' (m+k) (vs++news)/\aQ (λg=>kv.ownBlock=some g) x w4/\(v'.ownBlock=kv.ownBlock\/∃ g,v'.ownBlock=some g/\x.heap.size<=g):=by
 obtain⟨i,a,b,c,d⟩:=cw hi;have f:=gF ho (λg hg=>hR.block g (ho.lt g hg).2 id);obtain⟨v',w4,hr,j,l,_,o⟩:=tK (P:=P) w3 n t ty e i z sz bytes ht a b c d hz hs kv m vs f S u k news hu h1 hm hb (am hn hR.size);refine⟨v',w4,hr,j,(hR.mono (λ_ _ h=>h.elim)).grown l (λ_ h _=>h),?_⟩;rcases o with e|⟨g,e,hg⟩
 ·exact .inl e
 ·exact .inr ⟨g,e,am hR.size hg⟩
theorem kz {w:World}{n:Nat}{e:TypeId}{sz:Nat}{v:Value}{m:Nat}{xs:List Value}(h:w.ownsRow n e sz v m xs) (hm:0<m):∃ g cp,v=ir g m cp/\m<=cp/\cp<=maxLen:=by
 rcases h.2 with ⟨_,a⟩|⟨g,cp,cur,a,_,_,h1,b,_⟩
 ·omega
 ·exact⟨g,cp,a,h1,b⟩
theorem l9 (w:World) (vs:Array Value) (T:TypeId) (k sz:Nat) (hk:vs.size=k*sz) (hl:k<=maxLen):
  Cells (w.alloc (.cells vs T)) (λ_=>True) (ir w.heap.size k k) k sz vs.toList:=
 (Cells.own (ch (base:=0) (e:=T) (size:=sz) w vs k (aW _) hl hk)).mono (λ_ _ _=>trivial)
end
end Go.Proofs.YthmcbgidehjlbaaGreat.K

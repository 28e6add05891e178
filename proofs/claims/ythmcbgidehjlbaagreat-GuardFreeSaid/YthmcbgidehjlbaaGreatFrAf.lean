/-
 Parts of the proof. No condition beyond what each theorem names.
-/
import Derived.Test.YthmcbgidehjlbaaGreatFrAc
import Derived.Test.YthmcbgidehjlbaaGreatFrAe
set_option maxHeartbeats 8000000
set_option maxRecDepth 100000
namespace Go.Proofs
open _root_.Go.Proofs.Tryz
open Go.Shelf Go.RowKit
theorem YthmcbgidehjlbaaGreat.Fd.As (x y:Nat) (hx:x<18446744073709551616) (hy:y<18446744073709551616) (w:World):
  Calls prog 214 #[.int .u64 x,.int .u64 y] w λe w'=>e=.returned (.tuple #[.int .u64 ((x*y / 18446744073709551616:Nat):Int),.int .u64 ((x*y % 18446744073709551616:Nat):Int)])/\w'=w:=
 Any.bits_Mul64 YthmcbgidehjlbaaGreat.laysMul64 x y hx hy w
end Go.Proofs
namespace Go.Proofs.YthmcbgidehjlbaaGreat.Fd
open _root_.Go.Proofs.Tryz
open Go Go.RowKit K
def qD (x n:Nat):Nat:=if n=3 then x*x / 18446744073709551616*x+x*x % 18446744073709551616*x / 18446744073709551616 else x*x / 18446744073709551616
def qZ (x n:Nat):Nat:=if n=3 then x*x % 18446744073709551616*x % 18446744073709551616 else x*x % 18446744073709551616
theorem Au (x n:Nat) (hx:x<1099511627776) (hn:n=2\/n=3) (w:World):
  Calls prog 210 #[.int .u64 x,iw n] w λe w'=>e=.returned (.tuple #[.int .u64 (qD x n),.int .u64 (qZ x n)])/\w=w':=by
 have p:x*x<1208925819614629174706176:=eD hx hx;have c:=LH (As x x om om w);obtain⟨H,hH⟩:=Ex (x*x / 18446744073709551616);obtain⟨L,a⟩:=Ex (x*x % 18446744073709551616);have k:H<65536:=om;have b:L<18446744073709551616:=om;have M2:=LH (As L x b om w);rw[<-hH,<-a] at c;obtain⟨A,i⟩:=Ex (L*x / 18446744073709551616);have m:L*x<18446744073709551616*1099511627776:=eD b hx;have q:A<1099511627776:=om;have l:H*x<65536*1099511627776:=eD k hx;obtain⟨C,hC⟩:=Ex (H*x);have r:(H:Int)*x=C:=by rw[hC];simp
 rw[<-hC] at l;rw[<-i] at M2;obtain⟨B,j⟩:=Ex (L*x % 18446744073709551616);rw[<-j] at M2;have d:qD x 3=C+A:=by rw[qD,ak rfl,<-hH,<-a,<-i,<-hC]
 have f:qZ x 3=B:=by rw[qZ,ak rfl,<-a,<-j]
 have g:qD x 2=H:=by rw[qD,ah om,<-hH]
 have h:qZ x 2=L:=by rw[qZ,ah om,<-a]
 revert d f g h;refine H4 ?_;intro d f g h;clear hH a i hC j p m;rcases hn with rfl|rfl
 ·rw[g.o,h.o];go_enter func210,ntmps210
  go_wp2_with (go_at_call 214;(with_reducible refine c.o.mono ?_);rintro e w' ⟨rfl,rfl⟩)
  go_ret2;exact⟨rfl,rfl⟩
 ·rw[d.o,f.o];go_enter func210,ntmps210
  go_wp2_with fail
  refine c.o.mono ?_;rintro e w' ⟨rfl,rfl⟩
  go_wp2_with fail
  refine M2.o.mono ?_;rintro e w' ⟨rfl,rfl⟩;go_wp2;go_ret2;exact⟨by simp,rfl⟩
def okB (above x n:Nat):Bool:=decide (qD x n<above) || (qD x n == above && qZ x n == 0)
def px (above n:Nat):Nat->Nat->Nat->Nat
 | 0,_,x=>x
 | f+1,b,x=>px above n f (b / 2) (if okB above (x+b) n then x+b else x)
def ym (p n:Nat):Nat:=p*2 ^ (32*(n - 2))
def root (p n:Nat):Nat:=px (ym p n) n 37 68719476736 0 % 4294967296
theorem Av {p n:Nat}:root p n<4294967296:=eE _ om
theorem Aw {x n:Nat}(hx:x<1099511627776):qD x n<18446744073709551616:=by
 have b:x*x<1208925819614629174706176:=eD hx hx;unfold qD;split
 ·have h1:x*x / 18446744073709551616<65536:=om;have a:x*x % 18446744073709551616<18446744073709551616:=om;generalize x*x / 18446744073709551616=H at*;generalize x*x % 18446744073709551616=L at*;have c:H*x<65536*1099511627776:=eD h1 hx;have d:L*x<18446744073709551616*1099511627776:=eD a hx;omega
 ·omega
theorem Ax {x n:Nat}:qZ x n<18446744073709551616:=by unfold qZ;split<;>omega
theorem Fb (A:Nat) (hp:A<1000) (w:World):
  Calls prog 202 #[.int .u64 A,iw 2] w λe w'=>e=.returned (.int .u32 ((px A 2 37 68719476736 0 % 4294967296:Nat):Int))/\w=w':=by
 go_enter func202,ntmps202;go_wp2
 go_loop [6,7] (λx y=>∃ f B X:Nat,f<=37/\(f=0/\B=0\/1<=f/\B=2 ^ (f - 1))/\X+2*B<=137438953472/\x=.int .u64 X/\y=.int .u64 B/\px A 2 f B X=px A 2 37 68719476736 0)
  (λ_ y=>(intOf y).toNat)
 case atStart=>exact⟨37,68719476736,0,by omega,.inr ⟨by omega,rfl⟩,by omega,rfl,rfl,rfl⟩
 case round=>
  obtain⟨f,B,X,t,k,s,rfl,rfl,hm⟩:=hrel;replace hm:=LH hm;by_cases m:B=0
  ·subst m
   have d:px A 2 37 68719476736 0=X:=by
    rw[<-hm.o];rcases k with ⟨rfl,_⟩|⟨h1,n⟩
    ·rfl
    ·have:=Nat.two_pow_pos (f - 1);omega
   replace d:=LH d;clear k hm;go_wp2;go_ret;refine⟨mI ?_,rfl⟩;rw[d.o]
  ·obtain⟨b,rfl,i⟩:∃ b,f=b+1/\B=2 ^ b:=by
    rcases k with ⟨_,h⟩|⟨h1,n⟩
    ·omega
    ·exact⟨f - 1,by omega,n⟩
   have a:b=0/\B / 2=0\/1<=b/\B / 2=2 ^ (b - 1):=by
    cases b with
    | zero=>left;simp at i;omega
    | succ g=>right;rw[dK] at i;exact⟨by omega,by simp;omega⟩
   clear k;replace i:=LH i;obtain⟨Z,c⟩:=Ex (X+B);have r:(X:Int)+B=Z:=om;have step:=hm.o;rw[px,<-c] at step;replace step:=LH step;have l:=LH (Au Z 2 om om w);obtain⟨H,hH⟩:=Ex (qD Z 2);obtain⟨L,j⟩:=Ex (qZ Z 2);rw[<-hH,<-j] at l;have p:H<18446744073709551616:=hH ▸ Aw om;have q:L<18446744073709551616:=j ▸ Ax;revert a c hH j;refine H4 ?_;intro a c hH j
   go_wp2_with fail
   refine l.o.mono ?_;rintro e w' ⟨rfl,rfl⟩;clear l;rcases (by omega:H<A\/A<H\/H=A/\L=0\/H=A/\0<L) with hc|hc|⟨hc,hc2⟩|⟨hc,hc2⟩
   ·go_wp2;have c:=c.o
    go_round
    case rel=>
     refine⟨b,B / 2,Z,by omega,a.o,by omega,by simp,by simp,?_⟩;have h:=step.o;rw[show okB A Z 2=true from by simp[okB,<-hH.o,<-j.o];try omega] at h
     simpa using h
    case measure=>simp[intOf];omega
   ·go_wp2;have c:=c.o
    go_round
    case rel=>
     refine⟨b,B / 2,X,by omega,a.o,by omega,by simp,by simp,?_⟩;have h:=step.o;rw[show okB A Z 2=false from by simp[okB,<-hH.o,<-j.o];try omega] at h
     simpa using h
    case measure=>simp[intOf];omega
   ·replace hc:=hc.symm;subst hc;subst hc2;go_wp2;have c:=c.o
    go_round
    case rel=>
     refine⟨b,B / 2,Z,by omega,a.o,by omega,by simp,by simp,?_⟩;have h:=step.o;rw[show okB A Z 2=true from by simp[okB,<-hH.o,<-j.o];try omega] at h
     simpa using h
    case measure=>simp[intOf];omega
   ·replace hc:=hc.symm;subst hc;go_wp2;have c:=c.o
    go_round
    case rel=>
     refine⟨b,B / 2,X,by omega,a.o,by omega,by simp,by simp,?_⟩;have h:=step.o;rw[show okB A Z 2=false from by simp[okB,<-hH.o,<-j.o];try omega] at h
     simpa using h
    case measure=>simp[intOf];omega
theorem Fc (p A:Nat) (hp:p<1000) (hA:A=p*4294967296) (w:World):
  Calls prog 202 #[.int .u64 p,iw 3] w λe w'=>e=.returned (.int .u32 ((px A 3 37 68719476736 0 % 4294967296:Nat):Int))/\w=w':=by
 have q:(p:Int)*4294967296=A:=om;have r:A<4294967296000:=om;replace hA:=LH hA;go_enter func202,ntmps202;go_wp2
 go_loop [6,7] (λx y=>∃ f B X:Nat,f<=37/\(f=0/\B=0\/1<=f/\B=2 ^ (f - 1))/\X+2*B<=137438953472/\x=.int .u64 X/\y=.int .u64 B/\px A 3 f B X=px A 3 37 68719476736 0)
  (λ_ y=>(intOf y).toNat)
 case atStart=>exact⟨37,68719476736,0,by omega,.inr ⟨by omega,rfl⟩,by omega,rfl,rfl,rfl⟩
 case round=>
  obtain⟨f,B,X,z,k,v,rfl,rfl,hm⟩:=hrel;replace hm:=LH hm;by_cases m:B=0
  ·subst m
   have d:px A 3 37 68719476736 0=X:=by
    rw[<-hm.o];rcases k with ⟨rfl,_⟩|⟨h1,n⟩
    ·rfl
    ·have:=Nat.two_pow_pos (f - 1);omega
   replace d:=LH d;clear k hm;go_wp2;go_ret;refine⟨mI ?_,rfl⟩;rw[d.o]
  ·obtain⟨b,rfl,i⟩:∃ b,f=b+1/\B=2 ^ b:=by
    rcases k with ⟨_,h⟩|⟨h1,n⟩
    ·omega
    ·exact⟨f - 1,by omega,n⟩
   have a:b=0/\B / 2=0\/1<=b/\B / 2=2 ^ (b - 1):=by
    cases b with
    | zero=>left;simp at i;omega
    | succ g=>right;rw[dK] at i;exact⟨by omega,by simp;omega⟩
   clear k;replace i:=LH i;obtain⟨Z,c⟩:=Ex (X+B);have u:(X:Int)+B=Z:=om;have step:=hm.o;rw[px,<-c] at step;replace step:=LH step;have l:=LH (Au Z 3 om om w);obtain⟨H,hH⟩:=Ex (qD Z 3);obtain⟨L,j⟩:=Ex (qZ Z 3);rw[<-hH,<-j] at l;have s:H<18446744073709551616:=hH ▸ Aw om;have t:L<18446744073709551616:=j ▸ Ax;revert a c hH j;refine H4 ?_;intro a c hH j
   go_wp2_with fail
   refine l.o.mono ?_;rintro e w' ⟨rfl,rfl⟩;clear l;rcases (by omega:H<A\/A<H\/H=A/\L=0\/H=A/\0<L) with hc|hc|⟨hc,hc2⟩|⟨hc,hc2⟩
   ·go_wp2;have c:=c.o
    go_round
    case rel=>
     refine⟨b,B / 2,Z,by omega,a.o,by omega,by simp,by simp,?_⟩;have h:=step.o;rw[show okB A Z 3=true from by simp[okB,<-hH.o,<-j.o];try omega] at h
     simpa using h
    case measure=>simp[intOf];omega
   ·go_wp2;have c:=c.o
    go_round
    case rel=>
     refine⟨b,B / 2,X,by omega,a.o,by omega,by simp,by simp,?_⟩;have h:=step.o;rw[show okB A Z 3=false from by simp[okB,<-hH.o,<-j.o];try omega] at h
     simpa using h
    case measure=>simp[intOf];omega
   ·replace hc:=hc.symm;subst hc;subst hc2;go_wp2;have c:=c.o
    go_round
    case rel=>
     refine⟨b,B / 2,Z,by omega,a.o,by omega,by simp,by simp,?_⟩;have h:=step.o;rw[show okB A Z 3=true from by simp[okB,<-hH.o,<-j.o];try omega] at h
     simpa using h
    case measure=>simp[intOf];omega
   ·replace hc:=hc.symm;subst hc;go_wp2;have c:=c.o
    go_round
    case rel=>
     refine⟨b,B / 2,X,by omega,a.o,by omega,by simp,by simp,?_⟩;have h:=step.o;rw[show okB A Z 3=false from by simp[okB,<-hH.o,<-j.o];try omega] at h
     simpa using h
    case measure=>simp[intOf];omega
def sX (l:List Nat):List Value:=l.map λ(x:Nat)=>.int .u64 x
theorem yn (l:List Nat) (j:Nat) (h:j<l.length):(sX l)[j]?=some (.int .u64 (l.getD j 0:Nat)):=by simp[sX,List.getD,h]
def sY (n:Nat):Nat->Nat->List Nat->List Nat
 | 0,_,o=>o
 | f+1,p,o=>if n<=o.length then o else sY n f (p+1) (if o.any (λq=>p % q == 0) then o else o++[p])
def oY (n:Nat):List Nat:=sY n 400 2 []
theorem Fe:(prog.info? 147).map (λi=>(i.zero,i.size,i.bytes))=some (some (.int .u64 0),1,8):=kr
theorem Ay (n:Nat) (hn:n<=64) (hl:n<=(oY n).length) (w:World):
  Calls prog 201 #[iw n] w λe w'=>∃ v,e=.returned v/\w'.ownsRow w.heap.size 147 1 v (oY n).length (sX (oY n))/\Below w.heap.size w w':=by
 have W:(Value.int .u64 0).cells.size=1:=rfl;obtain⟨R,P⟩:=Ex (oY n);rw[<-P] at hl ⊢;replace hl:=LH hl;replace P:=LH P;go_enter func201,ntmps201;go_wp2
 go_step3
 go_wp2
 go_step3
 go_wp2
 go_loopw [2,3] (λo y wr=>∃ f p:Nat,∃ l:List Nat,f+p=402/\2<=p/\y=.int .u64 p/\Below w.heap.size w wr/\Hd (wr.ownsRow w.heap.size 147 1 o l.length (sX l))/\l.length<=64/\Hd (∀ q ∈ l,2<=q/\q<1000)/\Hd (sY n f p l=R))
  (λ_ y _=>402 - (intOf y).toNat)
 case atStart=>exact⟨400,2,[],rfl,by omega,rfl,ag _ _,aS _ _ _ _,by simp,(by intro q H;simp at H),P.o.symm⟩
 case round=>
  obtain⟨f,p,l,a8,ad,rfl,d,I,N,H,hm⟩:=hrel;have L:=LH (Cells.own I.o);obtain⟨a,cap,rfl,a6,a7⟩:=L.o.shape;by_cases aa:l.length<n
  ·have step:∃ E,f=E+1/\sY n E (p+1) (if l.any (λq=>p % q == 0) then l else l++[p])=R:=by
    cases f with
    | zero=>have h:=hm.o;have h2:=hl.o;rw[sY] at h;rw[<-h] at h2;omega
    | succ E=>refine⟨E,rfl,?_⟩;have h:=hm.o;rw[sY,ah om] at h;exact h
   obtain⟨E,rfl,C⟩:=step;replace C:=LH C;clear hm;replace d:=LH d;go_wp2
   go_loopw [14] (λi X=>X=wr/\∃ j:Nat,j<=l.length/\i=iw j/\Hd (∀ q ∈ l.take j,p % q≠0))
    (λi _=>l.length - (intOf i).toNat)
   case atStart=>exact⟨rfl,0,by omega,rfl,(by intro q H;simp at H)⟩
   case round=>
    obtain⟨rfl,j,hj,rfl,D⟩:=hrel;by_cases A:j<l.length
    ·obtain⟨b,off,cp,hv,_,_,_,hb,k⟩:=Cells.at L.o om;simp only[IJ] at hv;obtain⟨rfl,_,rfl⟩:=hv;have F:=k j _ (yn l j A);obtain⟨q,B⟩:=Ex (l.getD j 0);rw[<-B] at F;have s:q ∈ l:=by rw[B,List.getD,av A];exact bK A
     have an:=H.o q s;have a1:=LH k;clear k;replace s:=LH s;replace B:=LH B;have af:(q:Int)≠0:=om;have t:((p:Int) % q)=((p % q:Nat):Int):=by simp
     by_cases G:p % q=0
     ·have V:((p:Int) % q == 0)=true:=by rw[t,G];rfl
      have c:l.any (λq=>p % q == 0)=true:=bQ.2 ⟨q,s.o,by simp[G]⟩;have m:=C.o;rw[ak c] at m;replace m:=LH m;replace c:=LH c;clear t;go_wp2;go_roundw
      case rel=>exact⟨E,p+1,l,by omega,by omega,by go_num,d.o,I.o,N,H.o,m.o⟩
      case measure=>simp[intOf];omega
     ·have V:((p:Int) % q == 0)=false:=by rw[t];simp;omega
      clear t;go_wp2;go_roundw
      case rel=>
       refine⟨by simp,j+1,by omega,by go_num,?_⟩;show ∀ q ∈ l.take (j+1),p % q≠0;intro x r;rw[bP A,bw] at r;rcases r with r|r
       ·exact D.o x r
       ·simp only[cD] at r;have e:l[j]=q:=by rw[B.o,List.getD,av A];rfl
        rw[r,e];exact G
      case measure=>simp[intOf];omega
    ·have M:j=l.length:=om;rw[M] at D;clear M
     have c:¬ l.any (λq=>p % q == 0)=true:=by intro h;obtain⟨x,r,Y⟩:=bQ.1 h;have:=D.o x (by rw[cS];exact r);simp at Y;exact this Y
     have m:=C.o;rw[ah c] at m;replace m:=LH m;have O:(wr.alloc (.cells #[.int .u64 p] 147)).ownsRow _ _ _ _ _ _:=dE I.o (λg hg=>aB _ _ _ (kt I.o g hg))
     have J:Cells (wr.alloc (.cells #[.int .u64 p] 147)) (λ_=>True) (ir wr.heap.size 1 1) 1 1 [.int .u64 p]:=by refine⟨rfl,some (iu wr.heap.size 0),1,rfl,ae _,by unfold maxLen;omega,λh=>(by cases h),.inr ⟨_,0,rfl,trivial,by simp,λj u hu=>?_⟩⟩;rw[cell_of (aj wr _),<-hu,aw];simp
     have T:=LH O;have S:=LH J;have Q:=LH (λg=>kJ I.o g);clear O J c D
     go_wp2_with (at_builtin;refine K.append ?_ (.tmp 23) (.tmp 25) 326 ?_ w.heap.size 147 (.int .u64 0) 1 8 underlying326 Fe W om _ l.length _ ?_ T.o (λ_=>True) _ 1 [.int .u64 p] ?_ S.o (by simp[Value.oneCell']) mx om ?_ ?_)
     ·rfl
     ·rfl
     ·rfl
     ·rfl
     ·have:=d.o.size;simp;omega
     intro v' w2 Z x2 x3 x4;have X1:=LH Z;clear Z;go_wp2;go_roundw
     case rel=>
      have U:Below w.heap.size w (wr.alloc (.cells #[.int .u64 p] 147)):=d.o.alloc d.o.size _;refine⟨E,p+1,l++[p],by omega,by omega,by go_num,((aA.dD U No).grown x2 (λg hg hl=>absurd (Q.o g hg) om)).no,?_,by simp;omega,?_,m.o⟩
      ·show World.ownsRow _ _ _ _ _ _ _;have h:=X1.o;simp only[sX,dz,aE,bj,List.length_nil,bt,bT,aw] at h ⊢;exact h
      ·intro x r;rcases bw.1 r with r|r
       ·exact H.o x r
       ·simp only[cD] at r;omega
     case measure=>simp[intOf];omega
  ·have z:l=R:=by
    rw[<-hm.o];cases f with
    | zero=>rfl
    | succ f=>rw[sY,ak om]
   replace z:=LH z;clear hm;replace d:=LH d;go_wp2;rw[Exit.noGoto_ret];go_ret;refine⟨_,rfl,?_,d.o⟩;rw[<-z.o];exact I.o
attribute [irreducible] oY
end Go.Proofs.YthmcbgidehjlbaaGreat.Fd

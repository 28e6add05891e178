/-
  Texts of this claim, laid together by a program of mine. No condition beyond what each theorem names.
-/
import Derived.Test.YthmcbgidehjlbaaGreatRmShelf
import Derived.Test.YthmcbgidehjlbaaGreatRmFieldPk
/-
  math/bits: Mul64 (the shelf's contract, laid at this program), RotateLeft32. No condition beyond what each theorem names.
-/
namespace Go.Proofs
open _root_.Go.Proofs.Tryz
open Go.Shelf Go.RowKit
theorem YthmcbgidehjlbaaGreat.Fd.mul64_ok (x y:Nat) (hx:x<18446744073709551616) (hy:y<18446744073709551616) (w:World):
  Calls prog 214 #[.int .u64 x,.int .u64 y] w fun e w'=>e=.returned (.tuple #[.int .u64 ((x*y / 18446744073709551616:Nat):Int),.int .u64 ((x*y % 18446744073709551616:Nat):Int)])∧w'=w:=
 Any.bits_Mul64 YthmcbgidehjlbaaGreat.laysMul64 x y hx hy w
end Go.Proofs
/-
  sha: power, root, as plain functions on numbers. No condition beyond what each theorem names.
-/
namespace Go.Proofs.YthmcbgidehjlbaaGreat.Fd
open _root_.Go.Proofs.Tryz
open Go Go.RowKit K
set_option maxHeartbeats 1000000
def pHi (x n:Nat):Nat:=if n=3 then x*x / 18446744073709551616*x+x*x % 18446744073709551616*x / 18446744073709551616 else x*x / 18446744073709551616
def pLo (x n:Nat):Nat:=if n=3 then x*x % 18446744073709551616*x % 18446744073709551616 else x*x % 18446744073709551616
theorem power_ok (x n:Nat) (hx:x<1099511627776) (hn:n=2∨n=3) (w:World):
  Calls prog 210 #[.int .u64 x,.int .i64 n] w fun e w'=>e=.returned (.tuple #[.int .u64 (pHi x n),.int .u64 (pLo x n)])∧w=w':=by
 have hxx:x*x<1208925819614629174706176:=Nat.mul_lt_mul'' hx hx;have M1:=LH (mul64_ok x x (by omega) (by omega) w);obtain⟨H,hH⟩:∃ H,H=x*x / 18446744073709551616:=⟨_,rfl⟩;obtain⟨L,hL⟩:∃ L,L=x*x % 18446744073709551616:=⟨_,rfl⟩;have hHl:H<65536:=by omega
 have hLl:L<18446744073709551616:=by omega
 have M2:=LH (mul64_ok L x hLl (by omega) w);rw[← hH,← hL] at M1;obtain⟨A,hA⟩:∃ A,A=L*x / 18446744073709551616:=⟨_,rfl⟩;have hLx:L*x<18446744073709551616*1099511627776:=Nat.mul_lt_mul'' hLl hx;have hAl:A<1099511627776:=by omega
 have hHx:H*x<65536*1099511627776:=Nat.mul_lt_mul'' hHl hx;obtain⟨C,hC⟩:∃ C,C=H*x:=⟨_,rfl⟩;have hCi:(H:Int)*x=C:=by rw[hC];simp
 rw[← hC] at hHx;rw[← hA] at M2;obtain⟨B,hB⟩:∃ B,B=L*x % 18446744073709551616:=⟨_,rfl⟩;rw[← hB] at M2;have e1:pHi x 3=C+A:=by rw[pHi,if_pos rfl,← hH,← hL,← hA,← hC]
 have e2:pLo x 3=B:=by rw[pLo,if_pos rfl,← hL,← hB]
 have e3:pHi x 2=H:=by rw[pHi,if_neg (by omega),← hH]
 have e4:pLo x 2=L:=by rw[pLo,if_neg (by omega),← hL]
 replace e1:=LH e1;replace e2:=LH e2;replace e3:=LH e3;replace e4:=LH e4;clear hH hL hA hC hB hxx hLx;rcases hn with rfl|rfl
 ·rw[e3.out,e4.out];go_enter func210,ntmps210
  go_wp2_with (go_at_call 214;(with_reducible refine M1.out.mono ?_);rintro e w' ⟨rfl,rfl⟩)
  go_ret2;exact⟨rfl,rfl⟩
 ·rw[e1.out,e2.out];go_enter func210,ntmps210
  go_wp2_with fail
  refine M1.out.mono ?_;rintro e w' ⟨rfl,rfl⟩
  go_wp2_with fail
  refine M2.out.mono ?_;rintro e w' ⟨rfl,rfl⟩;go_wp2;go_ret2;exact⟨by simp,rfl⟩
end Go.Proofs.YthmcbgidehjlbaaGreat.Fd
namespace Go.Proofs.YthmcbgidehjlbaaGreat.Fd
open _root_.Go.Proofs.Tryz
open Go Go.RowKit K
set_option maxRecDepth 100000
set_option maxHeartbeats 8000000
def okB (above x n:Nat):Bool:=decide (pHi x n<above) || (pHi x n == above && pLo x n == 0)
def rootF (above n:Nat):Nat→Nat→Nat→Nat
 | 0,_,x=>x
 | f+1,b,x=>rootF above n f (b / 2) (if okB above (x+b) n then x+b else x)
def aboveN (p n:Nat):Nat:=p*2 ^ (32*(n - 2))
def root (p n:Nat):Nat:=rootF (aboveN p n) n 37 68719476736 0 % 4294967296
theorem root_lt {p n:Nat}:root p n<4294967296:=Nat.mod_lt _ (by omega)
theorem pHi_lt {x n:Nat}(hx:x<1099511627776):pHi x n<18446744073709551616:=by
 have hxx:x*x<1208925819614629174706176:=Nat.mul_lt_mul'' hx hx;unfold pHi;split
 ·have h1:x*x / 18446744073709551616<65536:=by omega
  have h2:x*x % 18446744073709551616<18446744073709551616:=by omega
  generalize x*x / 18446744073709551616=H at*;generalize x*x % 18446744073709551616=L at*;have h3:H*x<65536*1099511627776:=Nat.mul_lt_mul'' h1 hx;have h4:L*x<18446744073709551616*1099511627776:=Nat.mul_lt_mul'' h2 hx;omega
 ·omega
theorem pLo_lt {x n:Nat}:pLo x n<18446744073709551616:=by
 unfold pLo;split<;>omega
theorem root2_ok (A:Nat) (hp:A<1000) (w:World):
  Calls prog 202 #[.int .u64 A,.int .i64 2] w fun e w'=>e=.returned (.int .u32 ((rootF A 2 37 68719476736 0 % 4294967296:Nat):Int))∧w=w':=by
 go_enter func202,ntmps202;go_wp2
 go_loop [6,7] (fun x y=>∃ f B X:Nat,f≤37∧(f=0∧B=0∨1≤f∧B=2 ^ (f - 1))∧X+2*B≤137438953472∧x=.int .u64 X∧y=.int .u64 B∧rootF A 2 f B X=rootF A 2 37 68719476736 0)
  (fun _ y=>(intOf y).toNat)
 case atStart=>exact⟨37,68719476736,0,by omega,.inr ⟨by omega,rfl⟩,by omega,rfl,rfl,rfl⟩
 case round=>
  obtain⟨f,B,X,hf,hB,hX,rfl,rfl,hm⟩:=hrel;replace hm:=LH hm;by_cases hB0:B=0
  ·subst hB0
   have hfin:rootF A 2 37 68719476736 0=X:=by
    rw[← hm.out];rcases hB with ⟨rfl,_⟩|⟨h1,h2⟩
    ·rfl
    ·have:=Nat.two_pow_pos (f - 1);omega
   replace hfin:=LH hfin;clear hB hm;go_wp2;go_ret;refine⟨ret_int ?_,rfl⟩;rw[hfin.out]
  ·obtain⟨f',rfl,hBp⟩:∃ f',f=f'+1∧B=2 ^ f':=by
    rcases hB with ⟨_,h⟩|⟨h1,h2⟩
    ·omega
    ·exact⟨f - 1,by omega,h2⟩
   have hB2:f'=0∧B / 2=0∨1≤f'∧B / 2=2 ^ (f' - 1):=by
    cases f' with
    | zero=>left;simp at hBp;omega
    | succ g=>right;rw[Nat.pow_succ] at hBp;exact⟨by omega,by simp;omega⟩
   clear hB;replace hBp:=LH hBp;obtain⟨Z,hZ⟩:∃ Z,Z=X+B:=⟨_,rfl⟩;have hZi:(X:Int)+B=Z:=by omega
   have step:=hm.out;rw[rootF,← hZ] at step;replace step:=LH step;have PW:=LH (power_ok Z 2 (by omega) (by omega) w);obtain⟨H,hH⟩:∃ H,H=pHi Z 2:=⟨_,rfl⟩;obtain⟨L,hL⟩:∃ L,L=pLo Z 2:=⟨_,rfl⟩;rw[← hH,← hL] at PW;have hHl:H<18446744073709551616:=hH ▸ pHi_lt (by omega);have hLl:L<18446744073709551616:=hL ▸ pLo_lt;replace hH:=LH hH;replace hL:=LH hL;replace hZ:=LH hZ;replace hB2:=LH hB2
   go_wp2_with fail
   refine PW.out.mono ?_;rintro e w' ⟨rfl,rfl⟩;clear PW;rcases (by omega:H<A∨A<H∨H=A∧L=0∨H=A∧0<L) with hc|hc|⟨hc,hc2⟩|⟨hc,hc2⟩
   ·go_wp2;have hZ:=hZ.out
    go_round
    case rel=>
     refine⟨f',B / 2,Z,by omega,hB2.out,by omega,by simp,by simp,?_⟩;have h:=step.out;rw[show okB A Z 2=true from by simp[okB,← hH.out,← hL.out];try omega] at h
     simpa using h
    case measure=>simp[intOf];omega
   ·go_wp2;have hZ:=hZ.out
    go_round
    case rel=>
     refine⟨f',B / 2,X,by omega,hB2.out,by omega,by simp,by simp,?_⟩;have h:=step.out;rw[show okB A Z 2=false from by simp[okB,← hH.out,← hL.out];try omega] at h
     simpa using h
    case measure=>simp[intOf];omega
   ·replace hc:=hc.symm;subst hc;subst hc2;go_wp2;have hZ:=hZ.out
    go_round
    case rel=>
     refine⟨f',B / 2,Z,by omega,hB2.out,by omega,by simp,by simp,?_⟩;have h:=step.out;rw[show okB A Z 2=true from by simp[okB,← hH.out,← hL.out];try omega] at h
     simpa using h
    case measure=>simp[intOf];omega
   ·replace hc:=hc.symm;subst hc;go_wp2;have hZ:=hZ.out
    go_round
    case rel=>
     refine⟨f',B / 2,X,by omega,hB2.out,by omega,by simp,by simp,?_⟩;have h:=step.out;rw[show okB A Z 2=false from by simp[okB,← hH.out,← hL.out];try omega] at h
     simpa using h
    case measure=>simp[intOf];omega
theorem root3_ok (p A:Nat) (hp:p<1000) (hA:A=p*4294967296) (w:World):
  Calls prog 202 #[.int .u64 p,.int .i64 3] w fun e w'=>e=.returned (.int .u32 ((rootF A 3 37 68719476736 0 % 4294967296:Nat):Int))∧w=w':=by
 have hAi:(p:Int)*4294967296=A:=by omega
 have hAl:A<4294967296000:=by omega
 replace hA:=LH hA;go_enter func202,ntmps202;go_wp2
 go_loop [6,7] (fun x y=>∃ f B X:Nat,f≤37∧(f=0∧B=0∨1≤f∧B=2 ^ (f - 1))∧X+2*B≤137438953472∧x=.int .u64 X∧y=.int .u64 B∧rootF A 3 f B X=rootF A 3 37 68719476736 0)
  (fun _ y=>(intOf y).toNat)
 case atStart=>exact⟨37,68719476736,0,by omega,.inr ⟨by omega,rfl⟩,by omega,rfl,rfl,rfl⟩
 case round=>
  obtain⟨f,B,X,hf,hB,hX,rfl,rfl,hm⟩:=hrel;replace hm:=LH hm;by_cases hB0:B=0
  ·subst hB0
   have hfin:rootF A 3 37 68719476736 0=X:=by
    rw[← hm.out];rcases hB with ⟨rfl,_⟩|⟨h1,h2⟩
    ·rfl
    ·have:=Nat.two_pow_pos (f - 1);omega
   replace hfin:=LH hfin;clear hB hm;go_wp2;go_ret;refine⟨ret_int ?_,rfl⟩;rw[hfin.out]
  ·obtain⟨f',rfl,hBp⟩:∃ f',f=f'+1∧B=2 ^ f':=by
    rcases hB with ⟨_,h⟩|⟨h1,h2⟩
    ·omega
    ·exact⟨f - 1,by omega,h2⟩
   have hB2:f'=0∧B / 2=0∨1≤f'∧B / 2=2 ^ (f' - 1):=by
    cases f' with
    | zero=>left;simp at hBp;omega
    | succ g=>right;rw[Nat.pow_succ] at hBp;exact⟨by omega,by simp;omega⟩
   clear hB;replace hBp:=LH hBp;obtain⟨Z,hZ⟩:∃ Z,Z=X+B:=⟨_,rfl⟩;have hZi:(X:Int)+B=Z:=by omega
   have step:=hm.out;rw[rootF,← hZ] at step;replace step:=LH step;have PW:=LH (power_ok Z 3 (by omega) (by omega) w);obtain⟨H,hH⟩:∃ H,H=pHi Z 3:=⟨_,rfl⟩;obtain⟨L,hL⟩:∃ L,L=pLo Z 3:=⟨_,rfl⟩;rw[← hH,← hL] at PW;have hHl:H<18446744073709551616:=hH ▸ pHi_lt (by omega);have hLl:L<18446744073709551616:=hL ▸ pLo_lt;replace hH:=LH hH;replace hL:=LH hL;replace hZ:=LH hZ;replace hB2:=LH hB2
   go_wp2_with fail
   refine PW.out.mono ?_;rintro e w' ⟨rfl,rfl⟩;clear PW;rcases (by omega:H<A∨A<H∨H=A∧L=0∨H=A∧0<L) with hc|hc|⟨hc,hc2⟩|⟨hc,hc2⟩
   ·go_wp2;have hZ:=hZ.out
    go_round
    case rel=>
     refine⟨f',B / 2,Z,by omega,hB2.out,by omega,by simp,by simp,?_⟩;have h:=step.out;rw[show okB A Z 3=true from by simp[okB,← hH.out,← hL.out];try omega] at h
     simpa using h
    case measure=>simp[intOf];omega
   ·go_wp2;have hZ:=hZ.out
    go_round
    case rel=>
     refine⟨f',B / 2,X,by omega,hB2.out,by omega,by simp,by simp,?_⟩;have h:=step.out;rw[show okB A Z 3=false from by simp[okB,← hH.out,← hL.out];try omega] at h
     simpa using h
    case measure=>simp[intOf];omega
   ·replace hc:=hc.symm;subst hc;subst hc2;go_wp2;have hZ:=hZ.out
    go_round
    case rel=>
     refine⟨f',B / 2,Z,by omega,hB2.out,by omega,by simp,by simp,?_⟩;have h:=step.out;rw[show okB A Z 3=true from by simp[okB,← hH.out,← hL.out];try omega] at h
     simpa using h
    case measure=>simp[intOf];omega
   ·replace hc:=hc.symm;subst hc;go_wp2;have hZ:=hZ.out
    go_round
    case rel=>
     refine⟨f',B / 2,X,by omega,hB2.out,by omega,by simp,by simp,?_⟩;have h:=step.out;rw[show okB A Z 3=false from by simp[okB,← hH.out,← hL.out];try omega] at h
     simpa using h
    case measure=>simp[intOf];omega
end Go.Proofs.YthmcbgidehjlbaaGreat.Fd
/-
  sha.primes, as a plain function on numbers. No condition beyond what each theorem names.
-/
namespace Go.Proofs.YthmcbgidehjlbaaGreat.Fd
open _root_.Go.Proofs.Tryz
open Go Go.RowKit K
set_option maxRecDepth 100000
set_option maxHeartbeats 4000000
def u64s (l:List Nat):List Value:=l.map fun (x:Nat)=>.int .u64 x
theorem u64s_get (l:List Nat) (j:Nat) (h:j<l.length):(u64s l)[j]?=some (.int .u64 (l.getD j 0:Nat)):=by simp[u64s,List.getD,h]
def primesF (n:Nat):Nat→Nat→List Nat→List Nat
 | 0,_,o=>o
 | f+1,p,o=>if n≤o.length then o else primesF n f (p+1) (if o.any (fun q=>p % q == 0) then o else o++[p])
def primes (n:Nat):List Nat:=primesF n 400 2 []
theorem infoU64:(prog.info? 147).map (fun i=>(i.zero,i.size,i.bytes))=some (some (.int .u64 0),1,8):=by kernel_rfl
theorem primes_ok (n:Nat) (hn:n≤64) (hl:n≤(primes n).length) (w:World):
  Calls prog 201 #[.int .i64 n] w fun e w'=>∃ v,e=.returned v∧w'.ownsRow w.heap.size 147 1 v (primes n).length (u64s (primes n))∧Below w.heap.size w w':=by
 have hz1:(Value.int .u64 0).cells.size=1:=rfl;obtain⟨R,hR⟩:∃ R,R=primes n:=⟨_,rfl⟩;rw[← hR] at hl ⊢;replace hl:=LH hl;replace hR:=LH hR;go_enter func201,ntmps201;go_wp2
 go_step3
 go_wp2
 go_step3
 go_wp2
 go_loopw [2,3] (fun o y wr=>∃ f p:Nat,∃ l:List Nat,f+p=402∧2≤p∧y=.int .u64 p∧Below w.heap.size w wr∧Hid (wr.ownsRow w.heap.size 147 1 o l.length (u64s l))∧l.length≤64∧Hid (∀ q ∈ l,2≤q∧q<1000)∧Hid (primesF n f p l=R))
  (fun _ y _=>402 - (intOf y).toNat)
 case atStart=>exact⟨400,2,[],rfl,by omega,rfl,Below.refl _ _,World.ownsRow_nil _ _ _ _,by simp,(by intro q hq;simp at hq),hR.out.symm⟩
 case round=>
  obtain⟨f,p,l,hfp,hp2,rfl,hbr,HO,hl64,hq,hm⟩:=hrel;have hcl:=LH (Cells.own HO.out);obtain⟨a,cap,rfl,hc1,hc2⟩:=hcl.out.shape;by_cases hlt:l.length<n
  ·have step:∃ f',f=f'+1∧primesF n f' (p+1) (if l.any (fun q=>p % q == 0) then l else l++[p])=R:=by
    cases f with
    | zero=>
     have h:=hm.out;have h2:=hl.out;rw[primesF] at h;rw[← h] at h2;omega
    | succ f'=>
     refine⟨f',rfl,?_⟩;have h:=hm.out;rw[primesF,if_neg (by omega)] at h;exact h
   obtain⟨f',rfl,hm2⟩:=step;replace hm2:=LH hm2;clear hm;replace hbr:=LH hbr;go_wp2
   go_loopw [14] (fun i wr2=>wr2=wr∧∃ j:Nat,j≤l.length∧i=.int .i64 j∧Hid (∀ q ∈ l.take j,p % q≠0))
    (fun i _=>l.length - (intOf i).toNat)
   case atStart=>exact⟨rfl,0,by omega,rfl,(by intro q hq;simp at hq)⟩
   case round=>
    obtain⟨rfl,j,hj,rfl,hno⟩:=hrel;by_cases hlj:j<l.length
    ·obtain⟨b,off,cp,hv,_,_,_,hb,hcells⟩:=Cells.at hcl.out (by omega);simp only[Value.slice.injEq] at hv;obtain⟨rfl,_,rfl⟩:=hv;have hcell:=hcells j _ (u64s_get l j hlj);obtain⟨q,hqq⟩:∃ q,q=l.getD j 0:=⟨_,rfl⟩;rw[← hqq] at hcell;have hmem:q ∈ l:=by rw[hqq,List.getD,List.getElem?_eq_getElem hlj];exact List.getElem_mem hlj
     have hq2:=hq.out q hmem;have HCL:=LH hcells;clear hcells;replace hmem:=LH hmem;replace hqq:=LH hqq;have hq0:(q:Int)≠0:=by omega
     have hmod:((p:Int) % q)=((p % q:Nat):Int):=by simp
     by_cases hdv:p % q=0
     ·have hdi:((p:Int) % q == 0)=true:=by rw[hmod,hdv];rfl
      have hany:l.any (fun q=>p % q == 0)=true:=List.any_eq_true.2 ⟨q,hmem.out,by simp[hdv]⟩;have hm3:=hm2.out;rw[if_pos hany] at hm3;replace hm3:=LH hm3;replace hany:=LH hany;clear hmod;go_wp2;go_roundw
      case rel=>exact⟨f',p+1,l,by omega,by omega,by go_num,hbr.out,HO.out,hl64,hq.out,hm3.out⟩
      case measure=>simp[intOf];omega
     ·have hdi:((p:Int) % q == 0)=false:=by rw[hmod];simp;omega
      clear hmod;go_wp2;go_roundw
      case rel=>
       refine⟨by simp,j+1,by omega,by go_num,?_⟩;show ∀ q ∈ l.take (j+1),p % q≠0;intro x hx;rw[List.take_succ_eq_append_getElem hlj,List.mem_append] at hx;rcases hx with hx|hx
       ·exact hno.out x hx
       ·simp only[List.mem_singleton] at hx;have e:l[j]=q:=by rw[hqq.out,List.getD,List.getElem?_eq_getElem hlj];rfl
        rw[hx,e];exact hdv
      case measure=>simp[intOf];omega
    ·have hjl:j=l.length:=by omega
     rw[hjl] at hno;clear hjl
     have hany:¬ l.any (fun q=>p % q == 0)=true:=by
      intro h;obtain⟨x,hx,h0⟩:=List.any_eq_true.1 h;have:=hno.out x (by rw[List.take_length];exact hx);simp at h0;exact this h0
     have hm3:=hm2.out;rw[if_neg hany] at hm3;replace hm3:=LH hm3;have ho2:(wr.alloc (.cells #[.int .u64 p] 147)).ownsRow _ _ _ _ _ _:=owns_keep HO.out (fun g hg=>Below.heap_alloc _ _ _ (owns_lt HO.out g hg))
     have hcb:Cells (wr.alloc (.cells #[.int .u64 p] 147)) (fun _=>True) (.slice (some ⟨wr.heap.size,0,none⟩) 1 1) 1 1 [.int .u64 p]:=by
      refine⟨rfl,some ⟨wr.heap.size,0,none⟩,1,rfl,Nat.le_refl _,by unfold maxLen;omega,fun h=>(by cases h),.inr ⟨_,0,rfl,trivial,by simp,fun j u hu=>?_⟩⟩;rw[cell_of (heap_alloc_new wr _),← hu,Nat.zero_add];simp
     have HO2:=LH ho2;have HCB:=LH hcb;have HBK:=LH (fun g=>owns_ge HO.out g);clear ho2 hcb hany hno
     go_wp2_with (at_builtin;refine K.append ?_ (.tmp 23) (.tmp 25) 326 ?_ w.heap.size 147 (.int .u64 0) 1 8 underlying326 infoU64 hz1 (by omega) _ l.length _ ?_ HO2.out (fun _=>True) _ 1 [.int .u64 p] ?_ HCB.out (by simp[Value.oneCell']) (by unfold maxLen;omega) (by omega) ?_ ?_)
     ·rfl
     ·rfl
     ·rfl
     ·rfl
     ·have:=hbr.out.size;simp;omega
     intro v' w2 x1 x2 x3 x4;have X1:=LH x1;clear x1;go_wp2;go_roundw
     case rel=>
      have hb2:Below w.heap.size w (wr.alloc (.cells #[.int .u64 p] 147)):=hbr.out.alloc hbr.out.size _;refine⟨f',p+1,l++[p],by omega,by omega,by go_num,((Chg.of_below hb2 No).grown x2 (fun g hg hl=>absurd (HBK.out g hg) (by omega))).no,?_,by simp;omega,?_,hm3.out⟩
      ·show World.ownsRow _ _ _ _ _ _ _;have h:=X1.out;simp only[u64s,List.map_append,List.length_append,List.length_cons,List.length_nil,List.map_cons,List.map_nil,Nat.zero_add] at h ⊢;exact h
      ·intro x hx;rcases List.mem_append.1 hx with hx|hx
       ·exact hq.out x hx
       ·simp only[List.mem_singleton] at hx;omega
     case measure=>simp[intOf];omega
  ·have hfin:l=R:=by
    rw[← hm.out];cases f with
    | zero=>rfl
    | succ f=>rw[primesF,if_pos (by omega)]
   replace hfin:=LH hfin;clear hm;replace hbr:=LH hbr;go_wp2;rw[Exit.noGoto_ret];go_ret;refine⟨_,rfl,?_,hbr.out⟩;rw[← hfin.out];exact HO.out
attribute [irreducible] primes
end Go.Proofs.YthmcbgidehjlbaaGreat.Fd

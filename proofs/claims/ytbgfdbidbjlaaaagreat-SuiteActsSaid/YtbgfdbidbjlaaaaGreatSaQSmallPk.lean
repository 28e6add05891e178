/-
  Texts of this claim, laid together by a program of mine. No condition beyond what each theorem names.
-/
import Derived.Test.YtbgfdbidbjlaaaaGreatSaFieldPk
import Derived.Test.YtbgfdbidbjlaaaaGreatSaRegionB
import Derived.Test.YtbgfdbidbjlaaaaGreatSaSmallPk
/-
  The document's own turn, Mul, May, MayXts. No condition beyond what each theorem names.
-/
namespace Go.Proofs.YtbgfdbidbjlaaaaGreat.Fd
open _root_.Go.Proofs.Tryz
open Go Go.RowKit K
set_option maxRecDepth 100000
set_option maxHeartbeats 2000000
theorem i64_xor_nat (a b:Nat) (ha:a<4294967296) (hb:b<4294967296):bits .xor .i64 (a:Int) (b:Int)=((a ^^^ b:Nat):Int):=by
 have hx:a ^^^ b<2 ^ 32:=Nat.xor_lt_two_pow (by omega) (by omega);show IntKind.i64.wrap ((BitVec.ofInt 64 (a:Int) ^^^ BitVec.ofInt 64 (b:Int)).toNat:Int)=_;rw[BitVec.toNat_xor,BitVec.ofInt_natCast,BitVec.ofInt_natCast,BitVec.toNat_ofNat,BitVec.toNat_ofNat,Nat.mod_eq_of_lt (by omega),Nat.mod_eq_of_lt (by omega),IntKind.wrap_i64];omega
theorem qTurn_ok (x n k:Nat) (hx:x<4294967296) (hn:0<n) (hk:n+k=32) (w:World):Calls prog 95 #[.int .u32 x,.int .i64 n] w fun e w'=>e=.returned (.int .u32 (rot32 x k))∧Below w.heap.size w w':=by
 have h1:(x:Int) / 2 ^ n=((x / 2 ^ n:Nat):Int):=by simp
 have h2:(x:Int)*2 ^ k % 4294967296=((x*2 ^ k % 4294967296:Nat):Int):=by simp
 have h3:=u32_or_nat (x / 2 ^ n) (x*2 ^ k % 4294967296) (Nat.lt_of_le_of_lt (Nat.div_le_self _ _) hx) (by omega);have h4:x / 2 ^ n ||| x*2 ^ k % 4294967296=rot32 x k:=by rw[rot32,Nat.or_comm,show 32 - k=n by omega]
 have h5:(32:Int) - n=k:=by omega
 have hmn:min n 32=n:=by omega
 have hmk:min k 32=k:=by omega
 rw[h4] at h3;obtain⟨A,hA⟩:∃ A,A=x / 2 ^ n:=⟨_,rfl⟩;obtain⟨B,hB⟩:∃ B,B=x*2 ^ k % 4294967296:=⟨_,rfl⟩;obtain⟨C,hC⟩:∃ C,C=rot32 x k:=⟨_,rfl⟩;rw[← hA] at h1 h3;rw[← hB] at h2 h3;rw[← hC] at h3 ⊢;clear h4;replace hA:=LH hA;replace hB:=LH hB;replace hC:=LH hC;go_enter func95,ntmps95;go_wp2
 go_region
 go_wp2;go_ret;exact⟨rfl,(Below.refl _ _).drew⟩
def mulQ (a b:Nat):Nat→Nat
 | 0=>0
 | k+1=>(if 255<mulQ a b k*2 then mulQ a b k*2 ^^^ 283 else mulQ a b k*2) ^^^ (if b / 2 ^ (7 - k) % 2=1 then a else 0)
theorem mulQ_zero {a b:Nat}:mulQ a b 0=0:=rfl
theorem mulQ_succ {a b k:Nat}:mulQ a b (k+1)=(if 255<mulQ a b k*2 then mulQ a b k*2 ^^^ 283 else mulQ a b k*2) ^^^ (if b / 2 ^ (7 - k) % 2=1 then a else 0):=rfl
theorem red9 {r:Nat}(h:r<256) (h2:255<r*2):r*2 ^^^ 283<256:=by
 have h3:r*2 ^^^ 283<2 ^ 9:=Nat.xor_lt_two_pow (by omega) (by omega)
 have h4:(r*2 ^^^ 283).testBit 8=false:=by
  have e1:(r*2).testBit 8=true:=by
   rw[Nat.testBit_eq_decide_div_mod_eq];simp;omega
  have e2:(283:Nat).testBit 8=true:=by decide
  rw[Nat.testBit_xor,e1,e2];rfl
 have h5:=Nat.testBit_eq_decide_div_mod_eq (x:=r*2 ^^^ 283) (i:=8);rw[h4] at h5;simp at h5;omega
theorem mulQ_lt {a b:Nat}(ha:a<256):∀ k,mulQ a b k<256
 | 0=>by rw[mulQ_zero];omega
 | k+1=>by
  have ih:=mulQ_lt (b:=b) ha k;rw[mulQ_succ];refine xor8 ?_ (by split<;>omega);split
  ·exact red9 ih (by assumption)
  ·omega
attribute [irreducible] mulQ
theorem qMul_ok (a b:Nat) (ha:a<256) (hb:b<256) (w:World):Calls prog 38 #[.int .u8 a,.int .u8 b] w fun e w'=>e=.returned (.int .u8 (mulQ a b 8))∧w=w':=by
 go_enter func38,ntmps38;go_wp2
 go_loop [5,6] (fun x y=>∃ k r:Nat,k≤8∧r<256∧x=.int .i64 r∧y=.int .i64 (7 - (k:Int))∧Hid (mulQ a b k=r))
  (fun _ y=>((intOf y)+1).toNat)
 case atStart=>exact⟨0,0,by omega,by omega,rfl,rfl,mulQ_zero⟩
 case round=>
  obtain⟨k,r,hk,hr,rfl,rfl,hm⟩:=hrel;by_cases h8:k<8
  ·obtain⟨s,hs⟩:∃ s,s=7 - k:=⟨_,rfl⟩;have hs1:(7:Int) - k=s:=by omega
   have hs7:s≤7:=by omega
   have hmin:min s 8=s:=by omega
   have hd:(b:Int) / 2 ^ s=((b / 2 ^ s:Nat):Int):=by simp
   have hdl:b / 2 ^ s<256:=Nat.lt_of_le_of_lt (Nat.div_le_self _ _) hb;have hm1:=mulQ_succ (a:=a) (b:=b) (k:=k);rw[hm.out,← hs] at hm1;obtain⟨D,hD⟩:∃ D,D=b / 2 ^ s:=⟨_,rfl⟩;rw[← hD] at hd hdl hm1;have h1:bits .and .u8 (D:Int) 1=((D % 2:Nat):Int):=by have h:=u8_and_nat D 1 hdl (by omega);rw[nat_mask1] at h;exact h
   replace hm1:=LH hm1;replace hD:=LH hD;replace hs:=LH hs;obtain⟨r2,hr2⟩:∃ r2,r2=r*2:=⟨_,rfl⟩;have hr2i:(r:Int)*2=r2:=by omega
   obtain⟨x,hx⟩:∃ x,x=if 255<r*2 then r*2 ^^^ 283 else r*2:=⟨_,rfl⟩;have hxl:x<256:=by rw[hx];split;exact red9 hr (by assumption);omega
   have hx1:bits .xor .i64 (r2:Int) 283=((r2 ^^^ 283:Nat):Int):=i64_xor_nat r2 283 (by omega) (by omega);have hx2:bits .xor .i64 (x:Int) (a:Int)=((x ^^^ a:Nat):Int):=i64_xor_nat x a (by omega) (by omega);have hxa:x ^^^ a<256:=xor8 hxl ha;replace hr2:=LH hr2;replace hx:=LH hx
   have hfin:∀ y:Nat,y=(if 255<r2 then r2 ^^^ 283 else r2) ^^^ (if D % 2=1 then a else 0)→mulQ a b (k+1)=y∧y<256:=fun y hy=>by
    rw[hr2.out] at hy;have h:mulQ a b (k+1)=y:=by rw[hm1.out,hy]
    exact⟨h,by rw[← h];exact mulQ_lt ha _⟩
   replace hfin:=LH hfin;have hx3:bits .xor .i64 ((r2 ^^^ 283:Nat):Int) (a:Int)=((r2 ^^^ 283 ^^^ a:Nat):Int):=i64_xor_nat _ a (Nat.lt_trans (Nat.xor_lt_two_pow (n:=9) (by omega) (by omega)) (by omega)) (by omega);have hx4:bits .xor .i64 (r2:Int) (a:Int)=((r2 ^^^ a:Nat):Int):=i64_xor_nat r2 a (by omega) (by omega);by_cases h255:255<r2
   ·by_cases hD2:D % 2=1
    ·have hD3:(D:Int) % 2=1:=by omega
     obtain⟨f1,f2⟩:=hfin.out (r2 ^^^ 283 ^^^ a) (by rw[if_pos h255,if_pos hD2]);go_wp2
     go_round
     case rel=>exact⟨k+1,r2 ^^^ 283 ^^^ a,by omega,f2,rfl,by go_num,f1⟩
     case measure=>simp[intOf];omega
    ·have hD3:(D:Int) % 2=0:=by omega
     obtain⟨f1,f2⟩:=hfin.out (r2 ^^^ 283) (by rw[if_pos h255,if_neg hD2,Nat.xor_zero]);go_wp2
     go_round
     case rel=>exact⟨k+1,r2 ^^^ 283,by omega,f2,rfl,by go_num,f1⟩
     case measure=>simp[intOf];omega
   ·by_cases hD2:D % 2=1
    ·have hD3:(D:Int) % 2=1:=by omega
     obtain⟨f1,f2⟩:=hfin.out (r2 ^^^ a) (by rw[if_neg h255,if_pos hD2]);go_wp2
     go_round
     case rel=>exact⟨k+1,r2 ^^^ a,by omega,f2,rfl,by go_num,f1⟩
     case measure=>simp[intOf];omega
    ·have hD3:(D:Int) % 2=0:=by omega
     obtain⟨f1,f2⟩:=hfin.out r2 (by rw[if_neg h255,if_neg hD2,Nat.xor_zero]);go_wp2
     go_round
     case rel=>exact⟨k+1,r2,by omega,f2,rfl,by go_num,f1⟩
     case measure=>simp[intOf];omega
  ·have hk8:k=8:=by omega
   rw[hk8] at hm;clear hk8;have hneg:(7:Int) - k<0:=by omega
   go_wp2;go_ret;exact⟨ret_int (by rw[hm.out]),rfl⟩
theorem qMay_ok (a b:Option Addr) (n cap m cap':Nat) (r:Int) (w:World):Calls prog 33 #[.slice a n cap,.slice b m cap',.int .i64 r] w fun e w'=>e=.returned (.bool (mayB n m r))∧w=w':=by
 by_cases h1:n≤128
 ·by_cases h2:m≤64
  ·by_cases h3:1≤r
   ·by_cases h4:r≤10000
    ·go_enter func33,ntmps33;go_wp2;go_ret;exact⟨ret_bool (by simp[mayB,h1,h2,h3,h4]),rfl⟩
    ·go_enter func33,ntmps33;go_wp2;go_ret;exact⟨ret_bool (by simp[mayB];omega),rfl⟩
   ·go_enter func33,ntmps33;go_wp2;go_ret;exact⟨ret_bool (by simp[mayB];omega),rfl⟩
  ·go_enter func33,ntmps33;go_wp2;go_ret;exact⟨ret_bool (by simp[mayB];omega),rfl⟩
 ·go_enter func33,ntmps33;go_wp2;go_ret;exact⟨ret_bool (by simp[mayB];omega),rfl⟩
def keyB (n:Nat) (z:Int):Bool:=decide ((n=32∨n=64)∧0≤z∧z≤1099511627776)
theorem qMayXts_ok (a:Option Addr) (n cap:Nat) (z:Int) (w:World):Calls prog 25 #[.slice a n cap,.int .i64 z] w fun e w'=>e=.returned (.bool (keyB n z))∧w=w':=by
 by_cases h1:n=32∨n=64
 ·have hk:∀ k:Nat,k=32∨k=64→Calls prog 25 #[.slice a k cap,.int .i64 z] w fun e w'=>e=.returned (.bool (keyB k z))∧w=w':=by
   intro k hk;by_cases h3:0≤z
   ·by_cases h4:z≤1099511627776
    ·rcases hk with rfl|rfl
     ·go_enter func25,ntmps25;go_wp2;go_ret;exact⟨ret_bool (by simp[keyB,h3,h4]),rfl⟩
     ·go_enter func25,ntmps25;go_wp2;go_ret;exact⟨ret_bool (by simp[keyB,h3,h4]),rfl⟩
    ·rcases hk with rfl|rfl
     ·go_enter func25,ntmps25;go_wp2;go_ret;exact⟨ret_bool (Eq.symm (decide_eq_false (by omega))),rfl⟩
     ·go_enter func25,ntmps25;go_wp2;go_ret;exact⟨ret_bool (Eq.symm (decide_eq_false (by omega))),rfl⟩
   ·rcases hk with rfl|rfl
    ·go_enter func25,ntmps25;go_wp2;go_ret;exact⟨ret_bool (Eq.symm (decide_eq_false (by omega))),rfl⟩
    ·go_enter func25,ntmps25;go_wp2;go_ret;exact⟨ret_bool (Eq.symm (decide_eq_false (by omega))),rfl⟩
  exact hk n h1
 ·have e1:((n:Int) == 32)=false:=by simp;omega
  have e2:((n:Int) == 64)=false:=by simp;omega
  go_enter func25,ntmps25;go_wp2;go_ret;exact⟨ret_bool (by simp[keyB,h1]),rfl⟩
end Go.Proofs.YtbgfdbidbjlaaaaGreat.Fd
/-
  The document's own square: the digits behind the point of a square root. No condition beyond what each theorem names.
-/
namespace Go.Proofs.YtbgfdbidbjlaaaaGreat.Fd
open _root_.Go.Proofs.Tryz
open Go Go.RowKit K
set_option maxRecDepth 100000
set_option maxHeartbeats 4000000
def sqHi (y:Nat):Nat:=((y / 4294967296)*(y / 4294967296) % 18446744073709551616+(y / 4294967296)*(y % 4294967296) % 18446744073709551616 / 2147483648) % 18446744073709551616
def sqLo (y:Nat):Nat:=(y / 4294967296)*(y % 4294967296) % 18446744073709551616*8589934592 % 18446744073709551616
def sqSum (y:Nat):Nat:=(sqLo y+(y % 4294967296)*(y % 4294967296) % 18446744073709551616) % 18446744073709551616
def sqTop (y:Nat):Nat:=if sqSum y<sqLo y then (sqHi y+1) % 18446744073709551616 else sqHi y
def sqFit (p y:Nat):Bool:=decide (sqTop y<p) || (decide (sqTop y=p) && decide (sqSum y=0))
def sqS (p:Nat):Nat→Nat
 | 0=>0
 | k+1=>if sqFit p (sqS p k ||| 2 ^ (36 - k)) then sqS p k ||| 2 ^ (36 - k) else sqS p k
theorem sqS_zero {p:Nat}:sqS p 0=0:=rfl
theorem sqS_succ {p k:Nat}:sqS p (k+1)=if sqFit p (sqS p k ||| 2 ^ (36 - k)) then sqS p k ||| 2 ^ (36 - k) else sqS p k:=rfl
theorem or37 {x k:Nat}(h:x<2 ^ 37):x ||| 2 ^ (36 - k)<2 ^ 37:=Nat.or_lt_two_pow h (Nat.pow_lt_pow_right (by omega) (by omega))
theorem sqS_lt {p:Nat}:∀ k,sqS p k<2 ^ 37
 | 0=>by rw[sqS_zero];omega
 | k+1=>by
  rw[sqS_succ];split
  ·exact or37 (sqS_lt k)
  ·exact sqS_lt k
attribute [irreducible] sqS
theorem qSquare_ok (p:Nat) (w:World):Calls prog 58 #[.int .u64 p] w fun e w'=>e=.returned (.int .u32 (sqS p 37 % 4294967296:Nat))∧w=w':=by
 go_enter func58,ntmps58;go_wp2
 go_loop [3,4,5,6,7,8,9] (fun x y _ _ _ _ _=>∃ k X:Nat,k≤37∧X<2 ^ 37∧x=.int .u64 X∧y=.int .i64 (36 - (k:Int))∧Hid (sqS p k=X))
  (fun _ y _ _ _ _ _=>((intOf y)+1).toNat)
 case atStart=>exact⟨0,0,by omega,by omega,rfl,rfl,sqS_zero⟩
 case round=>
  obtain⟨k,X,hk,hX,rfl,rfl,hm⟩:=hrel;by_cases h37:k<37
  ·obtain⟨s,hs⟩:∃ s,s=36 - k:=⟨_,rfl⟩;have hs1:(36:Int) - k=s:=by omega
   have hs7:s≤36:=by omega
   have hmin:min s 64=s:=by omega
   have hS:=sqS_succ (p:=p) (k:=k);have hYl:=or37 (k:=k) hX;rw[hm.out,← hs] at hS;rw[← hs] at hYl;have hp2:2 ^ s<2 ^ 37:=Nat.pow_lt_pow_right (by omega) (by omega);have hpi:(2:Int) ^ s=((2 ^ s:Nat):Int):=by simp
   obtain⟨P2,hP2⟩:∃ P2,P2=2 ^ s:=⟨_,rfl⟩;rw[← hP2] at hS hYl hp2 hpi;have hor:=u64_or_nat X P2 (by omega) (by omega);obtain⟨Y,hY⟩:∃ Y,Y=X ||| P2:=⟨_,rfl⟩
   rw[← hY] at hS hYl hor
   have hand:bits .and .u64 (Y:Int) 4294967295=((Y % 4294967296:Nat):Int):=by
    have h:=u64_and_nat Y 4294967295 (by omega) (by omega);rw[show (4294967295:Nat)=2 ^ 32 - 1 by rfl,Nat.and_two_pow_sub_one_eq_mod] at h;exact h
   obtain⟨A,hA⟩:∃ A,A=Y / 4294967296:=⟨_,rfl⟩;obtain⟨B,hB⟩:∃ B,B=Y % 4294967296:=⟨_,rfl⟩;obtain⟨AA,hAA⟩:∃ Z,Z=A*A % 18446744073709551616:=⟨_,rfl⟩;obtain⟨AB,hAB⟩:∃ Z,Z=A*B % 18446744073709551616:=⟨_,rfl⟩;obtain⟨AC,hAC⟩:∃ Z,Z=AB / 2147483648:=⟨_,rfl⟩;obtain⟨HI,hHI⟩:∃ Z,Z=(AA+AC) % 18446744073709551616:=⟨_,rfl⟩;obtain⟨LO,hLO⟩:∃ Z,Z=AB*8589934592 % 18446744073709551616:=⟨_,rfl⟩;obtain⟨BB,hBB⟩:∃ Z,Z=B*B % 18446744073709551616:=⟨_,rfl⟩;obtain⟨SU,hSU⟩:∃ Z,Z=(LO+BB) % 18446744073709551616:=⟨_,rfl⟩;obtain⟨HJ,hHJ⟩:∃ Z,Z=(HI+1) % 18446744073709551616:=⟨_,rfl⟩;have iA:(Y:Int) / 4294967296=A:=by omega
   have iAA:IntKind.u64.wrap ((A:Int)*A)=AA:=by rw[IntKind.wrap_u64,hAA];simp
   have iAB:IntKind.u64.wrap ((A:Int)*B)=AB:=by rw[IntKind.wrap_u64,hAB];simp
   have iAC:(AB:Int) / 2147483648=AC:=by omega
   have iHI:IntKind.u64.wrap ((AA:Int)+AC)=HI:=by rw[IntKind.wrap_u64,hHI];simp
   have iLO:IntKind.u64.wrap ((AB:Int)*8589934592)=LO:=by rw[IntKind.wrap_u64,hLO];simp
   have iBB:IntKind.u64.wrap ((B:Int)*B)=BB:=by rw[IntKind.wrap_u64,hBB];simp
   have iSU:IntKind.u64.wrap ((LO:Int)+BB)=SU:=by rw[IntKind.wrap_u64,hSU];simp
   have iHJ:IntKind.u64.wrap ((HI:Int)+1)=HJ:=by rw[IntKind.wrap_u64,hHJ];simp
   have lA:A<18446744073709551616:=by omega
   have lAA:AA<18446744073709551616:=by omega
   have lAB:AB<18446744073709551616:=by omega
   have lHI:HI<18446744073709551616:=by omega
   have lLO:LO<18446744073709551616:=by omega
   have lSU:SU<18446744073709551616:=by omega
   have lHJ:HJ<18446744073709551616:=by omega
   rw[← hB] at hand
   have hft:sqFit p Y=(decide ((if SU<LO then HJ else HI)<p) || (decide ((if SU<LO then HJ else HI)=p) && decide (SU=0))):=by
    have e1:sqLo Y=LO:=by rw[hLO,hAB,hA,hB];rfl
    have e2:sqSum Y=SU:=by rw[sqSum,e1,← hB,← hBB,← hSU]
    have e3:sqHi Y=HI:=by rw[sqHi,← hA,← hB,← hAA,← hAB,← hAC,← hHI]
    rw[sqFit,sqTop,e1,e2,e3,← hHJ]
   clear hA hB hAA hAB hAC hHI hLO hBB hSU hHJ;have hfin:(sqFit p Y=true→sqS p (k+1)=Y)∧(sqFit p Y=false→sqS p (k+1)=X):=⟨fun h=>by rw[hS,if_pos h],fun h=>by rw[hS,if_neg (by simp[h])]⟩;rw[hft] at hfin;clear hft;replace hfin:=LH hfin;replace hS:=LH hS;replace hY:=LH hY;replace hP2:=LH hP2;replace hs:=LH hs;by_cases h1:SU<LO
   ·by_cases h2:HJ<p
    ·have hh:=hfin.out.1 (by rw[if_pos h1];simp[h2]);go_wp2
     go_round
     case rel=>exact⟨k+1,Y,by omega,hYl,rfl,by go_num,hh⟩
     case measure=>simp[intOf];omega
    ·by_cases h3:HJ=p
     ·by_cases h4:SU=0
      ·have h4':((SU:Int) == 0)=true:=by simp;omega
       have h3':(HJ:Int)=p:=by omega
       have hh:=hfin.out.1 (by rw[if_pos h1];simp[h3,h4]);go_wp2
       go_round
       case rel=>exact⟨k+1,Y,by omega,hYl,rfl,by go_num,hh⟩
       case measure=>simp[intOf];omega
      ·have e4:((SU:Int) == 0)=false:=by simp;omega
       have h3':(HJ:Int)=p:=by omega
       have hh:=hfin.out.2 (by rw[if_pos h1];simp[h4,h3]);go_wp2
       go_round
       case rel=>exact⟨k+1,X,by omega,hX,rfl,by go_num,hh⟩
       case measure=>simp[intOf];omega
     ·have e3:((HJ:Int) == p)=false:=by simp;omega
      have hh:=hfin.out.2 (by rw[if_pos h1];simp[h3];omega);go_wp2
      go_round
      case rel=>exact⟨k+1,X,by omega,hX,rfl,by go_num,hh⟩
      case measure=>simp[intOf];omega
   ·by_cases h2:HI<p
    ·have hh:=hfin.out.1 (by rw[if_neg h1];simp[h2]);go_wp2
     go_round
     case rel=>exact⟨k+1,Y,by omega,hYl,rfl,by go_num,hh⟩
     case measure=>simp[intOf];omega
    ·by_cases h3:HI=p
     ·by_cases h4:SU=0
      ·have h4':((SU:Int) == 0)=true:=by simp;omega
       have h3':(HI:Int)=p:=by omega
       have hh:=hfin.out.1 (by rw[if_neg h1];simp[h3,h4]);go_wp2
       go_round
       case rel=>exact⟨k+1,Y,by omega,hYl,rfl,by go_num,hh⟩
       case measure=>simp[intOf];omega
      ·have e4:((SU:Int) == 0)=false:=by simp;omega
       have h3':(HI:Int)=p:=by omega
       have hh:=hfin.out.2 (by rw[if_neg h1];simp[h4,h3]);go_wp2
       go_round
       case rel=>exact⟨k+1,X,by omega,hX,rfl,by go_num,hh⟩
       case measure=>simp[intOf];omega
     ·have e3:((HI:Int) == p)=false:=by simp;omega
      have hh:=hfin.out.2 (by rw[if_neg h1];simp[h3];omega);go_wp2
      go_round
      case rel=>exact⟨k+1,X,by omega,hX,rfl,by go_num,hh⟩
      case measure=>simp[intOf];omega
  ·have hk8:k=37:=by omega
   rw[hk8] at hm;clear hk8;have hneg:(36:Int) - k<0:=by omega
   go_wp2;go_ret;exact⟨ret_int (by rw[hm.out];first|done|omega),rfl⟩
end Go.Proofs.YtbgfdbidbjlaaaaGreat.Fd

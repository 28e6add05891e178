/-
  Texts of this claim, laid together by a program of mine. No condition beyond what each theorem names.
-/
import Derived.Test.YthmcbgidehjlbaaGreatRows
import Derived.Laws.BitsAllLaws
import Derived.Test.YthmcbgidehjlbaaGreatRmBase
/-
  field: bytes that multiply, as plain functions on numbers. No condition beyond what each theorem names.
-/
namespace Go.Proofs.YthmcbgidehjlbaaGreat.Fd
open _root_.Go.Proofs.Tryz
open Go Go.RowKit K
set_option maxHeartbeats 2000000
set_option maxRecDepth 100000
theorem xor8 {a b:Nat}(ha:a<256) (hb:b<256):a ^^^ b<256:=Nat.xor_lt_two_pow (n:=8) ha hb
def twice (a:Nat):Nat:=if a &&& 128=0 then a*2 % 256 else (a*2 % 256) ^^^ 27
theorem twice_lt {a:Nat}:twice a<256:=by
 unfold twice;split
 ·omega
 ·exact xor8 (by omega) (by omega)
theorem twice_ok (a:Nat) (ha:a<256) (w:World):Calls prog 206 #[.int .u8 a] w fun e w'=>e=.returned (.int .u8 (twice a))∧w=w':=by
 have hb:=LH (u8_and_nat a 128 ha (by omega));have hx:=LH (u8_xor_nat (a*2 % 256) 27 (by omega) (by omega));go_enter func206,ntmps206;go_wp2
 ·rename_i h;go_ret;refine⟨ret_int ?_,rfl⟩;have hb:=hb.out;have hx:=hx.out;simp only[Int.natCast_emod,Int.natCast_mul,Int.cast_ofNat_Int] at hb hx;rw[hb] at h;rw[hx,twice,if_neg (by intro h0;rw[h0] at h;simp at h)]
 ·rename_i h;go_ret;refine⟨ret_int ?_,rfl⟩;have hb:=hb.out;simp only[Int.cast_ofNat_Int] at hb;rw[hb] at h;rw[twice,if_pos (by simp at h;omega)];omega
def mulF:Nat→Nat→Nat→Nat→Nat
 | 0,_,_,o=>o
 | n+1,a,b,o=>if b=0 then o else mulF n (twice a) (b / 2) (if b % 2=0 then o else o ^^^ a)
def mul (a b:Nat):Nat:=mulF 8 a b 0
theorem mulF_zero {n a o:Nat}:mulF n a 0 o=o:=by cases n<;>simp[mulF]
theorem mulF_lt:∀ {n a b o:Nat},a<256→o<256→mulF n a b o<256:=by
 intro n
 induction n with
 | zero=>intro a b o _ h;exact h
 | succ n ih=>
  intro a b o ha ho;unfold mulF;split
  ·exact ho
  ·refine ih twice_lt ?_;split
   ·exact ho
   ·exact xor8 ho ha
theorem mul_lt {a b:Nat}(ha:a<256):mul a b<256:=mulF_lt ha (by omega)
theorem mul_ok (a b:Nat) (ha:a<256) (hb:b<256) (w:World):Calls prog 207 #[.int .u8 a,.int .u8 b] w fun e w'=>e=.returned (.int .u8 (mul a b))∧w=w':=by
 go_enter func207,ntmps207;go_wp2
 go_loop [0,1,4] (fun x y z=>∃ n A B O:Nat,n≤8∧A<256∧B<2 ^ n∧B<256∧O<256∧x=.int .u8 A∧y=.int .u8 B∧z=.int .u8 O∧mulF n A B O=mul a b)
  (fun _ y _=>(intOf y).toNat)
 case atStart=>exact⟨8,a,b,0,by omega,ha,hb,hb,by omega,rfl,rfl,rfl,rfl⟩
 case round=>
  obtain⟨n,A,B,O,hn,hA,hBn,hB,hO,rfl,rfl,rfl,hm⟩:=hrel;replace hm:=LH hm;have h1:bits .and .u8 (B:Int) 1=((B % 2:Nat):Int):=by have h:=u8_and_nat B 1 hB (by omega);rw[nat_mask1] at h;exact h
  have hx:=u8_xor_nat O A hO hA;have hxl:=xor8 hO hA
  have step:B≠0→∃ m,n=m+1∧B / 2<2 ^ m∧mulF m (twice A) (B / 2) (if B % 2=0 then O else O ^^^ A)=mul a b:=by
   intro hB0;cases n with
   | zero=>omega
   | succ m=>
    refine⟨m,rfl,by rw[Nat.pow_succ] at hBn;omega,?_⟩;have h:=hm.out;rw[mulF,if_neg hB0] at h;exact h
  replace step:=LH step
  go_wp2_with (go_at_call 206;(with_reducible refine (twice_ok _ (by assumption) _).mono ?_);rintro e w' ⟨rfl,rfl⟩)
  ·rename_i h0 h2 _;have hB0:B≠0:=by rintro rfl;simp at h0
   have hB2:B % 2≠0:=by simp at h2;omega
   obtain⟨m,rfl,hl,hf⟩:=step.out hB0;rw[if_neg hB2] at hf
   go_round
   case rel=>exact⟨m,twice A,B / 2,O ^^^ A,by omega,twice_lt,hl,by omega,hxl,rfl,by simp,rfl,hf⟩
   case measure=>simp[intOf];omega
  ·rename_i h0 h2 _;have hB0:B≠0:=by rintro rfl;simp at h0
   have hB2:B % 2=0:=by simp at h2;omega
   obtain⟨m,rfl,hl,hf⟩:=step.out hB0;rw[if_pos hB2] at hf
   go_round
   case rel=>exact⟨m,twice A,B / 2,O,by omega,twice_lt,hl,by omega,hO,rfl,by simp,rfl,hf⟩
   case measure=>simp[intOf];omega
  ·have h0:((B:Int) != 0)=false:=by assumption
   have hB0:B=0:=by simp at h0;omega
   subst hB0;go_ret;refine⟨ret_int ?_,rfl⟩;rw[← hm.out,mulF_zero]
def powF:Nat→Nat→Nat→Nat→Nat
 | 0,_,_,o=>o
 | n+1,a,k,o=>if k=0 then o else powF n (mul a a) (k / 2) (if k % 2=0 then o else mul o a)
def exq (k:Int):Nat:=((k.tmod 255+255).tmod 255).toNat
def pow (a:Nat) (k:Int):Nat:=if a=0∧k≠0 then 0 else powF 8 a (exq k) 1
theorem powF_zero {n a o:Nat}:powF n a 0 o=o:=by cases n<;>simp[powF]
theorem powF_lt:∀ {n a k o:Nat},a<256→o<256→powF n a k o<256:=by
 intro n
 induction n with
 | zero=>intro a k o _ h;exact h
 | succ n ih=>
  intro a k o ha ho;unfold powF;split
  ·exact ho
  ·refine ih (mul_lt ha) ?_;split
   ·exact ho
   ·exact mul_lt ho
theorem pow_lt {a:Nat}{k:Int}(ha:a<256):pow a k<256:=by
 unfold pow;split
 ·omega
 ·exact powF_lt ha (by omega)
theorem exq_lt {k:Int}:exq k<255:=by
 unfold exq;have:=Int.tmod_lt_of_pos (k.tmod 255+255) (by omega:(0:Int)<255);omega
theorem exq_eq {k:Int}:(k.tmod 255+255).tmod 255=(exq k:Int):=by
 unfold exq;have h1:=Int.lt_tmod_of_pos k (by omega:(0:Int)<255);have:=Int.tmod_nonneg (255:Int) (a:=k.tmod 255+255) (by omega);omega
theorem power_nn (a:Nat) (k:Int) (hk0:0≤k) (hk:k<255) (ha:a<256) (hz:a≠0) (w:World):Calls prog 209 #[.int .u8 a,.int .i64 k] w fun e w'=>e=.returned (.int .u8 (pow a k))∧w=w':=by
 have hp:pow a k=powF 8 a (exq k) 1:=by rw[pow,if_neg (by omega)]
 have hql:=@exq_lt k;have hq:((exq k:Nat):Int)=k:=by rw[← exq_eq,Int.tmod_eq_emod_of_nonneg hk0,Int.tmod_eq_emod_of_nonneg (by omega)];omega
 obtain⟨q,rfl⟩:∃ q:Nat,k=q:=⟨k.toNat,by omega⟩;have hq2:exq (q:Int)=q:=by omega
 rw[hq2] at hp;clear hq hq2 hql;replace hp:=LH hp;go_enter func209,ntmps209;go_wp2;have e1:(q:Int) % 255=q:=by omega
 have e2:((q:Int)+255) % 255=q:=by omega
 simp only[e1,e2];clear e1 e2
 go_loop [0,1,5] (fun x y z=>∃ n A B O:Nat,n≤8∧A<256∧B<2 ^ n∧B<256∧O<256∧x=.int .u8 A∧y=.int .i64 B∧z=.int .u8 O∧powF n A B O=pow a (q:Int))
  (fun _ y _=>(intOf y).toNat)
 case atStart=>exact⟨8,a,q,1,by omega,ha,by omega,by omega,by omega,by simp[*],by simp[*];try omega,rfl,hp.out.symm⟩
 case round=>
  obtain⟨n,A,B,O,hn,hA,hBn,hB,hO,rfl,rfl,rfl,hm⟩:=hrel;replace hm:=LH hm
  have h1:bits .and .i64 (B:Int) 1=((B % 2:Nat):Int):=by
   have h:=bits_mask .i64 63 (by decide) (fun n h0 h1=>by rw[IntKind.wrap_i64];omega) 1 (by decide) (B:Int) (by omega) (by omega)
   simpa using h
  have hoa:=@mul_lt O A hO;have haa:=@mul_lt A A hA
  have step:B≠0→∃ m,n=m+1∧B / 2<2 ^ m∧powF m (mul A A) (B / 2) (if B % 2=0 then O else mul O A)=pow a (q:Int):=by
   intro hB0;cases n with
   | zero=>omega
   | succ m=>
    refine⟨m,rfl,by rw[Nat.pow_succ] at hBn;omega,?_⟩;have h:=hm.out;rw[powF,if_neg hB0] at h;exact h
  replace step:=LH step
  go_wp2_with (go_at_call 207;(with_reducible refine (mul_ok _ _ (by assumption) (by assumption) _).mono ?_);rintro e w' ⟨rfl,rfl⟩)
  ·have h0:0<(B:Int):=by omega
   have h2:((B:Int) % 2 != 0)=true:=by assumption
   have hB0:B≠0:=by omega
   have hB2:B % 2≠0:=by simp at h2;omega
   obtain⟨m,rfl,hl,hf⟩:=step.out hB0;rw[if_neg hB2] at hf
   go_round
   case rel=>exact⟨m,mul A A,B / 2,mul O A,by omega,haa,hl,by omega,hoa,rfl,by simp,rfl,hf⟩
   case measure=>simp[intOf];omega
  ·have h0:0<(B:Int):=by omega
   have h2:((B:Int) % 2 != 0)=false:=by assumption
   have hB0:B≠0:=by omega
   have hB2:B % 2=0:=by simp at h2;omega
   obtain⟨m,rfl,hl,hf⟩:=step.out hB0;rw[if_pos hB2] at hf
   go_round
   case rel=>exact⟨m,mul A A,B / 2,O,by omega,haa,hl,by omega,hO,rfl,by simp,rfl,hf⟩
   case measure=>simp[intOf];omega
  ·have hB0:B=0:=by omega
   subst hB0;go_ret;refine⟨ret_int ?_,rfl⟩;rw[← hm.out,powF_zero]
theorem power_m1 (a:Nat) (k:Int) (hk:k=-1) (ha:a<256) (hz:a≠0) (w:World):Calls prog 209 #[.int .u8 a,.int .i64 k] w fun e w'=>e=.returned (.int .u8 (pow a k))∧w=w':=by
 have hp:pow a k=powF 8 a (exq k) 1:=by rw[pow,if_neg (by omega)]
 have hql:=@exq_lt k;obtain rfl:=hk;have hq2:exq (-1)=254:=by decide
 rw[hq2] at hp;clear hq2 hql;replace hp:=LH hp;go_enter func209,ntmps209;go_wp2
 go_loop [0,1,5] (fun x y z=>∃ n A B O:Nat,n≤8∧A<256∧B<2 ^ n∧B<256∧O<256∧x=.int .u8 A∧y=.int .i64 B∧z=.int .u8 O∧powF n A B O=pow a (-1))
  (fun _ y _=>(intOf y).toNat)
 case atStart=>exact⟨8,a,254,1,by omega,ha,by omega,by omega,by omega,rfl,rfl,rfl,hp.out.symm⟩
 case round=>
  obtain⟨n,A,B,O,hn,hA,hBn,hB,hO,rfl,rfl,rfl,hm⟩:=hrel;replace hm:=LH hm
  have h1:bits .and .i64 (B:Int) 1=((B % 2:Nat):Int):=by
   have h:=bits_mask .i64 63 (by decide) (fun n h0 h1=>by rw[IntKind.wrap_i64];omega) 1 (by decide) (B:Int) (by omega) (by omega)
   simpa using h
  have hoa:=@mul_lt O A hO;have haa:=@mul_lt A A hA
  have step:B≠0→∃ m,n=m+1∧B / 2<2 ^ m∧powF m (mul A A) (B / 2) (if B % 2=0 then O else mul O A)=pow a (-1):=by
   intro hB0;cases n with
   | zero=>omega
   | succ m=>
    refine⟨m,rfl,by rw[Nat.pow_succ] at hBn;omega,?_⟩;have h:=hm.out;rw[powF,if_neg hB0] at h;exact h
  replace step:=LH step
  go_wp2_with (go_at_call 207;(with_reducible refine (mul_ok _ _ (by assumption) (by assumption) _).mono ?_);rintro e w' ⟨rfl,rfl⟩)
  ·have h0:0<(B:Int):=by omega
   have h2:((B:Int) % 2 != 0)=true:=by assumption
   have hB0:B≠0:=by omega
   have hB2:B % 2≠0:=by simp at h2;omega
   obtain⟨m,rfl,hl,hf⟩:=step.out hB0;rw[if_neg hB2] at hf
   go_round
   case rel=>exact⟨m,mul A A,B / 2,mul O A,by omega,haa,hl,by omega,hoa,rfl,by simp,rfl,hf⟩
   case measure=>simp[intOf];omega
  ·have h0:0<(B:Int):=by omega
   have h2:((B:Int) % 2 != 0)=false:=by assumption
   have hB0:B≠0:=by omega
   have hB2:B % 2=0:=by simp at h2;omega
   obtain⟨m,rfl,hl,hf⟩:=step.out hB0;rw[if_pos hB2] at hf
   go_round
   case rel=>exact⟨m,mul A A,B / 2,O,by omega,haa,hl,by omega,hO,rfl,by simp,rfl,hf⟩
   case measure=>simp[intOf];omega
  ·have hB0:B=0:=by omega
   subst hB0;go_ret;refine⟨ret_int ?_,rfl⟩;rw[← hm.out,powF_zero]
theorem power_z (k:Int) (hk:k≠0) (w:World):Calls prog 209 #[.int .u8 0,.int .i64 k] w fun e w'=>e=.returned (.int .u8 (pow 0 k))∧w=w':=by
 go_enter func209,ntmps209;go_wp2;go_ret;exact⟨ret_int (by simp[pow,hk]),rfl⟩
def inv (a:Nat):Nat:=pow a (-1)
theorem inv_lt {a:Nat}(ha:a<256):inv a<256:=pow_lt ha
theorem inv_ok (a:Nat) (ha:a<256) (w:World):Calls prog 213 #[.int .u8 a] w fun e w'=>e=.returned (.int .u8 (inv a))∧w=w':=by
 by_cases hz:a=0
 ·subst hz;go_enter func213,ntmps213
  go_wp2_with (go_at_call 209;(with_reducible refine (power_z _ (by omega) _).mono ?_);rintro e w' ⟨rfl,rfl⟩)
  go_ret;exact⟨rfl,rfl⟩
 ·go_enter func213,ntmps213
  go_wp2_with (go_at_call 209;(with_reducible refine (power_m1 _ _ rfl ha hz _).mono ?_);rintro e w' ⟨rfl,rfl⟩)
  go_ret;exact⟨rfl,rfl⟩
def sum (l:List UInt8):Nat:=l.foldl (fun o c=>o ^^^ c.toNat) 0
theorem foldl_lt (l:List UInt8):∀ o,o<256→l.foldl (fun o c=>o ^^^ c.toNat) o<256:=by
 induction l with
 | nil=>intro o h;exact h
 | cons c l ih=>intro o h;exact ih _ (xor8 h c.toNat_lt)
theorem sum_lt {l:List UInt8}:sum l<256:=foldl_lt l 0 (by omega)
end Go.Proofs.YthmcbgidehjlbaaGreat.Fd
/-
  field.Sum, math/bits' turns, sbox: as plain functions on numbers. No condition beyond what each theorem names.
-/
namespace Go.Proofs.YthmcbgidehjlbaaGreat.Fd
open _root_.Go.Proofs.Tryz
open Go Go.RowKit K
set_option maxHeartbeats 2000000
set_option maxRecDepth 100000
theorem infoByte:(prog.info? 5).map (fun i=>(i.zero,i.size,i.bytes))=some (some (.int .u8 0),1,1):=by kernel_rfl
def rot8 (x k:Nat):Nat:=(x*2 ^ k % 256) ||| (x / 2 ^ (8 - k))
theorem rot8_lt {x k:Nat}(hx:x<256):rot8 x k<256:=
 Nat.or_lt_two_pow (n:=8) (by omega) (Nat.lt_of_le_of_lt (Nat.div_le_self _ _) hx)
theorem rot8_ok (x k:Nat) (hx:x<256) (hk:k<8) (w:World):Calls prog 215 #[.int .u8 x,.int .i64 k] w fun e w'=>e=.returned (.int .u8 (rot8 x k))∧w=w':=by
 have h1:bits .and .u64 (k:Int) 7=(k:Int):=by
  have h:=u64_and_nat k 7 (by omega) (by omega);rw[nat_mask3,Nat.mod_eq_of_lt hk] at h;exact h
 have h2:=u8_or_nat (x*2 ^ k % 256) (x / 2 ^ (8 - k)) (by omega) (Nat.lt_of_le_of_lt (Nat.div_le_self _ _) hx);replace h2:=LH h2;go_enter func215,ntmps215;go_wp2;go_ret;refine⟨ret_int ?_,rfl⟩;have h:=h2.out;simp only[Int.natCast_emod,Int.natCast_mul,Int.natCast_pow,Int.natCast_ediv,Int.cast_ofNat_Int] at h;exact h
theorem sum_ok {w:World}{S:Nat→Prop}{v:Value}{l:List UInt8}(h:Bytes w S v l):Calls prog 216 #[v] w fun e w'=>e=.returned (.int .u8 (sum l))∧w=w':=by
 obtain⟨m,hm⟩:∃ m,m=l.length:=⟨_,rfl⟩;have hc:Cells w S v m 1 (u8s l):=hm ▸ h;obtain⟨a,cap,rfl,h1,h2⟩:=hc.shape;unfold maxLen at h2;have HM:=LH hm;have HC:=LH hc;clear h hc hm;go_enter func216,ntmps216;go_wp2
 go_loop [2,7] (fun o i=>∃ k:Nat,k≤m∧i=.int .i64 k∧∃ O:Nat,O<256∧o=.int .u8 O∧O=(l.take k).foldl (fun o c=>o ^^^ c.toNat) 0)
  (fun _ i=>m - (intOf i).toNat)
 case atStart=>exact⟨0,Nat.zero_le _,rfl,0,by omega,rfl,rfl⟩
 case round=>
  obtain⟨k,hk,rfl,O,hO,rfl,hf⟩:=hrel;replace hf:=LH hf;by_cases hlt:k<m
  ·obtain⟨b,off,cp,hv,_,_,_,hb,hcl⟩:=Cells.at HC.out (by omega);simp only[Value.slice.injEq] at hv;obtain⟨rfl,_,rfl⟩:=hv;have hkl:k<l.length:=HM.out ▸ hlt;have hcell:=hcl k _ (u8s_get l k hkl);have HCL:=LH hcl;clear hcl;obtain⟨c,hcc⟩:∃ c,c=l[k]:=⟨_,rfl⟩;rw[← hcc] at hcell;have hx:=u8_xor_nat O c.toNat hO c.toNat_lt;have hxl:=xor8 hO c.toNat_lt;replace hcc:=LH hcc;go_wp2
   go_round
   case rel=>
    refine⟨k+1,by omega,by go_num,O ^^^ c.toNat,hxl,rfl,?_⟩;rw[hf.out,hcc.out,List.take_succ_eq_append_getElem hkl,List.foldl_append];rfl
   case measure=>simp[intOf];omega
  ·go_wp2;go_ret;refine⟨ret_int ?_,rfl⟩;rw[hf.out,List.take_of_length_le (by have:=HM.out;omega)];rfl
def byte (n:Nat):UInt8:=UInt8.ofNat n
theorem byte_toNat {n:Nat}(h:n<256):(byte n).toNat=n:=by simp[byte,UInt8.toNat_ofNat'];omega
def turnL (a k:Nat):List UInt8:=99::(List.range k).map fun j=>byte (rot8 a j)
theorem turnL_length {a k:Nat}:(turnL a k).length=k+1:=by simp[turnL]
theorem turnL_succ {a k:Nat}:turnL a (k+1)=turnL a k++[byte (rot8 a k)]:=by simp[turnL,List.range_succ]
def turned (a:Nat):Nat:=sum (turnL a 5)
theorem turned_lt {a:Nat}:turned a<256:=sum_lt
theorem owns_lt {w:World}{base:Nat}{e:TypeId}{sz:Nat}{v:Value}{n:Nat}{xs:List Value}(h:w.ownsRow base e sz v n xs) (g:Nat) (hg:v.ownBlock=some g):g<w.heap.size:=by
 rcases h.2 with ⟨rfl,_⟩|⟨g',cap,cur,rfl,_,hg',_⟩
 ·simp[Value.ownBlock] at hg
 ·simp[Value.ownBlock] at hg;subst hg;exact heap_lt hg'
theorem owns_ge {w:World}{base:Nat}{e:TypeId}{sz:Nat}{v:Value}{n:Nat}{xs:List Value}(h:w.ownsRow base e sz v n xs) (g:Nat) (hg:v.ownBlock=some g):base≤g:=by
 rcases h.2 with ⟨rfl,_⟩|⟨g',cap,cur,rfl,hb,_,_⟩
 ·simp[Value.ownBlock] at hg
 ·simp[Value.ownBlock] at hg;omega
theorem one_cells (w:World) (c:Value):Cells (w.alloc (.cells #[c] 5)) (fun _=>True) (.slice (some ⟨w.heap.size,0,none⟩) 1 1) 1 1 [c]:=by
 refine⟨rfl,some ⟨w.heap.size,0,none⟩,1,rfl,Nat.le_refl _,by unfold maxLen;omega,fun h=>(by cases h),.inr ⟨_,0,rfl,trivial,by simp,fun j u hu=>?_⟩⟩;rw[cell_of (heap_alloc_new w _),← hu,Nat.zero_add];simp
theorem turned_ok (a:Nat) (ha:a<256) (w:World):Calls prog 212 #[.int .u8 a] w fun e w'=>e=.returned (.int .u8 (turned a))∧Below w.heap.size w w':=by
 have hz1:(Value.int .u8 0).cells.size=1:=rfl;go_enter func212,ntmps212;go_wp2
 go_loopw [3,9] (fun o i wr=>∃ k:Nat,k≤5∧i=.int .i64 k∧Below w.heap.size w wr∧w.heap.size+1<wr.heap.size∧(∀ g,o.ownBlock=some g→g≠w.heap.size+1)∧wr.heap[w.heap.size+1]?=some (.cells #[.int .i64 0,.int .i64 1,.int .i64 2,.int .i64 3,.int .i64 4] 3 (0,0))∧Hid (wr.ownsRow w.heap.size 5 1 o (k+1) (u8s (turnL a k))))
  (fun _ i _=>5 - (intOf i).toNat)
 case atStart=>
  refine⟨0,by omega,rfl,((Below.refl _ _).alloc (Nat.le_refl _) _).alloc (by simp) _,by simp,by simp[Value.ownBlock],?_,?_⟩
  ·have h:=heap_alloc_new (w.alloc (.cells #[.int .u8 99] 5)) (.cells #[.int .i64 0,.int .i64 1,.int .i64 2,.int .i64 3,.int .i64 4] 3);simp only[World.size_alloc] at h;exact h
  ·refine⟨rfl,.inr ⟨w.heap.size,1,#[.int .u8 99],rfl,Nat.le_refl _,?_,Nat.le_refl _,by unfold maxLen;omega,rfl,rfl⟩⟩;exact (Below.heap_alloc _ _ _ (by simp)).trans (heap_alloc_new w _)
 case round=>
  obtain⟨k,hk,rfl,hbr,hsz,hne,hrow,HO⟩:=hrel;by_cases hlt:k<5
  ·have hcell:wr.cell? ⟨w.heap.size+1,k,none⟩=some (.int .i64 k):=by
    rw[cell_of hrow]
    match k,hlt with
    | 0,_=>rfl
    | 1,_=>rfl
    | 2,_=>rfl
    | 3,_=>rfl
    | 4,_=>rfl
   have ho2:(wr.alloc (.cells #[.int .u8 (rot8 a k)] 5)).ownsRow _ _ _ _ _ _:=owns_keep HO.out (fun g hg=>Below.heap_alloc _ _ _ (owns_lt HO.out g hg));have hcb:=one_cells wr (.int .u8 (rot8 a k));have HO2:=LH ho2;have HCB:=LH hcb;have HBK:=LH (fun g=>owns_ge HO.out g);have HNE:=LH hne;have HROW:=LH hrow;clear ho2 hcb HO hne hrow
   go_wp2_with (first
    | (go_at_call 215;(with_reducible refine (rot8_ok _ _ ha (by omega) _).mono ?_);rintro e w' ⟨rfl,rfl⟩)
    | (at_builtin;refine K.append ?_ (.tmp 13) (.tmp 17) 42 ?_ w.heap.size 5 (.int .u8 0) 1 1 underlying42 infoByte hz1 (by omega) _ (k+1) _ ?_ HO2.out (fun _=>True) _ 1 [.int .u8 (rot8 a k)] ?_ HCB.out (by simp[Value.oneCell']) (by unfold maxLen;omega) (by omega) ?_ ?_))
   ·rfl
   ·rfl
   ·rfl
   ·rfl
   ·have:=hbr.size;simp;omega
   intro v' w2 x1 x2 x3 x4;have X1:=LH x1;clear x1;go_wp2;go_roundw
   case rel=>
    have hb2:Below w.heap.size w (wr.alloc (.cells #[.int .u8 (rot8 a k)] 5)):=hbr.alloc hbr.size _;refine⟨k+1,by omega,by go_num,((Chg.of_below hb2 No).grown x2 (fun g hg hl=>absurd (HBK.out g hg) (by omega))).no,?_,?_,?_,?_⟩
    ·have:=x2.size;simp at this;omega
    ·intro g hg;rcases x4 with x4|⟨g',hg',hl⟩
     ·exact HNE.out g (by rw[← x4];exact hg)
     ·rw[hg'] at hg;simp at hg hl;omega
    ·rw[x2.block _ (by simp;omega) (fun h=>HNE.out _ h.symm rfl),Below.heap_alloc _ _ _ hsz];exact HROW.out
    ·show Hid _;rw[turnL_succ,u8s_append];have e:u8s [byte (rot8 a k)]=[.int .u8 (rot8 a k)]:=by simp[u8s,u8,byte_toNat (rot8_lt ha)]
     rw[e];exact X1
   case measure=>simp[intOf];omega
  ·obtain rfl:k=5:=by omega
   have hb:Bytes wr (fun _=>True) u3 (turnL a 5):=by
    have h:=Cells.own HO.out;exact Cells.mono (by rw[← turnL_length (a:=a) (k:=5)] at h;exact h) (fun _ _ _=>trivial)
   have HB:=LH hb;clear hb hrow hne
   go_wp2_with (go_at_call 216;(with_reducible refine (sum_ok HB.out).mono ?_);rintro e w' ⟨rfl,rfl⟩)
   go_ret;exact⟨rfl,hbr⟩
def sub (a:Nat):Nat:=turned (inv a)
theorem sub_lt {a:Nat}:sub a<256:=turned_lt
theorem sub_ok (a:Nat) (ha:a<256) (w:World):Calls prog 208 #[.int .u8 a] w fun e w'=>e=.returned (.int .u8 (sub a))∧Below w.heap.size w w':=by
 go_enter func208,ntmps208
 go_wp2_with (first
  | (go_at_call 213;(with_reducible refine (inv_ok _ ha _).mono ?_);rintro e w' ⟨rfl,rfl⟩)
  | (go_at_call 212;(with_reducible refine (turned_ok _ (inv_lt ha) _).mono ?_);rintro e w' ⟨rfl,hb⟩))
 go_ret;exact⟨rfl,hb⟩
def round (n:Nat):Nat:=if n<1 then 0 else pow 2 (n - 1)
theorem round_lt {n:Nat}:round n<256:=by
 unfold round;split
 ·omega
 ·exact pow_lt (by omega)
theorem round_ok (n:Nat) (hn:n<200) (w:World):Calls prog 200 #[.int .i64 n] w fun e w'=>e=.returned (.int .u8 (round n))∧w=w':=by
 by_cases h:n<1
 ·go_enter func200,ntmps200;go_wp2;go_ret;exact⟨ret_int (by simp[round,h]),rfl⟩
 ·have hr:round n=pow 2 ((n:Int) - 1):=by rw[round,if_neg h]
  replace hr:=LH hr;have hp:Calls prog 209 #[.int .u8 2,.int .i64 ((n:Int) - 1)] w _:=power_nn 2 ((n:Int) - 1) (by omega) (by omega) (by omega) (by omega) w;replace hp:=LH hp;go_enter func200,ntmps200
  go_wp2_with (go_at_call 209;(with_reducible refine hp.out.mono ?_);rintro e w' ⟨rfl,rfl⟩)
  go_ret;exact⟨ret_int (by rw[hr.out]),rfl⟩
def w32 (a b c d:Nat):Nat:=a*16777216+b*65536+c*256+d
def subW (w:Nat):Nat:=w32 (sub (w / 16777216 % 256)) (sub (w / 65536 % 256)) (sub (w / 256 % 256)) (sub (w % 256))
theorem w32_lt {a b c d:Nat}(ha:a<256) (hb:b<256) (hc:c<256) (hd:d<256):w32 a b c d<4294967296:=by unfold w32;omega
theorem subW_lt {w:Nat}:subW w<4294967296:=w32_lt sub_lt sub_lt sub_lt sub_lt
def subF (x:Nat):Nat→Nat
 | 0=>0
 | k+1=>subF x k*256 % 4294967296+sub (x / 2 ^ (24 - 8*k) % 256)
theorem subF_four {x:Nat}:subF x 4=subW x:=by
 have h0:=@sub_lt (x / 16777216 % 256);have h1:=@sub_lt (x / 65536 % 256);have h2:=@sub_lt (x / 256 % 256);simp only[subF,subW,w32,Nat.mul_zero,Nat.sub_zero,Nat.reduceMul,Nat.reduceSub,Nat.reducePow,Nat.div_one];omega
theorem or_join (O s:Nat) (hs:s<256):bits .or .u32 ((O:Int)*256 % 4294967296) (s:Int)=((O*256 % 4294967296+s:Nat):Int):=by
 have h:=u32_or_nat (O*256 % 4294967296) s (by omega) (by omega);rw[nat_join 8 _ _ (by omega) (by omega)] at h;simp only[Int.natCast_emod,Int.natCast_mul,Int.cast_ofNat_Int] at h;exact h
theorem u8arg {P:Program}{f:Nat}{x y:Int}{w:World}{Q:Ending→World→Prop}(h:Calls P f #[.int .u8 x] w Q) (e:y=x):Calls P f #[.int .u8 y] w Q:=e ▸ h
theorem word_ok (x:Nat) (hx:x<4294967296) (w:World):Calls prog 198 #[.int .u32 x] w fun e w'=>e=.returned (.int .u32 (subW x))∧Below w.heap.size w w':=by
 go_enter func198,ntmps198;go_wp2
 go_loopw [2,3] (fun o i wr=>Below w.heap.size w wr∧∃ O:Nat,O<4294967296∧o=.int .u32 O∧(i=.int .i64 24∧O=subF x 0∨i=.int .i64 16∧O=subF x 1∨i=.int .i64 8∧O=subF x 2∨i=.int .i64 0∧O=subF x 3∨i=.int .i64 (-8)∧O=subF x 4))
  (fun _ i _=>(intOf i+8).toNat)
 case atStart=>exact⟨Below.refl _ _,0,by omega,rfl,.inl ⟨rfl,rfl⟩⟩
 case round=>
  obtain⟨hbr,O,hO,rfl,⟨rfl,hf⟩|⟨rfl,hf⟩|⟨rfl,hf⟩|⟨rfl,hf⟩|⟨rfl,hf⟩⟩:=hrel
  ·replace hf:=LH hf;have hs:=@sub_lt (x / 16777216 % 256);have hj:=LH (or_join O (sub (x / 16777216 % 256)) hs)
   go_wp2_with (go_at_call 208;(with_reducible refine (u8arg (sub_ok (x / 16777216 % 256) (by omega) _) (by omega)).mono ?_);rintro e w' ⟨rfl,hb⟩)
   go_roundw
   case rel=>
    refine⟨hbr.trans (hb.mono hbr.size),O*256 % 4294967296+sub (x / 16777216 % 256),by omega,by rw[hj.out],.inr (.inl ⟨rfl,by rw[hf.out];rfl⟩)⟩
   case measure=>simp[intOf]
  ·replace hf:=LH hf;have hs:=@sub_lt (x / 65536 % 256);have hj:=LH (or_join O (sub (x / 65536 % 256)) hs)
   go_wp2_with (go_at_call 208;(with_reducible refine (u8arg (sub_ok (x / 65536 % 256) (by omega) _) (by omega)).mono ?_);rintro e w' ⟨rfl,hb⟩)
   go_roundw
   case rel=>
    refine⟨hbr.trans (hb.mono hbr.size),O*256 % 4294967296+sub (x / 65536 % 256),by omega,by rw[hj.out],.inr (.inr (.inl ⟨rfl,by rw[hf.out];rfl⟩))⟩
   case measure=>simp[intOf]
  ·replace hf:=LH hf;have hs:=@sub_lt (x / 256 % 256);have hj:=LH (or_join O (sub (x / 256 % 256)) hs)
   go_wp2_with (go_at_call 208;(with_reducible refine (u8arg (sub_ok (x / 256 % 256) (by omega) _) (by omega)).mono ?_);rintro e w' ⟨rfl,hb⟩)
   go_roundw
   case rel=>
    refine⟨hbr.trans (hb.mono hbr.size),O*256 % 4294967296+sub (x / 256 % 256),by omega,by rw[hj.out],.inr (.inr (.inr (.inl ⟨rfl,by rw[hf.out];rfl⟩)))⟩
   case measure=>simp[intOf]
  ·replace hf:=LH hf;have hs:=@sub_lt (x % 256);have hj:=LH (or_join O (sub (x % 256)) hs)
   go_wp2_with (go_at_call 208;(with_reducible refine (u8arg (sub_ok (x % 256) (by omega) _) (by omega)).mono ?_);rintro e w' ⟨rfl,hb⟩)
   go_roundw
   case rel=>
    refine⟨hbr.trans (hb.mono hbr.size),O*256 % 4294967296+sub (x % 256),by omega,by rw[hj.out],.inr (.inr (.inr (.inr ⟨rfl,by rw[hf.out];simp[subF]⟩)))⟩
   case measure=>simp[intOf]
  ·replace hf:=LH hf;go_wp2;go_ret;exact⟨ret_int (by rw[hf.out,subF_four]),hbr⟩
end Go.Proofs.YthmcbgidehjlbaaGreat.Fd
/-
  math/bits.RotateLeft32. No condition beyond what each theorem names.
-/
namespace Go.Proofs.YthmcbgidehjlbaaGreat.Fd
open _root_.Go.Proofs.Tryz
open Go Go.RowKit K
set_option maxHeartbeats 400000
def rot32 (x k:Nat):Nat:=(x*2 ^ k % 4294967296) ||| (x / 2 ^ (32 - k))
theorem rot32_lt {x k:Nat}(hx:x<4294967296):rot32 x k<4294967296:=
 Nat.or_lt_two_pow (n:=32) (by omega) (Nat.lt_of_le_of_lt (Nat.div_le_self _ _) hx)
theorem rot32_ok (x k:Nat) (z:Int) (hx:x<4294967296) (hk:k<32) (hz:z=k∨z=(k:Int) - 32∧0<k) (w:World):Calls prog 199 #[.int .u32 x,.int .i64 z] w fun e w'=>e=.returned (.int .u32 (rot32 x k))∧w=w':=by
 have h1:bits .and .u64 (IntKind.u64.wrap z) 31=(k:Int):=by
  rcases hz with rfl|⟨rfl,hk0⟩
  ·have h:=u64_and_nat k 31 (by omega) (by omega);rw[nat_mask5,Nat.mod_eq_of_lt hk] at h;rw[IntKind.wrap_u64,Int.emod_eq_of_lt (by omega) (by omega)];exact h
  ·have h:=u64_and_nat (18446744073709551616 - 32+k) 31 (by omega) (by omega);rw[nat_mask5,show (18446744073709551616 - 32+k) % 32=k by omega] at h;have e:IntKind.u64.wrap ((k:Int) - 32)=((18446744073709551616 - 32+k:Nat):Int):=by rw[IntKind.wrap_u64];omega
   rw[e];exact h
 have h2:=u32_or_nat (x*2 ^ k % 4294967296) (x / 2 ^ (32 - k)) (by omega) (Nat.lt_of_le_of_lt (Nat.div_le_self _ _) hx);replace h2:=LH h2
 have key:∀ Z:Int,Z=z→Calls prog 199 #[.int .u32 x,.int .i64 Z] w fun e w'=>e=.returned (.int .u32 (rot32 x k))∧w=w':=by
  intro Z hZ;rw[← hZ] at h1;rcases hz with hz|⟨hz,hk0⟩
  ·rw[hz] at hZ;subst hZ;have h1:bits .and .u64 (k:Int) 31=(k:Int):=by rw[IntKind.wrap_u64,Int.emod_eq_of_lt (by omega) (by omega)] at h1;exact h1
   go_enter func199,ntmps199;go_wp2;go_ret;refine⟨ret_int ?_,rfl⟩;have h:=h2.out;simp only[Int.natCast_emod,Int.natCast_mul,Int.natCast_pow,Int.natCast_ediv,Int.cast_ofNat_Int] at h;exact h
  ·have hZ1:Z=(k:Int) - 32:=by omega
   clear hZ hz;have hZ2:-32<Z∧Z<0:=by omega
   have e:IntKind.u64.wrap Z=Z % 18446744073709551616:=by rw[IntKind.wrap_u64]
   have h3:bits .and .u64 (Z % 18446744073709551616) 31=(k:Int):=by rw[← e];exact h1
   have h4:bits .and .u64 (Z+18446744073709551616) 31=(k:Int):=by rw[show Z+18446744073709551616=Z % 18446744073709551616 by omega];exact h3
   clear e;replace hZ1:=LH hZ1;go_enter func199,ntmps199;go_wp2;go_ret;refine⟨ret_int ?_,rfl⟩;have h:=h2.out;simp only[Int.natCast_emod,Int.natCast_mul,Int.natCast_pow,Int.natCast_ediv,Int.cast_ofNat_Int] at h;exact h
 exact key z rfl
end Go.Proofs.YthmcbgidehjlbaaGreat.Fd

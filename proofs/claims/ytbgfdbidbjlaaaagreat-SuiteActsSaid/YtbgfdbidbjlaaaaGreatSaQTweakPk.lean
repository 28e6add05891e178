/-
  Texts of this claim, laid together by a program of mine. No condition beyond what each theorem names.
-/
import Derived.Test.YtbgfdbidbjlaaaaGreatSaXopenPk
import Derived.Test.YtbgfdbidbjlaaaaGreatSaQSmallPk
import Derived.Deep.LoopGhost
/-
  The document's own Double, Number. No condition beyond what each theorem names.
-/
namespace Go.Proofs.YtbgfdbidbjlaaaaGreat.Fd
open _root_.Go.Proofs.Tryz
open Go Go.RowKit K
set_option maxRecDepth 100000
set_option maxHeartbeats 4000000
theorem box3 (w:World) (b:List UInt8):let x:=((w.alloc (.cells (u8s b).toArray 73)).alloc (.cells #[.int .u8 0,.int .u8 0,.int .u8 0,.int .u8 0,.int .u8 0,.int .u8 0,.int .u8 0,.int .u8 0,.int .u8 0,.int .u8 0,.int .u8 0,.int .u8 0,.int .u8 0,.int .u8 0,.int .u8 0,.int .u8 0] 73)).alloc (.cells #[.int .u8 0,.int .u8 0,.int .u8 0,.int .u8 0,.int .u8 0,.int .u8 0,.int .u8 0,.int .u8 0,.int .u8 0,.int .u8 0,.int .u8 0,.int .u8 0,.int .u8 0,.int .u8 0,.int .u8 0,.int .u8 0] 73)
  Arr x w.heap.size 73 b∧Arr x (w.heap.size+1) 73 (List.replicate 16 0)∧Arr x (w.heap.size+2) 73 (List.replicate 16 0)∧Below w.heap.size w x∧x.heap.size=w.heap.size+3:=by
 obtain⟨h1,h2,h3,h4⟩:=box2 w 73 b (List.replicate 16 0);have hz:(u8s (List.replicate 16 0)).toArray=#[.int .u8 0,.int .u8 0,.int .u8 0,.int .u8 0,.int .u8 0,.int .u8 0,.int .u8 0,.int .u8 0,.int .u8 0,.int .u8 0,.int .u8 0,.int .u8 0,.int .u8 0,.int .u8 0,.int .u8 0,.int .u8 0]:=rfl;rw[hz] at h1 h2 h3 h4;obtain⟨y,hy⟩:∃ y,y=(w.alloc (.cells (u8s b).toArray 73)).alloc (.cells #[.int .u8 0,.int .u8 0,.int .u8 0,.int .u8 0,.int .u8 0,.int .u8 0,.int .u8 0,.int .u8 0,.int .u8 0,.int .u8 0,.int .u8 0,.int .u8 0,.int .u8 0,.int .u8 0,.int .u8 0,.int .u8 0] 73):=⟨_,rfl⟩;rw[← hy] at h1 h2 h3 h4;simp only[← hy];refine⟨h1.keep (Below.heap_alloc _ _ _ (by omega)),h2.keep (Below.heap_alloc _ _ _ (by omega)),?_,h3.alloc (by omega) _,by simp[h4]⟩;have h:Arr (y.alloc (.cells #[.int .u8 0,.int .u8 0,.int .u8 0,.int .u8 0,.int .u8 0,.int .u8 0,.int .u8 0,.int .u8 0,.int .u8 0,.int .u8 0,.int .u8 0,.int .u8 0,.int .u8 0,.int .u8 0,.int .u8 0,.int .u8 0] 73)) y.heap.size 73 (List.replicate 16 0):=heap_alloc_new y _;rw[h4] at h;exact h
structure QB3 (w:World) (n:Nat) (b o:List UInt8) (x:World):Prop where
 below:Below n w x
 inp:Arr x n 73 b
 res:Arr x (n+1) 73 (List.replicate 16 0)
 out:Arr x (n+2) 73 o
theorem QB3.set {w:World}{n:Nat}{b o:List UInt8}{x:World}(s:QB3 w n b o x) (j:Nat) (c:UInt8):QB3 w n b (o.set j c) (x.setCell ⟨n+2,j,none⟩ (.int .u8 c.toNat)):=
 ⟨s.below.setCell (p:=⟨n+2,j,none⟩) (by show n≤n+2;omega) _,s.inp.keep (setCell_heap_ne _ _ _ (by show n≠n+2;omega)),s.res.keep (setCell_heap_ne _ _ _ (by show n+1≠n+2;omega)),s.out.set j c⟩
theorem QB3.after {w:World}{n:Nat}{b o:List UInt8}{x y:World}(s:QB3 w n b o x) (hb:Below x.heap.size x y):QB3 w n b o y:=
 ⟨s.below.trans (hb.mono (by have:=heap_lt s.inp;omega)),s.inp.keep (hb.block _ (heap_lt s.inp)),s.res.keep (hb.block _ (heap_lt s.res)),s.out.keep (hb.block _ (heap_lt s.out))⟩
theorem qDouble_ok (b:List UInt8) (hb:b.length=16) (w:World):
  Calls prog 68 #[.agg (u8s b).toArray] w fun e w'=>e=.returned (.agg (u8s (double b)).toArray)∧Below w.heap.size w w':=by
 obtain⟨n,hn⟩:∃ n,n=w.heap.size:=⟨_,rfl⟩;have HN:=LH hn;have HX:=box3 w b;obtain⟨V,hV⟩:∃ V,V=(u8s b).toArray:=⟨_,rfl⟩;rw[← hV] at HX ⊢;simp only[] at HX;replace hV:=LH hV;replace HX:=LH HX;clear hn;go_enter func68,ntmps68;go_wp2;obtain⟨w2,hw2⟩:∃ w2,w2=((w.alloc (.cells V 73)).alloc (.cells #[.int .u8 0,.int .u8 0,.int .u8 0,.int .u8 0,.int .u8 0,.int .u8 0,.int .u8 0,.int .u8 0,.int .u8 0,.int .u8 0,.int .u8 0,.int .u8 0,.int .u8 0,.int .u8 0,.int .u8 0,.int .u8 0] 73)).alloc (.cells #[.int .u8 0,.int .u8 0,.int .u8 0,.int .u8 0,.int .u8 0,.int .u8 0,.int .u8 0,.int .u8 0,.int .u8 0,.int .u8 0,.int .u8 0,.int .u8 0,.int .u8 0,.int .u8 0,.int .u8 0,.int .u8 0] 73):=⟨_,rfl⟩;rw[← hw2] at HX ⊢;rw[← HN.out] at HX ⊢;have hQ0:QB3 w n b (dblL b 0) w2:=⟨HX.out.2.2.2.1,HX.out.1,HX.out.2.1,HX.out.2.2.1⟩;replace hQ0:=LH hQ0;clear hw2 HX
 go_loopg [4,5] 16 (fun g c i wr=>∃ k:Nat,k+g=16∧i=.int .i64 k∧c=.int .u8 (carryAt b k)∧Hid (QB3 w n b (dblL b k) wr))
 case atStart=>exact⟨0,by omega,rfl,rfl,hQ0.out⟩
 case round=>
  clear hQ0;obtain⟨k,hkg,rfl,rfl,hQ⟩:=hrel;obtain⟨c,hc⟩:∃ c,c=carryAt b k:=⟨_,rfl⟩;rw[← hc];have hcl:c<2:=hc ▸ carryAt_lt;by_cases hlt:k<16
  ·obtain⟨g',rfl⟩:∃ j,gk=j+1:=⟨gk - 1,by omega⟩;obtain⟨B,hB⟩:∃ B,B=(b.getD k 0).toNat:=⟨_,rfl⟩;have cb:=hQ.out.inp.cell k (by omega);rw[← hB] at cb;have hBl:B<256:=hB ▸ UInt8.toNat_lt _;have ho:=u8_or_nat (B*2 % 256) c (by omega) (by omega);have ho2:bits .or .u8 ((B:Int)*2 % 256) (c:Int)=((B*2 % 256 ||| c:Nat):Int):=by rw[← ho];simp
   have hol:B*2 % 256 ||| c<256:=Nat.or_lt_two_pow (n:=8) (by omega) (by omega)
   have f0:=hQ.out.out.frozen k;have c0:=hQ.out.out.cell k (by rw[dblL_length];exact hlt);have hset:=hQ.out.set k (byte (B*2 % 256 ||| c));rw[byte_toNat hol,show (dblL b k).set k (byte (B*2 % 256 ||| c))=dblL b (k+1) by rw[dblL,← hB,← hc]] at hset;have hcar:carryAt b (k+1)=B / 128:=by rw[carryAt,if_neg (by omega),Nat.add_sub_cancel,← hB]
   have cb2:(wr.setCell ⟨n+2,k,none⟩ (.int .u8 ((B*2 % 256 ||| c:Nat):Int))).cell? ⟨n,k,none⟩=some (.int .u8 B):=(World.cell?_of_block (w:=wr) (a:=⟨n,k,none⟩) (setCell_heap_ne _ _ _ (by show n≠n+2;omega))).trans cb;obtain⟨x,hx⟩:∃ x,x=B*2 % 256 ||| c:=⟨_,rfl⟩
   rw[← hx] at ho2 hset hol cb2;replace hx:=LH hx;replace hc:=LH hc;replace hB:=LH hB;replace hset:=LH hset;replace hcar:=LH hcar;clear ho;go_wp2;go_roundg g'
   case measure=>omega
   case rel=>exact⟨k+1,by omega,by go_num,by rw[hcar.out];simp,hset.out⟩
  ·obtain rfl:k=16:=by omega
   obtain⟨L,hL⟩:∃ L,L=dblL b 16:=⟨_,rfl⟩;rw[← hL] at hQ;have hLl:L.length=16:=hL ▸ dblL_length;replace hc:=LH hc;replace hL:=LH hL
   have hfin:∀ (w3:World) (R:List UInt8),R.length=16→QB3 w n b R w3→(Instr.loadAt 73 (.pointer (some ⟨n+2,0,none⟩))).run prog w3=.ok (.agg (u8s R).toArray) w3∧(Instr.storeAt 73 (.pointer (some ⟨n+1,0,none⟩)) (.agg (u8s R).toArray)).run prog w3=.ok () (w3.setRow (n+1) (u8s R).toArray)∧Arr (w3.setRow (n+1) (u8s R).toArray) (n+1) 73 R∧Below n w (w3.setRow (n+1) (u8s R).toArray):=
    fun w3 R hR hA=>⟨run_loadAt_arr hA.out underlying73 (size61 hR),block_store hA.res List.length_replicate R hR,hA.res.setRow R,below_setRow hA.below (by omega) _⟩
   replace hfin:=LH hfin;by_cases hc0:c=0
   ·have hF:=LH (hfin.out wr L hLl hQ.out);have hc00:((c:Int) == 1)=false:=by simp;omega
    go_wp2_with (first|(refine wpList_load rfl 73 _ rfl _ _ rfl hF.out.1 ?_)|(refine wpList_store rfl 73 _ _ rfl _ _ rfl rfl hF.out.2.1 ?_))
    refine bodyPost_ret (results_cell_row results68 _ _ (n+1) 73 _ (0,0) _ rfl hF.out.2.2.1 underlying73 rfl (by rw[size61 hLl];simp[u8s_length])) rfl ⟨?_,HN.out ▸ hF.out.2.2.2⟩;rw[double,if_pos (hc.out ▸ hc0),hL.out]
   ·have hc1:c=1:=by omega
    subst hc1;have f0:=hQ.out.out.frozen 0;have c0:=hQ.out.out.cell 0 (by omega);obtain⟨B,hB⟩:∃ B,B=(L.getD 0 0).toNat:=⟨_,rfl⟩;rw[← hB] at c0;have hBl:B<256:=hB ▸ UInt8.toNat_lt _;have hx:bits .xor .u8 (B:Int) 135=((B ^^^ 135:Nat):Int):=u8_xor_nat B 135 hBl (by omega);have hxl:=xor8 hBl (show 135<256 by omega);have hset:=hQ.out.set 0 (byte (B ^^^ 135));rw[byte_toNat hxl] at hset;have hF:=LH (hfin.out _ _ (List.length_set.trans hLl) hset);clear hset;replace hB:=LH hB
    go_wp2_with (first|(refine wpList_load rfl 73 _ rfl _ _ rfl hF.out.1 ?_)|(refine wpList_store rfl 73 _ _ rfl _ _ rfl rfl hF.out.2.1 ?_))
    refine bodyPost_ret (results_cell_row results68 _ _ (n+1) 73 _ (0,0) _ rfl hF.out.2.2.1 underlying73 rfl (by rw[size61 (l:=L.set 0 (byte (B ^^^ 135))) (List.length_set.trans hLl)];simp[u8s_length])) rfl ⟨?_,HN.out ▸ hF.out.2.2.2⟩;rw[double,if_neg (by rw[← hc.out];omega),← hL.out,← hB.out]
def numL (n:Nat):Nat→List UInt8
 | 0=>List.replicate 16 0
 | k+1=>(numL n k).set k (byte (n / 2 ^ (8*k) % 256))
theorem numL_length {n:Nat}:∀ {k:Nat},(numL n k).length=16
 | 0=>List.length_replicate
 | _+1=>List.length_set.trans numL_length
theorem numL_get {n:Nat}:∀ {k j:Nat},k≤16→(numL n k).getD j 0=if j<k then byte (n / 2 ^ (8*j) % 256) else 0
 | 0,j,_=>by
  rw[if_neg (by omega),numL];simp only[List.getD,List.getElem?_replicate];split<;>rfl
 | k+1,j,hk=>by
  rw[numL];by_cases h:j=k
  ·subst h;rw[if_pos (by omega)];simp[List.getD,numL_length,show j<16 by omega]
  ·have h1:((numL n k).set k (byte (n / 2 ^ (8*k) % 256))).getD j 0=(numL n k).getD j 0:=by
    simp only[List.getD,List.getElem?_set_ne (Ne.symm h)]
   rw[h1,numL_get (by omega)];by_cases h2:j<k
   ·rw[if_pos h2,if_pos (by omega)]
   ·rw[if_neg h2,if_neg (by omega)]
theorem numF_get:∀ {f i m j:Nat}{l:List UInt8},l.length=16→i+f≤16→(∀ j,i≤j→l.getD j 0=0)→(numF f i m l).length=16∧(numF f i m l).getD j 0=if i≤j∧j<i+f then byte (m / 256 ^ (j - i) % 256) else l.getD j 0:=by
 intro f
 induction f with
 | zero=>intro i m j l hl _ _;rw[numF,if_neg (by omega)];exact⟨hl,rfl⟩
 | succ f ih=>
  intro i m j l hl hi hz;rw[numF];by_cases hm:m=0
  ·subst hm;rw[if_pos rfl];refine⟨hl,?_⟩;by_cases h:i≤j∧j<i+(f+1)
   ·rw[if_pos h,hz j h.1,Nat.zero_div];rfl
   ·rw[if_neg h]
  ·rw[if_neg hm]
   have hz2:∀ j,i+1≤j→(l.set i (byte (m % 256))).getD j 0=0:=fun j hj=>by
    simp only[List.getD,List.getElem?_set_ne (show i≠j by omega)];exact hz j (by omega)
   obtain⟨h1,h2⟩:=ih (i:=i+1) (m:=m / 256) (j:=j) (List.length_set.trans hl) (by omega) hz2;refine⟨h1,?_⟩;rw[h2];by_cases h:i+1≤j∧j<i+1+f
   ·rw[if_pos h,if_pos (by omega),Nat.div_div_eq_div_mul,← Nat.pow_succ',show (j - (i+1)).succ=j - i by omega]
   ·rw[if_neg h];by_cases hj:j=i
    ·subst hj;rw[if_pos (by omega),Nat.sub_self,Nat.pow_zero,Nat.div_one];simp[List.getD,hl,show j<16 by omega]
    ·rw[if_neg (by omega)];simp only[List.getD,List.getElem?_set_ne (Ne.symm hj)]
theorem ext_getD {a b:List UInt8}(h:a.length=b.length) (hg:∀ j,a.getD j 0=b.getD j 0):a=b:=by
 refine List.ext_getElem h fun j h1 h2=>?_
 have:=hg j;simp[List.getD,h1,h2] at this;exact this
theorem numL_number {n:Nat}(hn:n<18446744073709551616):numL n 8=number n:=by
 have hz:∀ j,0≤j→(List.replicate 16 (0:UInt8)).getD j 0=0:=fun j _=>by
  simp only[List.getD,List.getElem?_replicate];split<;>rfl
 have hN:=fun j=>numF_get (f:=16) (i:=0) (m:=n) (j:=j) (l:=List.replicate 16 (0:UInt8)) List.length_replicate (by omega) hz
 refine ext_getD (by rw[numL_length,number,(hN 0).1]) fun j=>?_
 rw[numL_get (by omega),number,(hN j).2,hz j (by omega),Nat.sub_zero];have e:256 ^ j=2 ^ (8*j):=by rw[show (256:Nat)=2 ^ 8 by rfl,← Nat.pow_mul]
 by_cases h8:j<8
 ·rw[if_pos h8,if_pos (by omega),e]
 ·rw[if_neg h8];by_cases h16:j<16
  ·rw[if_pos (by omega),e,Nat.div_eq_of_lt (Nat.lt_of_lt_of_le hn (by rw[show (18446744073709551616:Nat)=2 ^ 64 by rfl];exact Nat.pow_le_pow_right (by omega) (by omega)))];rfl
  ·rw[if_neg (by omega)]
theorem qNumber_ok (u:Nat) (hu:u≤1099511627776) (w:World):
  Calls prog 67 #[.int .i64 u] w fun e w'=>e=.returned (.agg (u8s (number u)).toArray)∧Below w.heap.size w w':=by
 obtain⟨n,hn⟩:∃ n,n=w.heap.size:=⟨_,rfl⟩;have HN:=LH hn;have HX:=box2 w 73 (List.replicate 16 0) (List.replicate 16 0);have hz:(u8s (List.replicate 16 0)).toArray=#[.int .u8 0,.int .u8 0,.int .u8 0,.int .u8 0,.int .u8 0,.int .u8 0,.int .u8 0,.int .u8 0,.int .u8 0,.int .u8 0,.int .u8 0,.int .u8 0,.int .u8 0,.int .u8 0,.int .u8 0,.int .u8 0]:=rfl;rw[hz] at HX;clear hn hz;replace HX:=LH HX;go_enter func67,ntmps67;go_wp2;obtain⟨w2,hw2⟩:∃ w2,w2=(w.alloc (.cells #[.int .u8 0,.int .u8 0,.int .u8 0,.int .u8 0,.int .u8 0,.int .u8 0,.int .u8 0,.int .u8 0,.int .u8 0,.int .u8 0,.int .u8 0,.int .u8 0,.int .u8 0,.int .u8 0,.int .u8 0,.int .u8 0] 73)).alloc (.cells #[.int .u8 0,.int .u8 0,.int .u8 0,.int .u8 0,.int .u8 0,.int .u8 0,.int .u8 0,.int .u8 0,.int .u8 0,.int .u8 0,.int .u8 0,.int .u8 0,.int .u8 0,.int .u8 0,.int .u8 0,.int .u8 0] 73):=⟨_,rfl⟩;rw[← hw2] at HX ⊢;rw[← HN.out] at HX ⊢;clear hw2
 go_loopg [4] 8 (fun g i wr=>∃ k:Nat,k+g=8∧i=.int .i64 k∧Hid (Below n w wr)∧Hid (Arr wr n 73 (List.replicate 16 0))∧Hid (Arr wr (n+1) 73 (numL u k)))
 case atStart=>exact⟨0,by omega,rfl,HX.out.2.2.1,HX.out.1,HX.out.2.1⟩
 case round=>
  clear HX;obtain⟨k,hkg,rfl,hB,hR,hA⟩:=hrel;have hu0:(0:Int)≤u:=by omega
  by_cases hlt:k<8
  ·obtain⟨g',rfl⟩:∃ j,gk=j+1:=⟨gk - 1,by omega⟩;obtain⟨s,hs⟩:∃ s,s=8*k:=⟨_,rfl⟩;have hsi:(8:Int)*k=s:=by omega
   have hs56:s≤56:=by omega
   have hmin:min s 64=s:=by omega
   obtain⟨D,hD⟩:∃ D,D=u / 2 ^ s:=⟨_,rfl⟩;have hDi:(u:Int) / 2 ^ s=D:=by rw[hD];simp
   have hDl:D≤u:=by rw[hD];exact Nat.div_le_self _ _
   obtain⟨c,hc⟩:∃ c,c=D % 256:=⟨_,rfl⟩;have hci:IntKind.u8.wrap (D:Int)=c:=by rw[IntKind.wrap_u8'];omega
   have hcl:c<256:=by omega
   have f0:=hA.out.frozen k;have c0:=hA.out.cell k (by rw[numL_length];omega);have hset:=hA.out.set k (byte c);rw[byte_toNat hcl,hc,hD,hs,show (numL u k).set k (byte (u / 2 ^ (8*k) % 256))=numL u (k+1) by rw[numL],← hs,← hD,← hc] at hset;have hBs:=hB.out.setCell (p:=⟨n+1,k,none⟩) (by show n≤n+1;omega) (.int .u8 c);have hRs:Arr (wr.setCell ⟨n+1,k,none⟩ (.int .u8 c)) n 73 (List.replicate 16 0):=hR.out.keep (setCell_heap_ne _ _ _ (by show n≠n+1;omega));replace hset:=LH hset;replace hBs:=LH hBs;replace hRs:=LH hRs;replace hD:=LH hD;replace hc:=LH hc;replace hs:=LH hs;go_wp2;go_roundg g'
   case measure=>omega
   case rel=>exact⟨k+1,by omega,by go_num,hBs.out,hRs.out,hset.out⟩
  ·obtain rfl:k=8:=by omega
   rw[numL_number (by omega)] at hA;obtain⟨L,hL⟩:∃ L,L=number u:=⟨_,rfl⟩;have hLl:L.length=16:=by rw[hL,← numL_number (by omega)];exact numL_length
   rw[← hL] at hA;have hld:=LH (run_loadAt_arr (P:=prog) hA.out underlying73 (size61 hLl));have hst:=LH (block_store hR.out List.length_replicate L hLl);have hF:Arr (wr.setRow n (u8s L).toArray) n 73 L:=hR.out.setRow L;have hBf:Below n w (wr.setRow n (u8s L).toArray):=below_setRow hB.out (Nat.le_refl _) _;replace hF:=LH hF;replace hBf:=LH hBf;replace hL:=LH hL
   go_wp2_with (first|(refine wpList_load rfl 73 _ rfl _ _ rfl hld.out ?_)|(refine wpList_store rfl 73 _ _ rfl _ _ rfl rfl hst.out ?_))
   refine bodyPost_ret (results_cell_row results67 _ _ n 73 _ (0,0) _ rfl hF.out underlying73 rfl (by rw[size61 hLl];simp[u8s_length])) rfl ⟨by rw[hL.out],HN.out ▸ hBf.out⟩
end Go.Proofs.YtbgfdbidbjlaaaaGreat.Fd
/-
  The document's own Word, of its box. No condition beyond what each theorem names.
-/
namespace Go.Proofs.YtbgfdbidbjlaaaaGreat.Fd
open _root_.Go.Proofs.Tryz
open Go Go.RowKit K
set_option maxRecDepth 100000
set_option maxHeartbeats 8000000
def QBoxAt (w:World) (p:Nat):Prop:=Arr w p 89 (sbL 255++bkL 256)
theorem sb_sub:∀ i,i<256→(sb i).toNat=sub i:=by decide +kernel
theorem QBoxAt.to {w:World}{p:Nat}(h:QBoxAt w p) (i:Nat) (hi:i<256):w.cell? ⟨p,i,none⟩=some (.int .u8 (sb i).toNat):=by
 have hl:(sbL 255).length=256:=sbL_length;rw[Arr.cell h i (by rw[List.length_append,hl];omega),sb];simp only[List.getD];rw[List.getElem?_append_left (by omega)]
theorem QBoxAt.from {w:World}{p:Nat}(h:QBoxAt w p) (i:Nat) (hi:i<256):w.cell? ⟨p,256+i,none⟩=some (.int .u8 (bk i).toNat):=by
 have hl:(sbL 255).length=256:=sbL_length;have hl2:(bkL 256).length=256:=bkL_length;rw[Arr.cell h (256+i) (by rw[List.length_append,hl,hl2];omega),bk];simp only[List.getD];rw[List.getElem?_append_right (by omega),hl,Nat.add_sub_cancel_left]
theorem u32_and255 (a:Nat) (ha:a<4294967296):bits .and .u32 (a:Int) 255=((a % 256:Nat):Int):=by
 have h:=u32_and_nat a 255 ha (by omega);rw[show (255:Nat)=2 ^ 8 - 1 by rfl,Nat.and_two_pow_sub_one_eq_mod] at h;exact h
theorem qWord_ok {w:World}{p:Nat}(hb:QBoxAt w p) (W:Nat) (hW:W<4294967296):Calls prog 66 #[.pointer (some ⟨p,0,none⟩),.int .u32 W] w fun e w'=>e=.returned (.int .u32 (subW W))∧Below w.heap.size w w':=by
 obtain⟨i1,hi1⟩:∃ i,i=W / 16777216:=⟨_,rfl⟩;obtain⟨j2,hj2⟩:∃ i,i=W / 65536:=⟨_,rfl⟩;obtain⟨j3,hj3⟩:∃ i,i=W / 256:=⟨_,rfl⟩;obtain⟨i2,hi2⟩:∃ i,i=j2 % 256:=⟨_,rfl⟩;obtain⟨i3,hi3⟩:∃ i,i=j3 % 256:=⟨_,rfl⟩;obtain⟨i4,hi4⟩:∃ i,i=W % 256:=⟨_,rfl⟩;have l1:i1<256:=by omega
 have l2:i2<256:=by omega
 have l3:i3<256:=by omega
 have l4:i4<256:=by omega
 have e1:(W:Int) / 16777216=i1:=by omega
 have e2:(W:Int) / 65536=j2:=by omega
 have e3:(W:Int) / 256=j3:=by omega
 have b2:bits .and .u32 (j2:Int) 255=(i2:Int):=by rw[u32_and255 j2 (by omega),hi2]
 have b3:bits .and .u32 (j3:Int) 255=(i3:Int):=by rw[u32_and255 j3 (by omega),hi3]
 have b4:bits .and .u32 (W:Int) 255=(i4:Int):=by rw[u32_and255 W hW,hi4]
 have c1:=hb.to i1 l1;have c2:=hb.to i2 l2;have c3:=hb.to i3 l3;have c4:=hb.to i4 l4;rw[sb_sub _ l1] at c1;rw[sb_sub _ l2] at c2;rw[sb_sub _ l3] at c3;rw[sb_sub _ l4] at c4;obtain⟨A,hA⟩:∃ A,A=sub i1:=⟨_,rfl⟩;obtain⟨B,hB⟩:∃ A,A=sub i2:=⟨_,rfl⟩;obtain⟨C,hC⟩:∃ A,A=sub i3:=⟨_,rfl⟩;obtain⟨D,hD⟩:∃ A,A=sub i4:=⟨_,rfl⟩;have hAl:A<256:=by rw[hA,← sb_sub _ l1];exact UInt8.toNat_lt _
 have hBl:B<256:=by rw[hB,← sb_sub _ l2];exact UInt8.toNat_lt _
 have hCl:C<256:=by rw[hC,← sb_sub _ l3];exact UInt8.toNat_lt _
 have hDl:D<256:=by rw[hD,← sb_sub _ l4];exact UInt8.toNat_lt _
 have hres:subW W=w32 A B C D:=by rw[subW,show W / 16777216 % 256=i1 by omega,show W / 65536 % 256=i2 by omega,show W / 256 % 256=i3 by omega,show W % 256=i4 by omega,← hA,← hB,← hC,← hD]
 rw[← hA] at c1;rw[← hB] at c2;rw[← hC] at c3;rw[← hD] at c4;obtain⟨X1,hX1⟩:∃ X,X=A*16777216:=⟨_,rfl⟩;obtain⟨X2,hX2⟩:∃ X,X=B*65536:=⟨_,rfl⟩;obtain⟨X3,hX3⟩:∃ X,X=X1+X2:=⟨_,rfl⟩;obtain⟨X4,hX4⟩:∃ X,X=C*256:=⟨_,rfl⟩;obtain⟨X5,hX5⟩:∃ X,X=X3+X4:=⟨_,rfl⟩;obtain⟨R,hR⟩:∃ X,X=X5+D:=⟨_,rfl⟩;have ho1:bits .or .u32 (X1:Int) (X2:Int)=(X3:Int):=by rw[u32_or_nat X1 X2 (by omega) (by omega),nat_join 24 X1 X2 (by omega) (by omega),hX3]
 have ho2:bits .or .u32 (X3:Int) (X4:Int)=(X5:Int):=by rw[u32_or_nat X3 X4 (by omega) (by omega),nat_join 16 X3 X4 (by omega) (by omega),hX5]
 have ho3:bits .or .u32 (X5:Int) (D:Int)=(R:Int):=by rw[u32_or_nat X5 D (by omega) (by omega),nat_join 8 X5 D (by omega) (by omega),hR]
 have hR2:subW W=R:=by rw[hres,w32];omega
 have hpl:=heap_lt hb;have hdr:∀ w3,Chg No w.drew w3→Chg No w w3:=fun w3 h=>⟨h.os,h.tape,h.output,h.size,h.block⟩
 clear hres hA hB hC hD hi1 hi2 hi3 hi4 hj2 hj3 hb;replace hX1:=LH hX1;replace hX2:=LH hX2;replace hX3:=LH hX3;replace hX4:=LH hX4;replace hX5:=LH hX5;replace hR:=LH hR;replace hR2:=LH hR2;replace c1:=LH c1;replace c2:=LH c2;replace c3:=LH c3;replace c4:=LH c4;replace hdr:=LH hdr;go_enter func66,ntmps66;go_wp2;refine RA.rt (Chg No) [1,1,1,1,1,1,1,1,1,1,1,1,1,1,1,1,1,1,1,1,1,1,1,1,1,1,1,1,1,1,1,1,1,1,1,1,1,1,1,1,1] [] (fun _=>True) trivial (fun _=>Chg.refl _ _) (fun _ _ _ h k=>h.trans k) (h:=?_);intro cx
 repeat refine RA.qq (h:=?_)
 refine RA.vk prog (.int .u32 i1) (h:=?_)
 repeat refine RA.qq (h:=?_)
 refine RA.fk prog (p) (0) (h:=?_);refine RA.ik prog (p) (i1) (h:=?_);refine RA.lk prog (.int .u8 A) (hc:=fun w3 hp=>by exact ((hdr.out _ hp.1).cell (p:=⟨p,i1,none⟩) hpl id).trans c1.out) (h:=?_);refine RA.vw prog (.int .u32 A) (h:=?_);refine RA.vk prog (.int .u32 X1) (hr:=fun w hp=>by (try go_simp);rw[hX1.out,IntKind.wrap_u32'];omega) (h:=?_)
 repeat refine RA.qq (h:=?_)
 refine RA.vk prog (.int .u32 j2) (h:=?_);refine RA.vk prog (.int .u32 i2) (h:=?_)
 repeat refine RA.qq (h:=?_)
 refine RA.fk prog (p) (0) (h:=?_);refine RA.ik prog (p) (i2) (h:=?_);refine RA.lk prog (.int .u8 B) (hc:=fun w3 hp=>by exact ((hdr.out _ hp.1).cell (p:=⟨p,i2,none⟩) hpl id).trans c2.out) (h:=?_);refine RA.vw prog (.int .u32 B) (h:=?_);refine RA.vk prog (.int .u32 X2) (hr:=fun w hp=>by (try go_simp);rw[hX2.out,IntKind.wrap_u32'];omega) (h:=?_);refine RA.vk prog (.int .u32 X3) (h:=?_)
 repeat refine RA.qq (h:=?_)
 refine RA.vk prog (.int .u32 j3) (h:=?_);refine RA.vk prog (.int .u32 i3) (h:=?_)
 repeat refine RA.qq (h:=?_)
 refine RA.fk prog (p) (0) (h:=?_);refine RA.ik prog (p) (i3) (h:=?_);refine RA.lk prog (.int .u8 C) (hc:=fun w3 hp=>by exact ((hdr.out _ hp.1).cell (p:=⟨p,i3,none⟩) hpl id).trans c3.out) (h:=?_);refine RA.vw prog (.int .u32 C) (h:=?_);refine RA.vk prog (.int .u32 X4) (hr:=fun w hp=>by (try go_simp);rw[hX4.out,IntKind.wrap_u32'];omega) (h:=?_);refine RA.vk prog (.int .u32 X5) (h:=?_)
 repeat refine RA.qq (h:=?_)
 refine RA.vk prog (.int .u32 i4) (h:=?_)
 repeat refine RA.qq (h:=?_)
 refine RA.fk prog (p) (0) (h:=?_);refine RA.ik prog (p) (i4) (h:=?_);refine RA.lk prog (.int .u8 D) (hc:=fun w3 hp=>by exact ((hdr.out _ hp.1).cell (p:=⟨p,i4,none⟩) hpl id).trans c4.out) (h:=?_);refine RA.vw prog (.int .u32 D) (h:=?_);refine RA.vk prog (.int .u32 R) (h:=?_)
 repeat refine RA.qq (h:=?_)
 refine RA.RA.done rfl (fun wx hR hF hH=>?_);clear hF hH;simp only[RA.put,List.foldr_cons,List.foldr_nil,cx,Act.put,List.setIfInBounds_toArray,List.set_cons_succ,List.set_cons_zero];have RX:=LH (hdr.out _ hR);go_wp2;go_ret;exact⟨ret_int (by rw[hR2.out]),Chg.no RX.out⟩
end Go.Proofs.YtbgfdbidbjlaaaaGreat.Fd
/-
  The document's own ciphers: a round's key is added. No condition beyond what each theorem names.
-/
namespace Go.Proofs.YtbgfdbidbjlaaaaGreat.Fd
open _root_.Go.Proofs.Tryz
open Go Go.RowKit K
set_option maxRecDepth 100000
set_option maxHeartbeats 4000000
structure QCipherAt (w:World) (F:Nat→Prop) (p b:Nat) (kv:Value) (ks:List UInt32):Prop where
 box:w.heap[p]?=some (.cells #[.pointer (some ⟨b,0,none⟩),kv] 154 (0,0))
 own:F p
 tab:QBoxAt w b
 tabF:F b
 few:ks.length≤1000
 keys:Cells w F kv ks.length 1 (u32s ks)
theorem QCipherAt.keep {w w':World}{F:Nat→Prop}{p b:Nat}{kv:Value}{ks:List UInt32}(h:QCipherAt w F p b kv ks) (hs:w.heap.size≤w'.heap.size) (hk:∀ g,F g→g<w.heap.size→w'.heap[g]?=w.heap[g]?):QCipherAt w' F p b kv ks:=
 ⟨(hk p h.own (heap_lt h.box)).trans h.box,h.own,Arr.keep h.tab (hk b h.tabF (heap_lt h.tab)),h.tabF,h.few,Cells.keep h.keys hs hk⟩
theorem qAdded_ok {w:World}{F:Nat→Prop}{p tb:Nat}{kv:Value}{ks:List UInt32}(h:QCipherAt w F p tb kv ks) (b:List UInt8) (hb:b.length=16) (r:Nat) (hr:4*r+4≤ks.length):
  Calls prog 69 #[.pointer (some ⟨p,0,none⟩),.agg (u8s b).toArray,.int .i64 r] w fun e w'=>e=.returned (.agg (u8s (addL b ks r 16)).toArray)∧Below w.heap.size w w':=by
 obtain⟨n,hn⟩:∃ n,n=w.heap.size:=⟨_,rfl⟩;have HN:=LH hn;have hfew:=h.few;have hpl:=heap_lt h.box;rw[← hn] at hpl;have H:=LH h;clear h hn;obtain⟨V,hV⟩:∃ V,V=(u8s b).toArray:=⟨_,rfl⟩;rw[← hV];replace hV:=LH hV;go_enter func69,ntmps69;go_wp2
 go_loopw [7] (fun i wr=>∃ k:Nat,k≤16∧i=.int .i64 k∧Below n w wr∧n+1<wr.heap.size∧Hid (Arr wr n 73 (addL b ks r k))∧Hid (Arr wr (n+1) 73 (List.replicate 16 0)))
  (fun i _=>16 - (intOf i).toNat)
 case atStart=>
  refine⟨0,by omega,rfl,?_,?_,?_,?_⟩
  ·rw[HN.out];exact ((Below.refl _ _).alloc (Nat.le_refl _) _).alloc (by simp) _
  ·simp[HN.out]
  ·rw[HN.out];exact Arr.of hV.out ((Below.heap_alloc _ _ _ (by simp)).trans (heap_alloc_new w _))
  ·have h:=heap_alloc_new (w.alloc (.cells V 73)) (.cells (u8s (List.replicate 16 0)).toArray 73);simp only[World.size_alloc] at h;rw[HN.out];exact h
 case round=>
  obtain⟨k,hk,rfl,hbr,hsz,H0,H1⟩:=hrel;rw[← HN.out];by_cases hlt:k<16
  ·have hc:=LH (H.out.keep (w':=wr) (by have:=hbr.size;exact this) (fun g hg hl=>hbr.block g (by rw[HN.out];exact hl)));obtain⟨q,hq⟩:∃ q,q=k / 4:=⟨_,rfl⟩;obtain⟨j,hj⟩:∃ j,j=k % 4:=⟨_,rfl⟩;obtain⟨s,hs⟩:∃ s,s=24 - 8*j:=⟨_,rfl⟩;have hj4:j<4:=by omega
   obtain⟨M,hM⟩:∃ M,M=4*r+q:=⟨_,rfl⟩;have hix:M<ks.length:=by omega
   obtain⟨g,off,cap,rfl,hcap1,hcap2,_,hgl,hcells⟩:=Cells.at hc.out.keys (by omega);have hw:=hcells _ _ (u32s_get ks _ hix);have HCL:=LH hcells;clear hcells;obtain⟨W,hW⟩:∃ W,W=(ks.getD M 0).toNat:=⟨_,rfl⟩;rw[← hW] at hw;obtain⟨B,hB⟩:∃ B,B=(b.getD k 0).toNat:=⟨_,rfl⟩;have hWl:W<4294967296:=hW ▸ UInt32.toNat_lt _;have hBl:B<256:=hB ▸ UInt8.toNat_lt _;obtain⟨D,hD⟩:∃ D,D=W / 2 ^ s % 256:=⟨_,rfl⟩;have hDl:D<256:=by omega
   have hD2:(W:Int) / 2 ^ s % 256=D:=by rw[hD];simp
   have hx:=u8_xor_nat B D hBl hDl;replace hD:=LH hD;have hcb:=H0.out.cell k (by rw[addL_length,hb];exact hlt);rw[addL_get (Nat.le_refl k),← hB] at hcb;have hpb:=cell_of hc.out.box 1;have hd:(k:Int) / 4=q:=by omega
   have hm:(k:Int) % 4=j:=by omega
   have hm2:(k:Int).tmod 4=j:=by rw[Int.tmod_eq_emod_of_nonneg (by omega)];exact hm
   have hmin:min s 32=s:=by omega
   have hnn:n<wr.heap.size:=by omega
   have hpp:p<wr.heap.size:=heap_lt hc.out.box;replace hq:=LH hq;replace hM:=LH hM;replace hj:=LH hj;replace hs:=LH hs;replace hW:=LH hW;replace hB:=LH hB;replace hw:=LH hw;replace hcb:=LH hcb;replace hpb:=LH hpb;have hdr:∀ w3,Chg No wr.drew w3→Chg No wr w3:=fun w3 h=>⟨h.os,h.tape,h.output,h.size,h.block⟩
   replace hdr:=LH hdr;replace hbr:=LH hbr;go_wp2;refine RA.rt (Chg No) [1,1,1,1,1,1,1,1,1,1,1,1,1,1,1,1,1,1,1,1,1,1,1,7] [23] (fun _=>True) (trivial) (fun _=>Chg.refl _ _) (fun _ _ _ h k=>h.trans k) (h:=?_);intro cx
   repeat refine RA.qq (h:=?_)
   refine RA.ik prog (n) (k) (h:=?_);refine RA.lk prog (.int .u8 B) (hc:=fun w3 hp=>by exact ((hdr.out _ hp.1).cell (p:=⟨n,k,none⟩) hnn id).trans hcb.out) (h:=?_)
   repeat refine RA.qq (h:=?_)
   refine RA.fk prog (p) (1) (h:=?_);refine RA.lk prog (.slice (some ⟨g,off,none⟩) ks.length cap) (hc:=fun w3 hp=>by exact ((hdr.out _ hp.1).cell (p:=⟨p,1,none⟩) hpp id).trans hpb.out) (h:=?_)
   repeat refine RA.qq (h:=?_)
   refine RA.mi (by kernel_rfl) (by rfl) (by rfl) (by rfl) (4*(r:Int)) (rfl) (by omega) ?_
   repeat refine RA.qq (h:=?_)
   refine RA.vw prog (.int .i64 q) (h:=?_);refine RA.ai (by kernel_rfl) (by rfl) (by rfl) (by rfl) ((M:Int)) (by have:=hM.out;omega) (by omega) ?_;refine RA.ik prog (g) (off+M) (h:=?_);refine RA.lk prog (.int .u32 W) (hc:=fun w3 hp=>by exact ((hdr.out _ hp.1).cell (p:=⟨g,off+M,none⟩) hgl id).trans hw.out) (h:=?_)
   repeat refine RA.qq (h:=?_)
   refine RA.vw prog (.int .i64 j) (h:=?_);refine RA.mi (by kernel_rfl) (by rfl) (by rfl) (by rfl) (8*(j:Int)) (rfl) (by omega) ?_;refine RA.si (by kernel_rfl) (by rfl) (by rfl) (by rfl) ((s:Int)) (by have:=hs.out;omega) (by have:=hs.out;omega) ?_;refine RA.vw prog (.int .u32 ((W:Int) / 2 ^ s)) (h:=?_);refine RA.vw prog (.int .u8 D) (h:=?_);refine RA.vw prog (.int .u8 ((B ^^^ D:Nat):Int)) (h:=?_);refine RA.ik prog (n) (k) (h:=?_);refine RA.stt (fun w4=>Below n w w4∧n+1<w4.heap.size∧Arr w4 n 73 (addL b ks r (k+1))∧Arr w4 (n+1) 73 (List.replicate 16 0)) (by rfl) (by rfl) (by kernel_rfl) (fun _ _ h k=>h ▸ k) (fun w3 hp _=>?_) ?_
   ·have hR:=hdr.out _ (hp.first (by kernel_rfl)).1;have A0:=H0.out.keep (hR.block n hnn id);have A1:=H1.out.keep (hR.block (n+1) hsz id);have f0:=A0.frozen k;have c0:=A0.cell k (by rw[addL_length,hb];exact hlt);have hset:=A0.set k (byte (B ^^^ D));have hxl:=xor8 hBl hDl;rw[byte_toNat hxl] at hset;have e:(Instr.storeAt 5 (.pointer (some ⟨n,k,none⟩)) (.int .u8 ((B ^^^ D:Nat):Int))).run prog w3=.ok () (w3.setCell ⟨n,k,none⟩ (.int .u8 ((B ^^^ D:Nat):Int))):=by go_simp
    refine⟨_,RA.ex_store (by rfl) (by rfl) e,(hbr.out.trans ((Chg.no hR).mono (by have:=hbr.out.size;rw[HN.out];exact this))).setCell (p:=⟨n,k,none⟩) (Nat.le_refl n) _,?_,?_,A1.keep (setCell_heap_ne _ _ _ (by simp))⟩
    ·have:=hR.size;simp;omega
    ·rw[addL,addC,← hq.out,← hj.out,← hM.out,← hs.out,← hW.out,← hB.out,← hD.out];exact hset
   refine RA.RA.doneT (fun w3 hH=>?_);simp only[RA.put,List.foldr_cons,List.foldr_nil,cx,Act.put,List.setIfInBounds_toArray,List.set_cons_succ,List.set_cons_zero];replace hH:=LH hH;go_wp2;go_roundw
   case rel=>exact⟨k+1,by omega,by go_num,hH.out.1,hH.out.2.1,hH.out.2.2.1,hH.out.2.2.2⟩
   case measure=>simp[intOf];omega
  ·have hk6:k=16:=by omega
   rw[hk6] at H0;clear hk6;obtain⟨L,hL⟩:∃ L,L=addL b ks r 16:=⟨_,rfl⟩;rw[← hL] at H0;have hLl:L.length=16:=hL ▸ addL_length.trans hb;replace hL:=LH hL;have hst:=run_storeAt_at (P:=prog) (off:=0) (x:=L) H1.out (size61 hLl) (by rw[hLl,List.length_replicate];omega)
   have hsp:splice (List.replicate 16 0) 0 L=L:=by
    simp only[splice,List.take_zero,List.nil_append];rw[List.drop_eq_nil_of_le (by rw[hLl,List.length_replicate];omega),List.append_nil]
   rw[hsp] at hst;have hfin:=H1.out.setRow L;have hi:=size61 hLl;replace hst:=LH hst;replace hfin:=LH hfin;replace hi:=LH hi;replace hbr:=LH hbr
   go_wp2_with (first
    | (refine wpList_load_row rfl 73 _ rfl n rfl 73 _ (0,0) _ H0.out underlying73 rfl (by rw[hi.out];simp[u8s_length]) ?_)
    | (refine wpList_store rfl 73 _ _ rfl _ _ rfl rfl hst.out ?_))
   refine bodyPost_ret (results_cell_row results69 _ _ (n+1) 73 _ (0,0) _ rfl hfin.out underlying73 rfl (by rw[hi.out];simp[u8s_length])) rfl ⟨by rw[hL.out],?_⟩;exact below_setRow (HN.out ▸ hbr.out) (by rw[HN.out];omega) _
end Go.Proofs.YtbgfdbidbjlaaaaGreat.Fd
/-
  The document's own mixed. No condition beyond what each theorem names.
-/
namespace Go.Proofs.YtbgfdbidbjlaaaaGreat.Fd
open _root_.Go.Proofs.Tryz
open Go Go.RowKit K
set_option maxRecDepth 100000
set_option maxHeartbeats 8000000
def mixV (l b:List UInt8) (k i:Nat):Nat→Nat
 | 0=>0
 | j+1=>mixV l b k i j ^^^ mulQ (l.getD ((j+4 - i) % 4) 0).toNat (b.getD (4*k+j) 0).toNat 8
theorem mixV_zero {l b:List UInt8}{k i:Nat}:mixV l b k i 0=0:=rfl
theorem mixV_succ {l b:List UInt8}{k i j:Nat}:mixV l b k i (j+1)=mixV l b k i j ^^^ mulQ (l.getD ((j+4 - i) % 4) 0).toNat (b.getD (4*k+j) 0).toNat 8:=rfl
theorem mixV_lt {l b:List UInt8}{k i:Nat}:∀ {j:Nat},mixV l b k i j<256
 | 0=>by rw[mixV_zero];omega
 | j+1=>by rw[mixV_succ];exact xor8 mixV_lt (mulQ_lt (UInt8.toNat_lt _) _)
def mixF (l b:List UInt8):Nat→List UInt8
 | 0=>List.replicate 16 0
 | m+1=>(mixF l b m).set m (byte (mixV l b (m / 4) (m % 4) 4))
theorem mixF_zero {l b:List UInt8}:mixF l b 0=List.replicate 16 0:=rfl
theorem mixF_succ {l b:List UInt8}{m:Nat}:mixF l b (m+1)=(mixF l b m).set m (byte (mixV l b (m / 4) (m % 4) 4)):=rfl
theorem mixF_length {l b:List UInt8}:∀ {m:Nat},(mixF l b m).length=16
 | 0=>List.length_replicate
 | _+1=>List.length_set.trans mixF_length
attribute [irreducible] mixV mixF
structure QMx (w:World) (n:Nat) (b l o:List UInt8) (x:World):Prop where
 below:Below n w x
 inp:Arr x n 73 b
 by4:Arr x (n+1) 147 l
 res:Arr x (n+2) 73 (List.replicate 16 0)
 out:Arr x (n+3) 73 o
theorem QMx.set {w:World}{n:Nat}{b l o:List UInt8}{x:World}(s:QMx w n b l o x) (j:Nat) (c:UInt8):QMx w n b l (o.set j c) (x.setCell ⟨n+3,j,none⟩ (.int .u8 c.toNat)):=
 ⟨s.below.setCell (p:=⟨n+3,j,none⟩) (by show n≤n+3;omega) _,s.inp.keep (setCell_heap_ne _ _ _ (by show n≠n+3;omega)),s.by4.keep (setCell_heap_ne _ _ _ (by show n+1≠n+3;omega)),s.res.keep (setCell_heap_ne _ _ _ (by show n+2≠n+3;omega)),s.out.set j c⟩
theorem QMx.after {w:World}{n:Nat}{b l o:List UInt8}{x y:World}(s:QMx w n b l o x) (hb:Below x.heap.size x y):QMx w n b l o y:=
 ⟨s.below.trans (hb.mono (by have:=heap_lt s.inp;omega)),s.inp.keep (hb.block _ (heap_lt s.inp)),s.by4.keep (hb.block _ (heap_lt s.by4)),s.res.keep (hb.block _ (heap_lt s.res)),s.out.keep (hb.block _ (heap_lt s.out))⟩
theorem qMixed_ok (b l:List UInt8) (hb:b.length=16) (hl:l.length=4) (w:World):
  Calls prog 70 #[.agg (u8s b).toArray,.agg (u8s l).toArray] w fun e w'=>e=.returned (.agg (u8s (mixF l b 16)).toArray)∧Below w.heap.size w w':=by
 obtain⟨n,hn⟩:∃ n,n=w.heap.size:=⟨_,rfl⟩;have HN:=LH hn;obtain⟨V,hV⟩:∃ V,V=(u8s b).toArray:=⟨_,rfl⟩;obtain⟨Y,hY⟩:∃ V,V=(u8s l).toArray:=⟨_,rfl⟩
 have HX:QMx w n b l (mixF l b 0) ((((w.alloc (.cells V 73)).alloc (.cells Y 147)).alloc (.cells #[.int .u8 0,.int .u8 0,.int .u8 0,.int .u8 0,.int .u8 0,.int .u8 0,.int .u8 0,.int .u8 0,.int .u8 0,.int .u8 0,.int .u8 0,.int .u8 0,.int .u8 0,.int .u8 0,.int .u8 0,.int .u8 0] 73)).alloc (.cells #[.int .u8 0,.int .u8 0,.int .u8 0,.int .u8 0,.int .u8 0,.int .u8 0,.int .u8 0,.int .u8 0,.int .u8 0,.int .u8 0,.int .u8 0,.int .u8 0,.int .u8 0,.int .u8 0,.int .u8 0,.int .u8 0] 73)):=by
  obtain⟨w1,h1⟩:∃ x,x=w.alloc (.cells V 73):=⟨_,rfl⟩;obtain⟨w2,h2⟩:∃ x,x=w1.alloc (.cells Y 147):=⟨_,rfl⟩;obtain⟨w3,h3⟩:∃ x,x=w2.alloc (.cells #[.int .u8 0,.int .u8 0,.int .u8 0,.int .u8 0,.int .u8 0,.int .u8 0,.int .u8 0,.int .u8 0,.int .u8 0,.int .u8 0,.int .u8 0,.int .u8 0,.int .u8 0,.int .u8 0,.int .u8 0,.int .u8 0] 73):=⟨_,rfl⟩;obtain⟨w4,h4⟩:∃ x,x=w3.alloc (.cells #[.int .u8 0,.int .u8 0,.int .u8 0,.int .u8 0,.int .u8 0,.int .u8 0,.int .u8 0,.int .u8 0,.int .u8 0,.int .u8 0,.int .u8 0,.int .u8 0,.int .u8 0,.int .u8 0,.int .u8 0,.int .u8 0] 73):=⟨_,rfl⟩;rw[← h1,← h2,← h3,← h4];have s1:w1.heap.size=n+1:=by rw[h1,hn];simp
  have s2:w2.heap.size=n+2:=by rw[h2];simp[s1]
  have s3:w3.heap.size=n+3:=by rw[h3];simp[s2]
  have a1:Arr w1 n 73 b:=by rw[h1,hn,hV];exact heap_alloc_new w _
  have a2:Arr w2 (n+1) 147 l:=by rw[h2,← s1,hY];exact heap_alloc_new w1 _
  have a3:Arr w3 (n+2) 73 (List.replicate 16 0):=by rw[h3,← s2];exact heap_alloc_new w2 _
  have a4:Arr w4 (n+3) 73 (List.replicate 16 0):=by rw[h4,← s3];exact heap_alloc_new w3 _
  have b1:Below n w w1:=by rw[h1,hn];exact (Below.refl _ _).alloc (Nat.le_refl _) _
  have b2:Below (n+1) w1 w2:=by rw[h2,← s1];exact (Below.refl _ _).alloc (Nat.le_refl _) _
  have b3:Below (n+2) w2 w3:=by rw[h3,← s2];exact (Below.refl _ _).alloc (Nat.le_refl _) _
  have b4:Below (n+3) w3 w4:=by rw[h4,← s3];exact (Below.refl _ _).alloc (Nat.le_refl _) _
  rw[mixF_zero];exact⟨((b1.trans (b2.mono (by omega))).trans (b3.mono (by omega))).trans (b4.mono (by omega)),((a1.keep (b2.block n (by omega))).keep (b3.block n (by omega))).keep (b4.block n (by omega)),(a2.keep (b3.block _ (by omega))).keep (b4.block _ (by omega)),a3.keep (b4.block _ (by omega)),a4⟩
 rw[← hV,← hY];replace hV:=LH hV;replace hY:=LH hY;replace HX:=LH HX;clear hn;go_enter func70,ntmps70;go_wp2;rw[← HN.out]
 go_loopg [6,7,8,9] 4 (fun g kk _ _ _ wr=>∃ k:Nat,k+g=4∧kk=.int .i64 k∧Hid (QMx w n b l (mixF l b (4*k)) wr))
 case atStart=>exact⟨0,by omega,rfl,HX.out⟩
 case round=>
  clear HX;obtain⟨k,hkg,rfl,hQ⟩:=hrel;by_cases hk4:k<4
  ·obtain⟨g1,rfl⟩:∃ j,gk=j+1:=⟨gk - 1,by omega⟩;go_wp2
   go_loopg [7,8,9] 4 (fun g ii _ _ wr=>∃ i:Nat,i+g=4∧ii=.int .i64 i∧Hid (QMx w n b l (mixF l b (4*k+i)) wr))
   case atStart=>exact⟨0,by omega,rfl,hQ.out⟩
   case round=>
    clear hQ;obtain⟨i,hig,rfl,hQ⟩:=hrel;by_cases hi4:i<4
    ·obtain⟨g2,rfl⟩:∃ j,gk=j+1:=⟨gk - 1,by omega⟩;go_wp2
     go_loopg [8,9] 4 (fun g vv jj wr=>∃ j:Nat,j+g=4∧jj=.int .i64 j∧vv=.int .u8 (mixV l b k i j)∧Hid (QMx w n b l (mixF l b (4*k+i)) wr))
     case atStart=>exact⟨0,by omega,rfl,by rw[mixV_zero];rfl,hQ.out⟩
     case round=>
      clear hQ;obtain⟨j,hjg,rfl,rfl,hQ⟩:=hrel;obtain⟨v,hv⟩:∃ v,v=mixV l b k i j:=⟨_,rfl⟩;have hvl:v<256:=hv ▸ mixV_lt;rw[← hv];by_cases hj4:j<4
      ·obtain⟨g3,rfl⟩:∃ q,gk=q+1:=⟨gk - 1,by omega⟩;obtain⟨X,hX⟩:∃ X,X=j+4 - i:=⟨_,rfl⟩;have hXi:(j:Int) - i+4=X:=by omega
       obtain⟨q,hq⟩:∃ q,q=X % 4:=⟨_,rfl⟩;have hq1:(X:Int) % 4=q:=by omega
       have hq2:(X:Int).tmod 4=q:=by rw[Int.tmod_eq_emod_of_nonneg (by omega)];exact hq1
       have hq4:q<4:=by omega
       obtain⟨M,hM⟩:∃ M,M=4*k+j:=⟨_,rfl⟩;have hMi:4*(k:Int)+j=M:=by omega
       have hMl:M<16:=by omega
       obtain⟨A,hA⟩:∃ A,A=(l.getD q 0).toNat:=⟨_,rfl⟩;obtain⟨B,hB⟩:∃ B,B=(b.getD M 0).toNat:=⟨_,rfl⟩;have hAl:A<256:=hA ▸ UInt8.toNat_lt _;have hBl:B<256:=hB ▸ UInt8.toNat_lt _;have cA:=hQ.out.by4.cell q (by omega);have cB:=hQ.out.inp.cell M (by omega);rw[← hA] at cA;rw[← hB] at cB;obtain⟨P,hP⟩:∃ P,P=mulQ A B 8:=⟨_,rfl⟩;have hPl:P<256:=hP ▸ mulQ_lt hAl _;have hm:=fun w=>hP ▸ qMul_ok A B hAl hBl w
       obtain⟨R,hR⟩:∃ R,R=v ^^^ P:=⟨_,rfl⟩;have hRx:bits .xor .u8 (v:Int) (P:Int)=(R:Int):=by rw[u8_xor_nat v P hvl hPl,hR]
       have hnx:mixV l b k i (j+1)=R:=by rw[mixV_succ,← hv,← hX,← hq,← hM,← hA,← hB,← hP,← hR]
       have hs1:=heap_lt hQ.out.inp;have hs2:=heap_lt hQ.out.by4;have hdr:∀ w3,Chg No wr.drew w3→Chg No wr w3:=fun w3 h=>⟨h.os,h.tape,h.output,h.size,h.block⟩
       clear hX hA hB hP hR hv;replace hq:=LH hq;replace hM:=LH hM;replace hm:=LH hm;replace hnx:=LH hnx;replace cA:=LH cA;replace cB:=LH cB;replace hdr:=LH hdr;go_wp2;refine RA.rt (Chg No) [1,1,1,1,1,1,1,1,1,1,1,1,1,1,4,1,1] [] (fun _=>True) trivial (fun _=>Chg.refl _ _) (fun _ _ _ h k=>h.trans k) (h:=?_);intro cx
       repeat refine RA.qq (h:=?_)
       refine RA.si (by kernel_rfl) (by rfl) (by rfl) (by rfl) ((j:Int) - i) (rfl) (by omega) ?_;refine RA.ai (by kernel_rfl) (by rfl) (by rfl) (by rfl) ((X:Int)) (hXi) (by omega) ?_;refine RA.vw prog (.int .i64 q) (h:=?_);refine RA.ik prog (n+1) (q) (h:=?_);refine RA.lk prog (.int .u8 A) (hc:=fun w3 hp=>by exact ((hdr.out _ hp.1).cell (p:=⟨n+1,q,none⟩) hs2 id).trans cA.out) (h:=?_)
       repeat refine RA.qq (h:=?_)
       refine RA.mi (by kernel_rfl) (by rfl) (by rfl) (by rfl) (4*(k:Int)) (rfl) (by omega) ?_
       repeat refine RA.qq (h:=?_)
       refine RA.ai (by kernel_rfl) (by rfl) (by rfl) (by rfl) ((M:Int)) (hMi) (by omega) ?_;refine RA.ik prog (n) (M) (h:=?_);refine RA.lk prog (.int .u8 B) (hc:=fun w3 hp=>by exact ((hdr.out _ hp.1).cell (p:=⟨n,M,none⟩) hs1 id).trans cB.out) (h:=?_);refine RA.kc (P:=prog) [_,_] (.int .u8 P) (fun _=>True) (fun _ _=>by go_simp) (by kernel_rfl) (by rfl) (by rfl) (by kernel_rfl) (fun _ _ _ h=>h) rfl (fun w3 hp hH=>(hm.out w3).mono (by rintro e w4 ⟨rfl,rfl⟩;exact⟨rfl,Chg.refl _ _,trivial⟩)) ?_;refine RA.vk prog (.int .u8 R) (h:=?_)
       repeat refine RA.qq (h:=?_)
       refine RA.RA.done rfl (fun wx hR hF hH=>?_);clear hF hH;simp only[RA.put,List.foldr_cons,List.foldr_nil,cx,Act.put,List.setIfInBounds_toArray,List.set_cons_succ,List.set_cons_zero];have hQx:=LH (hQ.out.after (Chg.no (hdr.out _ hR)));clear hQ hR hdr cA cB hm;go_wp2;go_roundg g3
       case measure=>omega
       case rel=>exact⟨j+1,by omega,by go_num,by rw[hnx.out],hQx.out⟩
      ·obtain rfl:j=4:=by omega
       obtain⟨m,hm⟩:∃ m,m=4*k+i:=⟨_,rfl⟩;have hmi:4*(k:Int)+i=m:=by omega
       have hml:m<16:=by omega
       rw[← hm] at hQ;have hnx:mixF l b (m+1)=(mixF l b m).set m (byte v):=by rw[mixF_succ,show m / 4=k by omega,show m % 4=i by omega,← hv]
       have f0:=hQ.out.out.frozen m;have c0:=hQ.out.out.cell m (by rw[mixF_length];exact hml);have hset:=hQ.out.set m (byte v);rw[byte_toNat hvl,← hnx,show m+1=4*k+(i+1) by omega] at hset;replace hset:=LH hset;replace hm:=LH hm;replace hv:=LH hv;replace hnx:=LH hnx;clear hj4 hjg;go_wp2;go_roundg g2
       case measure=>omega
       case rel=>exact⟨i+1,by omega,by go_num,hset.out⟩
    ·obtain rfl:i=4:=by omega
     clear hi4 hig
     have hQ2:Hid (QMx w n b l (mixF l b (4*(k+1))) wr):=by
      show QMx _ _ _ _ _ _;rw[show 4*(k+1)=4*k+4 by omega];exact hQ.out
     clear hQ;go_wp2;go_roundg g1
     case measure=>omega
     case rel=>exact⟨k+1,by omega,by go_num,hQ2.out⟩
  ·obtain rfl:k=4:=by omega
   obtain⟨L,hL⟩:∃ L,L=mixF l b 16:=⟨_,rfl⟩;have hLl:L.length=16:=by rw[hL];exact mixF_length
   have hQ2:QMx w n b l L wr:=by rw[hL];exact hQ.out
   have hld:=LH (run_loadAt_arr (P:=prog) hQ2.out underlying73 (size61 hLl));have hst:=LH (block_store hQ2.res List.length_replicate L hLl);have hF:Arr (wr.setRow (n+2) (u8s L).toArray) (n+2) 73 L:=hQ2.res.setRow L;have hBf:Below n w (wr.setRow (n+2) (u8s L).toArray):=below_setRow hQ2.below (by omega) _;replace hF:=LH hF;replace hBf:=LH hBf;replace hL:=LH hL;clear hQ hQ2
   go_wp2_with (first|(refine wpList_load rfl 73 _ rfl _ _ rfl hld.out ?_)|(refine wpList_store rfl 73 _ _ rfl _ _ rfl rfl hst.out ?_))
   refine bodyPost_ret (results_cell_row results70 _ _ (n+2) 73 _ (0,0) _ rfl hF.out underlying73 rfl (by rw[size61 hLl];simp[u8s_length])) rfl ⟨by rw[hL.out],HN.out ▸ hBf.out⟩
end Go.Proofs.YtbgfdbidbjlaaaaGreat.Fd
/-
  The document's own Encrypt. No condition beyond what each theorem names.
-/
namespace Go.Proofs.YtbgfdbidbjlaaaaGreat.Fd
open _root_.Go.Proofs.Tryz
open Go Go.RowKit K
set_option maxRecDepth 100000
set_option maxHeartbeats 8000000
def nextQ (l:List UInt8) (N t:Nat) (x:List UInt8):List UInt8:=if t<N then mixF l x 16 else x
theorem nextQ_length {l:List UInt8}{N t:Nat}{x:List UInt8}(h:x.length=16):(nextQ l N t x).length=16:=by
 rw[nextQ];split
 ·exact mixF_length
 ·exact h
def encQR (ks:List UInt32) (b:List UInt8):Nat→List UInt8
 | 0=>addL b ks 0 16
 | t+1=>addL (nextQ [2,3,1,1] (roundsN ks) (t+1) (shL sb (encQR ks b t) 16)) ks (t+1) 16
theorem encQR_zero {ks:List UInt32}{b:List UInt8}:encQR ks b 0=addL b ks 0 16:=rfl
theorem encQR_succ {ks:List UInt32}{b:List UInt8}{t:Nat}:encQR ks b (t+1)=addL (nextQ [2,3,1,1] (roundsN ks) (t+1) (shL sb (encQR ks b t) 16)) ks (t+1) 16:=rfl
theorem encQR_length {ks:List UInt32}{b:List UInt8}(hb:b.length=16):∀ t,(encQR ks b t).length=16
 | 0=>addL_length.trans hb
 | _+1=>addL_length.trans (nextQ_length shL_length)
attribute [irreducible] encQR
structure QEn (w:World) (n:Nat) (X:List UInt8) (x:World):Prop where
 below:Below n w x
 inp:Arr x n 73 X
 res:Arr x (n+1) 73 (List.replicate 16 0)
theorem QEn.after {w:World}{n:Nat}{X:List UInt8}{x y:World}(s:QEn w n X x) (hb:Below (n+2) x y):QEn w n X y:=
 ⟨s.below.trans (hb.mono (by omega)),s.inp.keep (hb.block _ (by omega)),s.res.keep (hb.block _ (by omega))⟩
theorem QEn.put {w:World}{n:Nat}{X:List UInt8}{x:World}(s:QEn w n X x) (Y:List UInt8):QEn w n Y (x.setRow n (u8s Y).toArray):=
 ⟨below_setRow s.below (Nat.le_refl _) _,s.inp.setRow Y,s.res.keep (setRow_other _ _ _ _ (by omega))⟩
theorem QEn.size {w:World}{n:Nat}{X:List UInt8}{x:World}(s:QEn w n X x):n+2≤x.heap.size:=heap_lt s.res
theorem qMixed4 (b:List UInt8) (hb:b.length=16) (w:World):
  Calls prog 70 #[.agg (u8s b).toArray,.agg #[.int .u8 2,.int .u8 3,.int .u8 1,.int .u8 1]] w fun e w'=>e=.returned (.agg (u8s (mixF [2,3,1,1] b 16)).toArray)∧Below w.heap.size w w':=qMixed_ok b [2,3,1,1] hb rfl w
theorem block_store' {w:World}{g:Nat}{o:List UInt8}(h:Arr w g 73 o) (ho:o.length=16) (x:List UInt8) (hx:x.length=16):
  (Instr.storeAt 73 (.pointer (some ⟨g,0,none⟩)) (.agg (u8s x).toArray)).run prog w=.ok () (w.setRow g (u8s x).toArray):=block_store h ho x hx
theorem qEnc_ok {w:World}{F:Nat→Prop}{p tb:Nat}{kv:Value}{ks:List UInt32}(h:QCipherAt w F p tb kv ks) (b:List UInt8) (hb:b.length=16) (hN:4≤ks.length) (h4:ks.length % 4=0):
  Calls prog 48 #[.pointer (some ⟨p,0,none⟩),.agg (u8s b).toArray] w fun e w'=>e=.returned (.agg (u8s (encQR ks b (roundsN ks))).toArray)∧Below w.heap.size w w':=by
 obtain⟨n,hn⟩:∃ n,n=w.heap.size:=⟨_,rfl⟩;have HN:=LH hn;have hC:∀ w1,Below n w w1→QCipherAt w1 F p tb kv ks:=fun w1 h1=>h.keep h1.size (fun g _ hg=>h1.block g (by omega))
 have hpl:=heap_lt h.box;have htl:=heap_lt h.tab;obtain⟨ka,kc,rfl,hk1,hk2⟩:=h.keys.shape;unfold maxLen at hk2;obtain⟨N,hNd⟩:∃ N,N=roundsN ks:=⟨_,rfl⟩;have hNl:ks.length=4*(N+1):=by rw[hNd,roundsN];omega
 have hfew:=h.few;have hadd:∀ w1,Below n w w1→∀ (x:List UInt8) (r:Nat),x.length=16→r≤N→Calls prog 69 #[.pointer (some ⟨p,0,none⟩),.agg (u8s x).toArray,.int .i64 r] w1 fun e w'=>e=.returned (.agg (u8s (addL x ks r 16)).toArray)∧Below w1.heap.size w1 w':=fun w1 h1 x r hx hr=>qAdded_ok (hC w1 h1) x hx r (by omega)
 have HX:=box2 w 73 b (List.replicate 16 0);obtain⟨V,hV⟩:∃ V,V=(u8s b).toArray:=⟨_,rfl⟩;have hz:(u8s (List.replicate 16 0)).toArray=#[.int .u8 0,.int .u8 0,.int .u8 0,.int .u8 0,.int .u8 0,.int .u8 0,.int .u8 0,.int .u8 0,.int .u8 0,.int .u8 0,.int .u8 0,.int .u8 0,.int .u8 0,.int .u8 0,.int .u8 0,.int .u8 0]:=rfl;rw[hz,← hV,← hn] at HX;obtain⟨w0,hw0⟩:∃ x,x=(w.alloc (.cells V 73)).alloc (.cells #[.int .u8 0,.int .u8 0,.int .u8 0,.int .u8 0,.int .u8 0,.int .u8 0,.int .u8 0,.int .u8 0,.int .u8 0,.int .u8 0,.int .u8 0,.int .u8 0,.int .u8 0,.int .u8 0,.int .u8 0,.int .u8 0] 73):=⟨_,rfl⟩;rw[← hw0] at HX;have hQ0:QEn w n b w0:=⟨HX.2.2.1,HX.1,HX.2.1⟩;have cW:w0.cell? ⟨p,1,none⟩=some (.slice ka ks.length kc):=by rw[cell_of (hC w0 hQ0.below).box];rfl
 have hld0:=run_loadAt_arr (P:=prog) hQ0.inp underlying73 (size61 hb);have ha0:=hadd w0 hQ0.below b 0 hb (Nat.zero_le _);rw[← hV] at hld0 ha0 ⊢;rw[hn] at hld0;subst hw0;have hKl:(ks.length:Int) / 4 - 1=N:=by omega
 have hKl1:(ks.length:Int) / 4=((N+1:Nat):Int):=by omega
 obtain⟨KL,hKL⟩:∃ L,L=ks.length:=⟨_,rfl⟩;rw[← hKL] at cW hKl hKl1 hNl hfew hk1 hN h4;have hKl2:(KL:Int).tdiv 4=((N+1:Nat):Int):=by rw[Int.tdiv_eq_ediv_of_nonneg (by omega)];exact hKl1
 have hNp:((N+1:Nat):Int) - 1=N:=by omega
 clear HX hz h hn;replace hC:=LH hC;replace hadd:=LH hadd;replace hld0:=LH hld0;replace ha0:=LH ha0;replace hQ0:=LH hQ0;replace hV:=LH hV;replace hNd:=LH hNd;replace hKL:=LH hKL;replace hNl:=LH hNl;replace hKl:=LH hKl;go_enter func48,ntmps48
 go_wp2_with (first|(refine wpList_load rfl 73 _ rfl _ _ rfl hld0.out ?_)|fail)
 refine ha0.out.mono ?_;rintro e w1 ⟨rfl,hb1⟩;have hQ1:=hQ0.out.after (hb1.mono hQ0.out.size);obtain⟨X0,hX0⟩:∃ X0,X0=encQR ks b 0:=⟨_,rfl⟩;have hX0l:X0.length=16:=hX0 ▸ encQR_length hb 0;have he0:addL b ks 0 16=X0:=by rw[hX0,encQR_zero]
 rw[he0];have hst1:=block_store' hQ1.inp hb X0 hX0l;obtain⟨w2,hw2⟩:∃ x,x=w1.setRow n (u8s X0).toArray:=⟨_,rfl⟩;rw[← hw2] at hst1;have hQ2:QEn w n X0 w2:=by rw[hw2];exact hQ1.put _
 rw[HN.out] at hst1;replace hst1:=LH hst1;replace hQ2:=LH hQ2;replace hw2:=LH hw2;replace hX0:=LH hX0;replace hKl1:=LH hKl1;replace hKl2:=LH hKl2;replace hNp:=LH hNp;clear hb1 hQ1 ha0 hld0 hQ0 he0
 go_wp2_with (first|(refine wpList_store rfl 73 _ _ rfl _ _ rfl rfl hst1.out ?_))
 rw[← HN.out];clear hst1;rw[hX0.out] at hQ2;have hN100:N≤1000:=by have:=hNl.out;omega
 go_loopg [6,7,8] N (fun g rr _ _ wr=>∃ t:Nat,t+g=N∧rr=.int .i64 ((t+1:Nat):Int)∧Hid (QEn w n (encQR ks b t) wr))
 case atStart=>exact⟨0,by omega,rfl,hQ2.out⟩
 case round=>
  clear hQ2;obtain⟨t,htg,rfl,hQ⟩:=hrel;have hsz:=hQ.out.size;obtain⟨s,hs⟩:∃ s,s=t+1:=⟨_,rfl⟩;rw[← hs];have hst1:t<N↔s≤N:=by omega
  have hst2:t≤N:=by omega
  obtain⟨X,hX⟩:∃ X,X=encQR ks b t:=⟨_,rfl⟩;have hXl:X.length=16:=by rw[hX];exact encQR_length hb t
  rw[← hX] at hQ;by_cases htN:t<N
  ·obtain⟨g1,rfl⟩:∃ j,gk=j+1:=⟨gk - 1,by omega⟩;have hsucc:=encQR_succ (ks:=ks) (b:=b) (t:=t);rw[← hX,← hNd.out] at hsucc;have htN':s≤N:=by omega
   replace hs:=LH hs;clear hst1;obtain⟨sq,hsq⟩:∃ q,q=wr.heap.size:=⟨_,rfl⟩;have hS0:Arr (wr.alloc (.cells #[.int .u8 0,.int .u8 0,.int .u8 0,.int .u8 0,.int .u8 0,.int .u8 0,.int .u8 0,.int .u8 0,.int .u8 0,.int .u8 0,.int .u8 0,.int .u8 0,.int .u8 0,.int .u8 0,.int .u8 0,.int .u8 0] 73)) sq 73 (shL sb X 0):=by rw[hsq,shL];exact heap_alloc_new wr _
   have hQ3:QEn w n X (wr.alloc (.cells #[.int .u8 0,.int .u8 0,.int .u8 0,.int .u8 0,.int .u8 0,.int .u8 0,.int .u8 0,.int .u8 0,.int .u8 0,.int .u8 0,.int .u8 0,.int .u8 0,.int .u8 0,.int .u8 0,.int .u8 0,.int .u8 0] 73)):=hQ.out.after ((Below.refl _ _).alloc (by omega) _);have hsn:n+2≤sq:=by omega
   replace hX:=LH hX;replace hsucc:=LH hsucc;replace hS0:=LH hS0;replace hQ3:=LH hQ3;replace hsq:=LH hsq;clear hQ;go_wp2;rw[← hsq.out]
   go_loopg [8] 16 (fun g ii wr=>∃ k:Nat,k+g=16∧ii=.int .i64 k∧Hid (QEn w n X wr)∧Hid (Arr wr sq 73 (shL sb X k)))
   case atStart=>exact⟨0,by omega,rfl,hQ3.out,hS0.out⟩
   case round=>
    clear hQ3 hS0 hsz;obtain⟨k,hkg,rfl,hQ,hS⟩:=hrel;have hsz:=hQ.out.size;by_cases hk:k<16
    ·obtain⟨g2,rfl⟩:∃ j,gk=j+1:=⟨gk - 1,by omega⟩;obtain⟨q,hq⟩:∃ q,q=k % 4:=⟨_,rfl⟩;have hq1:(k:Int) % 4=q:=by omega
     have hq2:(k:Int).tmod 4=q:=by rw[Int.tmod_eq_emod_of_nonneg (by omega)];exact hq1
     have hq4:q<4:=by omega
     obtain⟨m,hm⟩:∃ m,m=k+4*q:=⟨_,rfl⟩;have hmi:(k:Int)+4*q=m:=by omega
     obtain⟨r,hr⟩:∃ r,r=m % 16:=⟨_,rfl⟩;have hr1:(m:Int) % 16=r:=by omega
     have hr2:(m:Int).tmod 16=r:=by rw[Int.tmod_eq_emod_of_nonneg (by omega)];exact hr1
     have hr16:r<16:=by omega
     obtain⟨B,hB⟩:∃ B,B=(X.getD r 0).toNat:=⟨_,rfl⟩;have hBl:B<256:=hB ▸ UInt8.toNat_lt _;have cB:=hQ.out.inp.cell r (by omega);rw[← hB] at cB;have hCw:=hC.out wr hQ.out.below;have cX:wr.cell? ⟨p,0,none⟩=some (.pointer (some ⟨tb,0,none⟩)):=by rw[cell_of hCw.box];rfl
     have cT:=hCw.tab.to B hBl;obtain⟨Z,hZ⟩:∃ Z,Z=(sb B).toNat:=⟨_,rfl⟩;rw[← hZ] at cT;have f0:=hS.out.frozen k;have c0:=hS.out.cell k (by rw[shL_length];exact hk);have hset:=hS.out.set k (sb B);have hnx:(shL sb X k).set k (sb B)=shL sb X (k+1):=by rw[shL,← hq,← hm,← hr,← hB]
     rw[hnx,← hZ] at hset;have hQs:=hQ.out.after ((Below.refl (n+2) wr).setCell (p:=⟨sq,k,none⟩) (by show n+2≤sq;omega) (.int .u8 Z));have hpr:p<wr.heap.size:=heap_lt hCw.box;have htr:tb<wr.heap.size:=heap_lt hCw.tab;have hset2:Arr (wr.setCell ⟨sq,k,none⟩ (.int .u8 Z)).drew sq 73 (shL sb X (k+1)):=hset.keep rfl;have hQs2:QEn w n X (wr.setCell ⟨sq,k,none⟩ (.int .u8 Z)).drew:=hQs.after ((Below.refl _ _).drew);clear hset hQs hCw hZ hB hnx;replace hset2:=LH hset2;replace hQs2:=LH hQs2;replace hq:=LH hq;replace hm:=LH hm;replace hr:=LH hr;go_wp2
     go_region
     go_wp2;go_roundg g2
     case measure=>omega
     case rel=>exact⟨k+1,by omega,by go_num,hQs2.out,hset2.out⟩
    ·obtain rfl:k=16:=by omega
     clear hk hkg;obtain⟨S,hS'⟩:∃ S,S=shL sb X 16:=⟨_,rfl⟩;have hSl:S.length=16:=hS' ▸ shL_length;rw[← hS'] at hS;replace hS':=LH hS';have hl1:=LH (run_loadAt_arr (P:=prog) hS.out underlying73 (size61 hSl));by_cases hsN:s<N
     ·have hmx:=LH (qMixed4 S hSl wr)
      go_wp2_with (first|(refine wpList_load rfl 73 _ rfl _ _ rfl hl1.out ?_))
      refine hmx.out.mono ?_;rintro e w5 ⟨rfl,hb5⟩;have hQ5:=hQ.out.after (hb5.mono hsz);have hS5:=hS.out.keep (hb5.block sq (heap_lt hS.out));obtain⟨Y,hY⟩:∃ Y,Y=mixF [2,3,1,1] S 16:=⟨_,rfl⟩;rw[← hY];have hYl:Y.length=16:=hY ▸ mixF_length;have hst:=block_store' hS5 hSl Y hYl;obtain⟨w6,hw6⟩:∃ a,a=w5.setRow sq (u8s Y).toArray:=⟨_,rfl⟩;rw[← hw6] at hst;have hS6:Arr w6 sq 73 Y:=hw6 ▸ hS5.setRow Y;have hQ6:QEn w n X w6:=hw6 ▸ hQ5.after (below_setRow (Below.refl (n+2) w5) hsn _);have hl2:=LH (run_loadAt_arr (P:=prog) hS6 underlying73 (size61 hYl));have hYe:Y=nextQ [2,3,1,1] N s (shL sb X 16):=by rw[nextQ,if_pos hsN,← hS'.out,hY]
      have ha:=LH (hadd.out w6 hQ6.below Y s hYl (by omega));replace hYe:=LH hYe;replace hY:=LH hY;replace hQ6:=LH hQ6;replace hw6:=LH hw6;replace hst:=LH hst;clear hS6 hQ5 hS5 hb5 hmx hl1 hQ hS
      go_wp2_with (first|(refine wpList_store rfl 73 _ _ rfl _ _ rfl rfl hst.out ?_)|(refine wpList_load rfl 73 _ rfl _ _ rfl hl2.out ?_))
      clear hst hl2;refine ha.out.mono ?_;rintro e w7 ⟨rfl,hb7⟩;have hQ7:=hQ6.out.after (hb7.mono hQ6.out.size);obtain⟨Z,hZ⟩:∃ Z,Z=addL Y ks s 16:=⟨_,rfl⟩;rw[← hZ];have hZl:Z.length=16:=hZ ▸ addL_length.trans hYl;have hst7:=LH (block_store' hQ7.inp hXl Z hZl);have hQ8:=LH (hQ7.put Z);have he:encQR ks b (t+1)=Z:=by rw[hsucc.out,← hs.out,← hYe.out,hZ]
      replace he:=LH he;replace hZ:=LH hZ;clear hQ7 hb7 ha hQ6
      go_wp2_with (first|(refine wpList_store rfl 73 _ _ rfl _ _ rfl rfl hst7.out ?_))
      go_roundg g1
      case measure=>omega
      case rel=>exact⟨t+1,by omega,by have:=hs.out;go_num,he.out ▸ hQ8.out⟩
     ·obtain⟨Y,hY⟩:∃ Y,Y=S:=⟨_,rfl⟩;have hYl:Y.length=16:=hY ▸ hSl;have hYe:Y=nextQ [2,3,1,1] N s (shL sb X 16):=by rw[nextQ,if_neg hsN,← hS'.out,hY]
      rw[← hY] at hl1;have hQ6:=hQ;have ha:=LH (hadd.out wr hQ6.out.below Y s hYl (by omega));replace hYe:=LH hYe;replace hY:=LH hY;clear hQ hS
      go_wp2_with (first|(refine wpList_load rfl 73 _ rfl _ _ rfl hl1.out ?_))
      clear hl1;refine ha.out.mono ?_;rintro e w7 ⟨rfl,hb7⟩;have hQ7:=hQ6.out.after (hb7.mono hQ6.out.size);obtain⟨Z,hZ⟩:∃ Z,Z=addL Y ks s 16:=⟨_,rfl⟩;rw[← hZ];have hZl:Z.length=16:=hZ ▸ addL_length.trans hYl;have hst7:=LH (block_store' hQ7.inp hXl Z hZl);have hQ8:=LH (hQ7.put Z);have he:encQR ks b (t+1)=Z:=by rw[hsucc.out,← hs.out,← hYe.out,hZ]
      replace he:=LH he;replace hZ:=LH hZ;clear hQ7 hb7 ha hQ6
      go_wp2_with (first|(refine wpList_store rfl 73 _ _ rfl _ _ rfl rfl hst7.out ?_))
      go_roundg g1
      case measure=>omega
      case rel=>exact⟨t+1,by omega,by have:=hs.out;go_num,he.out ▸ hQ8.out⟩
  ·obtain rfl:t=N:=by omega
   have hl1:=LH (run_loadAt_arr (P:=prog) hQ.out.inp underlying73 (size61 hXl));have hst5:=LH (block_store' hQ.out.res List.length_replicate X hXl);have hfin:=LH (hQ.out.res.setRow X);have hi:=LH (size61 hXl);replace hX:=LH hX;clear htg htN
   go_wp2_with (first|(refine wpList_load rfl 73 _ rfl _ _ rfl hl1.out ?_)|(refine wpList_store rfl 73 _ _ rfl _ _ rfl rfl hst5.out ?_))
   refine bodyPost_ret (results_cell_row results48 _ _ (n+1) 73 _ (0,0) _ rfl hfin.out underlying73 rfl (by rw[hi.out];simp[u8s_length])) rfl ⟨by rw[hX.out,← hNd.out],HN.out ▸ below_setRow hQ.out.below (by omega) _⟩
end Go.Proofs.YtbgfdbidbjlaaaaGreat.Fd

/-
  Texts of this claim, laid together by a program of mine. No condition beyond what each theorem names.
-/
import Derived.Test.YthmcbgidehjlbaaGreatRmFieldPk
import Derived.Test.YthmcbgidehjlbaaGreatRmRegionB
import Derived.Laws.Rows
import Derived.Laws.Tables
import Derived.ChangeKeysEq
/-
  sbox.Tables: as plain lists. No condition beyond what each theorem names.
-/
namespace Go.Proofs.YthmcbgidehjlbaaGreat.Fd
open _root_.Go.Proofs.Tryz
open Go Go.RowKit K
set_option maxRecDepth 100000
set_option maxHeartbeats 2000000
def pwX:Nat→UInt8
 | 0=>1
 | k+1=>byte ((pwX k).toNat ^^^ twice (pwX k).toNat)
def pwL:Nat→List UInt8
 | 0=>List.replicate 255 0
 | k+1=>(pwL k).set k (pwX k)
theorem pwL_length {k:Nat}:(pwL k).length=255:=by
 induction k with
 | zero=>exact List.length_replicate
 | succ k ih=>exact List.length_set.trans ih
def pw (i:Nat):UInt8:=(pwL 255).getD i 0
def sbL:Nat→List UInt8
 | 0=>(List.replicate 256 0).set 0 (byte (turned 0))
 | k+1=>(sbL k).set (pw k).toNat (byte (turned (pw ((255 - k) % 255)).toNat))
theorem sbL_length {k:Nat}:(sbL k).length=256:=by
 induction k with
 | zero=>exact List.length_set.trans List.length_replicate
 | succ k ih=>exact List.length_set.trans ih
def sb (i:Nat):UInt8:=(sbL 255).getD i 0
def bkL:Nat→List UInt8
 | 0=>List.replicate 256 0
 | k+1=>(bkL k).set (sb k).toNat (byte k)
theorem bkL_length {k:Nat}:(bkL k).length=256:=by
 induction k with
 | zero=>exact List.length_replicate
 | succ k ih=>exact List.length_set.trans ih
theorem u8s_set (l:List UInt8) (i:Nat) (b:UInt8):u8s (l.set i b)=(u8s l).set i (u8 b):=by simp[u8s,List.map_set]
theorem u8s_ix (l:List UInt8) (j:Nat) (h:j<l.length):(u8s l).toArray[j]?=some (.int .u8 (l.getD j 0).toNat):=by simp[u8s,u8,List.getD,h]
theorem u8s_all (l:List UInt8):(u8s l).toArray.all (·.oneCell')=true:=by
 rw[Array.all_eq_true_iff_forall_mem];intro x hx;exact u8s_one l x (by simpa using hx)
theorem run_index_agg {P:Program}{t e:TypeId}{n:Nat}{cs:Array Value}{k:IntKind}{j:Nat}{v:Value}(h:P.underlying t=some (.array n e)) (hi:(P.info? e).isSome=true) (hp:P.plainKey e=true) (hc:P.cellsOf e=1) (hj:j<n) (hv:cs[j]?=some v) (w:World):
  (Instr.index t (.agg cs) (.int k j)).run P w=.ok v w:=by
 obtain⟨inf,hinf⟩:=Option.isSome_iff_exists.1 hi;have h2:=run_part_plain (P:=P) (w:=w) hp hv;have h3:=run_sizeOf (P:=P) (w:=w) hinf;rw[hc] at h3;have hj':(j:Int)<n:=by omega
 simp only[Instr.index,run_underlying h,asIntOf,Sem.run_bind,Sem.run_pure,Result.andThen,Int.toNat_natCast,h3,Nat.mul_one,h2,Int.natCast_nonneg,hj',and_self,if_true]
def Arr (w:World) (b:Nat) (t:TypeId) (l:List UInt8):Prop:=w.heap[b]?=some (.cells (u8s l).toArray t (0,0))
theorem Arr.cell {w:World}{b:Nat}{t:TypeId}{l:List UInt8}(h:Arr w b t l) (j:Nat) (hj:j<l.length):w.cell? ⟨b,j,none⟩=some (.int .u8 (l.getD j 0).toNat):=by
 rw[cell_of h];simp[u8s,u8,hj,List.getD]
theorem Arr.frozen {w:World}{b:Nat}{t:TypeId}{l:List UInt8}(h:Arr w b t l) (j:Nat):w.frozen? ⟨b,j,none⟩=false:=frozen_of h j
theorem Arr.set {w:World}{b:Nat}{t:TypeId}{l:List UInt8}(h:Arr w b t l) (j:Nat) (c:UInt8):Arr (w.setCell ⟨b,j,none⟩ (.int .u8 c.toNat)) b t (l.set j c):=by
 unfold Arr;rw[setCell_block h,u8s_set];simp[u8]
theorem Arr.keep {w w':World}{b:Nat}{t:TypeId}{l:List UInt8}(h:Arr w b t l) (e:w'.heap[b]?=w.heap[b]?):Arr w' b t l:=e.trans h
theorem Arr.of {w:World}{b:Nat}{t:TypeId}{l:List UInt8}{cs:Array Value}(e:cs=(u8s l).toArray) (h:w.heap[b]?=some (.cells cs t (0,0))):Arr w b t l:=by
 subst e;exact h
theorem setRow_same {w:World}{g:Nat}{cs:Array Value}{t:TypeId}(h:w.heap[g]?=some (.cells cs t (0,0))):w.setRow g cs=w:=by
 have e:(w.setRow g cs).heap=w.heap:=by
  apply Array.ext_getElem?;intro i;by_cases hi:i=g
  ·subst hi;rw[setRow_heap w _ cs cs t (0,0) h,h]
  ·rw[setRow_other _ _ _ _ hi]
 have e2:w.setRow g cs={ w with heap:=(w.setRow g cs).heap }:=rfl;rw[e2,e]
theorem run_loadAt_arr {P:Program}{w:World}{n m:Nat}{t e:TypeId}{l:List UInt8}(h:Arr w n t l) (hu:P.underlying t=some (.array m e)) (hi:(P.info? t).map (·.size)=some l.length):
  (Instr.loadAt t (.pointer (some ⟨n,0,none⟩))).run P w=.ok (.agg (u8s l).toArray) w:=by
 simp only[Instr.loadAt,Instr.sureAddr,Sem.run_bind,Sem.run_pure,Result.andThen];exact run_loadVar_row w n t t _ (0,0) _ h hu rfl (by rw[hi];simp[u8s_length])
theorem run_storeAt_arr {P:Program}{w:World}{n:Nat}{t:TypeId}{l:List UInt8}(h:Arr w n t l) (hi:(P.info? t).map (·.size)=some l.length):
  (Instr.storeAt t (.pointer (some ⟨n,0,none⟩)) (.agg (u8s l).toArray)).run P w=.ok () w:=by
 simp only[Instr.storeAt,Instr.sureAddr,Sem.run_bind,Sem.run_pure,Result.andThen];rw[run_storeVar_row w n t t _ _ h (by rw[hi];simp[u8s_length]) rfl (u8s_all l),setRow_same h]
theorem results_two {P:Program}{fn:Func}{p q:Tmp}{ty ty':TypeId}(h:fn.results=#[.cell p ty,.cell q ty']) (tmps:Array Value) (w:World){a b:Addr}{u v:Value}
  (hp:tmps.getD p undef=.pointer (some a)) (hq:tmps.getD q undef=.pointer (some b)) (h0:(loadVar ty a).run P w=.ok u w) (h1:(loadVar ty' b).run P w=.ok v w):
  (results fn tmps).run P w=.ok (.tuple #[u,v]) w:=by
 have hp':tmps[p]?.getD undef=.pointer (some a):=by simpa using hp
 have hq':tmps[q]?.getD undef=.pointer (some b):=by simpa using hq
 simp[results,h,hp',hq',asAddr,h0,h1]
theorem zero101:Tryz.zeroCells295=(u8s (List.replicate 256 0)).toArray:=by kernel_rfl
theorem zero145:Tryz.zeroCells338=(u8s (List.replicate 255 0)).toArray:=by kernel_rfl
theorem tables_ok (w:World):Calls prog 205 #[] w fun e w'=>e=.returned (.tuple #[.agg (u8s (sbL 255)).toArray,.agg (u8s (bkL 256)).toArray])∧Below w.heap.size w w':=by
 obtain⟨n,hn⟩:∃ n,n=w.heap.size:=⟨_,rfl⟩;go_enter func205,ntmps205;go_wp2;rw[← hn];replace hn:=LH hn
 go_loopw [3,9] (fun x i wr=>∃ k:Nat,k≤255∧i=.int .i64 k∧x=.int .u8 (pwX k).toNat∧Below n w wr∧n+2<wr.heap.size∧Hid (Arr wr n 295 (List.replicate 256 0))∧Hid (Arr wr (n+1) 295 (List.replicate 256 0))∧Hid (Arr wr (n+1+1) 338 (pwL k)))
  (fun _ i _=>255 - (intOf i).toNat)
 case atStart=>
  refine⟨0,by omega,rfl,rfl,?_,?_,?_,?_,?_⟩
  ·exact (((Below.refl _ _).alloc (Nat.le_of_eq hn.out) _).alloc (by simp[hn.out]) _).alloc (by simp[hn.out];omega) _
  ·simp[hn.out]
  ·rw[hn.out];exact Arr.of zero101 <| (Below.heap_alloc _ _ _ (by simp;omega)).trans ((Below.heap_alloc _ _ _ (by simp)).trans (heap_alloc_new w _))
  ·have h:=heap_alloc_new (w.alloc (.cells Tryz.zeroCells295 295)) (.cells Tryz.zeroCells295 295);simp only[World.size_alloc] at h;rw[hn.out];exact Arr.of zero101 <| (Below.heap_alloc _ _ _ (by simp)).trans h
  ·have h:=heap_alloc_new ((w.alloc (.cells Tryz.zeroCells295 295)).alloc (.cells Tryz.zeroCells295 295)) (.cells Tryz.zeroCells338 338);simp only[World.size_alloc] at h;rw[hn.out];exact Arr.of zero145 h
 case round=>
  obtain⟨k,hk,rfl,rfl,hbr,hsz,H0,H1,H2⟩:=hrel;by_cases hlt:k<255
  ·have hc:=H2.out.cell k (by rw[pwL_length];exact hlt);have hf:=H2.out.frozen k;obtain⟨X,hX⟩:∃ X,X=pwX k:=⟨_,rfl⟩;rw[← hX];have hxl:=X.toNat_lt;have hx:=u8_xor_nat X.toNat (twice X.toNat) hxl twice_lt;have hxb:=xor8 hxl (@twice_lt X.toNat);replace hX:=LH hX
   go_wp2_with (go_at_call 206;(with_reducible refine (twice_ok _ hxl _).mono ?_);rintro e w' ⟨rfl,rfl⟩)
   go_roundw
   case rel=>
    refine⟨k+1,by omega,by go_num,?_,hbr.setCell (by show n≤n+1+1;omega) _,by simp;omega,?_,?_,?_⟩
    ·rw[pwX,← hX.out,byte_toNat hxb]
    ·exact H0.out.keep (setCell_heap_ne _ _ _ (by simp;omega))
    ·exact H1.out.keep (setCell_heap_ne _ _ _ (by simp))
    ·show Arr _ _ _ _;rw[pwL,← hX.out];exact H2.out.set k X
   case measure=>simp[intOf];omega
  ·have hk5:k=255:=by omega
   rw[hk5] at H2;replace hk5:=LH hk5;obtain⟨X,hX⟩:∃ X,X=pwX k:=⟨_,rfl⟩;rw[← hX];clear hX;obtain⟨L,hL⟩:∃ L,L=pwL 255:=⟨_,rfl⟩;rw[← hL] at H2;have hLl:L.length=255:=hL ▸ pwL_length;replace hL:=LH hL;replace hLl:=LH hLl
   go_wp2_with (go_at_call 212;fail)
   refine (u8arg (turned_ok 0 (by omega) _) rfl).mono ?_;rintro e w1 ⟨rfl,hb⟩;have hbr:=LH hbr;have G0:=LH (H0.out.keep (hb.block n (by omega)));have G1:=LH (H1.out.keep (hb.block (n+1) (by omega)));have G2:=LH (H2.out.keep (hb.block (n+1+1) (by omega)));have hbb:=LH (hbr.out.trans (hb.mono (by have:=hbr.out.size;rw[hn.out];exact this)));have hsz1:=LH (Nat.lt_of_lt_of_le hsz hb.size);clear H0 H1 H2 hbr hb hsz;have hf0:=G0.out.frozen 0;have hc0:=G0.out.cell 0 (by decide);have hset:=G0.out.set 0 (byte (turned 0));rw[byte_toNat turned_lt] at hset;have F0:=LH hset;clear hset;have F1:=LH (G1.out.keep (setCell_heap_ne w1 ⟨n,0,none⟩ (.int .u8 (turned 0)) (k:=n+1) (by simp)));have F2:=LH (G2.out.keep (setCell_heap_ne w1 ⟨n,0,none⟩ (.int .u8 (turned 0)) (k:=n+1+1) (by simp;omega)));have fb:=LH (hbb.out.setCell (p:=⟨n,0,none⟩) (Nat.le_refl n) (.int .u8 (turned 0)))
   go_wp2_with (refine wpList_load_row rfl 338 _ rfl (n+1+1) rfl 338 _ (0,0) _ F2.out underlying338 rfl (by simp only[List.size_toArray,u8s_length,hLl.out];kernel_rfl) ?_)
   generalize decide ((k:Int)<255)=dd;have hsz2:=LH (show n+2<(w1.setCell ⟨n,0,none⟩ (.int .u8 (turned 0))).heap.size by simpa using hsz1.out);generalize w1.setCell ⟨n,0,none⟩ (.int .u8 (turned 0))=w2 at*
   go_loopw [23] (fun i wr=>∃ j:Nat,j≤255∧i=.int .i64 j∧Below n w wr∧n+2<wr.heap.size∧Hid (Arr wr n 295 (sbL j))∧Hid (Arr wr (n+1) 295 (List.replicate 256 0))∧Hid (Arr wr (n+1+1) 338 L))
    (fun i _=>255 - (intOf i).toNat)
   case atStart=>exact⟨0,by omega,rfl,fb.out,hsz2.out,F0.out,F1.out,F2.out⟩
   case round=>
    obtain⟨j,hj,rfl,hbr,hsz,H0,H1,H2⟩:=hrel;by_cases hlt:j<255
    ·have hix:(u8s L).toArray[j]?=some (.int .u8 (L.getD j 0).toNat):=by
      exact u8s_ix L j (by rw[hLl.out];exact hlt)
     have hrun:=fun (w:World) (c:UInt8) hv=>run_index_agg (P:=prog) (cs:=(u8s L).toArray) (k:=.i64) (j:=j) (v:=.int .u8 c.toNat) underlying338 (by kernel_rfl) (by kernel_rfl) (by kernel_rfl) hlt hv w
     replace hrun:=LH hrun;obtain⟨M,hM⟩:∃ M:Nat,M=(255 - j) % 255:=⟨_,rfl⟩;have hM2:(255 - (j:Int)) % 255=M:=by omega
     have hM3:M<255:=by omega
     replace hM:=LH hM;have hc2:=H2.out.cell M (by rw[hLl.out];exact hM3);obtain⟨c,hc⟩:∃ c,c=L.getD j 0:=⟨_,rfl⟩;rw[← hc] at hix;have hrn:=fun w=>hrun.out w c hix
     replace hc:=LH hc;obtain⟨d,hd⟩:∃ d,d=L.getD M 0:=⟨_,rfl⟩;rw[← hd] at hc2;replace hd:=LH hd;have hcl:=c.toNat_lt;have hdl:=d.toNat_lt
     go_wp2_with fail
     refine (turned_ok d.toNat hdl _).mono ?_;rintro e w1 ⟨rfl,hb⟩;have G0:=LH (H0.out.keep (hb.block n (by omega)));have G1:=LH (H1.out.keep (hb.block (n+1) (by omega)));have G2:=LH (H2.out.keep (hb.block (n+1+1) (by omega)));have hbb:=LH (hbr.trans (hb.mono (by have:=hbr.size;rw[hn.out];exact this)));have hsz1:=LH (Nat.lt_of_lt_of_le hsz hb.size);clear H0 H1 H2 hbr hb hsz hc2;have hf0:=G0.out.frozen c.toNat;have hc0:=G0.out.cell c.toNat (by rw[sbL_length];exact hcl);go_wp2;go_roundw
     case rel=>
      refine⟨j+1,by omega,by go_num,hbb.out.setCell (p:=⟨n,c.toNat,none⟩) (Nat.le_refl n) _,by simpa using hsz1.out,?_,G1.out.keep (setCell_heap_ne _ _ _ (by simp)),G2.out.keep (setCell_heap_ne _ _ _ (by simp;omega))⟩;have h:=G0.out.set c.toNat (byte (turned d.toNat));rw[byte_toNat turned_lt] at h;show Arr _ _ _ _;rw[sbL,pw,pw,← hL.out,← hM.out,← hc.out,← hd.out];exact h
     case measure=>simp[intOf];omega
    ·have hj5:j=255:=by omega
     rw[hj5] at H0;clear hj5 hk5 F0 F1 F2 G0 G1 G2 hbb fb hsz1 hsz2 hf0 hc0 H2;obtain⟨B,hB⟩:∃ B,B=sbL 255:=⟨_,rfl⟩;rw[← hB] at H0;have hBl:B.length=256:=hB ▸ sbL_length;replace hB:=LH hB;replace hBl:=LH hBl
     go_wp2_with (refine wpList_load_row rfl 295 _ rfl n rfl 295 _ (0,0) _ H0.out underlying295 rfl (by simp only[List.size_toArray,u8s_length,hBl.out];kernel_rfl) ?_)
     generalize decide ((j:Int)<255)=dd2;have F0:=H0;have F1:=H1;have hbr2:=LH hbr;have hsz2:=LH hsz;clear H0 H1 hbr hsz
     go_loopw [37] (fun i wr=>∃ j:Nat,j≤256∧i=.int .i64 j∧Below n w wr∧n+2<wr.heap.size∧Hid (Arr wr n 295 B)∧Hid (Arr wr (n+1) 295 (bkL j)))
      (fun i _=>256 - (intOf i).toNat)
     case atStart=>exact⟨0,by omega,rfl,hbr2.out,hsz2.out,F0.out,F1.out⟩
     case round=>
      clear F0 F1 hbr2 hsz2;obtain⟨q,hq,rfl,hbr,hsz,H0,H1⟩:=hrel;by_cases hlt:q<256
      ·have hix:(u8s B).toArray[q]?=some (.int .u8 (B.getD q 0).toNat):=by
        exact u8s_ix B q (by rw[hBl.out];exact hlt)
       have hrun:=fun (w:World) (c:UInt8) hv=>run_index_agg (P:=prog) (cs:=(u8s B).toArray) (k:=.i64) (j:=q) (v:=.int .u8 c.toNat) underlying295 (by kernel_rfl) (by kernel_rfl) (by kernel_rfl) hlt hv w
       replace hrun:=LH hrun;obtain⟨c,hc⟩:∃ c,c=B.getD q 0:=⟨_,rfl⟩;rw[← hc] at hix;have hrn:=fun w=>hrun.out w c hix
       replace hc:=LH hc;have hcl:=c.toNat_lt;have hf0:=H1.out.frozen c.toNat;have hc0:=H1.out.cell c.toNat (by rw[bkL_length];exact hcl);replace hbr:=LH hbr;go_wp2;go_roundw
       case rel=>
        refine⟨q+1,by omega,by go_num,hbr.out.setCell (p:=⟨n+1,c.toNat,none⟩) (by show n≤n+1;omega) _,by simpa using hsz,H0.out.keep (setCell_heap_ne _ _ _ (by simp)),?_⟩;have h:=H1.out.set c.toNat (byte q);rw[byte_toNat hlt] at h;show Arr _ _ _ _;rw[bkL,sb,← hB.out,← hc.out];exact h
       case measure=>simp[intOf];omega
      ·have hq5:q=256:=by omega
       rw[hq5] at H1;clear hq5;obtain⟨C,hC⟩:∃ C,C=bkL 256:=⟨_,rfl⟩;rw[← hC] at H1;have hCl:C.length=256:=hC ▸ bkL_length;replace hC:=LH hC;have hCi:(prog.info? 295).map (·.size)=some C.length:=by rw[hCl];kernel_rfl
       have hBi:(prog.info? 295).map (·.size)=some B.length:=by rw[hBl.out];kernel_rfl
       have k0:=fun (w3:World) (h:Chg No wr.drew w3)=>H0.out.keep (h.block n (by show n<wr.heap.size;omega) id)
       have k1:=fun (w3:World) (h:Chg No wr.drew w3)=>H1.out.keep (h.block (n+1) (by show n+1<wr.heap.size;omega) id)
       have hl0:=fun (w3:World) (h:Chg No wr.drew w3)=>run_loadAt_arr (P:=prog) (k0 w3 h) underlying295 hBi
       have hl1:=fun (w3:World) (h:Chg No wr.drew w3)=>run_loadAt_arr (P:=prog) (k1 w3 h) underlying295 hCi
       have hs0:=fun (w3:World) (h:Chg No wr.drew w3)=>run_storeAt_arr (P:=prog) (k0 w3 h) hBi
       have hs1:=fun (w3:World) (h:Chg No wr.drew w3)=>run_storeAt_arr (P:=prog) (k1 w3 h) hCi
       replace k0:=LH k0;replace k1:=LH k1;replace hl0:=LH hl0;replace hl1:=LH hl1;replace hs0:=LH hs0;replace hs1:=LH hs1;have hCi:=LH hCi;have hBi:=LH hBi;have hbr2:=LH hbr;clear hbr;go_wp2;refine RA.rt (Chg No) [1,1,2,2] [] (fun _=>True) trivial (fun _=>Chg.refl _ _) (fun _ _ _ h k=>h.trans k) (h:=?_);intro cx;refine RA.ld (by rfl) (by rfl) (by rfl) (y':=.agg (u8s B).toArray) (fun w3 hp=>hl0.out w3 hp.1) ?_;refine RA.ld (by rfl) (by rfl) (by rfl) (y':=.agg (u8s C).toArray) (fun w3 hp=>hl1.out w3 hp.1) ?_;refine RA.nst (by rfl) (by rfl) (fun w=>rfl) (fun _ _=>trivial) (fun w3 hp=>RA.ex_store (by rfl) (by rfl) (hs0.out w3 hp.1)) (fun u1=>?_);refine RA.nst (by rfl) (by rfl) (fun w=>rfl) (fun _ _=>trivial) (fun w3 hp=>RA.ex_store (by rfl) (by rfl) (hs1.out w3 hp.1)) (fun u2=>?_);refine RA.RA.done rfl (fun w3 hR hF hH=>?_);clear hF hH;simp only[RA.put,List.foldr_cons,List.foldr_nil,cx,Act.put,List.setIfInBounds_toArray,List.set_cons_succ,List.set_cons_zero];go_wp2;have hR:Chg No wr.drew w3:=hR;refine bodyPost_ret (v:=.tuple #[.agg (u8s B).toArray,.agg (u8s C).toArray]) ?_ rfl ⟨by rw[hB.out,hC.out],?_⟩
       ·exact results_two results205 _ w3 (a:=⟨n,0,none⟩) (b:=⟨n+1,0,none⟩) rfl rfl (run_loadVar_row w3 n _ _ _ (0,0) _ (k0.out w3 hR) underlying295 rfl (by rw[hBi.out];simp[u8s_length])) (run_loadVar_row w3 (n+1) _ _ _ (0,0) _ (k1.out w3 hR) underlying295 rfl (by rw[hCi.out];simp[u8s_length]))
       ·rw[← hn.out];have h:Below wr.heap.size wr w3:=Chg.no ⟨hR.os,hR.tape,hR.output,hR.size,hR.block⟩;exact hbr2.out.trans (h.mono (by omega))
attribute [irreducible] pwL sbL bkL
end Go.Proofs.YthmcbgidehjlbaaGreat.Fd
/-
  Blocks of bytes: what is stored into a part of one, and read of a part. No condition: a tool for the other texts.
-/
namespace Go.Proofs.YthmcbgidehjlbaaGreat.Fd
open Go Go.RowKit K
theorem splice_getD (l x:List UInt8) (off i:Nat) (h:off+x.length≤l.length):(splice l off x).getD i 0=if off≤i∧i<off+x.length then x.getD (i - off) 0 else l.getD i 0:=by
 have h1:(l.take off).length=off:=by simp;omega
 simp only[splice,List.getD];by_cases ha:i<off
 ·rw[List.getElem?_append_left (by omega),List.getElem?_take,if_pos ha,if_neg (by omega)]
 ·rw[List.getElem?_append_right (by omega),h1];by_cases hb:i<off+x.length
  ·rw[List.getElem?_append_left (by omega),if_pos ⟨by omega,hb⟩]
  ·rw[List.getElem?_append_right (by omega),List.getElem?_drop,if_neg (by omega)];congr 2;omega
section
variable {P:Program}
theorem run_storeCells_at (g off:Nat) (t:TypeId):∀ (vs:List Value) (i:Nat) (cur:Array Value) (w:World),w.heap[g]?=some (.cells cur t (0,0))→off+i+vs.length≤cur.size→(∀ v ∈ vs,v.oneCell'=true)→
  (storeCells ⟨g,off,none⟩ vs i).run P w=.ok () (w.setRow g (splice cur.toList (off+i) vs).toArray)
 | [],i,cur,w,hg,hl,_=>by
  have:splice cur.toList (off+i) []=cur.toList:=by simp[splice]
  simp only[storeCells,this,Array.toArray_toList,setRow_same hg];rfl
 | v::rest,i,cur,w,hg,hl,h1=>by
  have hi:off+i<cur.size:=by simp at hl;omega
  have hadd:(⟨g,off,none⟩:Addr).add i=⟨g,off+i,none⟩:=Addr.add_lit _ _ _;have hcell:w.cell? ⟨g,off+i,none⟩=some cur[off+i]:=by simp[World.cell?,hg,hi]
  have hfro:w.frozen? ⟨g,off+i,none⟩=false:=by simp[World.frozen?,hg]
  have hst:(store ((⟨g,off,none⟩:Addr).add i) v).run P w=.ok () (w.setRow g (cur.setIfInBounds (off+i) v)):=by
   rw[hadd,run_store P w _ v _ (h1 v (by simp)),hcell];simp[hfro,setCell_eq_setRow w g (off+i) cur t (0,0) v hg]
  have ih:=run_storeCells_at g off t rest (i+1) (cur.setIfInBounds (off+i) v) (w.setRow g (cur.setIfInBounds (off+i) v)) (setRow_heap w g cur _ t _ hg) (by simp at hl ⊢;omega) (fun x hx=>h1 x (by simp[hx]));simp only[storeCells,Sem.run_bind,hst,Result.andThen_ok,ih,setRow_setRow];congr 3;apply List.ext_getElem?;intro k;simp only[Array.toList_setIfInBounds,splice,List.getElem?_append,List.length_take,List.length_set,Array.length_toList,List.getElem?_take,List.getElem?_drop,List.getElem?_set,List.length_cons];simp only[List.length_cons] at hl;by_cases hk:k<off+i
  ·simp[hk,show k<off+(i+1) by omega,show min (off+(i+1)) cur.size=off+(i+1) by omega,show min (off+i) cur.size=off+i by omega,show off+i≠k by omega]
  ·by_cases hk2:k=off+i
   ·subst hk2;simp[show min (off+(i+1)) cur.size=off+(i+1) by omega,show min (off+i) cur.size=off+i by omega,show off+i<off+(i+1) by omega,hi]
   ·have e1:k - (off+i)=(k - (off+(i+1)))+1:=by omega
    simp[hk,show ¬ k<off+(i+1) by omega,show min (off+(i+1)) cur.size=off+(i+1) by omega,show min (off+i) cur.size=off+i by omega,e1];split
    ·rfl
    ·have e2:off+(i+1)+rest.length+(k - (off+(i+1)) - rest.length)=off+i+(rest.length+1)+(k - (off+(i+1)) - rest.length):=by omega
     rw[e2,if_neg (by omega)]
theorem run_storeVar_at {w:World}{n off:Nat}{t ty:TypeId}{l x:List UInt8}(h:Arr w n t l) (hi:(P.info? ty).map (·.size)=some x.length) (hl:off+x.length≤l.length):
  (storeVar ty ⟨n,off,none⟩ (.agg (u8s x).toArray)).run P w=.ok () (w.setRow n (u8s (splice l off x)).toArray):=by
 have:=run_storeCells_at (P:=P) n off t (u8s x) 0 _ w h (by simp[u8s_length];omega) (u8s_one x);cases hq:P.info? ty with
 | none=>simp[hq] at hi
 | some i=>
  have hs:x.length=i.size:=by simp[hq] at hi;omega
  rw[u8s_splice]
  simpa [storeVar,sizeOf,typeInfo,hq,Value.cells,u8s_length,hs] using this
theorem run_storeAt_at {w:World}{n off:Nat}{t ty:TypeId}{l x:List UInt8}(h:Arr w n t l) (hi:(P.info? ty).map (·.size)=some x.length) (hl:off+x.length≤l.length):
  (Instr.storeAt ty (.pointer (some ⟨n,off,none⟩)) (.agg (u8s x).toArray)).run P w=.ok () (w.setRow n (u8s (splice l off x)).toArray):=by
 simp only[Instr.storeAt,Instr.sureAddr,Sem.run_bind,Sem.run_pure,Result.andThen];exact run_storeVar_at h hi hl
theorem run_loadAt_cells {w:World}{g off m:Nat}{ty e:TypeId}{x:List UInt8}(hu:P.underlying ty=some (.array m e)) (hi:(P.info? ty).map (·.size)=some x.length)
  (hx:∀ j,j<x.length→w.cell? ⟨g,off+j,none⟩=some (.int .u8 (x.getD j 0).toNat)):(Instr.loadAt ty (.pointer (some ⟨g,off,none⟩))).run P w=.ok (.agg (u8s x).toArray) w:=by
 have hl2:(loadCells ⟨g,off,none⟩ (u8s x).length).run P w=.ok (u8s x).toArray w:=
  run_loadCells_list (P:=P) w ⟨g,off,none⟩ (u8s x) (fun j v hv=>by
   have hj:j<x.length:=by
    rcases Nat.lt_or_ge j x.length with hj|hj
    ·exact hj
    ·rw[List.getElem?_eq_none (by rw[u8s_length];exact hj)] at hv;cases hv
   rw[Addr.add_lit,hx j hj,← hv];simp[u8s,u8,List.getD,hj])
 have h:(loadVar ty ⟨g,off,none⟩).run P w=.ok (.agg (u8s x).toArray) w:=by
  cases hq:P.info? ty with
  | none=>simp[hq] at hi
  | some i=>
   have hs:i.size=x.length:=by simpa [hq] using hi
   have hagg:(isAgg ty).run P w=.ok true w:=by
    unfold isAgg;rw[Sem.run_bind,run_underlying hu w];simp
   rw[u8s_length] at hl2;simp[loadVar,Sem.run_bind,hagg,sizeOf,typeInfo,hq,hs,hl2]
 simp only[Instr.loadAt,Instr.sureAddr,Sem.run_bind,Sem.run_pure,Result.andThen];exact h
theorem wpList_load {w:World}{ops:Array Oper}{rest:List Oper}{o:Oper}{a:Act}{Q:Exit→Act→World→Prop}(hgd:o.guard=none) (ty:TypeId) (x:Operand) (ho:o.op=.load ty x)
  (p v:Value) (hx:a.eval x=p) (hr:(Instr.loadAt ty p).run P w=.ok v w) (h:wpList P ops Q rest (a.put o.dst v) w):wpList P ops Q (o::rest) a w:=
 wpList_plain hgd fun K hK=>by
  unfold Oper.wp execOp;simp only[ho,hx,Sem.run_bind,hr,Result.andThen_ok];exact hK _ _ h
theorem box2 (w:World) (T:TypeId) (b c:List UInt8):
  Arr ((w.alloc (.cells (u8s b).toArray T)).alloc (.cells (u8s c).toArray T)) w.heap.size T b∧Arr ((w.alloc (.cells (u8s b).toArray T)).alloc (.cells (u8s c).toArray T)) (w.heap.size+1) T c∧
   Below w.heap.size w ((w.alloc (.cells (u8s b).toArray T)).alloc (.cells (u8s c).toArray T))∧((w.alloc (.cells (u8s b).toArray T)).alloc (.cells (u8s c).toArray T)).heap.size=w.heap.size+2:=by
 refine⟨(Below.heap_alloc _ _ _ (by simp)).trans (heap_alloc_new w _),?_,((Below.refl _ _).alloc (Nat.le_refl _) _).alloc (by simp) _,by simp⟩;have h:=heap_alloc_new (w.alloc (.cells (u8s b).toArray T)) (.cells (u8s c).toArray T);simp only[World.size_alloc] at h;exact h
theorem below_setRow {B:Nat}{a w:World}(h:Below B a w){g:Nat}(hg:B≤g) (cs:Array Value):Below B a (w.setRow g cs):=
 ⟨h.os,h.tape,h.output,by simpa using h.size,fun k hk=>(setRow_other _ _ _ _ (by omega)).trans (h.block k hk)⟩
theorem wpList_store {w w':World}{ops:Array Oper}{rest:List Oper}{o:Oper}{a:Act}{Q:Exit→Act→World→Prop}(hgd:o.guard=none) (ty:TypeId) (x y:Operand) (ho:o.op=.store ty x y)
  (p q:Value) (hx:a.eval x=p) (hy:a.eval y=q) (hr:(Instr.storeAt ty p q).run P w=.ok () w') (h:wpList P ops Q rest (a.put o.dst undef) w'):wpList P ops Q (o::rest) a w:=
 wpList_plain hgd fun K hK=>by
  unfold Oper.wp execOp;simp only[ho,hx,hy,Sem.run_bind,hr,Result.andThen_ok];exact hK _ _ h
theorem Arr.setRow {w:World}{b:Nat}{t:TypeId}{l:List UInt8}(h:Arr w b t l) (l':List UInt8):Arr (w.setRow b (u8s l').toArray) b t l':=setRow_heap w b _ _ t _ h
end
end Go.Proofs.YthmcbgidehjlbaaGreat.Fd
/-
  aes: its tables. No condition beyond what each theorem names.
-/
namespace Go.Proofs.YthmcbgidehjlbaaGreat.Fd
open _root_.Go.Proofs.Tryz
open Go Go.RowKit K
set_option maxRecDepth 100000
set_option maxHeartbeats 2000000
def bk (i:Nat):UInt8:=(bkL 256).getD i 0
def mixB (a:Nat):List UInt8:=[byte (twice a),byte a,byte a,byte (mul a 3)]
def undoB (a:Nat):List UInt8:=[byte (mul a 14),byte (mul a 9),byte (mul a 13),byte (mul a 11)]
def tabC (k i:Nat):UInt8:=
 if i<256 then sb i else if i<512 then bk (i - 256)
 else if i<1536 then (if (i - 512) / 4<k then (mixB ((i - 512) / 4)).getD ((i - 512) % 4) 0 else 0)
 else (if (i - 1536) / 4<k then (undoB ((i - 1536) / 4)).getD ((i - 1536) % 4) 0 else 0)
def TabL (k:Nat) (l:List UInt8):Prop:=l.length=2560∧∀ i,i<2560→l.getD i 0=tabC k i
theorem tabL_zero:TabL 0 (splice (splice (List.replicate 2560 0) 0 (sbL 255)) 256 (bkL 256)):=by
 have h0:(List.replicate 2560 (0:UInt8)).length=2560:=List.length_replicate;have h1:(splice (List.replicate 2560 0) 0 (sbL 255)).length=2560:=by rw[length_splice _ _ _ (by rw[h0,sbL_length];omega),h0]
 refine⟨by rw[length_splice _ _ _ (by rw[h1,bkL_length];omega),h1],fun i hi=>?_⟩;rw[splice_getD _ _ _ _ (by rw[h1,bkL_length];omega),splice_getD _ _ _ _ (by rw[h0,sbL_length];omega),bkL_length,sbL_length];unfold tabC;by_cases a1:i<256
 ·rw[if_neg (by omega),if_pos (by omega),if_pos a1];rfl
 ·by_cases a2:i<512
  ·rw[if_pos (by omega),if_neg a1,if_pos a2];rfl
  ·rw[if_neg (by omega),if_neg (by omega),if_neg a1,if_neg a2]
   have e:(List.replicate 2560 (0:UInt8)).getD i 0=0:=by
    rw[List.getD,List.getElem?_replicate,if_pos hi];rfl
   rw[e];split
   ·rw[if_neg (by omega)]
   ·rw[if_neg (by omega)]
theorem tabL_step {k:Nat}{l:List UInt8}(hk:k<256) (h:TabL k l):TabL (k+1) (splice (splice l (512+4*k) (mixB k)) (1536+4*k) (undoB k)):=by
 have hm:(mixB k).length=4:=rfl;have hu:(undoB k).length=4:=rfl;have h1:(splice l (512+4*k) (mixB k)).length=2560:=by rw[length_splice _ _ _ (by rw[h.1,hm];omega),h.1]
 refine⟨by rw[length_splice _ _ _ (by rw[h1,hu];omega),h1],fun i hi=>?_⟩;rw[splice_getD _ _ _ _ (by rw[h1,hu];omega),splice_getD _ _ _ _ (by rw[h.1,hm];omega),h.2 i hi,hm,hu];unfold tabC;by_cases a1:i<256
 ·rw[if_neg (by omega),if_neg (by omega),if_pos a1,if_pos a1]
 ·by_cases a2:i<512
  ·rw[if_neg (by omega),if_neg (by omega),if_neg a1,if_neg a1,if_pos a2,if_pos a2]
  ·rw[if_neg a1,if_neg a1,if_neg a2,if_neg a2];by_cases a3:i<1536
   ·rw[if_neg (by omega),if_pos a3,if_pos a3];by_cases a4:512+4*k≤i∧i<512+4*k+4
    ·have e1:(i - 512) / 4=k:=by omega
     have e2:(i - 512) % 4=i - (512+4*k):=by omega
     rw[if_pos a4,e1,e2,if_pos (by omega)]
    ·rw[if_neg a4];by_cases a5:(i - 512) / 4<k
     ·rw[if_pos a5,if_pos (by omega)]
     ·rw[if_neg a5,if_neg (by omega)]
   ·rw[if_neg a3,if_neg a3,if_neg (by omega:¬ (512+4*k≤i∧i<512+4*k+4))];by_cases a4:1536+4*k≤i∧i<1536+4*k+4
    ·have e1:(i - 1536) / 4=k:=by omega
     have e2:(i - 1536) % 4=i - (1536+4*k):=by omega
     rw[if_pos a4,e1,e2,if_pos (by omega)]
    ·rw[if_neg a4];by_cases a5:(i - 1536) / 4<k
     ·rw[if_pos a5,if_pos (by omega)]
     ·rw[if_neg a5,if_neg (by omega)]
def Tabs (w:World) (b k:Nat):Prop:=∃ l,Arr w b 299 l∧TabL k l
theorem zero105:Tryz.zeroCells299=(u8s (List.replicate 2560 0)).toArray:=by kernel_rfl
theorem size101 {l:List UInt8}(h:l.length=256):(prog.info? 295).map (·.size)=some l.length:=by rw[h];kernel_rfl
theorem size102 {l:List UInt8}(h:l.length=4):(prog.info? 296).map (·.size)=some l.length:=by rw[h];kernel_rfl
def TabSt (w:World) (n k:Nat) (x:World):Prop:=Below n w x∧n<x.heap.size∧Tabs x n k
theorem TabSt.drew {w:World}{n k:Nat}{x:World}(h:TabSt w n k x):TabSt w n k x.drew:=⟨⟨h.1.os,h.1.tape,h.1.output,h.1.size,h.1.block⟩,h.2⟩
def TabMid (w:World) (n k:Nat) (x:World):Prop:=Below n w x∧n<x.heap.size∧∃ l,TabL k l∧Arr x n 299 (splice l (512+4*k) (mixB k))
theorem TabMid.drew {w:World}{n k:Nat}{x:World}(h:TabMid w n k x):TabMid w n k x.drew:=⟨⟨h.1.os,h.1.tape,h.1.output,h.1.size,h.1.block⟩,h.2⟩
theorem mix_store {w:World}{n k:Nat}{x:World}(hn:n≤n) (h:TabSt w n k x) (hk:k<256):
  ∃ x',(Instr.storeAt 296 (.pointer (some ⟨n,512+4*k,none⟩)) (.agg #[.int .u8 (twice k),.int .u8 k,.int .u8 k,.int .u8 (mul k 3)])).run prog x=.ok () x'∧Chg (·=n) x x'∧TabMid w n k x':=by
 obtain⟨hb,hs,l,hA,hL⟩:=h
 have e:(u8s (mixB k)).toArray=#[.int .u8 (twice k),.int .u8 k,.int .u8 k,.int .u8 (mul k 3)]:=by
  simp[u8s,u8,mixB,byte_toNat (@twice_lt k),byte_toNat hk,byte_toNat (@mul_lt k 3 hk)]
 have hr:=run_storeAt_at (P:=prog) (off:=512+4*k) hA (size102 (l:=mixB k) rfl) (by rw[hL.1];show 512+4*k+4≤2560;omega);rw[e] at hr;exact⟨_,hr,Chg.setRow (C:=(·=n)) (Chg.refl _ x) (fun _=>rfl) _,below_setRow hb hn _,by simpa using hs,l,hL,hA.setRow _⟩
theorem undo_store {w:World}{n k:Nat}{x:World}(hn:n≤n) (h:TabMid w n k x) (hk:k<256):
  ∃ x',(Instr.storeAt 296 (.pointer (some ⟨n,1536+4*k,none⟩)) (.agg #[.int .u8 (mul k 14),.int .u8 (mul k 9),.int .u8 (mul k 13),.int .u8 (mul k 11)])).run prog x=.ok () x'∧Chg (·=n) x x'∧TabSt w n (k+1) x':=by
 obtain⟨hb,hs,l,hL,hA⟩:=h
 have e:(u8s (undoB k)).toArray=#[.int .u8 (mul k 14),.int .u8 (mul k 9),.int .u8 (mul k 13),.int .u8 (mul k 11)]:=by
  simp[u8s,u8,undoB,byte_toNat (mul_lt hk)]
 have hl:(splice l (512+4*k) (mixB k)).length=2560:=by rw[length_splice _ _ _ (by rw[hL.1];show 512+4*k+4≤2560;omega),hL.1]
 have hr:=run_storeAt_at (P:=prog) (off:=1536+4*k) hA (size102 (l:=undoB k) rfl) (by rw[hl];show 1536+4*k+4≤2560;omega);rw[e] at hr;exact⟨_,hr,Chg.setRow (C:=(·=n)) (Chg.refl _ x) (fun _=>rfl) _,below_setRow hb hn _,by simpa using hs,_,hA.setRow _,tabL_step hk hL⟩
theorem made_ok (w:World):Calls prog 197 #[] w fun e w'=>∃ b,e=.returned (.pointer (some ⟨b,0,none⟩))∧w.heap.size≤b∧Tabs w' b 256∧Below w.heap.size w w':=by
 obtain⟨n,hn⟩:∃ n,n=w.heap.size:=⟨_,rfl⟩;have HN:=LH hn;go_enter func197,ntmps197
 go_wp2_with (go_at_call 205;fail)
 rw[← HN.out];clear hn;refine (tables_ok _).mono ?_;rintro e w1 ⟨rfl,hb⟩;have hT0:=LH tabL_zero;have hBl:=@sbL_length 255;have hCl:=@bkL_length 256;generalize sbL 255=B at*;generalize bkL 256=C at*;obtain⟨Z,hZ⟩:∃ Z,Z=List.replicate 2560 (0:UInt8):=⟨_,rfl⟩;rw[← hZ] at hT0;have hZl:Z.length=2560:=by rw[hZ,List.length_replicate]
 have hsz:n<(w.alloc (.cells Tryz.zeroCells299 299)).heap.size:=by simp[HN.out]
 have ha:Arr w1 n 299 Z:=by
  rw[hZ];refine Arr.of zero105 ((hb.block n hsz).trans ?_);rw[HN.out];exact heap_alloc_new w _
 have hbw:Below n w w1:=((Below.refl _ _).alloc (Nat.le_of_eq HN.out) _).trans (hb.mono (by omega));have hs1:=run_storeAt_at (P:=prog) (off:=0) ha (size101 hBl) (by omega);have ha1:=ha.setRow (splice Z 0 B);have hs2:=run_storeAt_at (P:=prog) (off:=256) ha1 (size101 hCl) (by rw[length_splice _ _ _ (by omega)];omega);have ha2:=ha1.setRow (splice (splice Z 0 B) 256 C);rw[setRow_setRow] at ha2 hs2;obtain⟨w2,hw2⟩:∃ w2,w2=w1.setRow n (u8s (splice (splice Z 0 B) 256 C)).toArray:=⟨_,rfl⟩;rw[← hw2] at ha2 hs2;have hT:=LH (show Tabs w2 n 0 from ⟨_,ha2,hT0.out⟩);have hsz2:=LH (show n<w2.heap.size by rw[hw2,setRow_size];exact Nat.lt_of_lt_of_le hsz hb.size);have hb2:=LH (show Below n w w2 by rw[hw2];exact below_setRow hbw (Nat.le_refl n) _);clear hw2 hT0 hBl hCl hZ hZl;clear hbw ha ha1 ha2 hsz hb;replace hs1:=LH hs1;replace hs2:=LH hs2
 go_wp2_with (first|(refine wpList_store rfl 295 _ _ rfl _ _ rfl rfl hs1.out ?_)|(refine wpList_store rfl 295 _ _ rfl _ _ rfl rfl hs2.out ?_))
 clear hs1 hs2
 go_loopw [16] (fun i wr=>∃ k:Nat,k≤256∧i=.int .i64 k∧TabSt w n k wr)
  (fun i _=>256 - (intOf i).toNat)
 case atStart=>exact⟨0,by omega,rfl,hb2.out,hsz2.out,hT.out⟩
 case round=>
  clear hT hsz2 hb2;obtain⟨k,hk,rfl,hst⟩:=hrel;replace hst:=LH hst;by_cases hlt:k<256
  ·go_wp2;refine RA.region (fun a b=>Chg (·=n) a b) (·=·) [1,1,1,4,1,1,1,4,1,1,1,1,4] (fun _ _ _=>True) (TabSt w n k) (by kernel_rfl) (Chg.refl _ _) (fun _ _ h=>h ▸ Chg.refl _ _) (fun _ _ _ h k=>h.trans k) (fun _ _ h k=>h ▸ k) (hst.out.drew) (by kernel_rfl) ?_;intro cx
   repeat (first|refine RA.mv (by rfl) (by rfl) (by rfl) ?_|refine RA.as (by rfl) (by rfl) (by rfl) ?_|refine RA.pt (by rfl) (by rfl) (by rfl) (by rfl) ?_|refine RA.pf (by rfl) (by rfl) (by rfl) (by rfl) ?_)
   refine RA.kc (P:=prog) [.int .u8 (k:Int)] (.int .u8 (twice k)) (TabSt w n k) (fun _ _=>by go_simp) (by rfl) (by rfl) (by rfl) (by kernel_rfl) (fun _ _ h k=>h ▸ k) rfl (fun w3 hp hH=>(twice_ok k hlt _).mono (by rintro e w4 ⟨rfl,rfl⟩;exact⟨rfl,Chg.refl _ _,hH⟩)) ?_
   repeat (first|refine RA.mv (by rfl) (by rfl) (by rfl) ?_|refine RA.as (by rfl) (by rfl) (by rfl) ?_|refine RA.pt (by rfl) (by rfl) (by rfl) (by rfl) ?_|refine RA.pf (by rfl) (by rfl) (by rfl) (by rfl) ?_)
   refine RA.kc (P:=prog) [.int .u8 (k:Int),.int .u8 3] (.int .u8 (mul k 3)) (TabSt w n k) (fun _ _=>by go_simp) (by rfl) (by rfl) (by rfl) (by kernel_rfl) (fun _ _ h k=>h ▸ k) rfl (fun w3 hp hH=>(mul_ok k 3 hlt (by omega) _).mono (by rintro e w4 ⟨rfl,rfl⟩;exact⟨rfl,Chg.refl _ _,hH⟩)) ?_;refine RA.v prog (x:=.agg #[.int .u8 (twice k),.int .u8 k,.int .u8 k,.int .u8 (mul k 3)]) (by rfl) (by rfl) (by rfl) (fun w hp=>by go_simp) ?_;simp only[RA.add];refine RA.nc (by rfl) (by rfl) (by rfl) ?_;refine RA.fa (by rfl) (by rfl) (by rfl) (y':=.pointer (some ⟨n,512,none⟩)) (fun w3 hp=>by show (Instr.fieldAt _ _ _).run prog w3=_;go_simp) ?_;refine RA.ia (by rfl) (by rfl) (by rfl) (by rfl) (y':=.pointer (some ⟨n,512+4*k,none⟩)) (fun w3 hp=>by show (Instr.indexAt _ _ _).run prog w3=_;go_simp) ?_;refine RA.st (TabMid w n k) (by rfl) (by rfl) (by kernel_rfl) (fun _ _ h k=>h ▸ k) (fun w3 hp hH=>?_) ?_
   ·obtain⟨x',h1,h2,h3⟩:=mix_store (Nat.le_refl n) hH hlt;exact⟨x',RA.ex_store (by rfl) (by rfl) h1,h2,h3⟩
   refine RA.RA.done rfl (fun w3 hR hF hH=>?_);clear hF;simp only[RA.put,List.foldr_cons,List.foldr_nil,cx,Act.put,List.setIfInBounds_toArray,List.set_cons_succ,List.set_cons_zero];replace hH:=LH hH;clear hst;go_wp2;refine RA.region (fun a b=>Chg (·=n) a b) (·=·) [1,1,1,4,1,4,1,4,1,4,1,1,1,1,4] (fun _ _ _=>True) (TabMid w n k) (by kernel_rfl) (Chg.refl _ _) (fun _ _ h=>h ▸ Chg.refl _ _) (fun _ _ _ h k=>h.trans k) (fun _ _ h k=>h ▸ k) (hH.out.drew) (by kernel_rfl) ?_;intro cx
   repeat (first|refine RA.mv (by rfl) (by rfl) (by rfl) ?_|refine RA.as (by rfl) (by rfl) (by rfl) ?_|refine RA.pt (by rfl) (by rfl) (by rfl) (by rfl) ?_|refine RA.pf (by rfl) (by rfl) (by rfl) (by rfl) ?_)
   refine RA.kc (P:=prog) [.int .u8 (k:Int),.int .u8 14] (.int .u8 (mul k 14)) (TabMid w n k) (fun _ _=>by go_simp) (by rfl) (by rfl) (by rfl) (by kernel_rfl) (fun _ _ h k=>h ▸ k) rfl (fun w3 hp hH=>(mul_ok k 14 hlt (by omega) _).mono (by rintro e w4 ⟨rfl,rfl⟩;exact⟨rfl,Chg.refl _ _,hH⟩)) ?_
   repeat (first|refine RA.mv (by rfl) (by rfl) (by rfl) ?_|refine RA.as (by rfl) (by rfl) (by rfl) ?_|refine RA.pt (by rfl) (by rfl) (by rfl) (by rfl) ?_|refine RA.pf (by rfl) (by rfl) (by rfl) (by rfl) ?_)
   refine RA.kc (P:=prog) [.int .u8 (k:Int),.int .u8 9] (.int .u8 (mul k 9)) (TabMid w n k) (fun _ _=>by go_simp) (by rfl) (by rfl) (by rfl) (by kernel_rfl) (fun _ _ h k=>h ▸ k) rfl (fun w3 hp hH=>(mul_ok k 9 hlt (by omega) _).mono (by rintro e w4 ⟨rfl,rfl⟩;exact⟨rfl,Chg.refl _ _,hH⟩)) ?_
   repeat (first|refine RA.mv (by rfl) (by rfl) (by rfl) ?_|refine RA.as (by rfl) (by rfl) (by rfl) ?_|refine RA.pt (by rfl) (by rfl) (by rfl) (by rfl) ?_|refine RA.pf (by rfl) (by rfl) (by rfl) (by rfl) ?_)
   refine RA.kc (P:=prog) [.int .u8 (k:Int),.int .u8 13] (.int .u8 (mul k 13)) (TabMid w n k) (fun _ _=>by go_simp) (by rfl) (by rfl) (by rfl) (by kernel_rfl) (fun _ _ h k=>h ▸ k) rfl (fun w3 hp hH=>(mul_ok k 13 hlt (by omega) _).mono (by rintro e w4 ⟨rfl,rfl⟩;exact⟨rfl,Chg.refl _ _,hH⟩)) ?_
   repeat (first|refine RA.mv (by rfl) (by rfl) (by rfl) ?_|refine RA.as (by rfl) (by rfl) (by rfl) ?_|refine RA.pt (by rfl) (by rfl) (by rfl) (by rfl) ?_|refine RA.pf (by rfl) (by rfl) (by rfl) (by rfl) ?_)
   refine RA.kc (P:=prog) [.int .u8 (k:Int),.int .u8 11] (.int .u8 (mul k 11)) (TabMid w n k) (fun _ _=>by go_simp) (by rfl) (by rfl) (by rfl) (by kernel_rfl) (fun _ _ h k=>h ▸ k) rfl (fun w3 hp hH=>(mul_ok k 11 hlt (by omega) _).mono (by rintro e w4 ⟨rfl,rfl⟩;exact⟨rfl,Chg.refl _ _,hH⟩)) ?_;refine RA.v prog (x:=.agg #[.int .u8 (mul k 14),.int .u8 (mul k 9),.int .u8 (mul k 13),.int .u8 (mul k 11)]) (by rfl) (by rfl) (by rfl) (fun w hp=>by go_simp) ?_;simp only[RA.add];refine RA.nc (by rfl) (by rfl) (by rfl) ?_;refine RA.fa (by rfl) (by rfl) (by rfl) (y':=.pointer (some ⟨n,1536,none⟩)) (fun w3 hp=>by show (Instr.fieldAt _ _ _).run prog w3=_;go_simp) ?_;refine RA.ia (by rfl) (by rfl) (by rfl) (by rfl) (y':=.pointer (some ⟨n,1536+4*k,none⟩)) (fun w3 hp=>by show (Instr.indexAt _ _ _).run prog w3=_;go_simp) ?_;refine RA.st (TabSt w n (k+1)) (by rfl) (by rfl) (by kernel_rfl) (fun _ _ h k=>h ▸ k) (fun w3 hp hH=>?_) ?_
   ·obtain⟨x',h1,h2,h3⟩:=undo_store (Nat.le_refl n) hH hlt;exact⟨x',RA.ex_store (by rfl) (by rfl) h1,h2,h3⟩
   clear hH;refine RA.RA.done rfl (fun w4 hR hF hH=>?_);clear hF;simp only[RA.put,List.foldr_cons,List.foldr_nil,cx,Act.put,List.setIfInBounds_toArray,List.set_cons_succ,List.set_cons_zero];replace hH:=LH hH;go_wp2;go_roundw
   case rel=>exact⟨k+1,by omega,by go_num,hH.out⟩
   case measure=>simp[intOf];omega
  ·go_wp2;go_ret;obtain⟨hb,_,hT⟩:=hst.out;have hk2:k=256:=by omega
   subst hk2;exact⟨n,rfl,Nat.le_of_eq HN.out.symm,hT,HN.out ▸ hb⟩
end Go.Proofs.YthmcbgidehjlbaaGreat.Fd
/-
  aes: a cipher, and what its functions do. No condition beyond what each theorem names.
-/
namespace Go.Proofs.YthmcbgidehjlbaaGreat.Fd
open _root_.Go.Proofs.Tryz
open Go Go.RowKit K
set_option maxRecDepth 100000
set_option maxHeartbeats 4000000
def u32s (l:List UInt32):List Value:=l.map fun x=>.int .u32 x.toNat
theorem u32s_get (l:List UInt32) (j:Nat) (h:j<l.length):(u32s l)[j]?=some (.int .u32 (l.getD j 0).toNat):=by simp[u32s,List.getD,h]
structure CipherAt (w:World) (F:Nat→Prop) (p b:Nat) (kv:Value) (ks:List UInt32):Prop where
 box:w.heap[p]?=some (.cells #[.pointer (some ⟨b,0,none⟩),kv] 294 (0,0))
 own:F p
 tab:Tabs w b 256
 tabF:F b
 few:ks.length≤1000
 keys:Cells w F kv ks.length 1 (u32s ks)
theorem CipherAt.keep {w w':World}{F:Nat→Prop}{p b:Nat}{kv:Value}{ks:List UInt32}(h:CipherAt w F p b kv ks) (hs:w.heap.size≤w'.heap.size) (hk:∀ g,F g→g<w.heap.size→w'.heap[g]?=w.heap[g]?):CipherAt w' F p b kv ks:=by
 obtain⟨l,hA,hL⟩:=h.tab;exact⟨(hk p h.own (heap_lt h.box)).trans h.box,h.own,⟨l,hA.keep (hk b h.tabF (heap_lt hA)),hL⟩,h.tabF,h.few,Cells.keep h.keys hs hk⟩
def roundsN (ks:List UInt32):Nat:=ks.length / 4 - 1
def addC (b:List UInt8) (ks:List UInt32) (r i:Nat):UInt8:=byte ((b.getD i 0).toNat ^^^ (ks.getD (4*r+i / 4) 0).toNat / 2 ^ (24 - 8*(i % 4)) % 256)
def addL (b:List UInt8) (ks:List UInt32) (r:Nat):Nat→List UInt8
 | 0=>b
 | k+1=>(addL b ks r k).set k (addC b ks r k)
theorem addL_length {b:List UInt8}{ks:List UInt32}{r k:Nat}:(addL b ks r k).length=b.length:=by
 induction k with
 | zero=>rfl
 | succ k ih=>exact List.length_set.trans ih
theorem addL_get {b:List UInt8}{ks:List UInt32}{r k i:Nat}(h:k≤i):(addL b ks r k).getD i 0=b.getD i 0:=by
 induction k with
 | zero=>rfl
 | succ k ih=>
  rw[addL,List.getD,List.getElem?_set_ne (by omega),← List.getD,ih (by omega)]
theorem size61 {l:List UInt8}(h:l.length=16):(prog.info? 179).map (·.size)=some l.length:=by rw[h];kernel_rfl
theorem add_ok {w:World}{F:Nat→Prop}{p tb:Nat}{kv:Value}{ks:List UInt32}(h:CipherAt w F p tb kv ks) (b:List UInt8) (hb:b.length=16) (r:Nat) (hr:4*r+4≤ks.length):
  Calls prog 182 #[.pointer (some ⟨p,0,none⟩),.agg (u8s b).toArray,.int .i64 r] w fun e w'=>e=.returned (.agg (u8s (addL b ks r 16)).toArray)∧Below w.heap.size w w':=by
 obtain⟨n,hn⟩:∃ n,n=w.heap.size:=⟨_,rfl⟩;have HN:=LH hn;have hfew:=h.few;have hpl:=heap_lt h.box;rw[← hn] at hpl;have H:=LH h;clear h hn;obtain⟨V,hV⟩:∃ V,V=(u8s b).toArray:=⟨_,rfl⟩;rw[← hV];replace hV:=LH hV;go_enter func182,ntmps182;go_wp2
 go_loopw [8] (fun i wr=>∃ k:Nat,k≤16∧i=.int .i64 k∧Below n w wr∧n+1<wr.heap.size∧Hid (Arr wr n 179 (addL b ks r k))∧Hid (Arr wr (n+1) 179 (List.replicate 16 0)))
  (fun i _=>16 - (intOf i).toNat)
 case atStart=>
  refine⟨0,by omega,rfl,?_,?_,?_,?_⟩
  ·rw[HN.out];exact ((Below.refl _ _).alloc (Nat.le_refl _) _).alloc (by simp) _
  ·simp[HN.out]
  ·rw[HN.out];exact Arr.of hV.out ((Below.heap_alloc _ _ _ (by simp)).trans (heap_alloc_new w _))
  ·have h:=heap_alloc_new (w.alloc (.cells V 179)) (.cells (u8s (List.replicate 16 0)).toArray 179);simp only[World.size_alloc] at h;rw[HN.out];exact h
 case round=>
  obtain⟨k,hk,rfl,hbr,hsz,H0,H1⟩:=hrel;rw[← HN.out];by_cases hlt:k<16
  ·have hc:=LH (H.out.keep (w':=wr) (by have:=hbr.size;exact this) (fun g hg hl=>hbr.block g (by rw[HN.out];exact hl)));obtain⟨q,hq⟩:∃ q,q=k / 4:=⟨_,rfl⟩;obtain⟨j,hj⟩:∃ j,j=k % 4:=⟨_,rfl⟩;obtain⟨s,hs⟩:∃ s,s=24 - 8*j:=⟨_,rfl⟩;have hj4:j<4:=by omega
   obtain⟨M,hM⟩:∃ M,M=4*r+q:=⟨_,rfl⟩;have hix:M<ks.length:=by omega
   obtain⟨g,off,cap,rfl,hcap1,hcap2,_,hgl,hcells⟩:=Cells.at hc.out.keys (by omega);have hw:=hcells _ _ (u32s_get ks _ hix);have HCL:=LH hcells;clear hcells;obtain⟨W,hW⟩:∃ W,W=(ks.getD M 0).toNat:=⟨_,rfl⟩;rw[← hW] at hw;obtain⟨B,hB⟩:∃ B,B=(b.getD k 0).toNat:=⟨_,rfl⟩;have hWl:W<4294967296:=hW ▸ UInt32.toNat_lt _;have hBl:B<256:=hB ▸ UInt8.toNat_lt _;obtain⟨D,hD⟩:∃ D,D=W / 2 ^ s % 256:=⟨_,rfl⟩;have hDl:D<256:=by omega
   have hD2:(W:Int) / 2 ^ s % 256=D:=by rw[hD];simp
   have hx:=u8_xor_nat B D hBl hDl;replace hD:=LH hD;have hcb:=H0.out.cell k (by rw[addL_length,hb];exact hlt);rw[addL_get (Nat.le_refl k),← hB] at hcb;have hpb:=cell_of hc.out.box 1;have hd:(k:Int) / 4=q:=by omega
   have hm:(k:Int) % 4=j:=by omega
   have hm2:(k:Int).tmod 4=j:=by rw[Int.tmod_eq_emod_of_nonneg (by omega)];exact hm
   have hmin:min s 32=s:=by omega
   have hnn:n<wr.heap.size:=by omega
   have hpp:p<wr.heap.size:=heap_lt hc.out.box;replace hq:=LH hq;replace hM:=LH hM;replace hj:=LH hj;replace hs:=LH hs;replace hW:=LH hW;replace hB:=LH hB;replace hw:=LH hw;replace hcb:=LH hcb;replace hpb:=LH hpb;have hdr:∀ w3,Chg No wr.drew w3→Chg No wr w3:=fun w3 h=>⟨h.os,h.tape,h.output,h.size,h.block⟩
   replace hdr:=LH hdr;replace hbr:=LH hbr;go_wp2;refine RA.rt (Chg No) [1,1,1,1,1,1,1,1,1,1,1,1,1,1,1,1,1,1,1,1,1,1,7] [22] (fun _=>True) (trivial) (fun _=>Chg.refl _ _) (fun _ _ _ h k=>h.trans k) (h:=?_);intro cx
   repeat refine RA.qq (h:=?_)
   refine RA.ik prog (n) (k) (h:=?_);refine RA.lk prog (.int .u8 B) (hc:=fun w3 hp=>by exact ((hdr.out _ hp.1).cell (p:=⟨n,k,none⟩) hnn id).trans hcb.out) (h:=?_)
   repeat refine RA.qq (h:=?_)
   refine RA.fk prog (p) (1) (h:=?_);refine RA.lk prog (.slice (some ⟨g,off,none⟩) ks.length cap) (hc:=fun w3 hp=>by exact ((hdr.out _ hp.1).cell (p:=⟨p,1,none⟩) hpp id).trans hpb.out) (h:=?_)
   repeat refine RA.qq (h:=?_)
   refine RA.mi (by kernel_rfl) (by rfl) (by rfl) (by rfl) (4*(r:Int)) (rfl) (by omega) ?_
   repeat refine RA.qq (h:=?_)
   refine RA.vw prog (.int .i64 q) (h:=?_);refine RA.ai (by kernel_rfl) (by rfl) (by rfl) (by rfl) ((M:Int)) (by have:=hM.out;omega) (by omega) ?_;refine RA.ik prog (g) (off+M) (h:=?_);refine RA.lk prog (.int .u32 W) (hc:=fun w3 hp=>by exact ((hdr.out _ hp.1).cell (p:=⟨g,off+M,none⟩) hgl id).trans hw.out) (h:=?_)
   repeat refine RA.qq (h:=?_)
   refine RA.vw prog (.int .i64 j) (h:=?_);refine RA.mi (by kernel_rfl) (by rfl) (by rfl) (by rfl) (8*(j:Int)) (rfl) (by omega) ?_;refine RA.si (by kernel_rfl) (by rfl) (by rfl) (by rfl) ((s:Int)) (by have:=hs.out;omega) (by have:=hs.out;omega) ?_;refine RA.vw prog (.int .u32 ((W:Int) / 2 ^ s)) (h:=?_);refine RA.vw prog (.int .u8 D) (h:=?_);refine RA.vw prog (.int .u8 ((B ^^^ D:Nat):Int)) (h:=?_);refine RA.ik prog (n) (k) (h:=?_);refine RA.stt (fun w4=>Below n w w4∧n+1<w4.heap.size∧Arr w4 n 179 (addL b ks r (k+1))∧Arr w4 (n+1) 179 (List.replicate 16 0)) (by rfl) (by rfl) (by kernel_rfl) (fun _ _ h k=>h ▸ k) (fun w3 hp _=>?_) ?_
   ·have hR:=hdr.out _ (hp.first (by kernel_rfl)).1;have A0:=H0.out.keep (hR.block n hnn id);have A1:=H1.out.keep (hR.block (n+1) hsz id);have f0:=A0.frozen k;have c0:=A0.cell k (by rw[addL_length,hb];exact hlt);have hset:=A0.set k (byte (B ^^^ D));have hxl:=xor8 hBl hDl;rw[byte_toNat hxl] at hset;have e:(Instr.storeAt 5 (.pointer (some ⟨n,k,none⟩)) (.int .u8 ((B ^^^ D:Nat):Int))).run prog w3=.ok () (w3.setCell ⟨n,k,none⟩ (.int .u8 ((B ^^^ D:Nat):Int))):=by go_simp
    refine⟨_,RA.ex_store (by rfl) (by rfl) e,(hbr.out.trans ((Chg.no hR).mono (by have:=hbr.out.size;rw[HN.out];exact this))).setCell (p:=⟨n,k,none⟩) (Nat.le_refl n) _,?_,?_,A1.keep (setCell_heap_ne _ _ _ (by simp))⟩
    ·have:=hR.size;simp;omega
    ·rw[addL,addC,← hq.out,← hj.out,← hM.out,← hs.out,← hW.out,← hB.out,← hD.out];exact hset
   refine RA.RA.doneT (fun w3 hH=>?_);simp only[RA.put,List.foldr_cons,List.foldr_nil,cx,Act.put,List.setIfInBounds_toArray,List.set_cons_succ,List.set_cons_zero];replace hH:=LH hH;go_wp2;go_roundw
   case rel=>exact⟨k+1,by omega,by go_num,hH.out.1,hH.out.2.1,hH.out.2.2.1,hH.out.2.2.2⟩
   case measure=>simp[intOf];omega
  ·have hk6:k=16:=by omega
   rw[hk6] at H0;clear hk6;obtain⟨L,hL⟩:∃ L,L=addL b ks r 16:=⟨_,rfl⟩;rw[← hL] at H0;have hLl:L.length=16:=hL ▸ addL_length.trans hb;replace hL:=LH hL;have hst:=run_storeAt_at (P:=prog) (off:=0) (x:=L) H1.out (size61 hLl) (by rw[hLl,List.length_replicate];omega)
   have hsp:splice (List.replicate 16 0) 0 L=L:=by
    simp only[splice,List.take_zero,List.nil_append];rw[List.drop_eq_nil_of_le (by rw[hLl,List.length_replicate];omega),List.append_nil]
   rw[hsp] at hst;have hfin:=H1.out.setRow L;have hi:=size61 hLl;replace hst:=LH hst;replace hfin:=LH hfin;replace hi:=LH hi;replace hbr:=LH hbr
   go_wp2_with (first
    | (refine wpList_load_row rfl 179 _ rfl n rfl 179 _ (0,0) _ H0.out underlying179 rfl (by rw[hi.out];simp[u8s_length]) ?_)
    | (refine wpList_store rfl 179 _ _ rfl _ _ rfl rfl hst.out ?_))
   refine bodyPost_ret (results_cell_row results182 _ _ (n+1) 179 _ (0,0) _ rfl hfin.out underlying179 rfl (by rw[hi.out];simp[u8s_length])) rfl ⟨by rw[hL.out],?_⟩;exact below_setRow (HN.out ▸ hbr.out) (by rw[HN.out];omega) _
end Go.Proofs.YthmcbgidehjlbaaGreat.Fd
/-
  tweak: as plain lists. No condition beyond what each theorem names.
-/
namespace Go.Proofs.YthmcbgidehjlbaaGreat.Fd
open _root_.Go.Proofs.Tryz
open Go Go.RowKit K
set_option maxRecDepth 100000
set_option maxHeartbeats 4000000
def carryAt (b:List UInt8) (k:Nat):Nat:=if k=0 then 0 else (b.getD (k - 1) 0).toNat / 128
theorem carryAt_lt {b:List UInt8}{k:Nat}:carryAt b k<2:=by
 unfold carryAt;split
 ·omega
 ·have:=(b.getD (k - 1) 0).toNat_lt;omega
def dblL (b:List UInt8):Nat→List UInt8
 | 0=>List.replicate 16 0
 | k+1=>(dblL b k).set k (byte (((b.getD k 0).toNat*2 % 256) ||| carryAt b k))
theorem dblL_length {b:List UInt8}{k:Nat}:(dblL b k).length=16:=by
 induction k with
 | zero=>exact List.length_replicate
 | succ k ih=>exact List.length_set.trans ih
def double (b:List UInt8):List UInt8:=if carryAt b 16=0 then dblL b 16 else (dblL b 16).set 0 (byte (((dblL b 16).getD 0 0).toNat ^^^ 135))
theorem double_length {b:List UInt8}:(double b).length=16:=by
 unfold double;split
 ·exact dblL_length
 ·exact List.length_set.trans dblL_length
theorem double_ok (b:List UInt8) (hb:b.length=16) (w:World):
  Calls prog 192 #[.agg (u8s b).toArray] w fun e w'=>e=.returned (.agg (u8s (double b)).toArray)∧Below w.heap.size w w':=by
 obtain⟨n,hn⟩:∃ n,n=w.heap.size:=⟨_,rfl⟩;have HN:=LH hn;have HX:=LH (box2 w 179 b (List.replicate 16 0));have hs6:=LH (size61 hb);clear hn;obtain⟨V,hV⟩:∃ V,V=(u8s b).toArray:=⟨_,rfl⟩;rw[← hV] at HX ⊢;have hz:(u8s (List.replicate 16 0)).toArray=#[.int .u8 0,.int .u8 0,.int .u8 0,.int .u8 0,.int .u8 0,.int .u8 0,.int .u8 0,.int .u8 0,.int .u8 0,.int .u8 0,.int .u8 0,.int .u8 0,.int .u8 0,.int .u8 0,.int .u8 0,.int .u8 0]:=rfl;rw[hz] at HX;clear hz;have hVs:(prog.info? 179).map (·.size)=some V.size:=by rw[hs6.out,hV];simp[u8s_length]
 have hVi:∀ k,k<16→V[k]?=some (.int .u8 (b.getD k 0).toNat):=fun k hk=>by rw[hV];exact u8s_ix b k (by omega)
 replace hV:=LH hV;replace hVs:=LH hVs;replace hVi:=LH hVi;go_enter func192,ntmps192
 go_wp2_with (refine wpList_load_row rfl 179 _ rfl _ rfl 179 V (0,0) _ (Eq.trans HX.out.1 (by rw[hV.out])) underlying179 rfl hVs.out ?_)
 obtain⟨w2,hw2⟩:∃ w2,w2=(w.alloc (.cells V 179)).alloc (.cells #[.int .u8 0,.int .u8 0,.int .u8 0,.int .u8 0,.int .u8 0,.int .u8 0,.int .u8 0,.int .u8 0,.int .u8 0,.int .u8 0,.int .u8 0,.int .u8 0,.int .u8 0,.int .u8 0,.int .u8 0,.int .u8 0] 179):=⟨_,rfl⟩;rw[← hw2] at HX ⊢;rw[← HN.out] at HX ⊢;clear hw2
 go_loopw [3,7] (fun c i wr=>∃ k:Nat,k≤16∧i=.int .i64 k∧c=.int .u8 (carryAt b k)∧Below n w wr∧n+1<wr.heap.size∧Hid (Arr wr (n+1) 179 (dblL b k)))
  (fun _ i _=>16 - (intOf i).toNat)
 case atStart=>exact⟨0,by omega,rfl,rfl,HX.out.2.2.1,by have:=HX.out.2.2.2;omega,HX.out.2.1⟩
 case round=>
  obtain⟨k,hk,rfl,rfl,hbr,hsz,H1⟩:=hrel;obtain⟨c,hc⟩:∃ c,c=carryAt b k:=⟨_,rfl⟩;rw[← hc];have hcl:c<2:=hc ▸ carryAt_lt;replace hbr:=LH hbr;by_cases hlt:k<16
  ·have hix:=hVi.out k hlt;have hrun:=fun w=>run_index_agg (P:=prog) (k:=.i64) (j:=k) (v:=.int .u8 (b.getD k 0).toNat) underlying179 (by kernel_rfl) (by kernel_rfl) (by kernel_rfl) hlt hix w
   obtain⟨B,hB⟩:∃ B,B=(b.getD k 0).toNat:=⟨_,rfl⟩;rw[← hB] at hrun hix;have hBl:B<256:=hB ▸ UInt8.toNat_lt _;have ho:=u8_or_nat (B*2 % 256) c (by omega) (by omega);have ho2:bits .or .u8 ((B:Int)*2 % 256) (c:Int)=((B*2 % 256 ||| c:Nat):Int):=by rw[← ho];simp
   have hol:B*2 % 256 ||| c<256:=Nat.or_lt_two_pow (n:=8) (by omega) (by omega)
   have f0:=H1.out.frozen k;have c0:=H1.out.cell k (by rw[dblL_length];exact hlt);replace hc:=LH hc;replace hB:=LH hB;clear ho hix;go_wp2;go_roundw
   case rel=>
    refine⟨k+1,by omega,by go_num,?_,hbr.out.setCell (p:=⟨n+1,k,none⟩) (by show n≤n+1;omega) _,by simpa using hsz,?_⟩
    ·rw[carryAt,if_neg (by omega),Nat.add_sub_cancel,← hB.out];simp
    ·have h:=H1.out.set k (byte (B*2 % 256 ||| c));rw[byte_toNat hol] at h;show Arr _ _ _ _;rw[dblL,← hB.out,← hc.out];exact h
   case measure=>simp[intOf];omega
  ·have hk6:k=16:=by omega
   rw[hk6] at H1 hc;clear hk6;obtain⟨L,hL⟩:∃ L,L=dblL b 16:=⟨_,rfl⟩;rw[← hL] at H1;have hLl:L.length=16:=hL ▸ dblL_length;replace hc:=LH hc;replace hL:=LH hL
   have hfin:∀ (w3:World) (R:List UInt8),R.length=16→Arr w3 (n+1) 179 R→(prog.info? 179).map (·.size)=some (u8s R).toArray.size∧(Instr.loadAt 179 (.pointer (some ⟨n+1,0,none⟩))).run prog w3=.ok (.agg (u8s R).toArray) w3∧(Instr.storeAt 179 (.pointer (some ⟨n+1,0,none⟩)) (.agg (u8s R).toArray)).run prog w3=.ok () w3:=
    fun w3 R hR hA=>⟨by rw[size61 hR];simp[u8s_length],run_loadAt_arr hA underlying179 (size61 hR),run_storeAt_arr hA (size61 hR)⟩
   replace hfin:=LH hfin;by_cases hc0:c=0
   ·have hF:=LH (hfin.out wr L hLl H1.out)
    go_wp2_with (first|(refine wpList_load rfl 179 _ rfl _ _ rfl hF.out.2.1 ?_)|(refine wpList_store rfl 179 _ _ rfl _ _ rfl rfl hF.out.2.2 ?_))
    refine bodyPost_ret (results_cell_row results192 _ _ (n+1) 179 _ (0,0) _ rfl H1.out underlying179 rfl hF.out.1) rfl ⟨?_,HN.out ▸ hbr.out⟩;rw[double,if_pos (hc.out ▸ hc0),hL.out]
   ·have hc1:c=1:=by omega
    subst hc1;have f0:=H1.out.frozen 0;have c0:=H1.out.cell 0 (by omega);obtain⟨B,hB⟩:∃ B,B=(L.getD 0 0).toNat:=⟨_,rfl⟩;rw[← hB] at c0;have hBl:B<256:=hB ▸ UInt8.toNat_lt _;have hx:bits .xor .u8 (B:Int) 135=((B ^^^ 135:Nat):Int):=u8_xor_nat B 135 hBl (by omega);have hxl:=xor8 hBl (show 135<256 by omega);have hset:=H1.out.set 0 (byte (B ^^^ 135));rw[byte_toNat hxl] at hset;have HS:=LH hset;have hF:=LH (hfin.out _ _ (List.length_set.trans hLl) HS.out);clear hset;replace hB:=LH hB
    go_wp2_with (first|(refine wpList_load rfl 179 _ rfl _ _ rfl hF.out.2.1 ?_)|(refine wpList_store rfl 179 _ _ rfl _ _ rfl rfl hF.out.2.2 ?_))
    refine bodyPost_ret (results_cell_row results192 _ _ (n+1) 179 _ (0,0) _ rfl HS.out underlying179 rfl hF.out.1) rfl ⟨?_,HN.out ▸ hbr.out.setCell (p:=⟨n+1,0,none⟩) (by show n≤n+1;omega) _⟩;rw[double,if_neg (by rw[← hc.out];omega),← hL.out,← hB.out]
end Go.Proofs.YthmcbgidehjlbaaGreat.Fd
namespace Go.Proofs.YthmcbgidehjlbaaGreat.Fd
open _root_.Go.Proofs.Tryz
open Go Go.RowKit K
set_option maxRecDepth 100000
set_option maxHeartbeats 4000000
def numF:Nat→Nat→Nat→List UInt8→List UInt8
 | 0,_,_,l=>l
 | f+1,i,n,l=>if n=0 then l else numF f (i+1) (n / 256) (l.set i (byte (n % 256)))
def number (n:Nat):List UInt8:=numF 16 0 n (List.replicate 16 0)
theorem numF_zero {f i:Nat}{l:List UInt8}:numF f i 0 l=l:=by cases f<;>simp[numF]
theorem numF_length {f:Nat}:∀ {i n:Nat}{l:List UInt8},(numF f i n l).length=l.length:=by
 induction f with
 | zero=>intro i n l;rfl
 | succ f ih=>
  intro i n l;rw[numF];split
  ·rfl
  ·exact ih.trans List.length_set
theorem number_length {n:Nat}:(number n).length=16:=numF_length.trans List.length_replicate
theorem number_ok (x:Nat) (hx:x≤9223372036854775807) (w:World):
  Calls prog 191 #[.int .i64 x] w fun e w'=>e=.returned (.agg (u8s (number x)).toArray)∧Below w.heap.size w w':=by
 obtain⟨n,hn⟩:∃ n,n=w.heap.size:=⟨_,rfl⟩;have HN:=LH hn
 have H1:Arr (w.alloc (.cells #[.int .u8 0,.int .u8 0,.int .u8 0,.int .u8 0,.int .u8 0,.int .u8 0,.int .u8 0,.int .u8 0,.int .u8 0,.int .u8 0,.int .u8 0,.int .u8 0,.int .u8 0,.int .u8 0,.int .u8 0,.int .u8 0] 179)) n 179 (List.replicate 16 0):=by
  rw[hn];exact heap_alloc_new w _
 have hb:Below n w (w.alloc (.cells #[.int .u8 0,.int .u8 0,.int .u8 0,.int .u8 0,.int .u8 0,.int .u8 0,.int .u8 0,.int .u8 0,.int .u8 0,.int .u8 0,.int .u8 0,.int .u8 0,.int .u8 0,.int .u8 0,.int .u8 0,.int .u8 0] 179)):=(Below.refl _ _).alloc (Nat.le_of_eq hn) _;have hs:n<(w.alloc (.cells #[.int .u8 0,.int .u8 0,.int .u8 0,.int .u8 0,.int .u8 0,.int .u8 0,.int .u8 0,.int .u8 0,.int .u8 0,.int .u8 0,.int .u8 0,.int .u8 0,.int .u8 0,.int .u8 0,.int .u8 0,.int .u8 0] 179)).heap.size:=by simp[hn]
 replace H1:=LH H1;replace hb:=LH hb;replace hs:=LH hs;clear hn;go_enter func191,ntmps191;go_wp2;rw[← HN.out]
 go_loopw [0,3] (fun y i wr=>∃ f i' N:Nat,∃ l:List UInt8,f+i'=16∧N<256 ^ f∧N≤9223372036854775807∧l.length=16∧y=.int .i64 N∧i=.int .i64 i'∧Below n w wr∧n<wr.heap.size∧Hid (Arr wr n 179 l)∧Hid (numF f i' N l=number x))
  (fun y _ _=>(intOf y).toNat)
 case atStart=>exact⟨16,0,x,List.replicate 16 0,rfl,by omega,hx,List.length_replicate,rfl,rfl,hb.out,hs.out,H1.out,rfl⟩
 case round=>
  clear H1 hb hs;obtain⟨f,i,N,l,hfi,hN,hN2,hl,rfl,rfl,hbr,hsz,H1,hm⟩:=hrel;replace hbr:=LH hbr;by_cases h0:0<N
  ·have step:∃ f',f=f'+1∧N / 256<256 ^ f'∧numF f' (i+1) (N / 256) (l.set i (byte (N % 256)))=number x:=by
    cases f with
    | zero=>simp at hN;omega
    | succ f'=>
     refine⟨f',rfl,by rw[Nat.pow_succ] at hN;omega,?_⟩;have h:=hm.out;rw[numF,if_neg (by omega)] at h;exact h
   obtain⟨f',rfl,hN3,hm2⟩:=step;replace hN3:=LH hN3;replace hm2:=LH hm2;clear hN hm;have f0:=H1.out.frozen i;have c0:=H1.out.cell i (by omega);have hset:=H1.out.set i (byte (N % 256));rw[byte_toNat (by omega)] at hset;replace hset:=LH hset;have hi16:i<16:=by omega
   go_wp2;go_roundw
   case rel=>
    refine⟨f',i+1,N / 256,l.set i (byte (N % 256)),by omega,hN3.out,by omega,by rw[List.length_set];exact hl,by simp,by go_num,hbr.out.setCell (p:=⟨n,i,none⟩) (Nat.le_refl n) _,by simpa using hsz,?_,hm2.out⟩;have h:=hset.out;show Arr _ _ _ _
    simpa using h
   case measure=>simp[intOf];omega
  ·obtain rfl:N=0:=by omega
   have hlx:l=number x:=by have h:=hm.out;rw[numF_zero] at h;exact h
   replace hlx:=LH hlx;clear hm hN
   have hF:=LH (show (prog.info? 179).map (·.size)=some (u8s l).toArray.size∧(Instr.loadAt 179 (.pointer (some ⟨n,0,none⟩))).run prog wr=.ok (.agg (u8s l).toArray) wr∧(Instr.storeAt 179 (.pointer (some ⟨n,0,none⟩)) (.agg (u8s l).toArray)).run prog wr=.ok () wr from
    ⟨by rw[size61 hl];simp[u8s_length],run_loadAt_arr H1.out underlying179 (size61 hl),run_storeAt_arr H1.out (size61 hl)⟩)
   go_wp2_with (first|(refine wpList_load rfl 179 _ rfl _ _ rfl hF.out.2.1 ?_)|(refine wpList_store rfl 179 _ _ rfl _ _ rfl rfl hF.out.2.2 ?_))
   refine bodyPost_ret (results_cell_row results191 _ _ n 179 _ (0,0) _ rfl H1.out underlying179 rfl hF.out.1) rfl ⟨by rw[hlx.out],HN.out ▸ hbr.out⟩
end Go.Proofs.YthmcbgidehjlbaaGreat.Fd
/-
  aes: its columns, mixed by a table. No condition beyond what each theorem names.
-/
namespace Go.Proofs.YthmcbgidehjlbaaGreat.Fd
open _root_.Go.Proofs.Tryz
open Go Go.RowKit K
set_option maxRecDepth 100000
set_option maxHeartbeats 4000000
def colI (R:List UInt8) (i:Nat) (o:List UInt8):Nat→List UInt8
 | 0=>o
 | k+1=>(colI R i o k).set (i / 4*4+(i+k) % 4) (byte (((colI R i o k).getD (i / 4*4+(i+k) % 4) 0).toNat ^^^ (R.getD k 0).toNat))
theorem colI_length {R:List UInt8}{i:Nat}{o:List UInt8}{k:Nat}:(colI R i o k).length=o.length:=by
 induction k with
 | zero=>rfl
 | succ k ih=>exact List.length_set.trans ih
def colL (M:Nat→List UInt8) (b:List UInt8):Nat→List UInt8
 | 0=>List.replicate 16 0
 | i+1=>colI (M (b.getD i 0).toNat) i (colL M b i) 4
theorem colL_length {M:Nat→List UInt8}{b:List UInt8}{i:Nat}:(colL M b i).length=16:=by
 induction i with
 | zero=>exact List.length_replicate
 | succ i ih=>exact colI_length.trans ih
theorem columns_ok (M:Nat→List UInt8) (hM4:∀ a,(M a).length=4) (b:List UInt8) (hb:b.length=16) (tb off:Nat) (w:World) (ht:tb<w.heap.size)
  (hM:∀ a,a<256→∀ j,j<4→w.cell? ⟨tb,off+a*4+j,none⟩=some (.int .u8 ((M a).getD j 0).toNat)):
  Calls prog 183 #[.agg (u8s b).toArray,.pointer (some ⟨tb,off,none⟩)] w fun e w'=>e=.returned (.agg (u8s (colL M b 16)).toArray)∧Below w.heap.size w w':=by
 obtain⟨n,hn⟩:∃ n,n=w.heap.size:=⟨_,rfl⟩;have HN:=LH hn;have HX:=LH (box2 w 179 b (List.replicate 16 0));have hs6:=LH (size61 hb);rw[← hn] at ht;clear hn;obtain⟨V,hV⟩:∃ V,V=(u8s b).toArray:=⟨_,rfl⟩;rw[← hV] at HX ⊢;have hz:(u8s (List.replicate 16 0)).toArray=#[.int .u8 0,.int .u8 0,.int .u8 0,.int .u8 0,.int .u8 0,.int .u8 0,.int .u8 0,.int .u8 0,.int .u8 0,.int .u8 0,.int .u8 0,.int .u8 0,.int .u8 0,.int .u8 0,.int .u8 0,.int .u8 0]:=rfl;rw[hz] at HX;clear hz;have hVs:(prog.info? 179).map (·.size)=some V.size:=by rw[hs6.out,hV];simp[u8s_length]
 have hVi:∀ k,k<16→V[k]?=some (.int .u8 (b.getD k 0).toNat):=fun k hk=>by rw[hV];exact u8s_ix b k (by omega)
 have hMw:∀ wr,Below n w wr→∀ a,a<256→(Instr.loadAt 296 (.pointer (some ⟨tb,off+a*4,none⟩))).run prog wr=.ok (.agg (u8s (M a)).toArray) wr:=by
  intro wr hbr a ha;refine run_loadAt_cells underlying296 (size102 (hM4 a)) (fun j hj=>?_);rw[hM4] at hj;rw[World.cell?_of_block (w:=w) (hbr.block tb ht)];exact hM a ha j hj
 replace hMw:=LH hMw;replace hM:=LH hM;replace hM4:=LH hM4;replace hV:=LH hV;replace hVs:=LH hVs;replace hVi:=LH hVi;go_enter func183,ntmps183
 go_wp2_with (refine wpList_load_row rfl 179 _ rfl _ rfl 179 V (0,0) _ (Eq.trans HX.out.1 (by rw[hV.out])) underlying179 rfl hVs.out ?_)
 obtain⟨w2,hw2⟩:∃ w2,w2=(w.alloc (.cells V 179)).alloc (.cells #[.int .u8 0,.int .u8 0,.int .u8 0,.int .u8 0,.int .u8 0,.int .u8 0,.int .u8 0,.int .u8 0,.int .u8 0,.int .u8 0,.int .u8 0,.int .u8 0,.int .u8 0,.int .u8 0,.int .u8 0,.int .u8 0] 179):=⟨_,rfl⟩;rw[← hw2] at HX ⊢;rw[← HN.out] at HX ⊢;clear hw2
 go_loopw [10] (fun i wr=>∃ k:Nat,k≤16∧i=.int .i64 k∧Below n w wr∧n+1<wr.heap.size∧Hid (Arr wr (n+1) 179 (colL M b k)))
  (fun i _=>16 - (intOf i).toNat)
 case atStart=>exact⟨0,by omega,rfl,HX.out.2.2.1,by have:=HX.out.2.2.2;omega,HX.out.2.1⟩
 case round=>
  clear HX;obtain⟨k,hk,rfl,hbr,hsz,H1⟩:=hrel;by_cases hlt:k<16
  ·have hix:=hVi.out k hlt;have hrun:=fun w=>run_index_agg (P:=prog) (k:=.i64) (j:=k) (v:=.int .u8 (b.getD k 0).toNat) underlying179 (by kernel_rfl) (by kernel_rfl) (by kernel_rfl) hlt hix w
   obtain⟨B,hB⟩:∃ B,B=(b.getD k 0).toNat:=⟨_,rfl⟩;rw[← hB] at hrun hix;have hBl:B<256:=hB ▸ UInt8.toNat_lt _;have hld:=LH (hMw.out wr hbr B hBl);obtain⟨R,hR⟩:∃ R,R=M B:=⟨_,rfl⟩;rw[← hR] at hld;have hRl:R.length=4:=hR ▸ hM4.out B;replace hB:=LH hB;replace hR:=LH hR;replace hRl:=LH hRl;replace hbr:=LH hbr;clear hix
   go_wp2_with (refine wpList_load rfl 296 _ rfl _ _ rfl hld.out ?_)
   go_loopw [19] (fun i wr=>∃ m:Nat,m≤4∧i=.int .i64 m∧Below n w wr∧n+1<wr.heap.size∧Hid (Arr wr (n+1) 179 (colI R k (colL M b k) m)))
    (fun i _=>4 - (intOf i).toNat)
   case atStart=>exact⟨0,by omega,rfl,hbr.out,hsz,H1.out⟩
   case round=>
    clear H1 hsz hbr hld;obtain⟨m,hm,rfl,hbr,hsz,H1⟩:=hrel;replace hbr:=LH hbr;by_cases hlm:m<4
    ·have hix:=u8s_ix R m (by rw[hRl.out];exact hlm);have hrn:=fun w=>run_index_agg (P:=prog) (k:=.i64) (j:=m) (v:=.int .u8 (R.getD m 0).toNat) underlying296 (by kernel_rfl) (by kernel_rfl) (by kernel_rfl) hlm hix w
     obtain⟨C,hC⟩:∃ C,C=(R.getD m 0).toNat:=⟨_,rfl⟩;rw[← hC] at hrn hix;have hCl:C<256:=hC ▸ UInt8.toNat_lt _;obtain⟨q,hq⟩:∃ q,q=k / 4:=⟨_,rfl⟩;obtain⟨j,hj⟩:∃ j,j=(k+m) % 4:=⟨_,rfl⟩;obtain⟨I,hI⟩:∃ I,I=q*4+j:=⟨_,rfl⟩;have hI16:I<16:=by omega
     have hd:(k:Int) / 4=q:=by omega
     have hmod:((k:Int)+m) % 4=j:=by omega
     have hI2:(q:Int)*4+j=I:=by omega
     have hq4:q<4:=by omega
     have hj4:j<4:=by omega
     have f0:=H1.out.frozen I;have c0:=H1.out.cell I (by rw[colI_length,colL_length];exact hI16);obtain⟨D,hD⟩:∃ D,D=((colI R k (colL M b k) m).getD I 0).toNat:=⟨_,rfl⟩;rw[← hD] at c0;have hDl:D<256:=hD ▸ UInt8.toNat_lt _;have hx:=u8_xor_nat D C hDl hCl;have hset:=H1.out.set I (byte (D ^^^ C));rw[byte_toNat (xor8 hDl hCl)] at hset;have HS:=LH hset;clear hset hix;replace hq:=LH hq;replace hj:=LH hj;replace hI:=LH hI;replace hC:=LH hC;replace hD:=LH hD;go_wp2;go_roundw
     case rel=>
      refine⟨m+1,by omega,by go_num,hbr.out.setCell (p:=⟨n+1,I,none⟩) (by show n≤n+1;omega) _,by simpa using hsz,?_⟩;show Arr _ _ _ _;rw[colI,← hq.out,← hj.out,← hI.out,← hC.out,← hD.out];exact HS.out
     case measure=>simp[intOf];omega
    ·have hm4:m=4:=by omega
     rw[hm4] at H1;clear hm4;go_wp2;go_roundw
     case rel=>
      refine⟨k+1,by omega,by go_num,hbr.out,hsz,?_⟩;show Arr _ _ _ _;rw[colL,← hB.out,← hR.out];exact H1.out
     case measure=>simp[intOf];omega
  ·have hk6:k=16:=by omega
   rw[hk6] at H1;clear hk6;obtain⟨L,hL⟩:∃ L,L=colL M b 16:=⟨_,rfl⟩;rw[← hL] at H1;have hLl:L.length=16:=hL ▸ colL_length;replace hL:=LH hL;replace hbr:=LH hbr
   have hF:=LH (show (prog.info? 179).map (·.size)=some (u8s L).toArray.size∧(Instr.loadAt 179 (.pointer (some ⟨n+1,0,none⟩))).run prog wr=.ok (.agg (u8s L).toArray) wr∧(Instr.storeAt 179 (.pointer (some ⟨n+1,0,none⟩)) (.agg (u8s L).toArray)).run prog wr=.ok () wr from
    ⟨by rw[size61 hLl];simp[u8s_length],run_loadAt_arr H1.out underlying179 (size61 hLl),run_storeAt_arr H1.out (size61 hLl)⟩)
   go_wp2_with (first|(refine wpList_load rfl 179 _ rfl _ _ rfl hF.out.2.1 ?_)|(refine wpList_store rfl 179 _ _ rfl _ _ rfl rfl hF.out.2.2 ?_))
   refine bodyPost_ret (results_cell_row results183 _ _ (n+1) 179 _ (0,0) _ rfl H1.out underlying179 rfl hF.out.1) rfl ⟨by rw[hL.out],HN.out ▸ hbr.out⟩
end Go.Proofs.YthmcbgidehjlbaaGreat.Fd
/-
  tweak.Xor. No condition beyond what each theorem names.
-/
namespace Go.Proofs.YthmcbgidehjlbaaGreat.Fd
open _root_.Go.Proofs.Tryz
open Go Go.RowKit K
set_option maxRecDepth 100000
set_option maxHeartbeats 4000000
def xorL (o b:List UInt8):Nat→List UInt8
 | 0=>o
 | k+1=>(xorL o b k).set k (byte (((xorL o b k).getD k 0).toNat ^^^ (b.getD k 0).toNat))
theorem xorL_length {o b:List UInt8}{k:Nat}:(xorL o b k).length=o.length:=by
 induction k with
 | zero=>rfl
 | succ k ih=>exact List.length_set.trans ih
def xorAll (L:Nat→List UInt8):Nat→List UInt8
 | 0=>List.replicate 16 0
 | m+1=>xorL (xorAll L m) (L m) 16
theorem xorAll_length {L:Nat→List UInt8}{m:Nat}:(xorAll L m).length=16:=by
 induction m with
 | zero=>exact List.length_replicate
 | succ m ih=>exact xorL_length.trans ih
theorem splice_all {l x:List UInt8}(h:l.length=x.length):splice l 0 x=x:=by
 simp only[splice,List.take_zero,List.nil_append];rw[List.drop_eq_nil_of_le (by omega),List.append_nil]
theorem box_store (w:World) (b:List UInt8) (hb:b.length=16):∃ w',(Instr.storeAt 179 (.pointer (some ⟨w.heap.size,0,none⟩)) (.agg (u8s b).toArray)).run prog (w.alloc (.cells #[.int .u8 0,.int .u8 0,.int .u8 0,.int .u8 0,.int .u8 0,.int .u8 0,.int .u8 0,.int .u8 0,.int .u8 0,.int .u8 0,.int .u8 0,.int .u8 0,.int .u8 0,.int .u8 0,.int .u8 0,.int .u8 0] 179))=.ok () w'∧
  Arr w' w.heap.size 179 b∧Below w.heap.size w w'∧w'.heap.size=w.heap.size+1:=by
 have H1:Arr (w.alloc (.cells #[.int .u8 0,.int .u8 0,.int .u8 0,.int .u8 0,.int .u8 0,.int .u8 0,.int .u8 0,.int .u8 0,.int .u8 0,.int .u8 0,.int .u8 0,.int .u8 0,.int .u8 0,.int .u8 0,.int .u8 0,.int .u8 0] 179)) w.heap.size 179 (List.replicate 16 0):=heap_alloc_new w _;have hst:=run_storeAt_at (P:=prog) (off:=0) (x:=b) H1 (size61 hb) (by rw[hb,List.length_replicate];omega);rw[splice_all (by rw[hb,List.length_replicate])] at hst;exact⟨_,hst,H1.setRow b,below_setRow ((Below.refl _ _).alloc (Nat.le_refl _) _) (Nat.le_refl _) _,by simp⟩
theorem xor_ok (L:Nat→List UInt8) (hL:∀ m,(L m).length=16) (g off cnt cap:Nat) (hcnt:cnt≤1000) (w:World) (hg:g<w.heap.size)
  (hc:∀ m,m<cnt→∀ j,j<16→w.cell? ⟨g,off+m*16+j,none⟩=some (.int .u8 ((L m).getD j 0).toNat)):
  Calls prog 180 #[.slice (some ⟨g,off,none⟩) cnt cap] w fun e w'=>e=.returned (.agg (u8s (xorAll L cnt)).toArray)∧Below w.heap.size w w':=by
 obtain⟨n,hn⟩:∃ n,n=w.heap.size:=⟨_,rfl⟩;have HN:=LH hn;rw[← hn] at hg
 have H1:Arr (w.alloc (.cells #[.int .u8 0,.int .u8 0,.int .u8 0,.int .u8 0,.int .u8 0,.int .u8 0,.int .u8 0,.int .u8 0,.int .u8 0,.int .u8 0,.int .u8 0,.int .u8 0,.int .u8 0,.int .u8 0,.int .u8 0,.int .u8 0] 179)) n 179 (List.replicate 16 0):=by
  rw[hn];exact heap_alloc_new w _
 have hb:Below n w (w.alloc (.cells #[.int .u8 0,.int .u8 0,.int .u8 0,.int .u8 0,.int .u8 0,.int .u8 0,.int .u8 0,.int .u8 0,.int .u8 0,.int .u8 0,.int .u8 0,.int .u8 0,.int .u8 0,.int .u8 0,.int .u8 0,.int .u8 0] 179)):=(Below.refl _ _).alloc (Nat.le_of_eq hn) _;have hs:n<(w.alloc (.cells #[.int .u8 0,.int .u8 0,.int .u8 0,.int .u8 0,.int .u8 0,.int .u8 0,.int .u8 0,.int .u8 0,.int .u8 0,.int .u8 0,.int .u8 0,.int .u8 0,.int .u8 0,.int .u8 0,.int .u8 0,.int .u8 0] 179)).heap.size:=by simp[hn]
 have hld:∀ wr,Below n w wr→∀ m,m<cnt→(Instr.loadAt 179 (.pointer (some ⟨g,off+m*16,none⟩))).run prog wr=.ok (.agg (u8s (L m)).toArray) wr:=by
  intro wr hbr m hm;refine run_loadAt_cells underlying179 (size61 (hL m)) (fun j hj=>?_);rw[hL] at hj;rw[World.cell?_of_block (w:=w) (hbr.block g hg)];exact hc m hm j hj
 replace hld:=LH hld;replace H1:=LH H1;replace hb:=LH hb;replace hs:=LH hs;replace hL:=LH hL;clear hn hc;go_enter func180,ntmps180;go_wp2;rw[← HN.out]
 go_loopw [9] (fun i wr=>∃ m:Nat,m≤cnt∧i=.int .i64 m∧Below n w wr∧n<wr.heap.size∧Hid (Arr wr n 179 (xorAll L m)))
  (fun i _=>cnt - (intOf i).toNat)
 case atStart=>exact⟨0,by omega,rfl,hb.out,hs.out,H1.out⟩
 case round=>
  clear H1 hb hs;obtain⟨m,hm,rfl,hbr,hsz,H1⟩:=hrel;by_cases hlt:m<cnt
  ·have hl1:=LH (hld.out wr hbr m hlt);obtain⟨B,hB⟩:∃ B,B=L m:=⟨_,rfl⟩;rw[← hB] at hl1;have hBl:B.length=16:=hB ▸ hL.out m;obtain⟨V,hV⟩:∃ V,V=(u8s B).toArray:=⟨_,rfl⟩;rw[← hV] at hl1;have hVi:∀ k,k<16→V[k]?=some (.int .u8 (B.getD k 0).toNat):=fun k hk=>by rw[hV];exact u8s_ix B k (by omega)
   obtain⟨w3,hst,hA3,hb3,hs3⟩:=box_store wr B hBl;have hl3:=run_loadAt_arr (P:=prog) hA3 underlying179 (size61 hBl);rw[← hV] at hst hl3;have HN1:Hid (Arr w3 n 179 (xorAll L m)):=H1.out.keep (hb3.block n hsz);have hb4:=LH (show Below n w w3 from hbr.trans (hb3.mono (by omega)));have hs4:=LH (show n<w3.heap.size by omega);replace hst:=LH hst;replace hl3:=LH hl3;replace hB:=LH hB;replace hV:=LH hV;replace hVi:=LH hVi;replace hA3:=LH hA3;clear hbr hb3 hs3 hsz H1
   go_wp2_with (first|(refine wpList_load rfl 179 _ rfl _ _ rfl hl1.out ?_)|(refine wpList_store rfl 179 _ _ rfl _ _ rfl rfl hst.out ?_)|(refine wpList_load rfl 179 _ rfl _ _ rfl hl3.out ?_))
   clear hst hl1 hl3 hA3;generalize wr.heap.size=z
   go_loopw [14] (fun i wr=>∃ k:Nat,k≤16∧i=.int .i64 k∧Below n w wr∧n<wr.heap.size∧Hid (Arr wr n 179 (xorL (xorAll L m) B k)))
    (fun i _=>16 - (intOf i).toNat)
   case atStart=>exact⟨0,by omega,rfl,hb4.out,hs4.out,HN1.out⟩
   case round=>
    clear HN1 hb4 hs4;obtain⟨k,hk,rfl,hbr,hsz,H1⟩:=hrel;replace hbr:=LH hbr;by_cases hlk:k<16
    ·have hix:=hVi.out k hlk;have hrn:=fun w=>run_index_agg (P:=prog) (k:=.i64) (j:=k) (v:=.int .u8 (B.getD k 0).toNat) underlying179 (by kernel_rfl) (by kernel_rfl) (by kernel_rfl) hlk hix w
     obtain⟨C,hC⟩:∃ C,C=(B.getD k 0).toNat:=⟨_,rfl⟩;rw[← hC] at hrn hix;have hCl:C<256:=hC ▸ UInt8.toNat_lt _;have f0:=H1.out.frozen k;have c0:=H1.out.cell k (by rw[xorL_length,xorAll_length];exact hlk);obtain⟨D,hD⟩:∃ D,D=((xorL (xorAll L m) B k).getD k 0).toNat:=⟨_,rfl⟩;rw[← hD] at c0;have hDl:D<256:=hD ▸ UInt8.toNat_lt _;have hx:=u8_xor_nat D C hDl hCl;have hset:=H1.out.set k (byte (D ^^^ C));rw[byte_toNat (xor8 hDl hCl)] at hset;have HS:=LH hset;clear hset hix;replace hC:=LH hC;replace hD:=LH hD;go_wp2;go_roundw
     case rel=>
      refine⟨k+1,by omega,by go_num,hbr.out.setCell (p:=⟨n,k,none⟩) (Nat.le_refl n) _,by simpa using hsz,?_⟩;show Arr _ _ _ _;rw[xorL,← hC.out,← hD.out];exact HS.out
     case measure=>simp[intOf];omega
    ·have hk6:k=16:=by omega
     rw[hk6] at H1;clear hk6;go_wp2;go_roundw
     case rel=>
      refine⟨m+1,by omega,by go_num,hbr.out,hsz,?_⟩;show Arr _ _ _ _;rw[xorAll,← hB.out];exact H1.out
     case measure=>simp[intOf];omega
  ·have hm6:m=cnt:=by omega
   rw[hm6] at H1;clear hm6;obtain⟨R,hR⟩:∃ R,R=xorAll L cnt:=⟨_,rfl⟩;rw[← hR] at H1;have hRl:R.length=16:=hR ▸ xorAll_length;replace hR:=LH hR;replace hbr:=LH hbr
   have hF:=LH (show (prog.info? 179).map (·.size)=some (u8s R).toArray.size∧(Instr.loadAt 179 (.pointer (some ⟨n,0,none⟩))).run prog wr=.ok (.agg (u8s R).toArray) wr∧(Instr.storeAt 179 (.pointer (some ⟨n,0,none⟩)) (.agg (u8s R).toArray)).run prog wr=.ok () wr from
    ⟨by rw[size61 hRl];simp[u8s_length],run_loadAt_arr H1.out underlying179 (size61 hRl),run_storeAt_arr H1.out (size61 hRl)⟩)
   go_wp2_with (first|(refine wpList_load rfl 179 _ rfl _ _ rfl hF.out.2.1 ?_)|(refine wpList_store rfl 179 _ _ rfl _ _ rfl rfl hF.out.2.2 ?_))
   refine bodyPost_ret (results_cell_row results180 _ _ n 179 _ (0,0) _ rfl H1.out underlying179 rfl hF.out.1) rfl ⟨by rw[hR.out],HN.out ▸ hbr.out⟩
end Go.Proofs.YthmcbgidehjlbaaGreat.Fd

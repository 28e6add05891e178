/-
  Texts of this claim, laid together by a program of mine. No condition beyond what each theorem names.
-/
import Derived.Test.YthmcbgidehjlbaaGreatRmMulPk
import Derived.Test.YthmcbgidehjlbaaGreatRmFieldPk
import Derived.Test.YthmcbgidehjlbaaGreatRmXopenPk
/-
  Arrays of words. No condition: a tool for the other texts.
-/
namespace Go.Proofs.YthmcbgidehjlbaaGreat.Fd
open _root_.Go.Proofs.Tryz
open Go Go.RowKit K
def n32s (l:List Nat):List Value:=l.map fun (x:Nat)=>.int .u32 x
theorem n32s_length (l:List Nat):(n32s l).length=l.length:=by simp[n32s]
theorem n32s_set (l:List Nat) (i x:Nat):n32s (l.set i x)=(n32s l).set i (.int .u32 x):=by simp[n32s,List.map_set]
theorem n32s_one (l:List Nat):∀ u ∈ n32s l,u.oneCell'=true:=by
 intro u hu;simp only[n32s,List.mem_map] at hu;obtain⟨x,_,rfl⟩:=hu;rfl
theorem n32s_get (l:List Nat) (j:Nat) (h:j<l.length):(n32s l)[j]?=some (.int .u32 (l.getD j 0:Nat)):=by simp[n32s,List.getD,h]
def ArrN (w:World) (b:Nat) (t:TypeId) (l:List Nat):Prop:=w.heap[b]?=some (.cells (n32s l).toArray t (0,0))
theorem ArrN.cell {w:World}{b:Nat}{t:TypeId}{l:List Nat}(h:ArrN w b t l) (j:Nat) (hj:j<l.length):w.cell? ⟨b,j,none⟩=some (.int .u32 (l.getD j 0:Nat)):=by
 rw[cell_of h,← n32s_get l j hj];simp
theorem ArrN.frozen {w:World}{b:Nat}{t:TypeId}{l:List Nat}(h:ArrN w b t l) (j:Nat):w.frozen? ⟨b,j,none⟩=false:=frozen_of h j
theorem ArrN.set {w:World}{b:Nat}{t:TypeId}{l:List Nat}(h:ArrN w b t l) (j x:Nat):ArrN (w.setCell ⟨b,j,none⟩ (.int .u32 x)) b t (l.set j x):=by
 unfold ArrN;rw[setCell_block h,n32s_set];simp
theorem ArrN.keep {w w':World}{b:Nat}{t:TypeId}{l:List Nat}(h:ArrN w b t l) (e:w'.heap[b]?=w.heap[b]?):ArrN w' b t l:=e.trans h
theorem ArrN.of {w:World}{b:Nat}{t:TypeId}{l:List Nat}{cs:Array Value}(e:cs=(n32s l).toArray) (h:w.heap[b]?=some (.cells cs t (0,0))):ArrN w b t l:=by
 subst e;exact h
theorem ArrN.setRow {w:World}{b:Nat}{t:TypeId}{l:List Nat}(h:ArrN w b t l) (l':List Nat):ArrN (w.setRow b (n32s l').toArray) b t l':=setRow_heap w b _ _ t _ h
section
variable {P:Program}
theorem run_loadAt_arrN {w:World}{n m:Nat}{t e:TypeId}{l:List Nat}(h:ArrN w n t l) (hu:P.underlying t=some (.array m e)) (hi:(P.info? t).map (·.size)=some l.length):
  (Instr.loadAt t (.pointer (some ⟨n,0,none⟩))).run P w=.ok (.agg (n32s l).toArray) w:=by
 simp only[Instr.loadAt,Instr.sureAddr,Sem.run_bind,Sem.run_pure,Result.andThen];exact run_loadVar_row w n t t _ (0,0) _ h hu rfl (by rw[hi];simp[n32s_length])
theorem run_loadAt_vals {w:World}{g off m:Nat}{ty e:TypeId}{x:List Value}(hu:P.underlying ty=some (.array m e)) (hi:(P.info? ty).map (·.size)=some x.length)
  (hx:∀ j v,x[j]?=some v→w.cell? ⟨g,off+j,none⟩=some v):(Instr.loadAt ty (.pointer (some ⟨g,off,none⟩))).run P w=.ok (.agg x.toArray) w:=by
 have hl2:(loadCells ⟨g,off,none⟩ x.length).run P w=.ok x.toArray w:=
  run_loadCells_list (P:=P) w ⟨g,off,none⟩ x (fun j v hv=>by rw[Addr.add_lit];exact hx j v hv)
 have h:(loadVar ty ⟨g,off,none⟩).run P w=.ok (.agg x.toArray) w:=by
  cases hq:P.info? ty with
  | none=>simp[hq] at hi
  | some i=>
   have hs:i.size=x.length:=by simpa [hq] using hi
   have hagg:(isAgg ty).run P w=.ok true w:=by
    unfold isAgg;rw[Sem.run_bind,run_underlying hu w];simp
   simp[loadVar,Sem.run_bind,hagg,sizeOf,typeInfo,hq,hs,hl2]
 simp only[Instr.loadAt,Instr.sureAddr,Sem.run_bind,Sem.run_pure,Result.andThen];exact h
theorem run_storeAt_vals {w:World}{n off:Nat}{t ty:TypeId}{cs:Array Value}{x:List Value}(h:w.heap[n]?=some (.cells cs t (0,0))) (hi:(P.info? ty).map (·.size)=some x.length) (hl:off+x.length≤cs.size) (h1:∀ v ∈ x,v.oneCell'=true):
  (Instr.storeAt ty (.pointer (some ⟨n,off,none⟩)) (.agg x.toArray)).run P w=.ok () (w.setRow n (splice cs.toList off x).toArray):=by
 have h2:=run_storeCells_at (P:=P) n off t x 0 _ w h (by omega) h1;simp only[Instr.storeAt,Instr.sureAddr,Sem.run_bind,Sem.run_pure,Result.andThen];cases hq:P.info? ty with
 | none=>simp[hq] at hi
 | some i=>
  have hs:x.length=i.size:=by simp[hq] at hi;omega
  simpa [storeVar,sizeOf,typeInfo,hq,Value.cells,hs] using h2
theorem splice_whole {α:Type}{l x:List α}(h:l.length=x.length):splice l 0 x=x:=by
 simp only[splice,List.take_zero,List.nil_append];rw[List.drop_eq_nil_of_le (by omega),List.append_nil]
theorem run_storeAt_arrN {w:World}{n:Nat}{t ty:TypeId}{l x:List Nat}(h:ArrN w n t l) (hi:(P.info? ty).map (·.size)=some x.length) (hl:l.length=x.length):
  (Instr.storeAt ty (.pointer (some ⟨n,0,none⟩)) (.agg (n32s x).toArray)).run P w=.ok () (w.setRow n (n32s x).toArray):=by
 have h2:=run_storeAt_vals (P:=P) (off:=0) (x:=n32s x) h (by rw[hi,n32s_length]) (by simp[n32s_length];omega) (n32s_one x);rw[show (n32s l).toArray.toList=n32s l from rfl] at h2;rw[splice_whole (by rw[n32s_length,n32s_length,hl])] at h2;exact h2
theorem run_storeAt_same {w:World}{n:Nat}{t ty:TypeId}{l:List Nat}(h:ArrN w n t l) (hi:(P.info? ty).map (·.size)=some l.length):
  (Instr.storeAt ty (.pointer (some ⟨n,0,none⟩)) (.agg (n32s l).toArray)).run P w=.ok () w:=by
 have h2:=run_storeAt_arrN (P:=P) h hi rfl;rw[setRow_same h] at h2;exact h2
end
theorem size8 {l:List Nat}(h:l.length=8):(prog.info? 313).map (·.size)=some l.length:=by rw[h];kernel_rfl
theorem size64 {l:List Nat}(h:l.length=64):(prog.info? 314).map (·.size)=some l.length:=by rw[h];kernel_rfl
def fillL (m:Nat) (r:Nat→Nat) (ps:List Nat) (k:Nat):List Nat:=(ps.take k).map r++List.replicate (m - k) 0
theorem fillL_length {m:Nat}{r:Nat→Nat}{ps:List Nat}(h:ps.length=m){k:Nat}(hk:k≤m):(fillL m r ps k).length=m:=by simp[fillL];omega
theorem fillL_succ {m:Nat}{r:Nat→Nat}{ps:List Nat}(h:ps.length=m){k:Nat}(hk:k<m):(fillL m r ps k).set k (r (ps.getD k 0))=fillL m r ps (k+1):=by
 have hk':k<ps.length:=by omega
 unfold fillL;rw[List.take_succ_eq_append_getElem hk',List.map_append,show m - k=(m - (k+1))+1 by omega,List.replicate_succ];rw[List.set_append_right _ _ (by simp;omega)];have e:k - (List.map r (ps.take k)).length=0:=by simp;omega
 rw[e,List.set_cons_zero];simp[List.getD,hk']
theorem fillL_all {m:Nat}{r:Nat→Nat}{ps:List Nat}(h:ps.length=m):fillL m r ps m=ps.map r:=by simp[fillL,List.take_of_length_le (Nat.le_of_eq h)]
end Go.Proofs.YthmcbgidehjlbaaGreat.Fd
/-
  sha.Constants, sha.New. No condition beyond what each theorem names.
-/
namespace Go.Proofs.YthmcbgidehjlbaaGreat.Fd
open _root_.Go.Proofs.Tryz
open Go Go.RowKit K
set_option maxRecDepth 100000
set_option maxHeartbeats 4000000
theorem primes8:(primes 8).length=8∧∀ p ∈ primes 8,p<1000:=by decide +kernel
theorem primes64:(primes 64).length=64∧∀ p ∈ primes 64,p<1000:=by decide +kernel
def startL:List Nat:=(primes 8).map (root · 2)
def allL:List Nat:=(primes 64).map (root · 3)
theorem startL_length:startL.length=8:=by simp[startL,primes8.1]
theorem allL_length:allL.length=64:=by simp[allL,primes64.1]
theorem root2'_ok (p:Nat) (hp:p<1000) (w:World):Calls prog 202 #[.int .u64 p,.int .i64 2] w fun e w'=>e=.returned (.int .u32 (root p 2:Nat))∧w=w':=by
 have h:=root2_ok p hp w;have e:root p 2=rootF p 2 37 68719476736 0 % 4294967296:=by rw[root,aboveN];simp
 rw[e];exact h
theorem root3'_ok (p:Nat) (hp:p<1000) (w:World):Calls prog 202 #[.int .u64 p,.int .i64 3] w fun e w'=>e=.returned (.int .u32 (root p 3:Nat))∧w=w':=by
 have h:=root3_ok p (p*4294967296) hp rfl w;have e:root p 3=rootF (p*4294967296) 3 37 68719476736 0 % 4294967296:=by rw[root,aboveN]
 rw[e];exact h
attribute [irreducible] startL allL
theorem const_ok (w:World):Calls prog 193 #[] w fun e w'=>e=.returned (.tuple #[.agg (n32s startL).toArray,.agg (n32s allL).toArray])∧Below w.heap.size w w':=by
 obtain⟨n,hn⟩:∃ n,n=w.heap.size:=⟨_,rfl⟩;have HN:=LH hn;have p8:=fun w1=>primes_ok 8 (by omega) (Nat.le_of_eq primes8.1.symm) w1
 have p64:=fun w1=>primes_ok 64 (by omega) (Nat.le_of_eq primes64.1.symm) w1
 have s8:startL=fillL 8 (fun p=>root p 2) (primes 8) 8:=by rw[fillL_all primes8.1];unfold startL;rfl
 have s64:allL=fillL 64 (fun p=>root p 3) (primes 64) 64:=by rw[fillL_all primes64.1];unfold allL;rfl
 obtain⟨P8,hP8⟩:∃ P,P=primes 8:=⟨_,rfl⟩;obtain⟨P64,hP64⟩:∃ P,P=primes 64:=⟨_,rfl⟩;have q8:=primes8;have q64:=primes64;rw[← hP8] at p8 s8 q8;rw[← hP64] at p64 s64 q64;clear hP8 hP64;rw[q8.1] at p8;rw[q64.1] at p64;obtain⟨R8,hR8⟩:∃ R,R=startL:=⟨_,rfl⟩;obtain⟨R64,hR64⟩:∃ R,R=allL:=⟨_,rfl⟩;rw[← hR8,← hR64];rw[← hR8] at s8;rw[← hR64] at s64;clear hR8 hR64;replace p8:=LH p8;replace p64:=LH p64;replace q8:=LH q8;replace q64:=LH q64;replace s8:=LH s8;replace s64:=LH s64;clear hn;go_enter func193,ntmps193
 go_wp2_with fail
 refine (p8.out _).mono ?_;rintro e w1 ⟨v,rfl,ho,hb⟩
 have hA0:ArrN w1 n 313 (List.replicate 8 0):=by
  refine ArrN.keep ?_ (hb.block n (by simp[HN.out];omega));rw[HN.out];exact (Below.heap_alloc _ _ _ (by simp)).trans (heap_alloc_new w _)
 have hA1:ArrN w1 (n+1) 314 (List.replicate 64 0):=by
  refine ArrN.keep ?_ (hb.block (n+1) (by simp[HN.out]));have h:=heap_alloc_new (w.alloc (.cells (n32s (List.replicate 8 0)).toArray 313)) (.cells (n32s (List.replicate 64 0)).toArray 314);simp only[World.size_alloc] at h;rw[HN.out];exact h
 have hB1:Below n w w1:=by
  rw[HN.out];exact (((Below.refl _ _).alloc (Nat.le_refl _) _).alloc (by simp) _).trans (hb.mono (by simp;omega))
 have hc:=(Cells.own ho).mono (S':=fun g=>n+1<g) (fun g _ hg=>by have:=hg.2;simp at this;have:=HN.out;omega);obtain⟨va,vc,rfl,hv1,hv2⟩:=hc.shape;unfold maxLen at hv2;rw[← HN.out];replace hA0:=LH hA0;replace hA1:=LH hA1;replace hB1:=LH hB1;replace hc:=LH hc;clear ho hb;go_wp2
 go_loopw [8] (fun i wr=>∃ k:Nat,k≤8∧i=.int .i64 k∧Below n w wr∧n+1<wr.heap.size∧Hid (Cells wr (fun g=>n+1<g) (.slice va 8 vc) 8 1 (u64s P8))∧Hid (ArrN wr n 313 (fillL 8 (fun p=>root p 2) P8 k))∧Hid (ArrN wr (n+1) 314 (List.replicate 64 0)))
  (fun i _=>8 - (intOf i).toNat)
 case atStart=>exact⟨0,by omega,rfl,hB1.out,heap_lt hA1.out,hc.out,hA0.out,hA1.out⟩
 case round=>
  clear hA0 hA1 hB1 hc;obtain⟨k,hk,rfl,hbr,hs,hc,H0,H1⟩:=hrel;replace hbr:=LH hbr;by_cases hlt:k<8
  ·obtain⟨g,off,cp,hv,_,_,hgn,hgl,hcl⟩:=Cells.at hc.out (by omega);simp only[Value.slice.injEq] at hv;obtain⟨rfl,_,rfl⟩:=hv;have hcell:=hcl k _ (u64s_get P8 k (by rw[q8.out.1];exact hlt));replace hcl:=LH hcl;obtain⟨p,hp⟩:∃ p,p=P8.getD k 0:=⟨_,rfl⟩;rw[← hp] at hcell
   have hpl:p<1000:=by
    rw[hp];refine q8.out.2 _ ?_;simp[List.getD,show k<P8.length by rw[q8.out.1];exact hlt]
   have hroot:=LH (root2'_ok p hpl wr);obtain⟨R,hR⟩:∃ R,R=root p 2:=⟨_,rfl⟩;rw[← hR] at hroot
   have hstep:(fillL 8 (fun p=>root p 2) P8 k).set k R=fillL 8 (fun p=>root p 2) P8 (k+1):=by
    rw[hR,hp];exact fillL_succ q8.out.1 hlt
   have f0:=H0.out.frozen k;have c0:=H0.out.cell k (by rw[fillL_length q8.out.1 hk];exact hlt);have hset:=H0.out.set k R;rw[hstep] at hset;replace hset:=LH hset;clear hstep hR hp
   go_wp2_with (go_at_call 202;(with_reducible refine hroot.out.mono ?_);rintro e w' ⟨rfl,rfl⟩)
   go_roundw
   case rel=>
    refine⟨k+1,by omega,by go_num,hbr.out.setCell (p:=⟨n,k,none⟩) (Nat.le_refl n) _,by simpa using hs,?_,hset.out,?_⟩
    ·exact hc.out.keep (by simp) (fun b hb _=>setCell_heap_ne _ _ _ (by simp;omega))
    ·exact H1.out.keep (setCell_heap_ne _ _ _ (by simp))
   case measure=>simp[intOf];omega
  ·have hk8:k=8:=by omega
   rw[hk8] at H0;replace hk8:=LH hk8
   go_wp2_with fail
   refine (p64.out wr).mono ?_;rintro e w2 ⟨v,rfl,ho,hb⟩
   have hA0:ArrN w2 n 313 R8:=by
    rw[s8.out];exact H0.out.keep (hb.block n (by omega))
   have hA1:ArrN w2 (n+1) 314 (List.replicate 64 0):=H1.out.keep (hb.block (n+1) hs);have hB2:Below n w w2:=hbr.out.trans (hb.mono (by omega));have hs2:n+1<w2.heap.size:=heap_lt hA1;have hcc:=(Cells.own ho).mono (S':=fun g=>n+1<g) (fun g _ hg=>by have:=hg.2;omega);obtain⟨va2,vc2,rfl,hv21,hv22⟩:=hcc.shape;unfold maxLen at hv22;replace hA0:=LH hA0;replace hA1:=LH hA1;replace hB2:=LH hB2;replace hcc:=LH hcc;have hR8:R8.length=8:=by rw[s8.out,fillL_length q8.out.1 (Nat.le_refl _)]
   have hR64:R64.length=64:=by rw[s64.out,fillL_length q64.out.1 (Nat.le_refl _)]
   clear ho hb H0 H1 hc hbr hs hk8 hk;generalize decide ((k:Int)<8)=dd;generalize Value.int .i64 (k:Int)=kk;go_wp2
   go_loopw [20] (fun i wr=>∃ k:Nat,k≤64∧i=.int .i64 k∧Below n w wr∧n+1<wr.heap.size∧Hid (Cells wr (fun g=>n+1<g) (.slice va2 64 vc2) 64 1 (u64s P64))∧Hid (ArrN wr n 313 R8)∧Hid (ArrN wr (n+1) 314 (fillL 64 (fun p=>root p 3) P64 k)))
    (fun i _=>64 - (intOf i).toNat)
   case atStart=>exact⟨0,by omega,rfl,hB2.out,hs2,hcc.out,hA0.out,hA1.out⟩
   case round=>
    clear hA0 hA1 hB2 hcc hs2;obtain⟨k,hk,rfl,hbr,hs,hc,H0,H1⟩:=hrel;replace hbr:=LH hbr;by_cases hlt:k<64
    ·obtain⟨g,off,cp,hv,_,_,hgn,hgl,hcl⟩:=Cells.at hc.out (by omega);simp only[Value.slice.injEq] at hv;obtain⟨rfl,_,rfl⟩:=hv;have hcell:=hcl k _ (u64s_get P64 k (by rw[q64.out.1];exact hlt));replace hcl:=LH hcl;obtain⟨p,hp⟩:∃ p,p=P64.getD k 0:=⟨_,rfl⟩;rw[← hp] at hcell
     have hpl:p<1000:=by
      rw[hp];refine q64.out.2 _ ?_;simp[List.getD,show k<P64.length by rw[q64.out.1];exact hlt]
     have hroot:=LH (root3'_ok p hpl wr);obtain⟨R,hR⟩:∃ R,R=root p 3:=⟨_,rfl⟩;rw[← hR] at hroot
     have hstep:(fillL 64 (fun p=>root p 3) P64 k).set k R=fillL 64 (fun p=>root p 3) P64 (k+1):=by
      rw[hR,hp];exact fillL_succ q64.out.1 hlt
     have f0:=H1.out.frozen k;have c0:=H1.out.cell k (by rw[fillL_length q64.out.1 hk];exact hlt);have hset:=H1.out.set k R;rw[hstep] at hset;replace hset:=LH hset;clear hstep hR hp
     go_wp2_with (go_at_call 202;(with_reducible refine hroot.out.mono ?_);rintro e w' ⟨rfl,rfl⟩)
     go_roundw
     case rel=>
      refine⟨k+1,by omega,by go_num,hbr.out.setCell (p:=⟨n+1,k,none⟩) (by show n≤n+1;omega) _,by simpa using hs,?_,?_,hset.out⟩
      ·exact hc.out.keep (by simp) (fun b hb _=>setCell_heap_ne _ _ _ (by simp;omega))
      ·exact H0.out.keep (setCell_heap_ne _ _ _ (by simp))
     case measure=>simp[intOf];omega
    ·have hk8:k=64:=by omega
     rw[hk8,← s64.out] at H1;clear hk8;have k0:=fun (w3:World) (h:Chg No wr.drew w3)=>H0.out.keep (h.block n (by show n<wr.heap.size;omega) id)
     have k1:=fun (w3:World) (h:Chg No wr.drew w3)=>H1.out.keep (h.block (n+1) (by show n+1<wr.heap.size;omega) id)
     have hl0:=fun (w3:World) (h:Chg No wr.drew w3)=>run_loadAt_arrN (P:=prog) (k0 w3 h) underlying313 (size8 hR8)
     have hl1:=fun (w3:World) (h:Chg No wr.drew w3)=>run_loadAt_arrN (P:=prog) (k1 w3 h) underlying314 (size64 hR64)
     have hs0:=fun (w3:World) (h:Chg No wr.drew w3)=>run_storeAt_same (P:=prog) (k0 w3 h) (size8 hR8)
     have hs1:=fun (w3:World) (h:Chg No wr.drew w3)=>run_storeAt_same (P:=prog) (k1 w3 h) (size64 hR64)
     replace k0:=LH k0;replace k1:=LH k1;replace hl0:=LH hl0;replace hl1:=LH hl1;replace hs0:=LH hs0;replace hs1:=LH hs1;replace hR8:=LH hR8;replace hR64:=LH hR64;go_wp2;refine RA.rt (Chg No) [1,1,2,2] [] (fun _=>True) trivial (fun _=>Chg.refl _ _) (fun _ _ _ h k=>h.trans k) (h:=?_);intro cx;refine RA.ld (by rfl) (by rfl) (by rfl) (y':=.agg (n32s R8).toArray) (fun w3 hp=>hl0.out w3 hp.1) ?_;refine RA.ld (by rfl) (by rfl) (by rfl) (y':=.agg (n32s R64).toArray) (fun w3 hp=>hl1.out w3 hp.1) ?_;refine RA.nst (by rfl) (by rfl) (fun w=>rfl) (fun _ _=>trivial) (fun w3 hp=>RA.ex_store (by rfl) (by rfl) (hs0.out w3 hp.1)) (fun u1=>?_);refine RA.nst (by rfl) (by rfl) (fun w=>rfl) (fun _ _=>trivial) (fun w3 hp=>RA.ex_store (by rfl) (by rfl) (hs1.out w3 hp.1)) (fun u2=>?_);refine RA.RA.done rfl (fun w3 hR hF hH=>?_);clear hF hH;simp only[RA.put,List.foldr_cons,List.foldr_nil,cx,Act.put,List.setIfInBounds_toArray,List.set_cons_succ,List.set_cons_zero];go_wp2;have hR:Chg No wr.drew w3:=hR;refine bodyPost_ret (v:=.tuple #[.agg (n32s R8).toArray,.agg (n32s R64).toArray]) ?_ rfl ⟨rfl,?_⟩
     ·exact results_two results193 _ w3 (a:=⟨n,0,none⟩) (b:=⟨n+1,0,none⟩) rfl rfl (run_loadVar_row w3 n _ _ _ (0,0) _ (k0.out w3 hR) underlying313 rfl (by rw[size8 hR8.out];simp[n32s_length])) (run_loadVar_row w3 (n+1) _ _ _ (0,0) _ (k1.out w3 hR) underlying314 rfl (by rw[size64 hR64.out];simp[n32s_length]))
     ·rw[← HN.out];have h:Below wr.heap.size wr w3:=Chg.no ⟨hR.os,hR.tape,hR.output,hR.size,hR.block⟩;exact hbr.out.trans (h.mono (by omega))
end Go.Proofs.YthmcbgidehjlbaaGreat.Fd
/-
  sha.New. No condition beyond what each theorem names.
-/
namespace Go.Proofs.YthmcbgidehjlbaaGreat.Fd
open _root_.Go.Proofs.Tryz
open Go Go.RowKit K
set_option maxRecDepth 100000
set_option maxHeartbeats 4000000
theorem n32s_splice (l:List Nat) (off:Nat) (x:List Nat):splice (n32s l) off (n32s x)=n32s (splice l off x):=by simp[splice,n32s,List.map_take,List.map_drop]
theorem splice_front {α:Type}{x y z:List α}(h:x.length=z.length):splice (z++y) 0 x=x++y:=by
 simp[splice,h]
theorem splice_back {α:Type}{x y z:List α}(h:x.length=y.length):splice (z++y) z.length x=z++x:=by
 simp[splice,h]
def SummerAt (w:World) (p:Nat):Prop:=ArrN w p 316 (startL++allL)
theorem SummerAt.keep {w w':World}{p:Nat}(h:SummerAt w p) (e:w'.heap[p]?=w.heap[p]?):SummerAt w' p:=ArrN.keep h e
theorem shNew_ok (w:World):Calls prog 185 #[] w fun e w'=>∃ p,e=.returned (.pointer (some ⟨p,0,none⟩))∧w.heap.size≤p∧SummerAt w' p∧Below w.heap.size w w':=by
 obtain⟨n,hn⟩:∃ n,n=w.heap.size:=⟨_,rfl⟩;have HN:=LH hn;have hc:=fun w1=>const_ok w1
 have hfin:∀ w',ArrN w' n 316 (startL++allL)→SummerAt w' n:=fun _ h=>h
 have hs8:=startL_length;have hs64:=allL_length;obtain⟨R8,hR8⟩:∃ R,R=startL:=⟨_,rfl⟩;obtain⟨R64,hR64⟩:∃ R,R=allL:=⟨_,rfl⟩;rw[← hR8] at hs8;rw[← hR64] at hs64;rw[← hR8,← hR64] at hfin;rw[← hR8,← hR64] at hc;clear hR8 hR64 hn;replace hc:=LH hc;replace hfin:=LH hfin;replace hs8:=LH hs8;replace hs64:=LH hs64;go_enter func185,ntmps185
 go_wp2_with fail
 refine (hc.out _).mono ?_;rintro e w1 ⟨rfl,hb⟩;rw[← HN.out]
 have hA0:ArrN w1 n 316 (List.replicate 8 0++List.replicate 64 0):=by
  refine ArrN.keep ?_ (hb.block n (by simp[HN.out]));rw[HN.out];exact heap_alloc_new w _
 have hB1:Below n w w1:=by
  rw[HN.out];exact ((Below.refl _ _).alloc (Nat.le_refl _) _).trans (hb.mono (by simp))
 have hst1:=run_storeAt_vals (P:=prog) (off:=0) (ty:=313) (x:=n32s R8) hA0 (by rw[size8 hs8.out,n32s_length]) (by simp[n32s_length,hs8.out]) (n32s_one R8);rw[show (n32s (List.replicate 8 0++List.replicate 64 0)).toArray.toList=n32s (List.replicate 8 0++List.replicate 64 0) from rfl,n32s_splice,splice_front (by rw[hs8.out,List.length_replicate])] at hst1;obtain⟨w2,hw2⟩:∃ w2,w2=w1.setRow n (n32s (R8++List.replicate 64 0)).toArray:=⟨_,rfl⟩;have hA2:ArrN w2 n 316 (R8++List.replicate 64 0):=hw2 ▸ hA0.setRow _;have hB2:Below n w w2:=hw2 ▸ below_setRow hB1 (Nat.le_refl n) _;rw[← hw2] at hst1;have hst2:=run_storeAt_vals (P:=prog) (off:=8) (ty:=314) (x:=n32s R64) hA2 (by rw[size64 hs64.out,n32s_length]) (by simp[n32s_length,hs8.out,hs64.out]) (n32s_one R64)
 have e8:splice (R8++List.replicate 64 0) 8 R64=R8++R64:=by
  have:=splice_back (x:=R64) (y:=List.replicate 64 0) (z:=R8) (by rw[hs64.out,List.length_replicate]);rw[hs8.out] at this;exact this
 rw[show (n32s (R8++List.replicate 64 0)).toArray.toList=n32s (R8++List.replicate 64 0) from rfl,n32s_splice,e8] at hst2;have hA3:=hA2.setRow (R8++R64);have hB3:=below_setRow hB2 (Nat.le_refl n) (n32s (R8++R64)).toArray;replace hst1:=LH hst1;replace hst2:=LH hst2;replace hA3:=LH hA3;replace hB3:=LH hB3;clear hA0 hB1 hA2 hB2 hw2 e8 hb
 go_wp2_with (first
  | (refine wpList_store rfl 313 _ _ rfl _ _ rfl rfl hst1.out ?_)
  | (refine wpList_store rfl 314 _ _ rfl _ _ rfl rfl hst2.out ?_))
 go_ret;exact⟨n,rfl,Nat.le_of_eq HN.out.symm,hfin.out _ hA3.out,HN.out ▸ hB3.out⟩
end Go.Proofs.YthmcbgidehjlbaaGreat.Fd
/-
  sha.words. No condition beyond what each theorem names.
-/
namespace Go.Proofs.YthmcbgidehjlbaaGreat.Fd
open _root_.Go.Proofs.Tryz
open Go Go.RowKit K
set_option maxRecDepth 100000
set_option maxHeartbeats 8000000
def sg0 (x:Nat):Nat:=rot32 x 25 ^^^ rot32 x 14 ^^^ x / 8
def sg1 (y:Nat):Nat:=rot32 y 15 ^^^ rot32 y 13 ^^^ y / 1024
def wNext (l:List Nat) (i:Nat):Nat:=(((l.getD (i - 16) 0+sg0 (l.getD (i - 15) 0)) % 4294967296+l.getD (i - 7) 0) % 4294967296+sg1 (l.getD (i - 2) 0)) % 4294967296
def wL (b:List UInt8):Nat→List Nat
 | 0=>List.replicate 64 0
 | i+1=>(wL b i).set i (if i<16 then keyW b i else wNext (wL b i) i)
theorem wL_length {b:List UInt8}{i:Nat}:(wL b i).length=64:=by
 cases i with
 | zero=>exact List.length_replicate
 | succ i=>exact List.length_set.trans wL_length
theorem wNext_lt {l:List Nat}{i:Nat}:wNext l i<4294967296:=Nat.mod_lt _ (by omega)
theorem getD_set_lt {l:List Nat}{i j x B:Nat}(hl:∀ j,l.getD j 0<B) (hx:x<B):(l.set i x).getD j 0<B:=by
 simp only[List.getD,List.getElem?_set];split
 ·split
  ·exact hx
  ·have:=hl i;simp only[List.getD] at this;simp;omega
 ·exact hl j
theorem wL_lt {b:List UInt8}:∀ {i j:Nat},(wL b i).getD j 0<4294967296:=by
 intro i
 induction i with
 | zero=>
  intro j;simp only[wL,List.getD,List.getElem?_replicate];split<;>simp
 | succ i ih=>
  intro j;refine getD_set_lt (fun j=>ih) ?_;split
  ·exact keyW_lt
  ·exact wNext_lt
theorem words_ok {w:World}{S:Nat→Prop}{v:Value}{b:List UInt8}(hb:Bytes w S v b) (hl:b.length=64):
  Calls prog 203 #[v] w fun e w'=>e=.returned (.agg (n32s (wL b 64)).toArray)∧Below w.heap.size w w':=by
 obtain⟨n,hn⟩:∃ n,n=w.heap.size:=⟨_,rfl⟩;have HN:=LH hn;have hc:Cells w S v 64 1 (u8s b):=by rw[← hl];exact hb
 obtain⟨g,off,cap,rfl,hc1,hc2,_,hgl,hcell⟩:=Cells.at hc (by omega)
 have hbyte:∀ j,j<64→w.cell? ⟨g,off+j,none⟩=some (.int .u8 (b.getD j 0).toNat):=by
  intro j hj;have h:=hcell j _ (u8s_get b j (by omega));rw[h];simp[List.getD,show j<b.length by omega]
 rw[← hn] at hgl;unfold maxLen at hc2;replace hbyte:=LH hbyte;replace hl:=LH hl;clear hb hc hcell hn;go_enter func203,ntmps203;go_wp2;rw[← HN.out]
 go_loopw [8] (fun i wr=>∃ k:Nat,k≤64∧i=.int .i64 k∧Below n w wr∧n<wr.heap.size∧Hid (ArrN wr n 314 (wL b k)))
  (fun i _=>64 - (intOf i).toNat)
 case atStart=>
  refine⟨0,by omega,rfl,?_,by simp[HN.out],?_⟩
  ·rw[HN.out];exact (Below.refl _ _).alloc (Nat.le_refl _) _
  ·rw[HN.out];exact heap_alloc_new w _
 case round=>
  obtain⟨k,hk,rfl,hbr,hs,H0⟩:=hrel;have hdr:∀ w3,Chg No wr.drew w3→Chg No wr w3:=fun w3 h=>⟨h.os,h.tape,h.output,h.size,h.block⟩
  replace hdr:=LH hdr;by_cases hlt:k<64
  ·obtain⟨L,hL⟩:∃ L,L=wL b k:=⟨_,rfl⟩;have hLl:L.length=64:=hL ▸ wL_length;have hLt:∀ j,L.getD j 0<4294967296:=fun j=>hL ▸ wL_lt
   rw[← hL] at H0;by_cases hk16:k<16
   ·obtain⟨q,hq⟩:∃ q,q=4*k:=⟨_,rfl⟩;have hq4:4*(k:Int)=q:=by omega
    have hqL:q+3<64:=by omega
    obtain⟨q1,hq1⟩:∃ j,j=q+1:=⟨_,rfl⟩;obtain⟨q2,hq2⟩:∃ j,j=q+2:=⟨_,rfl⟩;obtain⟨q3,hq3⟩:∃ j,j=q+3:=⟨_,rfl⟩;have lq1:q1<64:=by omega
    have lq2:q2<64:=by omega
    have lq3:q3<64:=by omega
    have hq1i:(q:Int)+1=q1:=by omega
    have hq2i:(q:Int)+2=q2:=by omega
    have hq3i:(q:Int)+3=q3:=by omega
    obtain⟨A,hA⟩:∃ A,A=(b.getD q 0).toNat:=⟨_,rfl⟩;obtain⟨B,hB⟩:∃ B,B=(b.getD q1 0).toNat:=⟨_,rfl⟩;obtain⟨C,hC⟩:∃ C,C=(b.getD q2 0).toNat:=⟨_,rfl⟩;obtain⟨D,hD⟩:∃ D,D=(b.getD q3 0).toNat:=⟨_,rfl⟩;have hcA:=hbyte.out q (by omega);have hcB:=hbyte.out q1 (by omega);have hcC:=hbyte.out q2 (by omega);have hcD:=hbyte.out q3 (by omega);rw[← hA] at hcA;rw[← hB] at hcB;rw[← hC] at hcC;rw[← hD] at hcD;have hAl:A<256:=hA ▸ UInt8.toNat_lt _;have hBl:B<256:=hB ▸ UInt8.toNat_lt _;have hCl:C<256:=hC ▸ UInt8.toNat_lt _;have hDl:D<256:=hD ▸ UInt8.toNat_lt _;have hkW:keyW b k=w32 A B C D:=by rw[keyW,← hq,← hq1,← hq2,← hq3,← hA,← hB,← hC,← hD]
    clear hA hB hC hD hq1 hq2 hq3;obtain⟨X1,hX1⟩:∃ X,X=A*16777216:=⟨_,rfl⟩;obtain⟨X2,hX2⟩:∃ X,X=B*65536:=⟨_,rfl⟩;obtain⟨X3,hX3⟩:∃ X,X=X1+X2:=⟨_,rfl⟩;obtain⟨X4,hX4⟩:∃ X,X=C*256:=⟨_,rfl⟩;obtain⟨X5,hX5⟩:∃ X,X=X3+X4:=⟨_,rfl⟩;obtain⟨W,hW⟩:∃ X,X=X5+D:=⟨_,rfl⟩;have ho1:bits .or .u32 (X1:Int) (X2:Int)=(X3:Int):=by rw[u32_or_nat X1 X2 (by omega) (by omega),nat_join 24 X1 X2 (by omega) (by omega),hX3]
    have ho2:bits .or .u32 (X3:Int) (X4:Int)=(X5:Int):=by rw[u32_or_nat X3 X4 (by omega) (by omega),nat_join 16 X3 X4 (by omega) (by omega),hX5]
    have ho3:bits .or .u32 (X5:Int) (D:Int)=(W:Int):=by rw[u32_or_nat X5 D (by omega) (by omega),nat_join 8 X5 D (by omega) (by omega),hW]
    have hWl:W<4294967296:=by omega
    have hWe:keyW b k=W:=by rw[hkW,w32];omega
    have hset:wL b (k+1)=L.set k W:=by rw[wL,if_pos hk16,hWe,hL]
    rw[← World.cell?_of_block (w:=w) (hbr.block g hgl)] at hcA hcB hcC hcD;have hglr:g<wr.heap.size:=by omega
    replace hset:=LH hset;clear hkW hWe;replace hL:=LH hL;replace hLt:=LH hLt;replace hX1:=LH hX1;replace hX2:=LH hX2;replace hX3:=LH hX3;replace hX4:=LH hX4;replace hX5:=LH hX5;replace hW:=LH hW;replace hq:=LH hq;replace hcA:=LH hcA;replace hcB:=LH hcB;replace hcC:=LH hcC;replace hcD:=LH hcD;replace hbr:=LH hbr;go_wp2;refine RA.rt (Chg No) [1,1,1,1,1,1,1,1,1,1,1,1,1,1,1,1,1,1,1,1,1,1,1,1,1,1,1,1,1,1,1,1,1,1,1,7] [35] (fun _=>True) (trivial) (fun _=>Chg.refl _ _) (fun _ _ _ h k=>h.trans k) (h:=?_);intro cx
    repeat refine RA.qq (h:=?_)
    refine RA.mi (by kernel_rfl) (by rfl) (by rfl) (by rfl) ((q:Int)) (hq4) (by omega) ?_;refine RA.ik prog (g) (off+q) (h:=?_);refine RA.lk prog (.int .u8 A) (hc:=fun w3 hp=>by exact ((hdr.out _ hp.1).cell (p:=⟨g,off+q,none⟩) hglr id).trans hcA.out) (h:=?_);refine RA.vw prog (.int .u32 A) (h:=?_);refine RA.vk prog (.int .u32 X1) (hr:=fun w hp=>by (try go_simp);rw[hX1.out,IntKind.wrap_u32'];omega) (h:=?_)
    repeat refine RA.qq (h:=?_)
    refine RA.mi (by kernel_rfl) (by rfl) (by rfl) (by rfl) ((q:Int)) (hq4) (by omega) ?_;refine RA.ai (by kernel_rfl) (by rfl) (by rfl) (by rfl) ((q1:Int)) (hq1i) (by omega) ?_;refine RA.ik prog (g) (off+q1) (h:=?_);refine RA.lk prog (.int .u8 B) (hc:=fun w3 hp=>by exact ((hdr.out _ hp.1).cell (p:=⟨g,off+q1,none⟩) hglr id).trans hcB.out) (h:=?_);refine RA.vw prog (.int .u32 B) (h:=?_);refine RA.vk prog (.int .u32 X2) (hr:=fun w hp=>by (try go_simp);rw[hX2.out,IntKind.wrap_u32'];omega) (h:=?_);refine RA.vk prog (.int .u32 X3) (h:=?_)
    repeat refine RA.qq (h:=?_)
    refine RA.mi (by kernel_rfl) (by rfl) (by rfl) (by rfl) ((q:Int)) (hq4) (by omega) ?_;refine RA.ai (by kernel_rfl) (by rfl) (by rfl) (by rfl) ((q2:Int)) (hq2i) (by omega) ?_;refine RA.ik prog (g) (off+q2) (h:=?_);refine RA.lk prog (.int .u8 C) (hc:=fun w3 hp=>by exact ((hdr.out _ hp.1).cell (p:=⟨g,off+q2,none⟩) hglr id).trans hcC.out) (h:=?_);refine RA.vw prog (.int .u32 C) (h:=?_);refine RA.vk prog (.int .u32 X4) (hr:=fun w hp=>by (try go_simp);rw[hX4.out,IntKind.wrap_u32'];omega) (h:=?_);refine RA.vk prog (.int .u32 X5) (h:=?_)
    repeat refine RA.qq (h:=?_)
    refine RA.mi (by kernel_rfl) (by rfl) (by rfl) (by rfl) ((q:Int)) (hq4) (by omega) ?_;refine RA.ai (by kernel_rfl) (by rfl) (by rfl) (by rfl) ((q3:Int)) (hq3i) (by omega) ?_;refine RA.ik prog (g) (off+q3) (h:=?_);refine RA.lk prog (.int .u8 D) (hc:=fun w3 hp=>by exact ((hdr.out _ hp.1).cell (p:=⟨g,off+q3,none⟩) hglr id).trans hcD.out) (h:=?_);refine RA.vw prog (.int .u32 D) (h:=?_);refine RA.vk prog (.int .u32 W) (h:=?_);refine RA.ik prog (n) (k) (h:=?_);refine RA.stt (fun w4=>Below n w w4∧n<w4.heap.size∧ArrN w4 n 314 (L.set k W)) (by rfl) (by rfl) (by kernel_rfl) (fun _ _ h k=>h ▸ k) (fun w3 hp _=>?_) ?_
    ·have hR:=hdr.out _ (hp.first (by kernel_rfl)).1;have A0:=H0.out.keep (hR.block n hs id);have f0:=A0.frozen k;have c0:=A0.cell k (by rw[hLl];exact hlt);have e:(Instr.storeAt 244 (.pointer (some ⟨n,k,none⟩)) (.int .u32 (W:Int))).run prog w3=.ok () (w3.setCell ⟨n,k,none⟩ (.int .u32 (W:Int))):=by go_simp
     refine⟨_,RA.ex_store (by rfl) (by rfl) e,(hbr.out.trans ((Chg.no hR).mono (by omega))).setCell (p:=⟨n,k,none⟩) (Nat.le_refl n) _,?_,A0.set k W⟩;have:=hR.size;simp;omega
    refine RA.RA.doneT (fun w3 hH=>?_);simp only[RA.put,List.foldr_cons,List.foldr_nil,cx,Act.put,List.setIfInBounds_toArray,List.set_cons_succ,List.set_cons_zero];replace hH:=LH hH;go_wp2;go_roundw
    case rel=>
     refine⟨k+1,by omega,by go_num,hH.out.1,hH.out.2.1,?_⟩;show ArrN _ _ _ _;rw[hset.out];exact hH.out.2.2
    case measure=>simp[intOf];omega
   ·obtain⟨j15,hj15⟩:∃ j,j=k - 15:=⟨_,rfl⟩;obtain⟨j2,hj2⟩:∃ j,j=k - 2:=⟨_,rfl⟩;obtain⟨j16,hj16⟩:∃ j,j=k - 16:=⟨_,rfl⟩;obtain⟨j7,hj7⟩:∃ j,j=k - 7:=⟨_,rfl⟩;have h15:(k:Int) - 15=j15:=by omega
    have h2:(k:Int) - 2=j2:=by omega
    have h16:(k:Int) - 16=j16:=by omega
    have h7:(k:Int) - 7=j7:=by omega
    have l15:j15<64:=by omega
    have l2:j2<64:=by omega
    have l16:j16<64:=by omega
    have l7:j7<64:=by omega
    obtain⟨X,hX⟩:∃ X,X=L.getD j15 0:=⟨_,rfl⟩;obtain⟨Y,hY⟩:∃ Y,Y=L.getD j2 0:=⟨_,rfl⟩;obtain⟨U,hU⟩:∃ U,U=L.getD j16 0:=⟨_,rfl⟩;obtain⟨V,hV⟩:∃ V,V=L.getD j7 0:=⟨_,rfl⟩;have hXl:X<4294967296:=hX ▸ hLt _;have hYl:Y<4294967296:=hY ▸ hLt _;have hUl:U<4294967296:=hU ▸ hLt _;have hVl:V<4294967296:=hV ▸ hLt _;have cX:=H0.out.cell j15 (by omega);have cY:=H0.out.cell j2 (by omega);have cU:=H0.out.cell j16 (by omega);have cV:=H0.out.cell j7 (by omega);rw[← hX] at cX;rw[← hY] at cY;rw[← hU] at cU;rw[← hV] at cV;obtain⟨x1,hx1⟩:∃ x,x=rot32 X 25:=⟨_,rfl⟩;obtain⟨x2,hx2⟩:∃ x,x=rot32 X 14:=⟨_,rfl⟩;obtain⟨x3,hx3⟩:∃ x,x=X / 8:=⟨_,rfl⟩;obtain⟨x4,hx4⟩:∃ x,x=x1 ^^^ x2:=⟨_,rfl⟩;obtain⟨x5,hx5⟩:∃ x,x=x4 ^^^ x3:=⟨_,rfl⟩;obtain⟨y1,hy1⟩:∃ x,x=rot32 Y 15:=⟨_,rfl⟩;obtain⟨y2,hy2⟩:∃ x,x=rot32 Y 13:=⟨_,rfl⟩;obtain⟨y3,hy3⟩:∃ x,x=Y / 1024:=⟨_,rfl⟩;obtain⟨y4,hy4⟩:∃ x,x=y1 ^^^ y2:=⟨_,rfl⟩;obtain⟨y5,hy5⟩:∃ x,x=y4 ^^^ y3:=⟨_,rfl⟩;have lx1:x1<4294967296:=hx1 ▸ rot32_lt hXl;have lx2:x2<4294967296:=hx2 ▸ rot32_lt hXl;have ly1:y1<4294967296:=hy1 ▸ rot32_lt hYl;have ly2:y2<4294967296:=hy2 ▸ rot32_lt hYl;have lx4:x4<4294967296:=hx4 ▸ xor32 lx1 lx2;have ly4:y4<4294967296:=hy4 ▸ xor32 ly1 ly2;have lx5:x5<4294967296:=hx5 ▸ xor32 lx4 (by omega);have ly5:y5<4294967296:=hy5 ▸ xor32 ly4 (by omega);have bx4:bits .xor .u32 (x1:Int) (x2:Int)=(x4:Int):=by rw[u32_xor_nat x1 x2 lx1 lx2,hx4]
    have bx5:bits .xor .u32 (x4:Int) (x3:Int)=(x5:Int):=by rw[u32_xor_nat x4 x3 lx4 (by omega),hx5]
    have by4:bits .xor .u32 (y1:Int) (y2:Int)=(y4:Int):=by rw[u32_xor_nat y1 y2 ly1 ly2,hy4]
    have by5:bits .xor .u32 (y4:Int) (y3:Int)=(y5:Int):=by rw[u32_xor_nat y4 y3 ly4 (by omega),hy5]
    have dx3:(X:Int) / 8=x3:=by omega
    have dy3:(Y:Int) / 1024=y3:=by omega
    have rx1:=fun w=>hx1 ▸ rot32_ok X 25 (-7) hXl (by omega) (.inr ⟨by omega,by omega⟩) w
    have rx2:=fun w=>hx2 ▸ rot32_ok X 14 (-18) hXl (by omega) (.inr ⟨by omega,by omega⟩) w
    have ry1:=fun w=>hy1 ▸ rot32_ok Y 15 (-17) hYl (by omega) (.inr ⟨by omega,by omega⟩) w
    have ry2:=fun w=>hy2 ▸ rot32_ok Y 13 (-19) hYl (by omega) (.inr ⟨by omega,by omega⟩) w
    obtain⟨W1,hW1⟩:∃ x,x=(U+x5) % 4294967296:=⟨_,rfl⟩;obtain⟨W2,hW2⟩:∃ x,x=(W1+V) % 4294967296:=⟨_,rfl⟩;obtain⟨W,hW⟩:∃ x,x=(W2+y5) % 4294967296:=⟨_,rfl⟩
    have hset:wL b (k+1)=L.set k W:=by
     rw[wL,if_neg hk16,← hL,wNext,← hj15,← hj2,← hj16,← hj7,← hX,← hY,← hU,← hV,sg0,sg1,← hx1,← hx2,← hx3,← hy1,← hy2,← hy3,← hx4,← hx5,← hy4,← hy5,← hW1,← hW2,← hW]
    replace hset:=LH hset;replace hL:=LH hL;replace hLt:=LH hLt;replace hW:=LH hW;replace hW1:=LH hW1;replace hW2:=LH hW2;replace rx1:=LH rx1;replace rx2:=LH rx2;replace ry1:=LH ry1;replace ry2:=LH ry2;replace cX:=LH cX;replace cY:=LH cY;replace cU:=LH cU;replace cV:=LH cV;replace hbr:=LH hbr;clear hX hY hU hV hx1 hx2 hx3 hx4 hx5 hy1 hy2 hy3 hy4 hy5 hj15 hj2 hj16 hj7;go_wp2;refine RA.rt (Chg No) [1,1,1,1,1,1,1,1,1,1] [] (fun _=>True) trivial (fun _=>Chg.refl _ _) (fun _ _ _ h k=>h.trans k) (h:=?_);intro cx
    repeat refine RA.qq (h:=?_)
    refine RA.si (by kernel_rfl) (by rfl) (by rfl) (by rfl) ((j15:Int)) (h15) (by omega) ?_;refine RA.ik prog (n) (j15) (h:=?_);refine RA.lk prog (.int .u32 X) (hc:=fun w3 hp=>by exact ((hdr.out _ hp.1).cell (p:=⟨n,j15,none⟩) hs id).trans cX.out) (h:=?_)
    repeat refine RA.qq (h:=?_)
    refine RA.si (by kernel_rfl) (by rfl) (by rfl) (by rfl) ((j2:Int)) (h2) (by omega) ?_;refine RA.ik prog (n) (j2) (h:=?_);refine RA.lk prog (.int .u32 Y) (hc:=fun w3 hp=>by exact ((hdr.out _ hp.1).cell (p:=⟨n,j2,none⟩) hs id).trans cY.out) (h:=?_)
    repeat refine RA.qq (h:=?_)
    refine RA.RA.done rfl (fun wx hR hF hH=>?_);clear hF hH;simp only[RA.put,List.foldr_cons,List.foldr_nil,cx,Act.put,List.setIfInBounds_toArray,List.set_cons_succ,List.set_cons_zero];have hRx:=hdr.out _ hR;have Hx:ArrN wx n 314 L:=H0.out.keep (hRx.block n hs id);have hbx:Below n w wx:=hbr.out.trans ((Chg.no hRx).mono (by omega));have hsx:n<wx.heap.size:=heap_lt Hx;have cUx:=LH ((hRx.cell (p:=⟨n,j16,none⟩) hs id).trans cU.out);have cVx:=LH ((hRx.cell (p:=⟨n,j7,none⟩) hs id).trans cV.out);clear H0 hbr hs cU cV cX cY hdr hR hRx;have hdr:∀ w3,Chg No wx.drew w3→Chg No wx w3:=fun w3 h=>⟨h.os,h.tape,h.output,h.size,h.block⟩
    replace hdr:=LH hdr;have H0:=LH Hx;have hbr:=LH hbx;have hs:=hsx;clear Hx hbx
    go_wp2_with (first
     | ((with_reducible refine (rx1.out _).mono ?_);rintro e w' ⟨rfl,rfl⟩)
     | ((with_reducible refine (rx2.out _).mono ?_);rintro e w' ⟨rfl,rfl⟩)
     | ((with_reducible refine (ry1.out _).mono ?_);rintro e w' ⟨rfl,rfl⟩)
     | ((with_reducible refine (ry2.out _).mono ?_);rintro e w' ⟨rfl,rfl⟩))
    refine RA.rt (Chg No) [1,1,1,1,1,1,1,1,1,1,1,1,1,1,1,7] [15] (fun _=>True) (trivial) (fun _=>Chg.refl _ _) (fun _ _ _ h k=>h.trans k) (h:=?_);intro cx
    repeat refine RA.qq (h:=?_)
    refine RA.si (by kernel_rfl) (by rfl) (by rfl) (by rfl) ((j16:Int)) (h16) (by omega) ?_;refine RA.ik prog (n) (j16) (h:=?_);refine RA.lk prog (.int .u32 U) (hc:=fun w3 hp=>by exact ((hdr.out _ hp.1).cell (p:=⟨n,j16,none⟩) hs id).trans cUx.out) (h:=?_)
    repeat refine RA.qq (h:=?_)
    refine RA.vk prog (.int .u32 W1) (hr:=fun w hp=>by (try go_simp);rw[hW1.out,IntKind.wrap_u32'];omega) (h:=?_)
    repeat refine RA.qq (h:=?_)
    refine RA.si (by kernel_rfl) (by rfl) (by rfl) (by rfl) ((j7:Int)) (h7) (by omega) ?_;refine RA.ik prog (n) (j7) (h:=?_);refine RA.lk prog (.int .u32 V) (hc:=fun w3 hp=>by exact ((hdr.out _ hp.1).cell (p:=⟨n,j7,none⟩) hs id).trans cVx.out) (h:=?_);refine RA.vk prog (.int .u32 W2) (hr:=fun w hp=>by (try go_simp);rw[hW2.out,IntKind.wrap_u32'];omega) (h:=?_)
    repeat refine RA.qq (h:=?_)
    refine RA.vk prog (.int .u32 W) (hr:=fun w hp=>by (try go_simp);rw[hW.out,IntKind.wrap_u32'];omega) (h:=?_);refine RA.ik prog (n) (k) (h:=?_);refine RA.stt (fun w4=>Below n w w4∧n<w4.heap.size∧ArrN w4 n 314 (L.set k W)) (by rfl) (by rfl) (by kernel_rfl) (fun _ _ h k=>h ▸ k) (fun w3 hp _=>?_) ?_
    ·have hR:=hdr.out _ (hp.first (by kernel_rfl)).1;have A0:=H0.out.keep (hR.block n hs id);have f0:=A0.frozen k;have c0:=A0.cell k (by rw[hLl];exact hlt);have e:(Instr.storeAt 244 (.pointer (some ⟨n,k,none⟩)) (.int .u32 (W:Int))).run prog w3=.ok () (w3.setCell ⟨n,k,none⟩ (.int .u32 (W:Int))):=by go_simp
     refine⟨_,RA.ex_store (by rfl) (by rfl) e,(hbr.out.trans ((Chg.no hR).mono (by omega))).setCell (p:=⟨n,k,none⟩) (Nat.le_refl n) _,?_,A0.set k W⟩;have:=hR.size;simp;omega
    refine RA.RA.doneT (fun w3 hH=>?_);simp only[RA.put,List.foldr_cons,List.foldr_nil,cx,Act.put,List.setIfInBounds_toArray,List.set_cons_succ,List.set_cons_zero];replace hH:=LH hH;go_wp2;go_roundw
    case rel=>
     refine⟨k+1,by omega,by go_num,hH.out.1,hH.out.2.1,?_⟩;show ArrN _ _ _ _;rw[hset.out];exact hH.out.2.2
    case measure=>simp[intOf];omega
  ·have hk6:k=64:=by omega
   rw[hk6] at H0;clear hk6;obtain⟨L,hL⟩:∃ L,L=wL b 64:=⟨_,rfl⟩;rw[← hL] at H0;have hLl:L.length=64:=hL ▸ wL_length;have hld:=LH (run_loadAt_arrN (P:=prog) H0.out underlying314 (size64 hLl));have hst:=LH (run_storeAt_same (P:=prog) (ty:=314) H0.out (size64 hLl));have hi:=LH (size64 hLl);replace hbr:=LH hbr;replace hL:=LH hL
   go_wp2_with (first|(refine wpList_load rfl 314 _ rfl _ _ rfl hld.out ?_)|(refine wpList_store rfl 314 _ _ rfl _ _ rfl rfl hst.out ?_))
   refine bodyPost_ret (results_cell_row results203 _ _ n 314 _ (0,0) _ rfl H0.out underlying314 rfl (by rw[hi.out];simp[n32s_length])) rfl ⟨by rw[hL.out],HN.out ▸ hbr.out⟩
attribute [irreducible] wL
end Go.Proofs.YthmcbgidehjlbaaGreat.Fd

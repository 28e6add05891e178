/-
  The document's own Start, Rounds, New. No condition beyond what each theorem names.
-/
import Derived.Test.YtbgfdbidbjlaaaaGreatSaQTimesPk
import Derived.Test.YtbgfdbidbjlaaaaGreatSaQSmallPk
import Derived.Test.YtbgfdbidbjlaaaaGreatSaMulPk
import Derived.Test.YtbgfdbidbjlaaaaGreatSaWordPk
namespace Go.Proofs.YtbgfdbidbjlaaaaGreat.Fd
open _root_.Go.Proofs.Tryz
open Go Go.RowKit K
set_option maxRecDepth 100000
set_option maxHeartbeats 4000000
theorem qStart_eq:∀ p ∈ primes 8,sqS p 37 % 4294967296=root p 2:=by decide +kernel
theorem qStart_ok (w:World):Calls prog 36 #[] w fun e w'=>e=.returned (.agg (n32s startL).toArray)∧Below w.heap.size w w':=by
 obtain⟨n,hn⟩:∃ n,n=w.heap.size:=⟨_,rfl⟩;have HN:=LH hn;have p8:=fun w=>qPrimes_ok 8 (by omega) (by rw[primes8.1];exact Nat.le_refl _) w
 have q8:=primes8;have e8:=qStart_eq;obtain⟨P8,hP8⟩:∃ P,P=primes 8:=⟨_,rfl⟩;obtain⟨L8,hL8⟩:∃ P,P=startL:=⟨_,rfl⟩
 have s8:L8=fillL 8 (fun p=>sqS p 37 % 4294967296) P8 8:=by
  rw[hL8,hP8,fillL_all q8.1,startL];exact List.map_congr_left (fun p hp=>(e8 p hp).symm)
 rw[← hP8] at q8 e8;simp only[← hP8] at p8;rw[← hL8,← hn];rw[q8.1] at p8;clear hP8 hL8 e8 hn;replace p8:=LH p8;replace q8:=LH q8;replace s8:=LH s8;go_enter func36,ntmps36
 go_wp2_with fail
 refine (p8.out _).mono ?_;rintro e w1 ⟨v,rfl,ho,hb⟩
 have hA0:ArrN w1 n 81 (List.replicate 8 0):=by
  refine ArrN.keep ?_ (hb.block n (by simp[HN.out];omega));rw[HN.out];exact (Below.heap_alloc _ _ _ (by simp)).trans (heap_alloc_new w _)
 have hA1:ArrN w1 (n+1) 81 (List.replicate 8 0):=by
  refine ArrN.keep ?_ (hb.block (n+1) (by simp[HN.out]));have h:=heap_alloc_new (w.alloc (.cells (n32s (List.replicate 8 0)).toArray 81)) (.cells (n32s (List.replicate 8 0)).toArray 81);simp only[World.size_alloc] at h;rw[HN.out];exact h
 have hB1:Below n w w1:=by
  rw[HN.out];exact (((Below.refl _ _).alloc (Nat.le_refl _) _).alloc (by simp) _).trans (hb.mono (by simp;omega))
 have hc:=(Cells.own ho).mono (S':=fun g=>n+1<g) (fun g _ hg=>by have:=hg.2;simp at this;have:=HN.out;omega);obtain⟨va,vc,rfl,hv1,hv2⟩:=hc.shape;unfold maxLen at hv2;rw[← HN.out];replace hA0:=LH hA0;replace hA1:=LH hA1;replace hB1:=LH hB1;replace hc:=LH hc;clear ho hb p8;go_wp2
 go_loopw [3] (fun i wr=>∃ k:Nat,k≤8∧i=.int .i64 k∧Below n w wr∧n+1<wr.heap.size∧Hid (Cells wr (fun g=>n+1<g) (.slice va 8 vc) 8 1 (u64s P8))∧Hid (ArrN wr n 81 (List.replicate 8 0))∧Hid (ArrN wr (n+1) 81 (fillL 8 (fun p=>sqS p 37 % 4294967296) P8 k)))
  (fun i _=>8 - (intOf i).toNat)
 case atStart=>exact⟨0,by omega,rfl,hB1.out,heap_lt hA1.out,hc.out,hA0.out,hA1.out⟩
 case round=>
  clear hA0 hA1 hB1 hc;obtain⟨k,hk,rfl,hbr,hs,hc,H0,H1⟩:=hrel;replace hbr:=LH hbr;by_cases hlt:k<8
  ·obtain⟨g,off,cp,hv,_,_,hgn,hgl,hcl⟩:=Cells.at hc.out (by omega);simp only[Value.slice.injEq] at hv;obtain⟨rfl,_,rfl⟩:=hv;have hcell:=hcl k _ (u64s_get P8 k (by rw[q8.out.1];exact hlt));replace hcl:=LH hcl;obtain⟨p,hp⟩:∃ p,p=P8.getD k 0:=⟨_,rfl⟩;rw[← hp] at hcell
   have hpl:p<1000:=by
    rw[hp];refine q8.out.2 _ ?_;simp[List.getD,show k<P8.length by rw[q8.out.1];exact hlt]
   have hroot:=LH (qSquare_ok p wr);obtain⟨R,hR⟩:∃ R,R=sqS p 37 % 4294967296:=⟨_,rfl⟩;rw[← hR] at hroot
   have hstep:(fillL 8 (fun p=>sqS p 37 % 4294967296) P8 k).set k R=fillL 8 (fun p=>sqS p 37 % 4294967296) P8 (k+1):=by
    rw[hR,hp];exact fillL_succ q8.out.1 hlt
   have f0:=H1.out.frozen k;have c0:=H1.out.cell k (by rw[fillL_length q8.out.1 hk];exact hlt);have hset:=H1.out.set k R;rw[hstep] at hset;replace hset:=LH hset;clear hstep hR hp
   go_wp2_with (go_at_call 58;(with_reducible refine hroot.out.mono ?_);rintro e w' ⟨rfl,rfl⟩)
   go_roundw
   case rel=>
    refine⟨k+1,by omega,by go_num,hbr.out.setCell (p:=⟨n+1,k,none⟩) (Nat.le_succ n) _,by simpa using hs,?_,?_,hset.out⟩
    ·exact hc.out.keep (by simp) (fun b hb _=>setCell_heap_ne _ _ _ (by have hb2:n+1<b:=hb;show b≠n+1;omega))
    ·exact H0.out.keep (setCell_heap_ne _ _ _ (by simp))
   case measure=>simp[intOf];omega
  ·have hk8:k=8:=by omega
   rw[hk8,← s8.out] at H1;clear hk8;have hl8:L8.length=8:=by rw[s8.out,fillL_length q8.out.1 (Nat.le_refl _)]
   have hld:=run_loadAt_arrN (P:=prog) H1.out underlying81 (size8 hl8);have hst:=run_storeAt_arrN (P:=prog) (ty:=81) (x:=L8) H0.out (size8 hl8) (by rw[hl8];exact List.length_replicate);obtain⟨w5,hw5⟩:∃ x,x=wr.setRow n (n32s L8).toArray:=⟨_,rfl⟩;rw[← hw5] at hst;have hfin:ArrN w5 n 81 L8:=hw5 ▸ H0.out.setRow L8;have hbf:Below n w w5:=hw5 ▸ below_setRow hbr.out (Nat.le_refl _) _;replace hld:=LH hld;replace hst:=LH hst;replace hfin:=LH hfin;replace hbf:=LH hbf;replace hw5:=LH hw5;clear H0 H1 hc hbr
   go_wp2_with (first|(refine wpList_load rfl 81 _ rfl _ _ rfl hld.out ?_)|(refine wpList_store rfl 81 _ _ rfl _ _ rfl rfl hst.out ?_))
   refine bodyPost_ret (results_cell_row results36 _ _ n 81 _ (0,0) _ rfl hfin.out underlying81 rfl (by rw[size8 hl8];simp[n32s_length])) rfl ⟨rfl,hbf.out⟩
theorem qRounds_eq:∀ p ∈ primes 64,cbS p 36 % 4294967296=root p 3:=by decide +kernel
theorem qRounds_ok (w:World):Calls prog 37 #[] w fun e w'=>e=.returned (.agg (n32s allL).toArray)∧Below w.heap.size w w':=by
 obtain⟨n,hn⟩:∃ n,n=w.heap.size:=⟨_,rfl⟩;have HN:=LH hn;have p8:=fun w=>qPrimes_ok 64 (by omega) (by rw[primes64.1];exact Nat.le_refl _) w
 have q8:=primes64;have e8:=qRounds_eq;obtain⟨P8,hP8⟩:∃ P,P=primes 64:=⟨_,rfl⟩;obtain⟨L8,hL8⟩:∃ P,P=allL:=⟨_,rfl⟩
 have s8:L8=fillL 64 (fun p=>cbS p 36 % 4294967296) P8 64:=by
  rw[hL8,hP8,fillL_all q8.1,allL];exact List.map_congr_left (fun p hp=>(e8 p hp).symm)
 rw[← hP8] at q8 e8;simp only[← hP8] at p8;rw[← hL8,← hn];rw[q8.1] at p8;clear hP8 hL8 e8 hn;replace p8:=LH p8;replace q8:=LH q8;replace s8:=LH s8;go_enter func37,ntmps37
 go_wp2_with fail
 refine (p8.out _).mono ?_;rintro e w1 ⟨v,rfl,ho,hb⟩
 have hA0:ArrN w1 n 83 (List.replicate 64 0):=by
  refine ArrN.keep ?_ (hb.block n (by simp[HN.out];omega));rw[HN.out];exact (Below.heap_alloc _ _ _ (by simp)).trans (heap_alloc_new w _)
 have hA1:ArrN w1 (n+1) 83 (List.replicate 64 0):=by
  refine ArrN.keep ?_ (hb.block (n+1) (by simp[HN.out]));have h:=heap_alloc_new (w.alloc (.cells (n32s (List.replicate 64 0)).toArray 83)) (.cells (n32s (List.replicate 64 0)).toArray 83);simp only[World.size_alloc] at h;rw[HN.out];exact h
 have hB1:Below n w w1:=by
  rw[HN.out];exact (((Below.refl _ _).alloc (Nat.le_refl _) _).alloc (by simp) _).trans (hb.mono (by simp;omega))
 have hc:=(Cells.own ho).mono (S':=fun g=>n+1<g) (fun g _ hg=>by have:=hg.2;simp at this;have:=HN.out;omega);obtain⟨va,vc,rfl,hv1,hv2⟩:=hc.shape;unfold maxLen at hv2;rw[← HN.out];replace hA0:=LH hA0;replace hA1:=LH hA1;replace hB1:=LH hB1;replace hc:=LH hc;clear ho hb p8;go_wp2
 go_loopw [3] (fun i wr=>∃ k:Nat,k≤64∧i=.int .i64 k∧Below n w wr∧n+1<wr.heap.size∧Hid (Cells wr (fun g=>n+1<g) (.slice va 64 vc) 64 1 (u64s P8))∧Hid (ArrN wr n 83 (List.replicate 64 0))∧Hid (ArrN wr (n+1) 83 (fillL 64 (fun p=>cbS p 36 % 4294967296) P8 k)))
  (fun i _=>64 - (intOf i).toNat)
 case atStart=>exact⟨0,by omega,rfl,hB1.out,heap_lt hA1.out,hc.out,hA0.out,hA1.out⟩
 case round=>
  clear hA0 hA1 hB1 hc;obtain⟨k,hk,rfl,hbr,hs,hc,H0,H1⟩:=hrel;replace hbr:=LH hbr;by_cases hlt:k<64
  ·obtain⟨g,off,cp,hv,_,_,hgn,hgl,hcl⟩:=Cells.at hc.out (by omega);simp only[Value.slice.injEq] at hv;obtain⟨rfl,_,rfl⟩:=hv;have hcell:=hcl k _ (u64s_get P8 k (by rw[q8.out.1];exact hlt));replace hcl:=LH hcl;obtain⟨p,hp⟩:∃ p,p=P8.getD k 0:=⟨_,rfl⟩;rw[← hp] at hcell
   have hpl:p<1000:=by
    rw[hp];refine q8.out.2 _ ?_;simp[List.getD,show k<P8.length by rw[q8.out.1];exact hlt]
   have hroot:=LH (qCube_ok p wr);obtain⟨R,hR⟩:∃ R,R=cbS p 36 % 4294967296:=⟨_,rfl⟩;rw[← hR] at hroot
   have hstep:(fillL 64 (fun p=>cbS p 36 % 4294967296) P8 k).set k R=fillL 64 (fun p=>cbS p 36 % 4294967296) P8 (k+1):=by
    rw[hR,hp];exact fillL_succ q8.out.1 hlt
   replace hstep:=LH hstep;clear hR hp;replace hbr:=hbr
   go_wp2_with fail
   refine hroot.out.mono ?_;rintro e w5 ⟨rfl,h5⟩;have hc5:=LH (hc.out.keep h5.size (fun b _ hb=>h5.block b hb));have H05:=LH (H0.out.keep (h5.block n (by omega)));have H15:=H1.out.keep (h5.block (n+1) hs);have hbr5:=LH (hbr.out.trans (h5.mono (by omega)));have hs5:n+1<w5.heap.size:=heap_lt H15;have f0:=H15.frozen k;have c0:=H15.cell k (by rw[fillL_length q8.out.1 hk];exact hlt);have hset:=H15.set k R;rw[hstep.out] at hset;replace hset:=LH hset;clear h5 hroot H15 hc hbr H0 H1;go_wp2;go_roundw
   case rel=>
    refine⟨k+1,by omega,by go_num,hbr5.out.setCell (p:=⟨n+1,k,none⟩) (Nat.le_succ n) _,by simpa using hs5,?_,?_,hset.out⟩
    ·exact hc5.out.keep (by simp) (fun b hb _=>setCell_heap_ne _ _ _ (by have hb2:n+1<b:=hb;show b≠n+1;omega))
    ·exact H05.out.keep (setCell_heap_ne _ _ _ (by simp))
   case measure=>simp[intOf];omega
  ·have hk8:k=64:=by omega
   rw[hk8,← s8.out] at H1;clear hk8;have hl8:L8.length=64:=by rw[s8.out,fillL_length q8.out.1 (Nat.le_refl _)]
   have hld:=run_loadAt_arrN (P:=prog) H1.out underlying83 (size64 hl8);have hst:=run_storeAt_arrN (P:=prog) (ty:=83) (x:=L8) H0.out (size64 hl8) (by rw[hl8];exact List.length_replicate);obtain⟨w5,hw5⟩:∃ x,x=wr.setRow n (n32s L8).toArray:=⟨_,rfl⟩;rw[← hw5] at hst;have hfin:ArrN w5 n 83 L8:=hw5 ▸ H0.out.setRow L8;have hbf:Below n w w5:=hw5 ▸ below_setRow hbr.out (Nat.le_refl _) _;replace hld:=LH hld;replace hst:=LH hst;replace hfin:=LH hfin;replace hbf:=LH hbf;replace hw5:=LH hw5;clear H0 H1 hc hbr
   go_wp2_with (first|(refine wpList_load rfl 83 _ rfl _ _ rfl hld.out ?_)|(refine wpList_store rfl 83 _ _ rfl _ _ rfl rfl hst.out ?_))
   refine bodyPost_ret (results_cell_row results37 _ _ n 83 _ (0,0) _ rfl hfin.out underlying83 rfl (by rw[size64 hl8];simp[n32s_length])) rfl ⟨rfl,hbf.out⟩
theorem fold_size (l:List Value) (off:Nat):∀ (k:Nat) (cs:Array Value),(List.foldl (fun cs x=>cs.setIfInBounds (off+x.2) x.1) cs (l.zipIdx k)).size=cs.size:=by
 induction l with
 | nil=>intro k cs;rfl
 | cons a l ih=>intro k cs;rw[List.zipIdx_cons,List.foldl_cons,ih];simp
theorem fold_set (l:List Value) (off:Nat):∀ (k:Nat) (cs:Array Value) (j:Nat),(List.foldl (fun cs x=>cs.setIfInBounds (off+x.2) x.1) cs (l.zipIdx k))[j]?=if off+k≤j∧j<off+k+l.length∧j<cs.size then l[j - off - k]? else cs[j]?:=by
 induction l with
 | nil=>intro k cs j;simp;omega
 | cons a l ih=>
  intro k cs j;rw[List.zipIdx_cons,List.foldl_cons,ih];simp only[Array.size_setIfInBounds,List.length_cons];by_cases h1:off+(k+1)≤j∧j<off+(k+1)+l.length∧j<cs.size
  ·rw[if_pos h1,if_pos (by omega),show j - off - k=(j - off - (k+1))+1 by omega,List.getElem?_cons_succ]
  ·rw[if_neg h1];by_cases h2:j=off+k
   ·subst h2;by_cases h3:off+k<cs.size
    ·rw[if_pos (by omega),Array.getElem?_setIfInBounds_self_of_lt h3,show off+k - off - k=0 by omega];rfl
    ·rw[if_neg (by omega),Array.getElem?_eq_none (by simp;omega),Array.getElem?_eq_none (by omega)]
   ·rw[Array.getElem?_setIfInBounds_ne (by omega),if_neg (by omega)]
theorem hash_cells (cs:Array Value) (hcs:cs.size=72):List.foldl (fun cs x=>cs.setIfInBounds (8+x.2) x.1) (List.foldl (fun cs x=>cs.setIfInBounds x.2 x.1) cs (n32s startL).zipIdx) (n32s allL).zipIdx=(n32s (startL++allL)).toArray:=by
 have e0:(fun (cs:Array Value) (x:Value×Nat)=>cs.setIfInBounds x.2 x.1)=fun cs x=>cs.setIfInBounds (0+x.2) x.1:=by
  funext cs x
  rw[Nat.zero_add]
 rw[e0];have s1:(n32s startL).length=8:=by rw[n32s_length,startL_length]
 have s2:(n32s allL).length=64:=by rw[n32s_length,allL_length]
 refine Array.ext_getElem? fun j=>?_
 rw[fold_set,fold_size,fold_set,hcs,s1,s2];have e3:n32s (startL++allL)=n32s startL++n32s allL:=by simp[n32s]
 rw[e3];simp only[List.getElem?_toArray,List.getElem?_append,s1,Nat.add_zero,Nat.zero_add,Nat.sub_zero];by_cases h1:j<8
 ·rw[if_neg (by omega),if_pos (by omega),if_pos h1]
 ·rw[if_neg h1];by_cases h2:j<72
  ·rw[if_pos (by omega)]
  ·rw[if_neg (by omega),if_neg (by omega),List.getElem?_eq_none (by rw[s2];omega)];exact Array.getElem?_eq_none (by omega)
def QHashAt (w:World) (p:Nat):Prop:=ArrN w p 86 (startL++allL)
theorem qNew_ok (w:World):Calls prog 20 #[] w fun e w'=>∃ p,e=.returned (.pointer (some ⟨p,0,none⟩))∧w.heap.size≤p∧QHashAt w' p∧Below w.heap.size w w':=by
 have h1:=LH (fun w=>qStart_ok w);have h2:=LH (fun w=>qRounds_ok w);obtain⟨A,hA⟩:∃ A,A=n32s startL:=⟨_,rfl⟩;obtain⟨B,hB⟩:∃ B,B=n32s allL:=⟨_,rfl⟩;simp only[← hA] at h1;simp only[← hB] at h2;have l1:A.length=8:=by rw[hA,n32s_length,startL_length]
 have l2:B.length=64:=by rw[hB,n32s_length,allL_length]
 have hz:Tryz.zeroCells86.size=72:=by rfl
 have hfin:=hash_cells Tryz.zeroCells86 hz;rw[← hA,← hB] at hfin;replace hA:=LH hA;replace hB:=LH hB;replace hfin:=LH hfin;go_enter func20,ntmps20
 go_wp2_with fail
 refine (h1.out w).mono ?_;rintro e w1 ⟨rfl,hb1⟩;replace hb1:=LH hb1
 go_wp2_with fail
 refine (h2.out w1).mono ?_;rintro e w2 ⟨rfl,hb2⟩;replace hb2:=LH hb2;have hs1:¬ (¬ A.length=8∨72<A.length):=by omega
 have hs2:¬ (¬ B.length=64∨(List.foldl (fun (cs:Array Value) (x:Value×Nat)=>cs.setIfInBounds x.2 x.1) Tryz.zeroCells86 A.zipIdx).size<8+B.length):=by
  have e0:(fun (cs:Array Value) (x:Value×Nat)=>cs.setIfInBounds x.2 x.1)=fun cs x=>cs.setIfInBounds (0+x.2) x.1:=by
   funext cs x
   rw[Nat.zero_add]
  have h:=fold_size A 0 0 Tryz.zeroCells86;rw[← e0,hz] at h;omega
 go_wp2;go_ret;refine⟨w2.heap.size,rfl,Nat.le_trans hb1.out.size hb2.out.size,?_,((hb1.out.trans (hb2.out.mono hb1.out.size))).alloc (Nat.le_trans hb1.out.size hb2.out.size) _⟩;rw[hfin.out];exact heap_alloc_new w2 _
end Go.Proofs.YtbgfdbidbjlaaaaGreat.Fd

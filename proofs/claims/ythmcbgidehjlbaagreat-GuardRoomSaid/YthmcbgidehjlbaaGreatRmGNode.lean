/-
  hashtree.Tree.Node, Leaf, Root. No condition beyond what each theorem names.
-/
import Derived.Test.YthmcbgidehjlbaaGreatRmGBookPk
namespace Go.Proofs.YthmcbgidehjlbaaGreat.Fd
open _root_.Go.Proofs.Tryz
open Go Go.RowKit K
set_option maxRecDepth 100000
set_option maxHeartbeats 8000000
def nodeL (L:List UInt8) (i:Nat):List UInt8:=if i*16+16≤L.length then (L.drop (i*16)).take 16 else List.replicate 16 0
theorem nodeL_length {L:List UInt8}{i:Nat}:(nodeL L i).length=16:=by
 unfold nodeL;split
 ·exact block_len (by assumption)
 ·simp
theorem htNode_ok {w:World}{t b:Nat}{gs:Nat→Nat}{key:List UInt8}{Ls:List (List UInt8)}(h:TreeAt w t b gs key Ls) (l i:Nat) (_:i≤1000) (hl:l<Ls.length):
  Calls prog 136 #[.pointer (some ⟨t,0,none⟩),.agg #[.int .i64 l,.int .i64 i]] w fun e w'=>e=.returned (.agg (u8s (nodeL (Ls.getD l []) i)).toArray)∧Below w.heap.size w w':=by
 obtain⟨L,hL,hA,hLl⟩:=h.level hl;have hLg:Ls.getD l []=L:=by simp[List.getD,hL]
 rw[hLg];obtain⟨K1,hK1⟩:∃ K,K=nodeL L i:=⟨_,rfl⟩;have hK1l:K1.length=16:=hK1 ▸ nodeL_length;rw[← hK1];obtain⟨q,hq⟩:∃ q,q=w.heap.size:=⟨_,rfl⟩;have HQ:=LH hq;obtain⟨w1,hw1⟩:∃ w1,w1=(w.alloc (.cells #[.int .i64 l,.int .i64 i] 193)).alloc (.cells #[.int .u8 0,.int .u8 0,.int .u8 0,.int .u8 0,.int .u8 0,.int .u8 0,.int .u8 0,.int .u8 0,.int .u8 0,.int .u8 0,.int .u8 0,.int .u8 0,.int .u8 0,.int .u8 0,.int .u8 0,.int .u8 0] 179):=⟨_,rfl⟩;have b1:Below w.heap.size w w1:=by rw[hw1];exact ((Below.refl _ _).alloc (Nat.le_refl _) _).alloc (by simp) _
 have x1:w1.heap[q]?=some (.cells #[.int .i64 l,.int .i64 i] 193 (0,0)):=by rw[hw1,hq];exact (Below.heap_alloc _ _ _ (by simp)).trans (heap_alloc_new w _)
 have x2:Arr w1 (q+1) 179 (List.replicate 16 0):=by rw[hw1,hq];have h:=heap_alloc_new (w.alloc (.cells #[.int .i64 l,.int .i64 i] 193)) (.cells #[.int .u8 0,.int .u8 0,.int .u8 0,.int .u8 0,.int .u8 0,.int .u8 0,.int .u8 0,.int .u8 0,.int .u8 0,.int .u8 0,.int .u8 0,.int .u8 0,.int .u8 0,.int .u8 0,.int .u8 0,.int .u8 0] 179);simp only[World.size_alloc] at h;exact h
 have T1:=h.after b1;obtain⟨W,hW⟩:∃ W,W=wid50 l:=⟨_,rfl⟩;rw[← hW] at hLl;have HS:=LH (fun w3 (hc:Chg No w1 w3)=>htSize_ok (T1.after hc.no) (by omega));have HW:=fun w3=>width50 l w3
 rw[← hW] at HW;replace HW:=LH HW;have hdr:∀ w3,Chg No w1.drew w3→Chg No w1 w3:=fun w3 h=>⟨h.os,h.tape,h.output,h.size,h.block⟩
 replace hdr:=LH hdr;have hql:=LH (heap_lt x1);have c0:=LH (cell_of x1 0);have c1:=LH (cell_of x1 1);have hi0:decide ((i:Int)<0)=false:=by simp
 replace b1:=LH b1;replace x2:=LH x2;replace T1:=LH T1;replace hLl:=LH hLl;replace hW:=LH hW;clear x1 h hLg hA;go_enter func136,ntmps136;go_wp2;rw[← hq];rw[← hw1];replace hw1:=LH hw1;replace hq:=LH hq;by_cases hlt:i<W
 ·have hi1:decide ((W:Int)≤(i:Int))=false:=by simpa using hlt
  refine RA.rt (Chg No) [1,1,1,1,1,1,1,4,1,1,4,1,1] [] (fun _=>True) trivial (fun _=>Chg.refl _ _) (fun _ _ _ h k=>h.trans k) (h:=?_);intro cx;refine RA.fk prog (q) (1) (h:=?_);refine RA.lk prog (.int .i64 i) (hc:=fun w3 hp=>by exact ((hdr.out _ hp.1).cell (p:=⟨q,1,none⟩) hql.out id).trans c1.out) (h:=?_);refine RA.vk prog (.bool false) (h:=?_)
  repeat (first|refine RA.mv (by rfl) (by rfl) (by rfl) ?_|refine RA.as (by rfl) (by rfl) (by rfl) ?_|refine RA.pt (by rfl) (by rfl) (by rfl) (by rfl) ?_|refine RA.pf (by rfl) (by rfl) (by rfl) (by rfl) ?_)
  refine RA.fk prog (q) (1) (h:=?_);refine RA.lk prog (.int .i64 i) (hc:=fun w3 hp=>by exact ((hdr.out _ hp.1).cell (p:=⟨q,1,none⟩) hql.out id).trans c1.out) (h:=?_)
  repeat (first|refine RA.mv (by rfl) (by rfl) (by rfl) ?_|refine RA.as (by rfl) (by rfl) (by rfl) ?_|refine RA.pt (by rfl) (by rfl) (by rfl) (by rfl) ?_|refine RA.pf (by rfl) (by rfl) (by rfl) (by rfl) ?_)
  refine RA.kc (P:=prog) [.pointer (some ⟨t,0,none⟩)] (.int .i64 50) (fun _=>True) (fun _ _=>by go_simp) (by kernel_rfl) (by rfl) (by rfl) (by kernel_rfl) (fun _ _ _ h=>h) rfl (fun w3 hp hH=>(HS.out w3 (hdr.out _ hp.1)).mono (by rintro e w4 ⟨rfl,rfl⟩;exact⟨rfl,Chg.refl _ _,trivial⟩)) ?_;refine RA.fk prog (q) (0) (h:=?_);refine RA.lk prog (.int .i64 l) (hc:=fun w3 hp=>by exact ((hdr.out _ hp.1).cell (p:=⟨q,0,none⟩) hql.out id).trans c0.out) (h:=?_);refine RA.kc (P:=prog) [.int .i64 50,.int .i64 l] (.int .i64 W) (fun _=>True) (fun _ _=>by go_simp) (by kernel_rfl) (by rfl) (by rfl) (by kernel_rfl) (fun _ _ _ h=>h) rfl (fun w3 hp hH=>(HW.out w3).mono (by rintro e w4 ⟨rfl,h2⟩;exact⟨rfl,Chg.of_below h2 _,trivial⟩)) ?_;refine RA.vk prog (.bool false) (h:=?_)
  repeat (first|refine RA.mv (by rfl) (by rfl) (by rfl) ?_|refine RA.as (by rfl) (by rfl) (by rfl) ?_|refine RA.pt (by rfl) (by rfl) (by rfl) (by rfl) ?_|refine RA.pf (by rfl) (by rfl) (by rfl) (by rfl) ?_)
  refine RA.RA.done rfl (fun w2 hR hF hH=>?_);clear hF hH;simp only[RA.put,List.foldr_cons,List.foldr_nil,cx,Act.put,List.setIfInBounds_toArray,List.set_cons_succ,List.set_cons_zero]
  try simp only[Bool.not_true]
  try simp only[Bool.not_false]
  have hC2:=hdr.out _ hR;have hB2:=hC2.no;have hKz:K1=(L.drop (i*16)).take 16:=by rw[hK1,nodeL,if_pos (by rw[hLl.out];omega)]
  have T2:=T1.out.after hB2;have x3:Arr w2 (q+1) 179 (List.replicate 16 0):=x2.out.keep (hC2.block _ (heap_lt x2.out) id);obtain⟨lg,cap,kv,_,_,_,_,c2,hc5,hc6,c3⟩:=T2.cells (by omega);have c4:=c3 l hl;have hWo:=hW.out;rw[← hWo] at c4;obtain⟨L',hL',hA2,_⟩:=T2.level hl;obtain rfl:L=L':=by rw[hL] at hL';exact Option.some.inj hL'
  obtain⟨N,hN⟩:∃ N,N=Ls.length:=⟨_,rfl⟩;rw[← hN] at c2 hc5;have hlN:(l:Int)<N:=by omega
  have hiW:(i:Int)<W:=by omega
  have htl:=LH (cell_lt c2);have hlgl:=LH (cell_lt c4)
  have hld:∀ w3,Chg No w2 w3→(Instr.loadAt 179 (.pointer (some ⟨gs l,i*16,none⟩))).run prog w3=.ok (.agg (u8s K1).toArray) w3:=fun w3 hc=>by
   rw[hKz];exact block_at (hA2.keep (hc.block _ (heap_lt hA2) id)) (by rw[hLl.out];omega)
  have hql2:=LH (Nat.lt_of_lt_of_le hql.out hB2.size);have e0:=LH ((hC2.cell (p:=⟨q,0,none⟩) hql.out id).trans c0.out);have e1:=LH ((hC2.cell (p:=⟨q,1,none⟩) hql.out id).trans c1.out);have hq1l:=LH (heap_lt x3);have hb2:=LH (b1.out.trans (hB2.mono b1.out.size));have hdr2:∀ w3,Chg No w2.drew w3→Chg No w2 w3:=fun w3 h=>⟨h.os,h.tape,h.output,h.size,h.block⟩
  replace hdr2:=LH hdr2;replace hld:=LH hld;replace x3:=LH x3;replace c2:=LH c2;replace c4:=LH c4;replace hN:=LH hN;clear hR hC2 hB2 T2 hA2 c3 hWo hi0 hi1 HS HW hKz hdr x2;go_wp2;refine RA.rt (Chg No) [1,1,1,1,1,1,1,1,1,1,1,1,7] [12] (fun _=>True) (trivial) (fun _=>Chg.refl _ _) (fun _ _ _ h k=>h.trans k) (h:=?_);intro cx
  repeat refine RA.qq (h:=?_)
  refine RA.fk prog (t) (2) (h:=?_);refine RA.lk prog (.slice (some ⟨lg,0,none⟩) N cap) (hc:=fun w3 hp=>by exact ((hdr2.out _ hp.1).cell (p:=⟨t,2,none⟩) htl.out id).trans c2.out) (h:=?_);refine RA.fk prog (q) (0) (h:=?_);refine RA.lk prog (.int .i64 l) (hc:=fun w3 hp=>by exact ((hdr2.out _ hp.1).cell (p:=⟨q,0,none⟩) hql2.out id).trans e0.out) (h:=?_);refine RA.ik prog (lg) (l) (h:=?_);refine RA.lk prog (.slice (some ⟨gs l,0,none⟩) W W) (hc:=fun w3 hp=>by exact ((hdr2.out _ hp.1).cell (p:=⟨lg,l,none⟩) hlgl.out id).trans c4.out) (h:=?_);refine RA.fk prog (q) (1) (h:=?_);refine RA.lk prog (.int .i64 i) (hc:=fun w3 hp=>by exact ((hdr2.out _ hp.1).cell (p:=⟨q,1,none⟩) hql2.out id).trans e1.out) (h:=?_);refine RA.ik prog (gs l) (i*16) (h:=?_);refine RA.ld (by kernel_rfl) (by rfl) (by rfl) (y':=.agg (u8s K1).toArray) (fun w3 hp=>hld.out w3 (hdr2.out _ hp.1)) ?_
  refine RA.stt (fun w5=>Arr w5 (q+1) 179 K1∧Below w.heap.size w w5) (by kernel_rfl) (by rfl) (by kernel_rfl) (fun _ _ h k=>h ▸ k) (fun w4 hp0 hH=>by
   have hp:=hp0.first (by kernel_rfl);have hc:=hdr2.out _ hp.1;have x4:Arr w4 (q+1) 179 (List.replicate 16 0):=x3.out.keep (hc.block _ hq1l.out id);exact⟨w4.setRow (q+1) (u8s K1).toArray,RA.ex_store (by rfl) (by rfl) (block_store x4 List.length_replicate K1 hK1l),x4.setRow K1,below_setRow (hb2.out.trans (hc.no.mono hb2.out.size)) (by rw[← HQ.out];omega) _⟩) ?_
  refine RA.RA.doneT (fun w5 hH=>?_);simp only[RA.put,List.foldr_cons,List.foldr_nil,cx,Act.put,List.setIfInBounds_toArray,List.set_cons_succ,List.set_cons_zero];obtain⟨hT5,hC5⟩:=hH;replace hT5:=LH hT5;replace hC5:=LH hC5;go_wp2;refine bodyPost_ret (results_cell_row results136 _ _ (q+1) 179 _ (0,0) _ rfl hT5.out underlying179 rfl (by rw[size61 hK1l];simp[u8s_length])) rfl ⟨rfl,hC5.out⟩
 ·have hi1:decide ((W:Int)≤(i:Int))=true:=by simpa using hlt
  refine RA.rt (Chg No) [1,1,1,1,1,1,1,4,1,1,4,1,1] [] (fun _=>True) trivial (fun _=>Chg.refl _ _) (fun _ _ _ h k=>h.trans k) (h:=?_);intro cx;refine RA.fk prog (q) (1) (h:=?_);refine RA.lk prog (.int .i64 i) (hc:=fun w3 hp=>by exact ((hdr.out _ hp.1).cell (p:=⟨q,1,none⟩) hql.out id).trans c1.out) (h:=?_);refine RA.vk prog (.bool false) (h:=?_)
  repeat (first|refine RA.mv (by rfl) (by rfl) (by rfl) ?_|refine RA.as (by rfl) (by rfl) (by rfl) ?_|refine RA.pt (by rfl) (by rfl) (by rfl) (by rfl) ?_|refine RA.pf (by rfl) (by rfl) (by rfl) (by rfl) ?_)
  refine RA.fk prog (q) (1) (h:=?_);refine RA.lk prog (.int .i64 i) (hc:=fun w3 hp=>by exact ((hdr.out _ hp.1).cell (p:=⟨q,1,none⟩) hql.out id).trans c1.out) (h:=?_)
  repeat (first|refine RA.mv (by rfl) (by rfl) (by rfl) ?_|refine RA.as (by rfl) (by rfl) (by rfl) ?_|refine RA.pt (by rfl) (by rfl) (by rfl) (by rfl) ?_|refine RA.pf (by rfl) (by rfl) (by rfl) (by rfl) ?_)
  refine RA.kc (P:=prog) [.pointer (some ⟨t,0,none⟩)] (.int .i64 50) (fun _=>True) (fun _ _=>by go_simp) (by kernel_rfl) (by rfl) (by rfl) (by kernel_rfl) (fun _ _ _ h=>h) rfl (fun w3 hp hH=>(HS.out w3 (hdr.out _ hp.1)).mono (by rintro e w4 ⟨rfl,rfl⟩;exact⟨rfl,Chg.refl _ _,trivial⟩)) ?_;refine RA.fk prog (q) (0) (h:=?_);refine RA.lk prog (.int .i64 l) (hc:=fun w3 hp=>by exact ((hdr.out _ hp.1).cell (p:=⟨q,0,none⟩) hql.out id).trans c0.out) (h:=?_);refine RA.kc (P:=prog) [.int .i64 50,.int .i64 l] (.int .i64 W) (fun _=>True) (fun _ _=>by go_simp) (by kernel_rfl) (by rfl) (by rfl) (by kernel_rfl) (fun _ _ _ h=>h) rfl (fun w3 hp hH=>(HW.out w3).mono (by rintro e w4 ⟨rfl,h2⟩;exact⟨rfl,Chg.of_below h2 _,trivial⟩)) ?_;refine RA.vk prog (.bool true) (hr:=fun w hp=>by (try go_simp);omega) (h:=?_)
  repeat (first|refine RA.mv (by rfl) (by rfl) (by rfl) ?_|refine RA.as (by rfl) (by rfl) (by rfl) ?_|refine RA.pt (by rfl) (by rfl) (by rfl) (by rfl) ?_|refine RA.pf (by rfl) (by rfl) (by rfl) (by rfl) ?_)
  refine RA.RA.done rfl (fun w2 hR hF hH=>?_);clear hF hH;simp only[RA.put,List.foldr_cons,List.foldr_nil,cx,Act.put,List.setIfInBounds_toArray,List.set_cons_succ,List.set_cons_zero]
  try simp only[Bool.not_true]
  try simp only[Bool.not_false]
  have hC2:=hdr.out _ hR;have hKz:K1=List.replicate 16 0:=by rw[hK1,nodeL,if_neg (by rw[hLl.out];omega)]
  subst hKz;have x3:Arr w2 (q+1) 179 (List.replicate 16 0):=x2.out.keep (hC2.block _ (heap_lt x2.out) id);have hst:=block_store x3 List.length_replicate (List.replicate 16 0) hK1l;have hfin:Arr (w2.setRow (q+1) (u8s (List.replicate 16 0)).toArray) (q+1) 179 (List.replicate 16 0):=x3.setRow (List.replicate 16 0);have hbf:Below w.heap.size w (w2.setRow (q+1) (u8s (List.replicate 16 0)).toArray):=below_setRow (b1.out.trans (hC2.no.mono b1.out.size)) (by rw[← HQ.out];omega) _;replace hst:=LH hst;replace hfin:=LH hfin;replace hbf:=LH hbf;clear hR hC2 x3 hi0 hi1 HS HW hK1
  go_wp2_with (first|(refine wpList_store rfl 179 _ _ rfl _ _ rfl rfl hst.out ?_)|fail)
  refine bodyPost_ret (results_cell_row results136 _ _ (q+1) 179 _ (0,0) _ rfl hfin.out underlying179 rfl (by rw[size61 hK1l];simp[u8s_length])) rfl ⟨rfl,hbf.out⟩
end Go.Proofs.YthmcbgidehjlbaaGreat.Fd

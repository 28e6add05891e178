/-
  volume.base.root: the sector of the root. No condition beyond what each theorem names.
-/
import Derived.Test.YthmcbgidehjlbaaGreatRmGSealPk
namespace Go.Proofs.YthmcbgidehjlbaaGreat.Fd
open _root_.Go.Proofs.Tryz
open Go Go.RowKit K
set_option maxRecDepth 100000
set_option maxHeartbeats 8000000
theorem MarksAt.bk {w w':World}{m b n:Nat}{L:List UInt8}(h:MarksAt w m L) (hB:Bk w b n) (hG:BkG No b w w'):MarksAt w' m L:=h.keep (fun g hg ⟨cs,t,ht,hc⟩=>by
 rw[hc];rcases ht with rfl|rfl
 ·exact hG.at hB hc id (by decide) (by decide)
 ·exact hG.at hB hc id (by decide) (by decide))
theorem BkG.drew {C:Nat→Prop}{b:Nat}{w w':World}(h:BkG C b w.drew w'):BkG C b w w':=⟨h.os,h.tape,h.output,h.size,h.block⟩
theorem hash_cut {w:World}{g:Nat}{H:List UInt8}(h:Arr w g 209 H) (hl:H.length=32):Bytes w (fun _=>True) (.slice (some ⟨g,0,none⟩) 16 32) (H.take 16):=by
 have h16:(H.take 16).length=16:=by rw[List.length_take];omega
 refine⟨by rw[u8s_length,Nat.mul_one],_,_,by rw[h16],by omega,by unfold maxLen;omega,fun h=>(by cases h),.inr ⟨g,0,rfl,trivial,heap_lt h,fun j u hu=>?_⟩⟩;rw[Nat.zero_add,cell_of h];have hj:j<16:=by have:=(List.getElem?_eq_some_iff.1 hu).1;rw[u8s_length] at this;omega
 rw[← hu];simp[u8s,hj]
theorem voRoot_ok {w:World}{xs:List Value}{d s b n t m:Nat}{what:ByteArray}{A M:List UInt8}{tp:Option Addr}{gs:Nat→Nat}{Ls:List (List UInt8)}{L key:List UInt8}(h:BaseIs xs d s b what A M) (hs:SuiteAt w s none tp) (hT:TreeAt w t b gs key Ls) (hLs:Ls.length=4) (hB:Bk w b n) (hn:n<1000000) (hm:MarksAt w m L) (num:Nat) (hnum:num≤1000000):
  Calls prog 85 #[.agg xs.toArray,.agg #[.pointer (some ⟨t,0,none⟩),.pointer (some ⟨m,0,none⟩),.int .i64 num]] w fun e w'=>∃ v,e=.returned (.tuple #[.agg #[.int .i64 24,v],.int .i64 0])∧(∃ Z:List UInt8,Z.length=64∧w'.ownsRow w.heap.size 5 1 v 64 (u8s Z))∧Bk w' b (n+1)∧BkG No b w w':=by
 obtain⟨q,hq⟩:∃ q,q=w.heap.size:=⟨_,rfl⟩;obtain⟨w1,hw1⟩:∃ w1,w1=((w.alloc (.cells xs.toArray 96)).alloc (.cells #[.pointer (some ⟨t,0,none⟩),.pointer (some ⟨m,0,none⟩),.int .i64 num] 100)).alloc (.cells #[.int .i64 0,.slice none 0 0] 142):=⟨_,rfl⟩;have hx:BoxB w1 q xs:=by rw[hw1,hq];exact (boxB_new w xs).chg (((Chg.refl _ _).alloc _).alloc _)
 have b1:Below w.heap.size w w1:=by rw[hw1];exact (((Below.refl _ _).alloc (Nat.le_refl _) _).alloc (by simp) _).alloc (by simp;omega) _
 have x1:w1.heap[q+1]?=some (.cells #[.pointer (some ⟨t,0,none⟩),.pointer (some ⟨m,0,none⟩),.int .i64 num] 100 (0,0)):=by
  rw[hw1,hq];have h:=heap_alloc_new (w.alloc (.cells xs.toArray 96)) (.cells #[.pointer (some ⟨t,0,none⟩),.pointer (some ⟨m,0,none⟩),.int .i64 num] 100);simp only[World.size_alloc] at h;exact (Below.heap_alloc _ _ _ (by simp)).trans h
 have x2:w1.heap[q+1+1]?=some (.cells #[.int .i64 0,.slice none 0 0] 142 (0,0)):=by
  rw[hw1,hq];have h:=heap_alloc_new ((w.alloc (.cells xs.toArray 96)).alloc (.cells #[.pointer (some ⟨t,0,none⟩),.pointer (some ⟨m,0,none⟩),.int .i64 num] 100)) (.cells #[.int .i64 0,.slice none 0 0] 142);simp only[World.size_alloc] at h;exact h
 have hT1:=hT.after b1;have hm1:=hm.after b1;have hLl:=hm.len;have hB1:=hB.after b1;have s1:SuiteAt w1 s none tp:=(b1.block s (heap_lt hs)).trans hs;have hRt:=LH (htRoot_ok hT1 hLs);obtain⟨T,hTe⟩:∃ T,T=nodeL (Ls.getD 3 []) 0:=⟨_,rfl⟩;have hTl:T.length=16:=hTe ▸ nodeL_length;rw[← hTe] at hRt;have e0:=cell_of x1 0;obtain⟨c,hc⟩:∃ c,c=xs.toArray:=⟨_,rfl⟩;rw[← hc] at hw1 ⊢;replace hc:=LH hc;replace hx:=LH hx;replace b1:=LH b1;replace x1:=LH x1;replace x2:=LH x2;replace hm1:=LH hm1;replace hB1:=LH hB1;replace s1:=LH s1;replace h:=LH h;replace hTe:=LH hTe;clear hT hm hB hs hT1;go_enter func85,ntmps85;have hw1':=LH hw1;have hq':=LH hq;subst hq
 go_wp2_with (first|(rw[← hw1])|fail)
 try rw[← hw1]
 refine hRt.out.mono ?_;rintro e w2 ⟨rfl,hb2⟩;obtain⟨q,hq⟩:∃ q,q=w.heap.size:=⟨_,rfl⟩;rw[← hq] at e0 hx x1 x2 ⊢;have hC2:Chg No w1 w2:=Chg.of_below hb2 _;obtain⟨p6,hp6⟩:∃ p,p=w2.heap.size:=⟨_,rfl⟩;have xA:Arr (w2.alloc (.cells #[.int .u8 0,.int .u8 0,.int .u8 0,.int .u8 0,.int .u8 0,.int .u8 0,.int .u8 0,.int .u8 0,.int .u8 0,.int .u8 0,.int .u8 0,.int .u8 0,.int .u8 0,.int .u8 0,.int .u8 0,.int .u8 0] 179)) p6 179 (List.replicate 16 0):=by rw[hp6];exact heap_alloc_new w2 _
 have hst:=block_store xA List.length_replicate T hTl;obtain⟨w3,hw3⟩:∃ w3,w3=(w2.alloc (.cells #[.int .u8 0,.int .u8 0,.int .u8 0,.int .u8 0,.int .u8 0,.int .u8 0,.int .u8 0,.int .u8 0,.int .u8 0,.int .u8 0,.int .u8 0,.int .u8 0,.int .u8 0,.int .u8 0,.int .u8 0,.int .u8 0] 179)).setRow p6 (u8s T).toArray:=⟨_,rfl⟩;have y3:Arr w3 p6 179 T:=by rw[hw3];exact xA.setRow T
 have b23:Below w2.heap.size w2 w3:=by rw[hw3];exact below_setRow ((Below.refl _ _).alloc (Nat.le_refl _) _) (by omega) _
 have b13:Below w1.heap.size w1 w3:=hb2.trans (b23.mono hb2.size);rw[← hw3] at hst;subst hp6;replace hst:=LH hst;replace hw3:=LH hw3
 go_wp2_with (first|(refine wpList_store rfl 179 _ _ rfl _ _ rfl rfl hst.out ?_)|fail)
 have hB3:=hB1.out.after b13;have x3:=(b13.block q (heap_lt hx.out.at_)).trans hx.out.at_;have x3':=(b13.block (q+1) (heap_lt x1.out)).trans x1.out;have x3'':=(b13.block (q+1+1) (heap_lt x2.out)).trans x2.out;have m3:=hm1.out.after b13;have s3:=(b13.block s (heap_lt s1.out)).trans s1.out;obtain⟨p6,hp6⟩:∃ p,p=w2.heap.size:=⟨_,rfl⟩;rw[← hp6] at y3 ⊢;have hxq:∀ w4,RB b w3 w4→BoxB w4 q xs:=fun w4 hr=>⟨hr.2.2.at hB3 x3 id (by decide) (by decide)⟩
 have hxs:∀ w4,RB b w3 w4→w4.heap[q+1]?=some (.cells #[.pointer (some ⟨t,0,none⟩),.pointer (some ⟨m,0,none⟩),.int .i64 num] 100 (0,0)):=fun w4 hr=>hr.2.2.at hB3 x3' id (by decide) (by decide)
 have hxr:∀ w4,RB b w3 w4→w4.heap[q+1+1]?=some (.cells #[.int .i64 0,.slice none 0 0] 142 (0,0)):=fun w4 hr=>hr.2.2.at hB3 x3'' id (by decide) (by decide)
 have hxt:∀ w4,RB b w3 w4→Arr w4 p6 179 T:=fun w4 hr=>hr.2.2.at hB3 y3 id (by decide) (by decide)
 have hxm:∀ w4,RB b w3 w4→MarksAt w4 m L:=fun w4 hr=>m3.bk hB3 hr.2.2
 have hxu:∀ w4,RB b w3 w4→SuiteAt w4 s none tp:=fun w4 hr=>hr.2.2.at hB3 s3 id (by decide) (by decide)
 have hxk:∀ w4,RB b w3 w4→Bytes w4 (fun _=>True) (.slice (some ⟨q,69,none⟩) 32 32) M:=fun w4 hr=>by
  refine⟨by rw[u8s_length,Nat.mul_one],_,_,by rw[h.out.ml],Nat.le_of_eq h.out.ml,by unfold maxLen;omega,fun h=>(by cases h),.inr ⟨q,69,rfl,trivial,heap_lt (hxq w4 hr).at_,fun j u hu=>(hxq w4 hr).get (h.out.mac j u hu)⟩⟩
 have hBd:Bk w3.drew b n:=hB3.keep (fun _ _ _=>rfl);have hR0:RB b w3.drew w3.drew:=⟨⟨n,hBd⟩,⟨n,hBd⟩,BkG.refl⟩;have hdr:∀ w4,RB b w3.drew w4→RB b w3 w4:=fun w4 h=>⟨⟨n,hB3⟩,h.2.1,h.2.2.drew⟩
 have htx:=LH (fun w4 (hr:RB b w3 w4)=>voText_ok (w:=w4) h.out num hnum hTl (hxm w4 hr));have hB3w:BkG No b w w3:=(BkG.of_below b1.out).trans (BkG.of_below b13);have hs13:w.heap.size≤w3.heap.size:=Nat.le_trans b1.out.size b13.size;replace hxq:=LH hxq;replace hxs:=LH hxs;replace hxr:=LH hxr;replace hxt:=LH hxt;replace hxu:=LH hxu;replace hxk:=LH hxk;replace hBd:=LH hBd;replace hR0:=LH hR0;replace hdr:=LH hdr;replace hB3w:=LH hB3w;replace hB3:=LH hB3;replace hs13:=LH hs13;rw[← hc.out] at htx;clear e0 hb2 hC2 xA y3 b23 b13 x3 x3' x3'' m3 s3 hxm hRt hst hx x1 x2 hm1 hB1 s1;rw[← hq];replace hq:=LH hq;replace hp6:=LH hp6;replace hw1:=LH hw1;refine RA.regionT (RB b) (fun x y=>(∃ n,Bk x b n)∧Chg No x y) [1,1,1,1,1,1,1,1,1,1,1,3,3,2,7] [14] (fun _ v w4=>∃ p,v=.pointer (some ⟨p,0,none⟩)∧w3.heap.size≤p∧Arr w4 p 209 (List.replicate 32 0)) (fun w4=>Bk w4 b n) (by kernel_rfl) hR0.out (fun x y h=>⟨h.1,by obtain⟨k,hk⟩:=h.1;exact⟨k,hk.after h.2.no⟩,BkG.of_no h.2⟩) (fun _ _ _ h k=>h.trans k) (fun _ _ h k=>k.after h.2.no) hBd.out (by kernel_rfl) (by kernel_rfl) ?_;intro cx;refine RA.fk prog (q) (101) (h:=?_);refine RA.lk prog (.pointer (some ⟨b,0,none⟩)) (hc:=fun w3 hp=>by exact (hxq.out _ (hdr.out _ hp.1)).get h.out.c101) (h:=?_);refine RA.fk prog (q) (3) (h:=?_);refine RA.fk prog (q) (69) (h:=?_);refine RA.sal (by kernel_rfl) (by rfl) (by rfl) (y':=.slice (some ⟨q,69,none⟩) 32 32) (fun w3 hp=>by show (Instr.sliceAt _ _ _ _ _).run prog w3=_;go_simp) ?_;refine RA.ld (by kernel_rfl) (by rfl) (by rfl) (y':=.agg c) (fun w3 hp=>by rw[hc.out];exact (hxq.out _ (hdr.out _ hp.1)).load h.out.len) ?_;refine RA.fk prog (q+1) (2) (h:=?_);refine RA.lk prog (.int .i64 num) (hc:=fun w3 hp=>by exact cell_of (hxs.out _ (hdr.out _ hp.1)) 2) (h:=?_);refine RA.ld (by kernel_rfl) (by rfl) (by rfl) (y':=.agg (u8s T).toArray) (fun w3 hp=>run_loadAt_arr (P:=prog) (hxt.out _ (hdr.out _ hp.1)) underlying179 (size61 hTl)) ?_;refine RA.fk prog (q+1) (1) (h:=?_);refine RA.lk prog (.pointer (some ⟨m,0,none⟩)) (hc:=fun w3 hp=>by exact cell_of (hxs.out _ (hdr.out _ hp.1)) 1) (h:=?_)
 refine RA.qc (P:=prog) [.agg c,.int .i64 num,.agg (u8s T).toArray,.pointer (some ⟨m,0,none⟩)] (fun _ _=>True) (fun v w4=>Bk w4 b n∧PartsAt w4 (fun _=>True) v [[118,111,108,117,109,101],numL 10,numL 100,numL num,T,L]) (fun _ _=>by go_simp) (by kernel_rfl) (by rfl) (by rfl) (by kernel_rfl) (fun _ _ _ _ _=>trivial) (fun v x y hE hk=>⟨hk.1.after hE.2.no,hk.2.keep hE.2.size (fun g _ hg=>hE.2.block g hg id)⟩) rfl (fun w4 hp hH=>by
  refine (htx.out w4 (hdr.out _ hp.1)).mono ?_;rintro e w5 ⟨v,rfl,k1,k2⟩;exact⟨v,rfl,⟨⟨n,hH⟩,⟨n,hH.after k2⟩,BkG.of_below k2⟩,trivial,hH.after k2,k1⟩) (fun u1=>?_)
 refine RA.qc (P:=prog) [.pointer (some ⟨b,0,none⟩),.slice (some ⟨q,69,none⟩) 32 32,u1] (fun v _=>∃ H:List UInt8,H.length=32∧v=.agg (u8s H).toArray) (fun _ w4=>Bk w4 b (n+1)) (fun _ _=>by go_simp) (by kernel_rfl) (by rfl) (by rfl) (by kernel_rfl) (fun _ _ _ _ h=>h) (fun v x y hE hk=>hk.after hE.2.no) rfl (fun w4 hp hH=>by
  obtain⟨hH1,k2⟩:=hH
  have hlen:∀ x ∈ [[118,111,108,117,109,101],numL 10,numL 100,numL num,T,L],x.length≤1000:=by
   intro x hx;simp only[List.mem_cons,List.not_mem_nil,or_false] at hx;rcases hx with rfl|rfl|rfl|rfl|rfl|rfl
   ·simp
   ·rw[numL_length];omega
   ·rw[numL_length];omega
   ·rw[numL_length];omega
   ·omega
   ·omega
  refine (clMake_ok hH1 hn (hxk.out _ (hdr.out _ hp.1)) (by rw[h.out.ml];omega) k2 (by simp) (fun x hx=>by have:=hlen x hx;omega) (framed_len hlen (by simp))).mono ?_;rintro e w5 ⟨rfl,k4,k5⟩;exact⟨_,rfl,⟨⟨n,hH1⟩,⟨n+1,k4⟩,k5⟩,⟨_,tagL_length,rfl⟩,k4⟩) (fun u2=>?_)
 refine RA.fr (by kernel_rfl) (by rfl) (fun v x y hr hk=>by
  obtain⟨p,h1,h2,h3⟩:=hk;obtain⟨⟨k,hk⟩,_,hG⟩:=hr;exact⟨p,h1,h2,hG.at hk h3 id (by decide) (by decide)⟩) (fun w4 hp=>⟨.pointer (some ⟨w4.heap.size,0,none⟩),w4.alloc (.cells (u8s (List.replicate 32 0)).toArray 209),by
  show (execOp _ _).run prog w4=_;go_simp;rfl,⟨(hdr.out _ hp.1).2.1,(Chg.refl _ _).alloc _⟩,w4.heap.size,rfl,(hdr.out _ hp.1).2.2.size,heap_alloc_new w4 _⟩) (fun u3=>?_)
 refine RA.stt (fun w5=>∃ (p:Nat) (H:List UInt8),u3=.pointer (some ⟨p,0,none⟩)∧H.length=32∧Arr w5 p 209 H∧Bk w5 b (n+1)∧RB b w3 w5) (by kernel_rfl) (by rfl) (by kernel_rfl) (fun x y hE hk=>by
  obtain⟨p,H,h1,h2,h3,h4,h5⟩:=hk;exact⟨p,H,h1,h2,h3.keep (hE.2.block p (heap_lt h3) id),h4.after hE.2.no,h5.1,⟨_,h4.after hE.2.no⟩,h5.2.2.trans (BkG.of_no hE.2)⟩) (fun w4 hp0 hH=>by
  have hp:=hp0.first (by kernel_rfl);obtain⟨p,rfl,h2,h3⟩:=hp.fact 0 rfl (by kernel_rfl);obtain⟨H,hHl,rfl⟩:=hp.fact 1 rfl (by kernel_rfl);have hr:=hdr.out _ hp.1;have hBk:Bk (w4.setRow p (u8s H).toArray) b (n+1):=hH.keep (fun g hg hl=>setRow_other _ _ _ _ (fun e=>BkT.type hH h3 (by decide) (by decide) (e ▸ hg)));exact⟨w4.setRow p (u8s H).toArray,RA.ex_store (by rfl) (by rfl) (hash_store h3 hHl),p,H,rfl,hHl,h3.setRow H,hBk,hr.1,⟨_,hBk⟩,Chg.setRow (g:=p) (C:=fun g=>No g∨BkT w3 b g) hr.2.2 (fun h=>absurd h (by omega)) _⟩) ?_
 refine RA.RA.doneT (fun w5 hH=>?_);simp only[RA.put,List.foldr_cons,List.foldr_nil,cx,Act.put,List.setIfInBounds_toArray,List.set_cons_succ,List.set_cons_zero];obtain⟨p7,H,rfl,hHl,hH5,hB5,hR5⟩:=hH;have hx5:=LH (hxq.out w5 hR5);have hs5:=LH (hxs.out w5 hR5);have hr5:=LH (hxr.out w5 hR5);have ht5:=LH (hxt.out w5 hR5);have hu5:=LH (hxu.out w5 hR5);have hG5:=LH (hB3w.out.trans hR5.2.2);have hW5:w.heap.size≤w5.heap.size:=Nat.le_trans hs13.out hR5.2.2.size;replace hH5:=LH hH5;replace hB5:=LH hB5;replace hW5:=LH hW5;have hra:=fun w6=>voRootAt_ok h.out w6
 rw[← hc.out] at hra;replace hra:=LH hra;have hql:=LH (heap_lt hx5.out.at_);have hdr5:∀ w3,Chg No w5.drew w3→Chg No w5 w3:=fun w3 h=>⟨h.os,h.tape,h.output,h.size,h.block⟩
 replace hdr5:=LH hdr5;clear hR5 hxq hxs hxr hxt hxu hxk htx hB3w hBd hR0 hdr hB3 hs13;go_wp2;refine RA.rt (Chg No) [1,1,4,1,1,3,1,1,3,3,3,1,1,7,5] [13] (fun _=>True) (trivial) (fun _=>Chg.refl _ _) (fun _ _ _ h k=>h.trans k) (h:=?_);intro cx;refine RA.ld (by kernel_rfl) (by rfl) (by rfl) (y':=.agg c) (fun w3 hp=>by rw[hc.out];exact (hx5.out.chg (hdr5.out _ hp.1)).load h.out.len) ?_;refine RA.ld (by kernel_rfl) (by rfl) (by rfl) (y':=.agg c) (fun w3 hp=>by rw[hc.out];exact (hx5.out.chg (hdr5.out _ hp.1)).load h.out.len) ?_;refine RA.kc (P:=prog) [.agg c] (.int .i64 24) (fun _=>True) (fun _ _=>by go_simp) (by kernel_rfl) (by rfl) (by rfl) (by kernel_rfl) (fun _ _ _ h=>h) rfl (fun w3 hp hH=>(hra.out w3).mono (by rintro e w4 ⟨rfl,h2⟩;exact⟨rfl,Chg.of_below h2 _,trivial⟩)) ?_;refine RA.fk prog (q+1) (2) (h:=?_);refine RA.lk prog (.int .i64 num) (hc:=fun w3 hp=>by exact cell_of (((hdr5.out _ hp.1).block (q+1) (heap_lt hs5.out) id).trans hs5.out) 2) (h:=?_)
 refine RA.qc (P:=prog) [.int .i64 num] (fun v w3=>Bytes w3 (fun _=>True) v (numL num)) (fun _ _=>True) (fun _ _=>by go_simp) (by kernel_rfl) (by rfl) (by rfl) (by kernel_rfl) (fun v a b h h2=>h2.chg h (fun _ _ _=>id)) (fun _ _ _ _ h=>h) rfl (fun w3 hp hH=>(num_ok num (by omega) w3).mono (by
  rintro e w4 ⟨v,rfl,k1,k2⟩;exact⟨v,rfl,Chg.of_below k2 _,num_bytes k1,trivial⟩)) (fun u=>?_)
 refine RA.sal (by kernel_rfl) (by rfl) (by rfl) (y':=.slice (some ⟨p6,0,none⟩) 16 16) (fun w3 hp=>by show (Instr.sliceAt _ _ _ _ _).run prog w3=_;go_simp) ?_;refine RA.shi (by kernel_rfl) (by rfl) (by rfl) (by rfl) (y':=.slice (some ⟨p7,0,none⟩) 16 32) (fun w3 hp=>by show (Instr.sliceAt _ _ _ _ _).run prog w3=_;go_simp) ?_
 refine RA.bq (fun x w3=>PartsAt w3 (fun _=>True) x [numL num,T,H.take 16]) (fun _ _=>True) (by kernel_rfl) (by rfl) (by kernel_rfl) (fun _ _ _ h k=>k.keep h.size (fun b _ hb=>h.block b hb id)) (fun _ _ _ _ _=>trivial) (fun w3 hp _=>by
  have f1:=(show Bytes w3 (fun _=>True) u (numL num) from hp.fact 0 rfl (by kernel_rfl));have hc3:=hdr5.out _ hp.1
  have f2:Bytes w3 (fun _=>True) (.slice (some ⟨p6,0,none⟩) 16 16) T:=by
   show Cells w3 _ _ T.length 1 _;rw[hTl];exact arr16 (ht5.out.keep (hc3.block p6 (heap_lt ht5.out) id)) hTl (by unfold maxLen;omega)
  have f3:Bytes w3 (fun _=>True) (.slice (some ⟨p7,0,none⟩) 16 32) (H.take 16):=hash_cut (hH5.out.keep (hc3.block p7 (heap_lt hH5.out) id)) hHl
  have hP:=parts_lit (w:=w3) (S:=fun _=>True) (vs:=[u,.slice (some ⟨p6,0,none⟩) 16 16,.slice (some ⟨p7,0,none⟩) 16 32]) (parts:=[numL num,T,H.take 16]) rfl (by unfold maxLen;simp) (by
   intro j v hv
   match j with
   | 0=>cases hv;exact f1
   | 1=>cases hv;exact f2
   | 2=>cases hv;exact f3
   | _+3=>simp at hv)
  refine⟨_,w3.alloc (.cells #[u,.slice (some ⟨p6,0,none⟩) 16 16,.slice (some ⟨p7,0,none⟩) 16 32] 42),?_,(Chg.refl _ _).alloc _,hP,trivial⟩;obtain⟨_,_,rfl,_⟩:=f1.shape;clear f1 f2 f3 hP hp hc3;show (execOp _ _).run prog w3=_;go_simp) (fun x=>?_)
 refine RA.qc (P:=prog) [x] (fun v w3=>Bytes w3 (fun _=>True) v [numL num,T,H.take 16].flatten) (fun _ _=>True) (fun _ _=>by go_simp) (by kernel_rfl) (by rfl) (by rfl) (by kernel_rfl) (fun v a b h h2=>h2.chg h (fun _ _ _=>id)) (fun _ _ _ _ h=>h) rfl (fun w3 hp hH=>by
  have hlen:∀ y ∈ [numL num,T,H.take 16],y.length≤100000:=by
   intro y hy;simp only[List.mem_cons,List.not_mem_nil,or_false] at hy;rcases hy with rfl|rfl|rfl
   ·rw[numL_length];omega
   ·omega
   ·rw[List.length_take];omega
  refine (concat_ok (hp.fact 0 rfl (by kernel_rfl)) (by simp) hlen).mono ?_;rintro e w4 ⟨v,rfl,k1,k2⟩;exact⟨v,rfl,Chg.of_below k2 _,(Cells.own k1).mono (fun _ _ _=>trivial),trivial⟩) (fun y=>?_)
 refine RA.qc (P:=prog) [.agg c,.int .i64 24,y] (fun v w3=>∃ z Z,v=.tuple #[.agg #[.int .i64 24,z],.int .i64 0]∧List.length Z=64∧w3.ownsRow w5.heap.size 5 1 z 64 (u8s Z)) (fun _ _=>True) (fun _ _=>by go_simp) (by kernel_rfl) (by rfl) (by rfl) (by kernel_rfl) (fun v a b h h2=>by
  obtain⟨z,Z,k1,k2,k3⟩:=h2;exact⟨z,Z,k1,k2,owns_keep k3 (fun g hg=>h.block g (owns_lt k3 g hg) id)⟩) (fun _ _ _ _ h=>h) rfl (fun w3 hp hH=>by
  have hc3:=hdr5.out _ hp.1;have f1:=(show Bytes w3 (fun _=>True) y [numL num,T,H.take 16].flatten from hp.fact 0 rfl (by kernel_rfl))
  have hfl:[numL num,T,H.take 16].flatten.length≤64:=by
   simp only[List.flatten_cons,List.flatten_nil,List.append_nil,List.length_append,numL_length,List.length_take];omega
  have hse:=voSeal_ok (w:=w3) h.out ((hc3.block s (heap_lt hu5.out) id).trans hu5.out) 24 (by omega) f1 hfl;rw[← hc.out] at hse;refine hse.mono ?_;rintro e w4 ⟨v,rfl,k1,k2⟩;exact⟨_,rfl,Chg.of_below k2 _,⟨v,_,rfl,by rw[xtsE_length (by rw[pad_length hfl])];exact pad_length hfl,owns_base k1 hc3.size⟩,trivial⟩) (fun z=>?_)
 refine RA.vk prog (tup z 0) (hr:=fun w3 hp=>by
  obtain⟨v,Z,rfl,_⟩:=hp.fact 0 rfl (by kernel_rfl);clear hp;go_simp;rfl) (h:=?_)
 refine RA.vk prog (tup z 1) (hr:=fun w3 hp=>by
  obtain⟨v,Z,rfl,_⟩:=hp.fact 0 rfl (by kernel_rfl);clear hp;go_simp;rfl) (h:=?_)
 refine RA.stt (fun w6=>∃ (v:Value) (Z:List UInt8),z=.tuple #[.agg #[.int .i64 24,v],.int .i64 0]∧Z.length=64∧w6.ownsRow w5.heap.size 5 1 v 64 (u8s Z)∧w6.heap[q+1+1]?=some (.cells #[.int .i64 24,v] 142 (0,0))∧Chg (fun g=>g=q+1+1) w5 w6) (by kernel_rfl) (by rfl) (by kernel_rfl) (fun _ _ h k=>h ▸ k) (fun w4 hp0 hH=>by
  have hp:=hp0.first (by kernel_rfl);obtain⟨v,Z,rfl,k2,k3⟩:=hp.fact 0 rfl (by kernel_rfl);obtain⟨vg,vc,rfl,_⟩:=own_shape k3 (by omega);have hc4:=hdr5.out _ hp.1;have x4:=(hc4.block (q+1+1) (heap_lt hr5.out) id).trans hr5.out
  refine⟨w4.setRow (q+1+1) #[.int .i64 24,.slice (some ⟨vg,0,none⟩) 64 vc],RA.ex_store (by rfl) (by rfl) (store_struct (P:=prog) (ty:=142) (x:=[.int .i64 24,.slice (some ⟨vg,0,none⟩) 64 vc]) x4 (by kernel_rfl) rfl (by simp[Value.oneCell'])),_,Z,rfl,k2,owns_keep k3 (fun g hg=>setRow_other _ _ _ _ (by
   rintro rfl;exact apartT k3 x4 (by decide) hg)),setRow_heap _ _ _ _ _ _ x4,Chg.setRow (g:=q+1+1) (C:=fun g=>g=q+1+1) (hc4.mono (fun _ _ h=>h.elim)) (fun _=>rfl) _⟩) ?_
 refine RA.pq (h:=?_);refine RA.RA.doneT (fun w6 hH=>?_);simp only[RA.put,List.foldr_cons,List.foldr_nil,cx,Act.put,List.setIfInBounds_toArray,List.set_cons_succ,List.set_cons_zero];obtain⟨v,Z,rfl,hZl,hv6,hr6,hC6⟩:=hH
 have hB6:Bk w6 b (n+1):=hB5.out.keep (fun g hg hl=>hC6.block g hl (by
  rintro rfl;exact BkT.type hB5.out hr5.out (by decide) (by decide) hg))
 have hG6:BkG No b w w6:=Chg.then hG5.out hC6 (fun i hi e=>absurd hi (by rw[e,hq.out];omega));have hv6':=owns_base hv6 hW5.out;simp only[tup,Array.getD_eq_getD_getElem?,List.getElem?_toArray,List.getElem?_cons_zero,List.getElem?_cons_succ,Option.getD_some];replace hB6:=LH hB6;replace hG6:=LH hG6;replace hr6:=LH hr6;replace hv6':=LH hv6';clear hC6 hv6;go_wp2;refine bodyPost_ret (results_cell_row2 results85 _ _ (q+1+1) 142 _ (0,0) _ rfl hr6.out underlying142 rfl (by kernel_rfl)) rfl ⟨_,rfl,⟨Z,hZl,hv6'.out⟩,hB6.out,hG6.out⟩
end Go.Proofs.YthmcbgidehjlbaaGreat.Fd

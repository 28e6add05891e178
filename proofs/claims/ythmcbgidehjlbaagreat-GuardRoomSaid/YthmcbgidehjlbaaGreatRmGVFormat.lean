/-
  volume.Format. No condition beyond what each theorem names.
-/
import Derived.Test.YthmcbgidehjlbaaGreatRmGVol
namespace Go.Proofs.YthmcbgidehjlbaaGreat.Fd
open _root_.Go.Proofs.Tryz
open Go Go.RowKit K
set_option maxRecDepth 100000
set_option maxHeartbeats 16000000
def MarksB (w:World) (m:Nat) (L:List UInt8) (B:Nat):Prop:=B≤m∧∃ sv,w.heap[m]?=some (.cells #[.int .i64 50,sv] 195 (0,0))∧w.ownsRow B 5 1 sv 7 (u8s L)
theorem MarksB.at_ {w:World}{m B:Nat}{L:List UInt8}(h:MarksB w m L B):MarksAt w m L:=by
 obtain⟨_,sv,h1,h2⟩:=h;exact⟨sv,h1,owns_base h2 (Nat.zero_le _)⟩
theorem MarksB.keep {w w':World}{m B:Nat}{L:List UInt8}(h:MarksB w m L B) (hk:∀ (g:Nat) (cs:Array Value) (t:TypeId),B≤g→(t=195∨t=5)→w.heap[g]?=some (.cells cs t (0,0))→w'.heap[g]?=w.heap[g]?):MarksB w' m L B:=by
 obtain⟨h0,sv,h1,h2⟩:=h;refine⟨h0,sv,(hk m _ _ h0 (.inl rfl) h1).trans h1,owns_keep h2 (fun g hg=>?_)⟩;obtain⟨cur,hc⟩:=own_cells' h2 hg;exact hk g _ _ (owns_ge h2 g hg) (.inr rfl) hc
theorem MarksB.lower {w:World}{m B B':Nat}{L:List UInt8}(h:MarksB w m L B) (hb:B'≤B):MarksB w m L B':=by
 obtain⟨h0,sv,h1,h2⟩:=h;exact⟨Nat.le_trans hb h0,sv,h1,owns_base h2 hb⟩
theorem mkNewB_ok (w:World):Calls prog 62 #[.int .i64 50] w fun e w'=>∃ m,e=.returned (.tuple #[.pointer (some ⟨m,0,none⟩),.int .i64 0])∧MarksB w' m (List.replicate 7 0) w.heap.size∧Below w.heap.size w w':=by
 have hmk:∀ u:World,_:=fun u=>mk_z u 7 7 rfl (by omega)
 go_enter func62,ntmps62;go_wp2;go_ret2;refine⟨w.heap.size+1,rfl,⟨by omega,.slice (some ⟨w.heap.size,0,none⟩) 7 7,?_,?_⟩,((Below.refl _ _).alloc (Nat.le_refl _) _).alloc (by simp) _⟩
 ·have h:=heap_alloc_new (w.alloc (.cells (u8s (List.replicate 7 0)).toArray 5)) (.cells #[.int .i64 50,.slice (some ⟨w.heap.size,0,none⟩) 7 7] 195);simp only[World.size_alloc] at h;exact h
 ·have h:=own_new w (u8s (List.replicate 7 0)).toArray 5 7 1 (by simp[u8s_length]) (by unfold maxLen;omega) (Nat.le_refl _);exact owns_keep h (fun g hg=>Below.heap_alloc _ _ _ (owns_lt h g hg))
theorem PutAt.elem2 {w:World}{B:Nat}{t:TypeId}{v:Value}{ws:List (Nat×Value)}(h:PutAt w B t v ws){j:Nat}(hj:j<ws.length):∃ (g cap n vg vc:Nat) (Z:List UInt8),v=.slice (some ⟨g,0,none⟩) ws.length cap∧w.cell? ⟨g,j*2,none⟩=some (.int .i64 n)∧w.cell? ⟨g,j*2+1,none⟩=some (.slice (some ⟨vg,0,none⟩) 64 vc)∧n<120∧Z.length=64∧Bytes w (fun x=>x=vg) (.slice (some ⟨vg,0,none⟩) 64 vc) Z∧B≤g∧B≤vg∧(∃ cs,w.heap[g]?=some (.cells cs t (0,0)))∧∃ cs,w.heap[vg]?=some (.cells cs 5 (0,0)):=by
 obtain⟨hr,he⟩:=h;obtain⟨g,cap,rfl,_,_⟩:=own_shape hr (by omega);have hp:=List.getElem?_eq_getElem hj;obtain⟨h1,Z,hZ,h3⟩:=he _ (List.getElem_mem hj);obtain⟨vg,vc,hv,_⟩:=own_shape h3 (by omega);obtain⟨g',off,c',hv',_,_,_,_,hcl⟩:=Cells.at (Cells.own hr) (by omega);simp only[Value.slice.injEq,Option.some.injEq,Addr.mk.injEq] at hv';obtain⟨⟨rfl,rfl,_⟩,_,_⟩:=hv';obtain⟨e1,e2⟩:=wsL_get ws j _ hp;have f1:=hcl _ _ e1;have f2:=hcl _ _ e2;rw[Nat.zero_add] at f1 f2;rw[hv] at f2 h3
 have hb:Bytes w (fun x=>x=vg) (.slice (some ⟨vg,0,none⟩) 64 vc) Z:=by
  show Cells w _ _ Z.length 1 _;rw[hZ];exact (Cells.own h3).mono (fun g _ hk=>by have h:=hk.1;simp[Value.ownBlock] at h;exact h.symm)
 exact⟨g,cap,_,vg,vc,Z,rfl,f1,f2,h1,hZ,hb,owns_ge hr g rfl,owns_ge h3 vg rfl,own_cells' hr rfl,own_cells' h3 rfl⟩
theorem chg_of_bkg {C:Nat→Prop}{b:Nat}{w0 x y:World}(h:Chg (fun g=>C g∨BkT w0 b g) w0 x) (k:BkG No b x y) (hC:∀ g,w0.heap.size≤g→C g):Chg (fun g=>C g∨BkT w0 b g) x y:=
 Chg.mono k (fun g hg e=>e.elim (fun e=>e.elim) (fun e=>by
  by_cases hl:g<w0.heap.size
  ·by_cases hc:C g
   ·exact .inl hc
   ·exact .inr (BkT.back (C:=C) h hl hc e)
  ·exact .inl (hC g (by omega))))
theorem voFormat_ok {w:World}{F:Nat→Prop}{d s b n k:Nat}{X:D.Dk}{what:ByteArray}{tp:Option Addr}{A M:List UInt8}(h:D.At w F d X) (hX:DkOk X k) (hk:k<500) (hs:SuiteAt w s none tp) (hsF:¬ F s) (hB:Bk w b n) (hn:n≤1000) (hFB:∀ g,F g→¬ BkT w b g) (hA:A.length=64) (hM:M.length=32):
  Calls prog 38 #[.pointer (some ⟨d,0,none⟩),.pointer (some ⟨s,0,none⟩),.string what,.agg (hdrL A M).toArray,.pointer (some ⟨b,0,none⟩)] w fun e w'=>∃ v,e=.returned (.tuple #[.pointer (some ⟨v,0,none⟩),.int .i64 0])∧w.heap.size≤v∧(∃ m,w.heap.size≤m∧VolAt w' v m (List.replicate 7 0) [] false∧∃ xs t r,BaseIs xs d s b what A M∧w'.heap[v]?=some (.cells (volL xs t m 0 r).toArray 104 (0,0)))∧Chg (fun g=>F g∨BkT w b g) w w':=by
 obtain⟨q,hq⟩:∃ q,q=w.heap.size:=⟨_,rfl⟩;obtain⟨w1,hw1⟩:∃ w1,w1=w.alloc (.cells (hdrL A M).toArray 39):=⟨_,rfl⟩;have b1:Below w.heap.size w w1:=by rw[hw1];exact (Below.refl _ _).alloc (Nat.le_refl _) _
 have x1:w1.heap[q]?=some (.cells (hdrL A M).toArray 39 (0,0)):=by rw[hw1,hq];exact heap_alloc_new w _
 have h1:D.At w1 F d X:=h.chg (Chg.of_below b1 No) (fun _ _=>id);have hof:=LH (voOf_ok (s:=s) (b:=b) h1 hX.2.1 what hA hM)
 have hld1:(Instr.loadAt 39 (.pointer (some ⟨q,0,none⟩))).run prog w1=.ok (.agg (hdrL A M).toArray) w1:=
  load_struct underlying39 (by rw[hdrL_length hA hM];exact sizeHeader) (fun j v hv=>by rw[Nat.zero_add,cell_of x1];simpa using hv)
 have hIs:=LH (baseL_is d s b what hA hM);obtain⟨xs,hxs⟩:∃ xs,xs=baseL d s b what A M:=⟨_,rfl⟩;rw[← hxs] at hof hIs;obtain⟨c,hc⟩:∃ c,c=(hdrL A M).toArray:=⟨_,rfl⟩;rw[← hc] at hof hw1 hld1 x1 ⊢;replace hxs:=LH hxs;replace hc:=LH hc;replace hld1:=LH hld1;replace x1:=LH x1;replace b1:=LH b1;replace hs:=LH hs;replace hB:=LH hB;replace hFB:=LH hFB;replace h:=LH h;replace hX:=LH hX;clear h1;go_enter func38,ntmps38
 go_wp2_with (first|(rw[← hw1,← hq];refine wpList_load rfl 39 _ rfl _ _ rfl hld1.out ?_)|fail)
 try rw[← hw1]
 try rw[← hq]
 replace hw1:=LH hw1;replace hq:=LH hq;refine hof.out.mono ?_;rintro e w2 ⟨rfl,hb2⟩;have hlen:=hIs.out.len;have hw2:=LH (b1.out.trans (hb2.mono b1.out.size));have x2:=(hb2.block q (heap_lt x1.out)).trans x1.out;obtain⟨p12,hp12⟩:∃ p,p=w2.heap.size:=⟨_,rfl⟩;have xz:(w2.alloc (.cells Tryz.zeroCells96 96)).heap[p12]?=some (.cells Tryz.zeroCells96 96 (0,0)):=by rw[hp12];exact heap_alloc_new w2 _
 have hst:=store_struct (P:=prog) (ty:=96) (x:=xs) xz (by rw[hlen];exact sizeBase) (by rw[hlen];rfl) hIs.out.one;obtain⟨w3,hw3⟩:∃ w3,w3=(w2.alloc (.cells Tryz.zeroCells96 96)).setRow p12 xs.toArray:=⟨_,rfl⟩;have x3:w3.heap[p12]?=some (.cells xs.toArray 96 (0,0)):=by rw[hw3];exact setRow_heap _ _ _ _ _ _ xz
 have b23:Below w2.heap.size w2 w3:=by rw[hw3];exact below_setRow ((Below.refl _ _).alloc (Nat.le_refl _) _) (by omega) _
 have y3:=(b23.block q (heap_lt x2)).trans x2;rw[← hw3] at hst;subst hp12;replace hst:=LH hst;replace hw3:=LH hw3;clear xz hof hld1 hb2 x2;replace x3:=LH x3;replace y3:=LH y3;have hbw3:=LH (hw2.out.trans (b23.mono hw2.out.size));have h2s:=LH hw2.out.size;have hp12l:=LH (heap_lt x3.out);clear b23;obtain⟨xc,hxc⟩:∃ c,c=xs.toArray:=⟨_,rfl⟩;rw[← hxc] at hst ⊢;replace hxc:=LH hxc
 go_wp2_with (first|(refine wpList_store rfl 96 _ _ rfl _ _ rfl rfl hst.out ?_)|fail)
 obtain⟨w4,hw4⟩:∃ w4,w4=w3.alloc (.cells #[.pointer none,.pointer none,.int .i64 0] 100):=⟨_,rfl⟩;obtain⟨p14,hp14⟩:∃ p,p=w3.heap.size:=⟨_,rfl⟩;obtain⟨p12,hp12⟩:∃ p,p=w2.heap.size:=⟨_,rfl⟩;have b34:Below w3.heap.size w3 w4:=by rw[hw4];exact (Below.refl _ _).alloc (Nat.le_refl _) _
 have z4:w4.heap[p14]?=some (.cells #[.pointer none,.pointer none,.int .i64 0] 100 (0,0)):=by rw[hw4,hp14];exact heap_alloc_new w3 _
 rw[← hp12] at x3 hp12l ⊢;have x4:BoxB w4 p12 xs:=⟨(b34.block p12 (heap_lt x3.out)).trans x3.out⟩;have y4:=(b34.block q (heap_lt y3.out)).trans y3.out;have hbw4:Below w.heap.size w w4:=hbw3.out.trans (b34.mono hbw3.out.size);rw[← hw4,← hp14];have hB4:=hB.out.after hbw4;have hp14s:w.heap.size≤p14:=by rw[hp14];exact hbw3.out.size
 have hp12s:w.heap.size≤p12:=by rw[hp12];exact h2s.out
 have hp1214:p12<p14:=by rw[hp14];exact hp12l.out
 have hq14:q<p14:=by rw[hp14];exact heap_lt y3.out
 have hp14l:=heap_lt z4;obtain⟨C,hC⟩:∃ C:Nat→Prop,C=fun g=>g=p14∨w4.heap.size≤g:=⟨_,rfl⟩
 have hC14:C p14:=by rw[hC];exact .inl rfl
 have hCn:∀ g,w4.heap.size≤g→C g:=fun g hg=>by rw[hC];exact .inr hg
 have hCo:∀ g,g<w4.heap.size→g≠p14→¬ C g:=fun g hg hne e=>by rw[hC] at e;exact e.elim hne (fun e=>by omega)
 have hbx:∀ w5,Chg (fun g=>C g∨BkT w4 b g) w4 w5→BoxB w5 p12 xs:=fun w5 hr=>⟨BkG.at (C:=C) hr hB4 x4.at_ (hCo p12 (heap_lt x4.at_) (by omega)) (by decide) (by decide)⟩
 have hhx:∀ w5,Chg (fun g=>C g∨BkT w4 b g) w4 w5→w5.heap[q]?=some (.cells c 39 (0,0)):=fun w5 hr=>BkG.at (C:=C) hr hB4 y4 (hCo q (heap_lt y4) (by omega)) (by decide) (by decide)
 have hmac:∀ (w5:World),w5.heap[q]?=some (.cells c 39 (0,0))→Bytes w5 (fun _=>True) (.slice (some ⟨q,66,none⟩) 32 32) M:=fun w5 hx=>by
  refine⟨by rw[u8s_length,Nat.mul_one],_,_,by rw[hM],by omega,by unfold maxLen;omega,fun h=>(by cases h),.inr ⟨q,66,rfl,trivial,heap_lt hx,fun j u hu=>?_⟩⟩;rw[cell_of hx,hc.out,List.getElem?_toArray,hdrL,List.getElem?_append_right (by simp;omega),List.getElem?_append_right (by simp[u8s_length];omega)];rw[← hu];congr 1;simp[u8s_length];omega
 have hdat:∀ (w5:World),w5.heap[q]?=some (.cells c 39 (0,0))→Bytes w5 (fun _=>True) (.slice (some ⟨q,2,none⟩) 64 64) A:=fun w5 hx=>by
  refine⟨by rw[u8s_length,Nat.mul_one],_,_,by rw[hA],by omega,by unfold maxLen;omega,fun h=>(by cases h),.inr ⟨q,2,rfl,trivial,heap_lt hx,fun j u hu=>?_⟩⟩;have hj:j<64:=by have:=(List.getElem?_eq_some_iff.1 hu).1;rw[u8s_length] at this;omega
  rw[cell_of hx,hc.out,List.getElem?_toArray,hdrL,List.getElem?_append_right (by simp),List.getElem?_append_left (by simp[u8s_length];omega)]
  simpa using hu
 have hdr:∀ w5,Chg (fun g=>C g∨BkT w4 b g) w4.drew w5→Chg (fun g=>C g∨BkT w4 b g) w4 w5:=fun w5 h=>⟨h.os,h.tape,h.output,h.size,h.block⟩
 have hBd:Bk w4.drew b n:=hB4.keep (fun _ _ _=>rfl);replace hbx:=LH hbx;replace hhx:=LH hhx;replace hmac:=LH hmac;replace hdat:=LH hdat;replace hdr:=LH hdr;replace hBd:=LH hBd;replace hC14:=LH hC14;replace hCn:=LH hCn;replace hCo:=LH hCo;replace hC:=LH hC;replace z4:=LH z4;replace hB4:=LH hB4;replace hbw4:=LH hbw4;replace hw4:=LH hw4;replace hp14:=LH hp14;replace hp12:=LH hp12;clear b34 x3 y3 x4 y4 hst;refine RA.region (fun x y=>Chg (fun g=>C g∨BkT w4 b g) x y) (·=·) [1,1,1,1,1,1,3,1,1,1,1,4] (fun _ _ _=>True) (fun w5=>Bk w5 b n∧w5.heap[p14]?=some (.cells #[.pointer none,.pointer none,.int .i64 0] 100 (0,0))) (by kernel_rfl) (Chg.refl _ _) (fun _ _ e=>e ▸ Chg.refl _ _) (fun _ _ _ h k=>h.trans k) (fun _ _ e k=>e ▸ k) ⟨hBd.out,z4.out⟩ (by kernel_rfl) ?_;intro cx;refine RA.fk prog (p12) (104) (h:=?_);refine RA.fk prog (p12) (105) (h:=?_);refine RA.lk prog (.int .i64 50) (hc:=fun w3 hp=>by exact (hbx.out _ (hdr.out _ hp.1)).get hIs.out.c105) (h:=?_);refine RA.fk prog (q) (66) (h:=?_);refine RA.sal (by kernel_rfl) (by rfl) (by rfl) (y':=.slice (some ⟨q,66,none⟩) 32 32) (fun w3 hp=>by show (Instr.sliceAt _ _ _ _ _).run prog w3=_;go_simp) ?_
 repeat (first|refine RA.mv (by rfl) (by rfl) (by rfl) ?_|refine RA.as (by rfl) (by rfl) (by rfl) ?_|refine RA.pt (by rfl) (by rfl) (by rfl) (by rfl) ?_|refine RA.pf (by rfl) (by rfl) (by rfl) (by rfl) ?_)
 refine RA.qc (P:=prog) [.int .i64 50,.slice (some ⟨q,66,none⟩) 32 32,.pointer (some ⟨b,0,none⟩)] (fun v _=>∃ t,v=.tuple #[.pointer (some ⟨t,0,none⟩),.int .i64 0]) (fun v w5=>∃ t gs Ls n',v=.tuple #[.pointer (some ⟨t,0,none⟩),.int .i64 0]∧w4.heap.size≤t∧TreeAt w5 t b gs M Ls∧Ls.length=4∧Bk w5 b n'∧n'≤n+300∧w5.heap[p14]?=some (.cells #[.pointer none,.pointer none,.int .i64 0] 100 (0,0))) (fun _ _=>by go_simp) (by kernel_rfl) (by rfl) (by rfl) (by kernel_rfl) (fun _ _ _ _ h=>h) (fun _ _ _ e k=>e ▸ k) rfl (fun w5 hp hH=>by
  obtain⟨hH1,hH2⟩:=hH;have hr:=hdr.out _ hp.1;refine (htNew_ok hH1 hn (hmac.out _ (hhx.out _ hr)) hM).mono ?_;rintro e w6 ⟨t,rfl,j1,j2,⟨n',j3,j4⟩,gs,Ls,j5,j6⟩;exact⟨_,rfl,chg_of_bkg hr j2 hCn.out,⟨t,rfl⟩,t,gs,Ls,n',rfl,Nat.le_trans hr.size j1,j5,j6,j4,j3,j2.at hH1 hH2 id (by decide) (by decide)⟩) (fun u=>?_)
 repeat (first|refine RA.mv (by rfl) (by rfl) (by rfl) ?_|refine RA.as (by rfl) (by rfl) (by rfl) ?_|refine RA.pt (by rfl) (by rfl) (by rfl) (by rfl) ?_|refine RA.pf (by rfl) (by rfl) (by rfl) (by rfl) ?_)
 refine RA.vk prog (tup u 0) (hr:=fun w3 hp=>by
  obtain⟨v,rfl⟩:=hp.fact 0 rfl (by kernel_rfl);clear hp;go_simp;rfl) (h:=?_)
 refine RA.vk prog (tup u 1) (hr:=fun w3 hp=>by
  obtain⟨v,rfl⟩:=hp.fact 0 rfl (by kernel_rfl);clear hp;go_simp;rfl) (h:=?_)
 refine RA.fk prog (p14) (0) (h:=?_)
 refine RA.st (fun w5=>∃ t gs Ls n',u=.tuple #[.pointer (some ⟨t,0,none⟩),.int .i64 0]∧w4.heap.size≤t∧TreeAt w5 t b gs M Ls∧Ls.length=4∧Bk w5 b n'∧n'≤n+300∧w5.heap[p14]?=some (.cells #[.pointer (some ⟨t,0,none⟩),.pointer none,.int .i64 0] 100 (0,0))) (by kernel_rfl) (by rfl) (by kernel_rfl) (fun _ _ e k=>e ▸ k) (fun w5 hp hH=>by
  obtain⟨t,gs,Ls,n',rfl,j1,j2,j3,j4,j5,j6⟩:=hH
  have hne:∀ (g:Nat) (cs:Array Value) (ty:TypeId),w5.heap[g]?=some (.cells cs ty (0,0))→ty≠100→(w5.setCell ⟨p14,0,none⟩ (.pointer (some ⟨t,0,none⟩))).heap[g]?=w5.heap[g]?:=fun g cs ty hg hne=>setCell_heap_ne _ _ _ (by
   rintro rfl;rw[j6] at hg;simp only[Option.some.injEq,Obj.cells.injEq] at hg;exact hne hg.2.1.symm)
  refine⟨w5.setCell ⟨p14,0,none⟩ (.pointer (some ⟨t,0,none⟩)),RA.ex_store (by rfl) (by rfl) ?_,Chg.setCell (Chg.refl _ _) (p:=⟨p14,0,none⟩) (fun _=>.inl hC14.out) _,t,gs,Ls,n',rfl,j1,j2.keep (fun g cs ty hty hg=>hne g cs ty hg (by rcases hty with rfl|rfl|rfl|rfl<;>decide)),j3,j4.keep (fun g hg _=>?_),j5,setCell_block j6 0 _⟩
  ·have f0:=cell_of j6 0;have f1:w5.frozen? ⟨p14,0,none⟩=false:=frozen_of j6 0;clear j2 j4 hne hp;show (Instr.storeAt _ _ (.pointer (some ⟨t,0,none⟩))).run prog w5=_;go_simp
  ·exact setCell_heap_ne _ _ _ (fun e=>BkT.type j4 j6 (by decide) (by decide) (show BkT w5 b p14 from (show g=p14 from e) ▸ hg))) ?_
 refine RA.RA.done rfl (fun w5 hR hF hH=>?_);clear hF;simp only[RA.put,List.foldr_cons,List.foldr_nil,cx,Act.put,List.setIfInBounds_toArray,List.set_cons_succ,List.set_cons_zero];obtain⟨t,gs,Ls,n5,rfl,t1,t2,t3,t4,t5,t6⟩:=hH;have hC5:=hdr.out _ hR;have hG5:BkG (fun g=>w.heap.size≤g) b w w5:=(BkG.of_below hbw4.out).trans (Chg.mono hC5 (fun g hg e=>e.elim (fun e=>by rw[hC.out] at e;exact .inl (e.elim (fun e=>by omega) (fun e=>by have:=hbw4.out.size;omega))) .inr));have hx5:=LH (hbx.out _ hC5);have hh5:=LH (hhx.out _ hC5);replace hG5:=LH hG5;replace t2:=LH t2;replace t4:=LH t4;replace t6:=LH t6;have t1':=LH t1;simp only[tup,Array.getD_eq_getD_getElem?,List.getElem?_toArray,List.getElem?_cons_zero,List.getElem?_cons_succ,Option.getD_some];have c105:=hx5.out.get hIs.out.c105;have hnew:=LH (mkNewB_ok w5);clear hC5 hR hbx hhx hdr hBd z4 hB4 t1
 go_wp2_with fail
 refine hnew.out.mono ?_;rintro e w6 ⟨m,rfl,m2,hb6⟩;have m1:=m2.1;have z6:=(hb6.block p14 (heap_lt t6.out)).trans t6.out;have g1:=cell_of z6 1;have g2:w6.frozen? ⟨p14,1,none⟩=false:=frozen_of z6 1;obtain⟨w7,hw7⟩:∃ w7,w7=w6.setCell ⟨p14,1,none⟩ (.pointer (some ⟨m,0,none⟩)):=⟨_,rfl⟩;have z7:w7.heap[p14]?=some (.cells #[.pointer (some ⟨t,0,none⟩),.pointer (some ⟨m,0,none⟩),.int .i64 0] 100 (0,0)):=by rw[hw7];exact setCell_block z6 1 _
 have hne7:∀ (g:Nat) (cs:Array Value) (ty:TypeId),w6.heap[g]?=some (.cells cs ty (0,0))→ty≠100→w7.heap[g]?=w6.heap[g]?:=fun g cs ty hg hne=>by
  rw[hw7]
  exact setCell_heap_ne _ _ _ (by
   rintro rfl;rw[z6] at hg;simp only[Option.some.injEq,Obj.cells.injEq] at hg;exact hne hg.2.1.symm)
 have x6:=(hb6.block p12 (heap_lt hx5.out.at_)).trans hx5.out.at_;have x7:BoxB w7 p12 xs:=⟨(hne7 _ _ _ x6 (by decide)).trans x6⟩;have y6:=(hb6.block q (heap_lt hh5.out)).trans hh5.out;have y7:=(hne7 _ _ _ y6 (by decide)).trans y6;have T6:=t2.out.after hb6;have T7:TreeAt w7 t b gs M Ls:=T6.keep (fun g cs ty hty hg=>hne7 g cs ty hg (by rcases hty with rfl|rfl|rfl|rfl<;>decide));have M7:MarksB w7 m (List.replicate 7 0) w.heap.size:=(m2.keep (fun g cs ty _ hty hc=>hne7 g cs ty hc (by rcases hty with rfl|rfl<;>decide))).lower hG5.out.size;have m7:=M7.at_;have B6:=t4.out.after hb6
 have B7:Bk w7 b n5:=B6.keep (fun g hg _=>by
  rw[hw7];exact setCell_heap_ne _ _ _ (fun e=>BkT.type B6 z6 (by decide) (by decide) (show BkT w6 b p14 from (show g=p14 from e) ▸ hg)))
 have hG6:BkG (fun g=>w.heap.size≤g) b w w6:=hG5.out.trans (BkG.of_below hb6);have hG7:BkG (fun g=>w.heap.size≤g) b w w7:=by rw[hw7];exact Chg.setCell hG6 (p:=⟨p14,1,none⟩) (fun _=>.inl hp14s) _
 have s7:SuiteAt w7 s none tp:=hG7.at hB.out hs.out (by have:=heap_lt hs.out;omega) (by decide) (by decide);have hm5:w.heap.size≤m:=Nat.le_trans hG5.out.size m1;have hld7:=x7.load hlen;have hld7':=load_struct (P:=prog) (w:=w7) (g:=p14) (off:=0) (ty:=100) (x:=[.pointer (some ⟨t,0,none⟩),.pointer (some ⟨m,0,none⟩),.int .i64 0]) underlying100 (by kernel_rfl) (fun j v hv=>by rw[Nat.zero_add,cell_of z7];simpa using hv);have hall:=voAll_ok hIs.out s7 T7 t3 B7 (by omega) m7 0 (by omega);rw[← hxc.out] at hld7 hall;replace M7:=LH M7;replace hld7:=LH hld7;replace hld7':=LH hld7';replace hall:=LH hall;replace hG7:=LH hG7;replace x7:=LH x7;replace y7:=LH y7;replace z7:=LH z7;replace B7:=LH B7;replace s7:=LH s7;clear z6 hne7 x6 y6 T6 T7 m2 m7 B6 hG6 hb6 hnew c105 hx5 hh5 hG5 t2 t4 t6;have hw7':=LH hw7;subst hw7
 go_wp2_with (first|(refine wpList_load rfl 96 _ rfl _ _ rfl hld7.out ?_)|(refine wpList_load rfl 100 _ rfl _ _ rfl hld7'.out ?_)|fail)
 refine hall.out.mono ?_;rintro e w8 ⟨ov,rfl,⟨ws,hwl,hrow,hels⟩,B8,T8,m8,hG8⟩;have x8:BoxB w8 p12 xs:=⟨hG8.at B7.out x7.out.at_ id (by decide) (by decide)⟩;have y8:=hG8.at B7.out y7.out id (by decide) (by decide);have z8:=hG8.at B7.out z7.out id (by decide) (by decide);have s8:SuiteAt w8 s none tp:=hG8.at B7.out s7.out id (by decide) (by decide);have M8:MarksB w8 m (List.replicate 7 0) w.heap.size:=M7.out.keep (fun g cs ty _ hty hc=>by rw[hc];exact hG8.at B7.out hc id (by rcases hty with rfl|rfl<;>decide) (by rcases hty with rfl|rfl<;>decide));have hGw8:BkG (fun g=>w.heap.size≤g) b w w8:=hG7.out.trans (hG8.mono (fun _ _ e=>e.elim));have hFl:∀ g,F g→g<w.heap.size:=fun g hg=>h.out.lim g hg
 have hA8:D.At w8 F d X:=h.out.keep hGw8.size (fun g hg hl=>hGw8.block g hl (fun e=>e.elim (fun e=>by have:=hFl g hg;omega) (hFB.out g hg)));have hFB8:∀ g,F g→¬ BkT w8 b g:=fun g hg e=>hFB.out g hg (BkT.back hGw8 (hFl g hg) (by have:=hFl g hg;omega) e)
 have hP8:PutAt w8 w.heap.size 142 ov ws:=⟨by rw[hwl];exact owns_base hrow hG7.out.size,fun p hp=>by
  obtain⟨h1,Z,h2,h3⟩:=hels p hp;exact⟨h1,Z,h2,owns_base h3 hG7.out.size⟩⟩
 obtain⟨la,lc,rfl,_⟩:=(Cells.own hrow).shape;have hBd8:Bk w8.drew b (n5+1):=B8.keep (fun _ _ _=>rfl);have hAd8:D.At w8.drew F d X:=hA8.keep (Nat.le_refl _) (fun _ _ _=>rfl);have hd8:∀ g,F g→¬ BkT w8.drew b g:=hFB8;have hs8:=hGw8.size;have hqs:w.heap.size≤q:=by rw[hq.out];exact Nat.le_refl _
 have hx8l:=heap_lt x8.at_;have hy8l:=heap_lt y8;have hs8l:=heap_lt s8
 have hRx:∀ w9,Chg (fun g=>(F g∨w8.heap.size≤g)∨BkT w8 b g) w8 w9→BoxB w9 p12 xs∧w9.heap[q]?=some (.cells c 39 (0,0))∧SuiteAt w9 s none tp:=fun w9 hr=>by
  refine⟨⟨BkG.at (C:=fun g=>F g∨w8.heap.size≤g) hr B8 x8.at_ ?_ (by decide) (by decide)⟩,BkG.at (C:=fun g=>F g∨w8.heap.size≤g) hr B8 y8 ?_ (by decide) (by decide),BkG.at (C:=fun g=>F g∨w8.heap.size≤g) hr B8 s8 ?_ (by decide) (by decide)⟩
  ·rintro (e|e)
   ·have:=hFl _ e;omega
   ·omega
  ·rintro (e|e)
   ·have:=hFl _ e;omega
   ·omega
  ·rintro (e|e)
   ·exact hsF e
   ·omega
 have hdr8:∀ w9,Chg (fun g=>(F g∨w8.heap.size≤g)∨BkT w8 b g) w8.drew w9→Chg (fun g=>(F g∨w8.heap.size≤g)∨BkT w8 b g) w8 w9:=fun w9 h=>⟨h.os,h.tape,h.output,h.size,h.block⟩
 have hra:=fun w9=>voRingArea_ok hIs.out w9
 rw[← hxc.out] at hra;replace hra:=LH hra;replace hRx:=LH hRx;replace hdr8:=LH hdr8;replace hBd8:=LH hBd8;replace hAd8:=LH hAd8;replace hd8:=LH hd8;replace hP8:=LH hP8;replace hGw8:=LH hGw8;replace M8:=LH M8;replace x8:=LH x8;replace y8:=LH y8;replace z8:=LH z8;replace B8:=LH B8;replace hs8:=LH hs8;replace hFl:=LH hFl;clear hrow hels T8 m8 hG8 hld7 hld7' hall hG7 x7 y7 z7 B7 s7 s8 hA8 hFB8 M7;go_wp2;refine RA.region (fun x y=>Chg (fun g=>(F g∨w8.heap.size≤g)∨BkT w8 b g) x y) (·=·) [1,1,1,1,4,1,1,1,1,1,3,1,1,1,1,1] (fun _ _ _=>True) (fun w9=>D.At w9 F d X∧Bk w9 b (n5+1)∧∀ g,F g→¬ BkT w9 b g) (by kernel_rfl) (Chg.refl _ _) (fun _ _ e=>e ▸ Chg.refl _ _) (fun _ _ _ h k=>h.trans k) (fun _ _ e k=>e ▸ k) ⟨hAd8.out,hBd8.out,hd8.out⟩ (by kernel_rfl) ?_;intro cx
 repeat (first|refine RA.mv (by rfl) (by rfl) (by rfl) ?_|refine RA.as (by rfl) (by rfl) (by rfl) ?_|refine RA.pt (by rfl) (by rfl) (by rfl) (by rfl) ?_|refine RA.pf (by rfl) (by rfl) (by rfl) (by rfl) ?_)
 refine RA.ld (by kernel_rfl) (by rfl) (by rfl) (y':=.agg xc) (fun w9 hp=>by rw[hxc.out];exact (hRx.out _ (hdr8.out _ hp.1)).1.load hlen) ?_
 refine RA.kc (P:=prog) [.agg xc] (.agg #[.int .i64 25,.int .i64 35]) (fun w9=>D.At w9 F d X∧Bk w9 b (n5+1)∧∀ g,F g→¬ BkT w9 b g) (fun _ _=>by go_simp) (by rfl) (by rfl) (by rfl) (by kernel_rfl) (fun _ _ e k=>e ▸ k) rfl (fun w9 hp hH=>(hra.out w9).mono (by
  obtain⟨a1,a2,a3⟩:=hH;rintro e wa ⟨rfl,h2⟩;exact⟨rfl,Chg.of_below h2 _,a1.chg (Chg.of_below h2 No) (fun _ _=>id),a2.after h2,fun g hg e=>a3 g hg (BkT.back (C:=No) (BkG.of_below h2) (a1.lim g hg) id e)⟩)) ?_
 refine RA.fk prog (q) (2) (h:=?_);refine RA.sal (by kernel_rfl) (by rfl) (by rfl) (y':=.slice (some ⟨q,2,none⟩) 64 64) (fun w3 hp=>by show (Instr.sliceAt _ _ _ _ _).run prog w3=_;go_simp) ?_;refine RA.fk prog (q) (66) (h:=?_);refine RA.sal (by kernel_rfl) (by rfl) (by rfl) (y':=.slice (some ⟨q,66,none⟩) 32 32) (fun w3 hp=>by show (Instr.sliceAt _ _ _ _ _).run prog w3=_;go_simp) ?_
 repeat (first|refine RA.mv (by rfl) (by rfl) (by rfl) ?_|refine RA.as (by rfl) (by rfl) (by rfl) ?_|refine RA.pt (by rfl) (by rfl) (by rfl) (by rfl) ?_|refine RA.pf (by rfl) (by rfl) (by rfl) (by rfl) ?_)
 refine RA.qc (P:=prog) [.pointer (some ⟨d,0,none⟩),.pointer (some ⟨s,0,none⟩),.string what,.agg #[.int .i64 25,.int .i64 35],.slice (some ⟨q,2,none⟩) 64 64,.slice (some ⟨q,66,none⟩) 32 32,.pointer (some ⟨b,0,none⟩)] (fun v _=>∃ r,v=.tuple #[.pointer (some ⟨r,0,none⟩),.int .i64 0]) (fun v w9=>∃ F' X',D.At w9 F' d X'∧DkOk X' 0∧(∀ g,F' g→F g∨w8.heap.size≤g)) (fun _ _=>by go_simp) (by rfl) (by rfl) (by rfl) (by kernel_rfl) (fun _ _ _ _ h=>h) (fun _ _ _ e k=>e ▸ k) rfl (fun w9 hp hH=>by
  obtain⟨a1,a2,a3⟩:=hH;have hr:=hdr8.out _ hp.1;obtain⟨r1,r2,r3⟩:=hRx.out _ hr;refine (riFormat_ok a1 hX.out (by omega) r3 a2 (by omega) a3 (hdat.out _ r2) hA (hmac.out _ r2) hM).mono ?_;rintro e wa ⟨r,rfl,k1,⟨F',X',k2,k3,k4⟩,k5,k6⟩;refine⟨_,rfl,Chg.mono k6 (fun g hg e=>?_),⟨r,rfl⟩,F',X',k2,k3,fun g hg=>(k4 g hg).elim .inl (fun e=>.inr (Nat.le_trans hr.size e))⟩;rcases e with e|e
  ·exact .inl (.inl e)
  ·by_cases hl:g<w8.heap.size
   ·by_cases hf:F g
    ·exact .inl (.inl hf)
    ·exact .inr (BkT.back (C:=fun g=>F g∨w8.heap.size≤g) hr hl (fun e=>e.elim hf (fun e=>by omega)) e)
   ·exact .inl (.inr (by omega))) (fun u=>?_)
 repeat (first|refine RA.mv (by rfl) (by rfl) (by rfl) ?_|refine RA.as (by rfl) (by rfl) (by rfl) ?_|refine RA.pt (by rfl) (by rfl) (by rfl) (by rfl) ?_|refine RA.pf (by rfl) (by rfl) (by rfl) (by rfl) ?_)
 refine RA.vk prog (tup u 0) (hr:=fun w3 hp=>by
  obtain⟨v,rfl⟩:=hp.fact 0 rfl (by kernel_rfl);clear hp;go_simp;rfl) (h:=?_)
 refine RA.vk prog (tup u 1) (hr:=fun w3 hp=>by
  obtain⟨v,rfl⟩:=hp.fact 0 rfl (by kernel_rfl);clear hp;go_simp;rfl) (h:=?_)
 repeat (first|refine RA.mv (by rfl) (by rfl) (by rfl) ?_|refine RA.as (by rfl) (by rfl) (by rfl) ?_|refine RA.pt (by rfl) (by rfl) (by rfl) (by rfl) ?_|refine RA.pf (by rfl) (by rfl) (by rfl) (by rfl) ?_)
 refine RA.RA.done rfl (fun w9 hR hF hH=>?_);simp only[RA.put,List.foldr_cons,List.foldr_nil,cx,Act.put,List.setIfInBounds_toArray,List.set_cons_succ,List.set_cons_zero];obtain⟨r,rfl⟩:=hF _ (List.mem_cons_self ..);obtain⟨F9,X9,a1,a2,a3⟩:=hH;have hR9:=hdr8.out _ hR;clear hF hR;simp only[tup,Array.getD_eq_getD_getElem?,List.getElem?_toArray,List.getElem?_cons_zero,List.getElem?_cons_succ,Option.getD_some];have hSt9:∃ F' X',D.At w9 F' d X'∧DkOk X' 0∧(∀ g,F' g→F g∨w8.heap.size≤g)∧Chg (fun g=>(F g∨w8.heap.size≤g)∨BkT w8 b g) w8 w9:=⟨F9,X9,a1,a2,a3,hR9⟩;replace hSt9:=LH hSt9;clear a1 a2 a3 hR9 hAd8 hBd8 hd8 hra hmac hdat hX;have hPe:=LH (fun j hj=>hP8.out.elem2 (j:=j) hj)
 have hnC:∀ (g:Nat) (cs:Array Value) (ty:TypeId),w.heap.size≤g→ty≠223→ty≠145→w8.heap[g]?=some (.cells cs ty (0,0))→¬ ((F g∨w8.heap.size≤g)∨BkT w8 b g):=fun g cs ty hg h1 h2 hc=>by
  rintro ((e|e)|e)
  ·have:=hFl.out g e;omega
  ·have:=heap_lt hc;omega
  ·exact BkT.type B8.out hc h1 h2 e
 replace hnC:=LH hnC;go_wp2
 go_loopg [80] 15 (fun g ix wr=>∃ j:Nat,j+g=15∧ix=.int .i64 j∧Hid (∃ F' X',D.At wr F' d X'∧DkOk X' j∧(∀ g,F' g→F g∨w8.heap.size≤g)∧Chg (fun g=>(F g∨w8.heap.size≤g)∨BkT w8 b g) w8 wr))
 case atStart=>exact⟨0,by omega,rfl,hSt9.out⟩
 case round=>
  obtain⟨j,hjg,rfl,S⟩:=hrel;obtain⟨F',X',s1,s2,s3,s4⟩:=S.out;by_cases hlt:j<15
  ·obtain⟨g1,rfl⟩:∃ i,gk=i+1:=⟨gk - 1,by omega⟩;have hlI:(j:Int)<15:=by omega
   obtain⟨pg,cap,at',vg,vc,Z,e1,c0,c1,hat,hZ,hb0,hpg,hvg,⟨cs1,hc1⟩,⟨cs2,hc2⟩⟩:=hPe.out j (by rw[hwl];exact hlt);simp only[Value.slice.injEq] at e1;obtain⟨rfl,-,-⟩:=e1;have n1:=hnC.out pg cs1 _ hpg (by decide) (by decide) hc1;have n2:=hnC.out vg cs2 _ hvg (by decide) (by decide) hc2;replace c0:=(s4.cell (p:=⟨pg,j*2,none⟩) (cell_lt c0) n1).trans c0;replace c1:=(s4.cell (p:=⟨pg,j*2+1,none⟩) (cell_lt c1) n1).trans c1;have hb:Bytes wr (fun x=>x=vg) (.slice (some ⟨vg,0,none⟩) 64 vc) Z:=Bytes.chg hb0 s4 (fun g _ hg e=>by subst hg;exact n2 e);have hvF:¬ F' vg:=fun e=>(s3 vg e).elim (fun e=>n2 (.inl (.inl e))) (fun e=>n2 (.inl (.inr e)))
   obtain⟨w5',hw5⟩:∃ w5,w5=wr.alloc (.cells #[.int .i64 at',.slice (some ⟨vg,0,none⟩) 64 vc] 142):=⟨_,rfl⟩;have c5:Chg No wr w5':=by rw[hw5];exact (Chg.refl _ _).alloc _
   have s5:D.At w5' F' d X':=s1.chg c5 (fun _ _=>id);have x5:w5'.heap[wr.heap.size]?=some (.cells #[.int .i64 at',.slice (some ⟨vg,0,none⟩) 64 vc] 142 (0,0)):=by rw[hw5];exact heap_alloc_new wr _
   have f0:=cell_of x5 0;have f1:=cell_of x5 1;have hput:=LH (put120 s5 s2 (by omega) at' hat (Bytes.chg hb c5 (fun _ _ _=>id)) hZ (fun g hg=>by rw[hg];exact hvF));have hc5:Chg (fun g=>(F g∨w8.heap.size≤g)∨BkT w8 b g) w8 w5':=s4.trans (Chg.mono c5 (fun _ _ e=>e.elim));have hw8r:=s4.size;replace hc5:=LH hc5;replace s3:=LH s3;clear s1 s2 s4 s5 x5 hb hb0 c5 S n1 n2 hc1 hc2 hvF;have hw5':=LH hw5;subst hw5
   go_wp2_with fail
   refine hput.out.mono ?_;rintro e w6' ⟨rfl,F6,X6,k1,k2,k3,k4⟩;have S7:∃ F' X',D.At w6' F' d X'∧DkOk X' (j+1)∧(∀ g,F' g→F g∨w8.heap.size≤g)∧Chg (fun g=>(F g∨w8.heap.size≤g)∨BkT w8 b g) w8 w6':=⟨F6,X6,k1,k2,fun g hg=>(k4 g hg).elim (s3.out g) (fun e=>.inr (by simp at e;omega)),hc5.out.trans (Chg.mono k3 (fun g _ e=>.inl (s3.out g e)))⟩;replace S7:=LH S7;clear k1 k2 k3 k4 hput hc5 f0 f1 c0 c1;go_wp2;go_roundg g1
   case measure=>omega
   case rel=>exact⟨j+1,by omega,by go_num,S7.out⟩
  ·obtain rfl:gk=0:=by omega
   have hlI:¬ (j:Int)<15:=by omega
   have hfl:=LH (flush120 s1 s2);replace s3:=LH s3;replace s4:=LH s4;clear s1 s2 S
   go_wp2_with fail
   refine hfl.out.mono ?_;rintro e w6' ⟨rfl,F6,X6,k1,k2,k3,k4⟩;have hR6:Chg (fun g=>(F g∨w8.heap.size≤g)∨BkT w8 b g) w8 w6':=s4.out.trans (Chg.mono k3 (fun g _ e=>.inl (s3.out g e)));have hat9:∀ (g:Nat) (cs:Array Value) (ty:TypeId),w.heap.size≤g→ty≠223→ty≠145→w8.heap[g]?=some (.cells cs ty (0,0))→w6'.heap[g]?=some (.cells cs ty (0,0)):=fun g cs ty hg h1 h2 hc=>(hR6.block g (heap_lt hc) (hnC.out g cs ty hg h1 h2 hc)).trans hc
   have x9:BoxB w6' p12 xs:=⟨hat9 _ _ _ hp12s (by decide) (by decide) x8.out.at_⟩;have z9:=hat9 _ _ _ hp14s (by decide) (by decide) z8.out;have M9:MarksB w6' m (List.replicate 7 0) w.heap.size:=M8.out.keep (fun g cs ty hg hty hc=>by rw[hc];exact hat9 _ _ _ hg (by rcases hty with rfl|rfl<;>decide) (by rcases hty with rfl|rfl<;>decide) hc);have hld9:=x9.load hlen;have hld9':=load_struct (P:=prog) (w:=w6') (g:=p14) (off:=0) (ty:=100) (x:=[.pointer (some ⟨t,0,none⟩),.pointer (some ⟨m,0,none⟩),.int .i64 0]) underlying100 (by kernel_rfl) (fun j v hv=>by rw[Nat.zero_add,cell_of z9];simpa using hv);have hvb:=vol_built hlen t m 0 r w6';obtain⟨V,hV⟩:∃ V,V=(volL xs t m 0 r).toArray:=⟨_,rfl⟩;rw[← hxc.out] at hld9 hvb;rw[← hV] at hvb;have hVA:VolAt (w6'.alloc (.cells V 104)) w6'.heap.size m (List.replicate 7 0) [] false:=volL_at (t:=t) (num:=0) (r:=r) hIs.out (by rw[hV];exact heap_alloc_new w6' _) (M9.at_.after ((Below.refl _ _).alloc (Nat.le_refl _) _))
   have hfin:Chg (fun g=>F g∨BkT w b g) w (w6'.alloc (.cells V 104)):=by
    refine Chg.alloc ⟨hR6.os.trans hGw8.out.os,hR6.tape.trans hGw8.out.tape,hR6.output.trans hGw8.out.output,Nat.le_trans hGw8.out.size hR6.size,fun g hg hn=>?_⟩ _;have e8:=hGw8.out.block g hg (fun e=>e.elim (fun e=>by omega) (fun e=>hn (.inr e)));have hgl:=Nat.lt_of_lt_of_le hg hGw8.out.size;rw[hR6.block g hgl ?_,e8];rintro ((e|e)|e)
    ·exact hn (.inl e)
    ·omega
    ·exact hn (.inr (BkT.back hGw8.out hg (by omega) e))
   have hsz:w.heap.size≤w6'.heap.size:=Nat.le_trans hGw8.out.size hR6.size;replace hld9:=LH hld9;replace hld9':=LH hld9';replace hvb:=LH hvb;replace hV:=LH hV;have hVX:∃ xs t r,BaseIs xs d s b what A M∧(w6'.alloc (.cells V 104)).heap[w6'.heap.size]?=some (.cells (volL xs t m 0 r).toArray 104 (0,0)):=⟨xs,t,r,hIs.out,by rw[hV.out];exact heap_alloc_new w6' _⟩;replace hVX:=LH hVX;replace hVA:=LH hVA;replace hfin:=LH hfin;clear k1 k2 k3 k4 hfl hR6 hat9 x9 z9 M9
   go_wp2_with (first|(refine wpList_load rfl 96 _ rfl _ _ rfl hld9.out ?_)|(refine wpList_load rfl 100 _ rfl _ _ rfl hld9'.out ?_)|(refine wpList_buildL rfl 104 _ rfl _ rfl _ hvb.out ?_)|fail)
   go_ret2;exact⟨_,rfl,hsz,⟨m,hm5,hVA.out,hVX.out⟩,hfin.out⟩
end Go.Proofs.YthmcbgidehjlbaaGreat.Fd

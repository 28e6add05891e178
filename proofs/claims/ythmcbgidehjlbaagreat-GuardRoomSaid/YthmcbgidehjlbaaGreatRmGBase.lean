/-
  volume.base, of the area from 10 of 100 sectors: where things are. header.Check. No condition beyond what each theorem names.
-/
import Derived.Test.YthmcbgidehjlbaaGreatRmGRenewPk
import Derived.Test.YthmcbgidehjlbaaGreatRmGPlan
namespace Go.Proofs.YthmcbgidehjlbaaGreat.Fd
open _root_.Go.Proofs.Tryz
open Go Go.RowKit K
set_option maxRecDepth 100000
set_option maxHeartbeats 4000000
structure BaseIs (xs:List Value) (d s b:Nat) (what:ByteArray) (D M:List UInt8):Prop where
 len:xs.length=106
 one:∀ v ∈ xs,v.oneCell'=true
 c0:xs[0]?=some (.pointer (some ⟨d,0,none⟩))
 c1:xs[1]?=some (.pointer (some ⟨s,0,none⟩))
 c2:xs[2]?=some (.string what)
 c3:xs[3]?=some (.int .i64 10)
 c4:xs[4]?=some (.int .i64 100)
 dat:∀ (j:Nat) v,(u8s D)[j]?=some v→xs[5+j]?=some v
 mac:∀ (j:Nat) v,(u8s M)[j]?=some v→xs[69+j]?=some v
 c101:xs[101]?=some (.pointer (some ⟨b,0,none⟩))
 c102:xs[102]?=some (.int .i64 10)
 c103:xs[103]?=some (.int .i64 50)
 c104:xs[104]?=some (.int .i64 60)
 c105:xs[105]?=some (.int .i64 50)
 dl:D.length=64
 ml:M.length=32
def hdrL (D M:List UInt8):List Value:=[.int .i64 10,.int .i64 100]++(u8s D++u8s M)
def baseL (d s b:Nat) (what:ByteArray) (D M:List UInt8):List Value:=[.pointer (some ⟨d,0,none⟩),.pointer (some ⟨s,0,none⟩),.string what]++(hdrL D M++[.pointer (some ⟨b,0,none⟩),.int .i64 10,.int .i64 50,.int .i64 60,.int .i64 50])
theorem hdrL_length {D M:List UInt8}(hD:D.length=64) (hM:M.length=32):(hdrL D M).length=98:=by simp[hdrL,u8s_length,hD,hM]
theorem hdrL_one {D M:List UInt8}:∀ v ∈ hdrL D M,v.oneCell'=true:=by
 intro v hv;simp only[hdrL,List.mem_append,List.mem_cons,List.not_mem_nil,or_false] at hv;rcases hv with (rfl|rfl)|hv|hv
 ·rfl
 ·rfl
 ·exact K.u8s_one D v hv
 ·exact K.u8s_one M v hv
theorem baseL_is (d s b:Nat) (what:ByteArray){D M:List UInt8}(hD:D.length=64) (hM:M.length=32):BaseIs (baseL d s b what D M) d s b what D M:=by
 have hh:=hdrL_length hD hM;have hd:=u8s_length D;have hm:=u8s_length M
 have hge:∀ j,(baseL d s b what D M)[101+j]?=([.pointer (some ⟨b,0,none⟩),.int .i64 10,.int .i64 50,.int .i64 60,.int .i64 50]:List Value)[j]?:=fun j=>by
  rw[baseL,List.getElem?_append_right (by simp;omega),List.getElem?_append_right (by simp;omega)];congr 1;simp;omega
 have hme:∀ j,j<98→(baseL d s b what D M)[3+j]?=(hdrL D M)[j]?:=fun j hj=>by
  rw[baseL,List.getElem?_append_right (by simp),List.getElem?_append_left (by simp;omega)];simp
 refine⟨by simp[baseL,hh],?_,rfl,rfl,rfl,rfl,rfl,fun j v hv=>?_,fun j v hv=>?_,hge 0,hge 1,hge 2,hge 3,hge 4,hD,hM⟩
 ·intro v hv;simp only[baseL,List.mem_append,List.mem_cons,List.not_mem_nil,or_false] at hv;rcases hv with (rfl|rfl|rfl)|hv|rfl|rfl|rfl|rfl|rfl<;>first|rfl|exact hdrL_one v hv
 ·have hj:j<64:=by have:=(List.getElem?_eq_some_iff.1 hv).1;omega
  rw[show 5+j=3+(2+j) by omega,hme _ (by omega),hdrL,List.getElem?_append_right (by simp),List.getElem?_append_left (by simp;omega)]
  simpa using hv
 ·have hj:j<32:=by have:=(List.getElem?_eq_some_iff.1 hv).1;omega
  rw[show 69+j=3+(66+j) by omega,hme _ (by omega),hdrL,List.getElem?_append_right (by simp;omega),List.getElem?_append_right (by simp;omega)];rw[← hv];congr 1;simp;omega
theorem sizeBase:(prog.info? 96).map (·.size)=some 106:=by kernel_rfl
structure BoxB (w:World) (q:Nat) (xs:List Value):Prop where
 at_:w.heap[q]?=some (.cells xs.toArray 96 (0,0))
section
variable {w w':World}{q d s b:Nat}{xs:List Value}{what:ByteArray}{D M:List UInt8}
theorem BoxB.get (h:BoxB w q xs){j:Nat}{v:Value}(hj:xs[j]?=some v):w.cell? ⟨q,j,none⟩=some v:=by rw[cell_of h.at_];simpa using hj
theorem BoxB.chg (h:BoxB w q xs) (hc:Chg No w w'):BoxB w' q xs:=⟨(hc.block q (heap_lt h.at_) id).trans h.at_⟩
theorem BoxB.load (h:BoxB w q xs) (hl:xs.length=106):(Instr.loadAt 96 (.pointer (some ⟨q,0,none⟩))).run prog w=.ok (.agg xs.toArray) w:=
 load_struct underlying96 (by rw[hl];exact sizeBase) (fun j v hv=>by rw[Nat.zero_add];exact h.get hv)
theorem boxB_new (w:World) (xs:List Value):BoxB (w.alloc (.cells xs.toArray 96)) w.heap.size xs:=⟨heap_alloc_new w _⟩
theorem voTables_ok (h:BaseIs xs d s b what D M) (w:World):Calls prog 101 #[.agg xs.toArray] w fun e w'=>e=.returned (.int .i64 13)∧Below w.heap.size w w':=by
 obtain⟨c,hc⟩:∃ c,c=xs.toArray:=⟨_,rfl⟩;have hx:=(boxB_new w xs).get h.c105;rw[← hc] at hx ⊢;replace hc:=LH hc;clear h;go_enter func101,ntmps101;go_wp2;go_ret;exact⟨rfl,(Below.refl _ _).alloc (Nat.le_refl _) _⟩
theorem voMaps_ok (h:BaseIs xs d s b what D M) (w:World):Calls prog 102 #[.agg xs.toArray] w fun e w'=>e=.returned (.int .i64 1)∧Below w.heap.size w w':=by
 obtain⟨c,hc⟩:∃ c,c=xs.toArray:=⟨_,rfl⟩;have hx:=(boxB_new w xs).get h.c105;rw[← hc] at hx ⊢;replace hc:=LH hc;clear h;go_enter func102,ntmps102;go_wp2;go_ret;exact⟨rfl,(Below.refl _ _).alloc (Nat.le_refl _) _⟩
theorem voMapAt_ok (h:BaseIs xs d s b what D M) (w:World):Calls prog 75 #[.agg xs.toArray] w fun e w'=>e=.returned (.int .i64 23)∧Below w.heap.size w w':=by
 obtain⟨w1,hw1⟩:∃ w1,w1=w.alloc (.cells xs.toArray 96):=⟨_,rfl⟩;obtain⟨q,hq⟩:∃ q,q=w.heap.size:=⟨_,rfl⟩;have hx:BoxB w1 q xs:=by rw[hw1,hq];exact boxB_new w xs
 have b1:Below w.heap.size w w1:=by rw[hw1];exact (Below.refl _ _).alloc (Nat.le_refl _) _
 have hT:=LH (voTables_ok h);have hl:=h.len;have hdr:∀ w3,Chg No w1.drew w3→Chg No w1 w3:=fun w3 h=>⟨h.os,h.tape,h.output,h.size,h.block⟩
 obtain⟨c,hc⟩:∃ c,c=xs.toArray:=⟨_,rfl⟩;rw[← hc] at hT hw1 ⊢;have hld:=fun w3 hc3=>(hx.chg (w':=w3) hc3).load hl
 rw[← hc] at hld;replace hc:=LH hc;replace hld:=LH hld;replace h:=LH h;replace hdr:=LH hdr;replace hx:=LH hx;replace b1:=LH b1;replace hl:=LH hl;go_enter func75,ntmps75;go_wp2;rw[← hw1,← hq];replace hw1:=LH hw1;replace hq:=LH hq;refine RA.rt (Chg No) [1,1,1,1,4,1,1] [] (fun _=>True) trivial (fun _=>Chg.refl _ _) (fun _ _ _ h k=>h.trans k) (h:=?_);intro cx;refine RA.fk prog (q) (102) (h:=?_);refine RA.fk prog (q) (102) (h:=?_);refine RA.lk prog (.int .i64 10) (hc:=fun w3 hp=>by exact (hx.out.chg (hdr.out _ hp.1)).get h.out.c102) (h:=?_);refine RA.ld (by kernel_rfl) (by rfl) (by rfl) (y':=.agg c) (fun w3 hp=>hld.out w3 (hdr.out _ hp.1)) ?_;refine RA.kc (P:=prog) [.agg c] (.int .i64 13) (fun _=>True) (fun _ _=>by go_simp) (by kernel_rfl) (by rfl) (by rfl) (by kernel_rfl) (fun _ _ _ h=>h) rfl (fun w3 hp hH=>(hT.out w3).mono (by rintro e w4 ⟨rfl,h2⟩;exact⟨rfl,Chg.of_below h2 _,trivial⟩)) ?_;refine RA.vk prog (.int .i64 23) (hr:=fun w hp=>by (try go_simp);rfl) (h:=?_)
 repeat (first|refine RA.mv (by rfl) (by rfl) (by rfl) ?_|refine RA.as (by rfl) (by rfl) (by rfl) ?_|refine RA.pt (by rfl) (by rfl) (by rfl) (by rfl) ?_|refine RA.pf (by rfl) (by rfl) (by rfl) (by rfl) ?_)
 refine RA.RA.done rfl (fun w2 hR hF hH=>?_);clear hF hH;simp only[RA.put,List.foldr_cons,List.foldr_nil,cx,Act.put,List.setIfInBounds_toArray,List.set_cons_succ,List.set_cons_zero]
 try simp only[Bool.not_true]
 try simp only[Bool.not_false]
 have hB:=LH (b1.out.trans ((hdr.out _ hR).no.mono b1.out.size));clear hR;go_wp2;go_ret;exact⟨rfl,hB.out⟩
theorem voRootAt_ok (h:BaseIs xs d s b what D M) (w:World):Calls prog 74 #[.agg xs.toArray] w fun e w'=>e=.returned (.int .i64 24)∧Below w.heap.size w w':=by
 obtain⟨w1,hw1⟩:∃ w1,w1=w.alloc (.cells xs.toArray 96):=⟨_,rfl⟩;obtain⟨q,hq⟩:∃ q,q=w.heap.size:=⟨_,rfl⟩;have hx:BoxB w1 q xs:=by rw[hw1,hq];exact boxB_new w xs
 have b1:Below w.heap.size w w1:=by rw[hw1];exact (Below.refl _ _).alloc (Nat.le_refl _) _
 have hT:=LH (voMapAt_ok h);have hM:=LH (voMaps_ok h);have hl:=h.len;have hdr:∀ w3,Chg No w1.drew w3→Chg No w1 w3:=fun w3 h=>⟨h.os,h.tape,h.output,h.size,h.block⟩
 obtain⟨c,hc⟩:∃ c,c=xs.toArray:=⟨_,rfl⟩;rw[← hc] at hT hM hw1 ⊢;have hld:=fun w3 hc3=>(hx.chg (w':=w3) hc3).load hl
 rw[← hc] at hld;replace hc:=LH hc;replace hld:=LH hld;replace h:=LH h;replace hdr:=LH hdr;replace hx:=LH hx;replace b1:=LH b1;replace hl:=LH hl;go_enter func74,ntmps74;go_wp2;rw[← hw1,← hq];replace hw1:=LH hw1;replace hq:=LH hq;refine RA.rt (Chg No) [1,4,1,4,1,1] [] (fun _=>True) trivial (fun _=>Chg.refl _ _) (fun _ _ _ h k=>h.trans k) (h:=?_);intro cx;refine RA.ld (by kernel_rfl) (by rfl) (by rfl) (y':=.agg c) (fun w3 hp=>hld.out w3 (hdr.out _ hp.1)) ?_;refine RA.kc (P:=prog) [.agg c] (.int .i64 23) (fun _=>True) (fun _ _=>by go_simp) (by kernel_rfl) (by rfl) (by rfl) (by kernel_rfl) (fun _ _ _ h=>h) rfl (fun w3 hp hH=>(hT.out w3).mono (by rintro e w4 ⟨rfl,h2⟩;exact⟨rfl,Chg.of_below h2 _,trivial⟩)) ?_;refine RA.ld (by kernel_rfl) (by rfl) (by rfl) (y':=.agg c) (fun w3 hp=>hld.out w3 (hdr.out _ hp.1)) ?_;refine RA.kc (P:=prog) [.agg c] (.int .i64 1) (fun _=>True) (fun _ _=>by go_simp) (by kernel_rfl) (by rfl) (by rfl) (by kernel_rfl) (fun _ _ _ h=>h) rfl (fun w3 hp hH=>(hM.out w3).mono (by rintro e w4 ⟨rfl,h2⟩;exact⟨rfl,Chg.of_below h2 _,trivial⟩)) ?_;refine RA.vk prog (.int .i64 24) (hr:=fun w hp=>by (try go_simp);rfl) (h:=?_)
 repeat (first|refine RA.mv (by rfl) (by rfl) (by rfl) ?_|refine RA.as (by rfl) (by rfl) (by rfl) ?_|refine RA.pt (by rfl) (by rfl) (by rfl) (by rfl) ?_|refine RA.pf (by rfl) (by rfl) (by rfl) (by rfl) ?_)
 refine RA.RA.done rfl (fun w2 hR hF hH=>?_);clear hF hH;simp only[RA.put,List.foldr_cons,List.foldr_nil,cx,Act.put,List.setIfInBounds_toArray,List.set_cons_succ,List.set_cons_zero]
 try simp only[Bool.not_true]
 try simp only[Bool.not_false]
 have hB:=LH (b1.out.trans ((hdr.out _ hR).no.mono b1.out.size));clear hR;go_wp2;go_ret;exact⟨rfl,hB.out⟩
theorem voRingArea_ok (h:BaseIs xs d s b what D M) (w:World):Calls prog 65 #[.agg xs.toArray] w fun e w'=>e=.returned (.agg #[.int .i64 25,.int .i64 35])∧Below w.heap.size w w':=by
 obtain⟨q,hq⟩:∃ q,q=w.heap.size:=⟨_,rfl⟩;obtain⟨w1,hw1⟩:∃ w1,w1=(w.alloc (.cells xs.toArray 96)).alloc (.cells #[.int .i64 0,.int .i64 0] 27):=⟨_,rfl⟩;have hx:BoxB w1 q xs:=by rw[hw1,hq];exact (boxB_new w xs).chg ((Chg.refl _ _).alloc _)
 have b1:Below w.heap.size w w1:=by rw[hw1];exact ((Below.refl _ _).alloc (Nat.le_refl _) _).alloc (by simp) _
 have x1:w1.heap[q+1]?=some (.cells #[.int .i64 0,.int .i64 0] 27 (0,0)):=by rw[hw1,hq];have h:=heap_alloc_new (w.alloc (.cells xs.toArray 96)) (.cells #[.int .i64 0,.int .i64 0] 27);simp only[World.size_alloc] at h;exact h
 have hT:=LH (voRootAt_ok h w1);have hl:=h.len;obtain⟨c,hc⟩:∃ c,c=xs.toArray:=⟨_,rfl⟩;have hld:=hx.load hl;rw[← hc] at hT hw1 hld ⊢;replace hc:=LH hc;replace hld:=LH hld;replace h:=LH h;replace hx:=LH hx;replace b1:=LH b1;replace x1:=LH x1;go_enter func65,ntmps65
 go_wp2_with (first|(rw[← hw1];refine wpList_load rfl 96 _ rfl _ _ rfl (hq ▸ hld.out) ?_)|fail)
 rw[← hw1];refine hT.out.mono ?_;rintro e w2 ⟨rfl,hb2⟩;have hx2:=hx.out.chg (Chg.of_below hb2 _);have d2:=hx2.get h.out.c102;have d3:=hx2.get h.out.c103;have x2:=(hb2.block (q+1) (heap_lt x1.out)).trans x1.out
 have hst:(Instr.storeAt 27 (.pointer (some ⟨q+1,0,none⟩)) (.agg #[.int .i64 25,.int .i64 35])).run prog w2=.ok () (w2.setRow (q+1) #[.int .i64 25,.int .i64 35]):=
  store_struct (x:=[.int .i64 25,.int .i64 35]) x2 (by kernel_rfl) rfl (by simp[Value.oneCell'])
 have x3:(w2.setRow (q+1) #[.int .i64 25,.int .i64 35]).heap[q+1]?=some (.cells #[.int .i64 25,.int .i64 35] 27 (0,0)):=setRow_heap _ _ _ _ _ _ x2;have hbf:Below w.heap.size w (w2.setRow (q+1) #[.int .i64 25,.int .i64 35]):=below_setRow (b1.out.trans (hb2.mono b1.out.size)) (by omega) _;subst hq;replace hst:=LH hst;replace x3:=LH x3;replace hbf:=LH hbf;clear hb2 hx2 x2 hT hld x1 b1 hx
 go_wp2_with (first|(refine wpList_store rfl 27 _ _ rfl _ _ rfl rfl hst.out ?_)|fail)
 refine bodyPost_ret (results_cell_row results65 _ _ (w.heap.size+1) 27 _ (0,0) _ rfl x3.out underlying27 rfl (by kernel_rfl)) rfl ⟨rfl,hbf.out⟩
end
end Go.Proofs.YthmcbgidehjlbaaGreat.Fd

/-
  Texts of this claim, laid together by a program of mine. No condition beyond what each theorem names.
-/
import Derived.Test.YthmcbgidehjlbaaGreatRmGAll
/-
  ring.store: may, seal. No condition beyond what each theorem names.
-/
namespace Go.Proofs.YthmcbgidehjlbaaGreat.Fd
open _root_.Go.Proofs.Tryz
open Go Go.RowKit K
set_option maxRecDepth 100000
set_option maxHeartbeats 4000000
def stL (d s b:Nat) (what:ByteArray) (dv mv:Value):List Value:=[.pointer (some ⟨d,0,none⟩),.pointer (some ⟨s,0,none⟩),.string what,.int .i64 25,.int .i64 35,dv,mv,.pointer (some ⟨b,0,none⟩)]
theorem sizeStore:(prog.info? 174).map (·.size)=some 8:=by kernel_rfl
theorem stL_one {d s b:Nat}{what:ByteArray}{da ma:Option Addr}{dn dc mn mc:Nat}:∀ v ∈ stL d s b what (.slice da dn dc) (.slice ma mn mc),v.oneCell'=true:=by simp[stL,Value.oneCell']
structure BoxS (w:World) (q:Nat) (st:List Value):Prop where
 at_:w.heap[q]?=some (.cells st.toArray 174 (0,0))
section
variable {w w':World}{q d s b:Nat}{st:List Value}{what:ByteArray}{dv mv:Value}
theorem BoxS.get (h:BoxS w q st){j:Nat}{v:Value}(hj:st[j]?=some v):w.cell? ⟨q,j,none⟩=some v:=by rw[cell_of h.at_];simpa using hj
theorem BoxS.chg (h:BoxS w q st) (hc:Chg No w w'):BoxS w' q st:=⟨(hc.block q (heap_lt h.at_) id).trans h.at_⟩
theorem BoxS.load (h:BoxS w q st) (hl:st.length=8):(Instr.loadAt 174 (.pointer (some ⟨q,0,none⟩))).run prog w=.ok (.agg st.toArray) w:=
 load_struct underlying174 (by rw[hl];exact sizeStore) (fun j v hv=>by rw[Nat.zero_add];exact h.get hv)
theorem boxS_new (w:World) (st:List Value):BoxS (w.alloc (.cells st.toArray 174)) w.heap.size st:=⟨heap_alloc_new w _⟩
end
theorem riMay_ok {w:World}{F:Nat→Prop}{d s b:Nat}{Dk0:D.Dk}(h:D.At w F d Dk0) (hs:Dk0.size=120) (what:ByteArray) (da ma:Option Addr) (dc mc:Nat):
  Calls prog 103 #[.agg (stL d s b what (.slice da 64 dc) (.slice ma 32 mc)).toArray] w fun e w'=>e=.returned (.int .i64 0)∧Below w.heap.size w w':=by
 obtain⟨st,hst⟩:∃ st,st=stL d s b what (.slice da 64 dc) (.slice ma 32 mc):=⟨_,rfl⟩;obtain⟨q,hq⟩:∃ q,q=w.heap.size:=⟨_,rfl⟩;obtain⟨w1,hw1⟩:∃ w1,w1=w.alloc (.cells st.toArray 174):=⟨_,rfl⟩;have hx:BoxS w1 q st:=by rw[hw1,hq];exact boxS_new w st
 have b1:Below w.heap.size w w1:=by rw[hw1];exact (Below.refl _ _).alloc (Nat.le_refl _) _
 have hS:=LH (fun w3 (hc:Chg No w1 w3)=>D.size_ok ((h.chg (Chg.of_below b1 No) (fun _ _=>id)).chg hc (fun _ _=>id)))
 have hg:∀ w3,Chg No w1 w3→w3.cell? ⟨q,0,none⟩=some (.pointer (some ⟨d,0,none⟩))∧w3.cell? ⟨q,1,none⟩=some (.pointer (some ⟨s,0,none⟩))∧w3.cell? ⟨q,3,none⟩=some (.int .i64 25)∧w3.cell? ⟨q,4,none⟩=some (.int .i64 35)∧w3.cell? ⟨q,5,none⟩=some (.slice da 64 dc)∧w3.cell? ⟨q,6,none⟩=some (.slice ma 32 mc):=fun w3 hc=>by
  have hx3:=hx.chg hc;exact⟨hx3.get (by rw[hst];rfl),hx3.get (by rw[hst];rfl),hx3.get (by rw[hst];rfl),hx3.get (by rw[hst];rfl),hx3.get (by rw[hst];rfl),hx3.get (by rw[hst];rfl)⟩
 obtain⟨g0,g1,g3,g4,g5,g6⟩:=hg w1 (Chg.refl _ _);have hdr:∀ w3,Chg No w1.drew w3→Chg No w1 w3:=fun w3 h=>⟨h.os,h.tape,h.output,h.size,h.block⟩
 rw[← hst];obtain⟨c,hc⟩:∃ c,c=st.toArray:=⟨_,rfl⟩;rw[← hc] at hw1 ⊢;replace hc:=LH hc;replace hst:=LH hst;replace hg:=LH hg;replace hdr:=LH hdr;replace b1:=LH b1;replace hs:=LH hs;clear h hx;go_enter func103,ntmps103;have hql:=LH (cell_lt g0);rw[hw1,hq] at g0 g1 g3 g4 g5 g6;replace hq:=LH hq;replace hw1:=LH hw1;go_wp2;rw[← hw1.out,← hq.out];clear g0 g1 g3 g4 g5 g6;refine RA.rt (Chg No) [1,1,1,1,1,4,1,1] [] (fun _=>True) trivial (fun _=>Chg.refl _ _) (fun _ _ _ h k=>h.trans k) (h:=?_);intro cx;refine RA.fk prog (q) (3) (h:=?_);refine RA.fk prog (q) (4) (h:=?_);refine RA.lk prog (.int .i64 35) (hc:=fun w3 hp=>by exact (hg.out _ (hdr.out _ hp.1)).2.2.2.1) (h:=?_);refine RA.fk prog (q) (0) (h:=?_);refine RA.lk prog (.pointer (some ⟨d,0,none⟩)) (hc:=fun w3 hp=>by exact (hg.out _ (hdr.out _ hp.1)).1) (h:=?_);refine RA.kc (P:=prog) [.pointer (some ⟨d,0,none⟩)] (.int .i64 120) (fun _=>True) (fun _ _=>by go_simp) (by kernel_rfl) (by rfl) (by rfl) (by kernel_rfl) (fun _ _ _ h=>h) rfl (fun w3 hp hH=>(hS.out w3 (hdr.out _ hp.1)).mono (by rintro e w4 ⟨rfl,rfl⟩;exact⟨by rw[hs.out];rfl,Chg.refl _ _,trivial⟩)) ?_;refine RA.vk prog (.bool false) (h:=?_)
 repeat (first|refine RA.mv (by rfl) (by rfl) (by rfl) ?_|refine RA.as (by rfl) (by rfl) (by rfl) ?_|refine RA.pt (by rfl) (by rfl) (by rfl) (by rfl) ?_|refine RA.pf (by rfl) (by rfl) (by rfl) (by rfl) ?_)
 refine RA.RA.done rfl (fun w2 hR hF hH=>?_);clear hF hH;simp only[RA.put,List.foldr_cons,List.foldr_nil,cx,Act.put,List.setIfInBounds_toArray,List.set_cons_succ,List.set_cons_zero]
 try simp only[Bool.not_true]
 try simp only[Bool.not_false]
 have hC2:=hdr.out _ hR;have hg2:=LH (fun w3 (hc:Chg No w2 w3)=>hg.out w3 (hC2.trans hc));have hS2:=LH (fun w3 (hc:Chg No w2 w3)=>hS.out w3 (hC2.trans hc));have b2:=LH (b1.out.trans (hC2.no.mono b1.out.size));have hdr2:∀ w3,Chg No w2.drew w3→Chg No w2 w3:=fun w3 h=>⟨h.os,h.tape,h.output,h.size,h.block⟩
 replace hdr2:=LH hdr2;clear hR hC2 hg hS hdr;go_wp2;refine RA.rt (Chg No) [1,1,1,1,1,4,1,1,1,1,1,1] [] (fun _=>True) trivial (fun _=>Chg.refl _ _) (fun _ _ _ h k=>h.trans k) (h:=?_);intro cx;refine RA.fk prog (q) (3) (h:=?_);refine RA.fk prog (q) (3) (h:=?_);refine RA.lk prog (.int .i64 25) (hc:=fun w3 hp=>by exact (hg2.out _ (hdr2.out _ hp.1)).2.2.1) (h:=?_);refine RA.fk prog (q) (0) (h:=?_);refine RA.lk prog (.pointer (some ⟨d,0,none⟩)) (hc:=fun w3 hp=>by exact (hg2.out _ (hdr2.out _ hp.1)).1) (h:=?_);refine RA.kc (P:=prog) [.pointer (some ⟨d,0,none⟩)] (.int .i64 120) (fun _=>True) (fun _ _=>by go_simp) (by kernel_rfl) (by rfl) (by rfl) (by kernel_rfl) (fun _ _ _ h=>h) rfl (fun w3 hp hH=>(hS2.out w3 (hdr2.out _ hp.1)).mono (by rintro e w4 ⟨rfl,rfl⟩;exact⟨by rw[hs.out];rfl,Chg.refl _ _,trivial⟩)) ?_;refine RA.fk prog (q) (3) (h:=?_);refine RA.fk prog (q) (4) (h:=?_);refine RA.lk prog (.int .i64 35) (hc:=fun w3 hp=>by exact (hg2.out _ (hdr2.out _ hp.1)).2.2.2.1) (h:=?_);refine RA.vk prog (.int .i64 85) (hr:=fun w hp=>by (try go_simp);rfl) (h:=?_);refine RA.vk prog (.bool false) (h:=?_)
 repeat (first|refine RA.mv (by rfl) (by rfl) (by rfl) ?_|refine RA.as (by rfl) (by rfl) (by rfl) ?_|refine RA.pt (by rfl) (by rfl) (by rfl) (by rfl) ?_|refine RA.pf (by rfl) (by rfl) (by rfl) (by rfl) ?_)
 refine RA.RA.done rfl (fun w5 hR hF hH=>?_);clear hF hH;simp only[RA.put,List.foldr_cons,List.foldr_nil,cx,Act.put,List.setIfInBounds_toArray,List.set_cons_succ,List.set_cons_zero]
 try simp only[Bool.not_true]
 try simp only[Bool.not_false]
 have hC5:=hdr2.out _ hR;obtain⟨g0,g1,g3,g4,g5,g6⟩:=hg2.out w5 hC5;have b5:=LH (b2.out.trans (hC5.no.mono b2.out.size));clear hR hC5 hg2 hS2 hdr2;go_wp2;go_ret;exact⟨rfl,b5.out⟩
end Go.Proofs.YthmcbgidehjlbaaGreat.Fd
/-
  ring.store.seal. No condition beyond what each theorem names.
-/
namespace Go.Proofs.YthmcbgidehjlbaaGreat.Fd
open _root_.Go.Proofs.Tryz
open Go Go.RowKit K
set_option maxRecDepth 100000
set_option maxHeartbeats 8000000
theorem riSeal_ok {w:World}{d s b:Nat}{what:ByteArray}{A:List UInt8}{t:Option Addr}{ka ma:Option Addr}{kc mc:Nat}{SK:Nat→Prop}(hk:Bytes w SK (.slice ka 64 kc) A) (hAl:A.length=64) (hs:SuiteAt w s none t) (at':Nat) (hat:at'≤60000){S:Nat→Prop}{dv:Value}{l:List UInt8}(hd:Bytes w S dv l) (hl:l.length≤64):
  Calls prog 90 #[.agg (stL d s b what (.slice ka 64 kc) (.slice ma 32 mc)).toArray,.int .i64 at',dv] w fun e w'=>∃ v,e=.returned (.tuple #[.agg #[.int .i64 (25+at':Nat),v],.int .i64 0])∧w'.ownsRow w.heap.size 5 1 v 64 (u8s (xtsE A (25+at') (l++List.replicate (64 - l.length) 0)))∧Below w.heap.size w w':=by
 obtain⟨xs,hxs⟩:∃ xs,xs=stL d s b what (.slice ka 64 kc) (.slice ma 32 mc):=⟨_,rfl⟩;obtain⟨Y,hY⟩:∃ Y,Y=25+at':=⟨_,rfl⟩;have hYI:(25:Int)+at'=Y:=by omega
 have hY6:Y≤65536:=by omega
 rw[← hxs,← hY];replace hY:=LH hY;obtain⟨da,dc,rfl,hdc1,hdc2⟩:=hd.shape;obtain⟨q,hq⟩:∃ q,q=w.heap.size:=⟨_,rfl⟩;obtain⟨w1,hw1⟩:∃ w1,w1=(w.alloc (.cells xs.toArray 174)).alloc (.cells #[.int .i64 0,.slice none 0 0] 168):=⟨_,rfl⟩;have hx:BoxS w1 q xs:=by rw[hw1,hq];exact (boxS_new w xs).chg ((Chg.refl _ _).alloc _)
 have b1:Below w.heap.size w w1:=by rw[hw1];exact ((Below.refl _ _).alloc (Nat.le_refl _) _).alloc (by simp) _
 have x1:w1.heap[q+1]?=some (.cells #[.int .i64 0,.slice none 0 0] 168 (0,0)):=by rw[hw1,hq];have h:=heap_alloc_new (w.alloc (.cells xs.toArray 174)) (.cells #[.int .i64 0,.slice none 0 0] 168);simp only[World.size_alloc] at h;exact h
 have s1:SuiteAt w1 s none t:=(b1.block s (heap_lt hs)).trans hs;have hd1:Bytes w1 S (.slice da l.length dc) l:=Cells.keep hd b1.size (fun g _ hg=>b1.block g hg);obtain⟨n,hn⟩:∃ n,n=l.length:=⟨_,rfl⟩;obtain⟨R,hR⟩:∃ R,R=64 - n:=⟨_,rfl⟩;have hRI:(64:Int) - n=R:=by omega
 rw[← hn] at hl hd1 ⊢;obtain⟨w2,hw2⟩:∃ w2,w2=w1.alloc (.cells (u8s (List.replicate R 0)).toArray 5):=⟨_,rfl⟩;have b2:Below w1.heap.size w1 w2:=by rw[hw2];exact (Below.refl _ _).alloc (Nat.le_refl _) _
 have hz2:Cells w2 (fun _=>True) (.slice (some ⟨w1.heap.size,0,none⟩) R R) R 1 (u8s (List.replicate R 0)):=arr16 (t:=5) (by rw[hw2];exact heap_alloc_new w1 _) (by simp) (by unfold maxLen;omega);have hd2:Bytes w2 (fun _=>True) (.slice da n dc) l:=(Cells.keep hd1 b2.size (fun g _ hg=>b2.block g hg)).mono (fun _ _ _=>trivial)
 have hP:=parts_lit (w:=w2) (S:=fun _=>True) (vs:=[.slice da n dc,.slice (some ⟨w1.heap.size,0,none⟩) R R]) (parts:=[l,List.replicate R 0]) rfl (by unfold maxLen;simp) (by
  intro j v hv
  match j with
  | 0=>cases hv;exact hd2
  | 1=>cases hv;show Cells w2 _ _ (List.replicate R (0:UInt8)).length 1 _;rw[List.length_replicate];exact hz2
  | _+2=>simp at hv)
 have hcc:=LH (concat_ok hP (by simp) (by
  intro x hx;simp only[List.mem_cons,List.not_mem_nil,or_false] at hx;rcases hx with rfl|rfl
  ·omega
  ·rw[List.length_replicate];omega))
 obtain⟨Z,hZ⟩:∃ Z,Z=l++List.replicate R 0:=⟨_,rfl⟩;have hZl:Z.length=64:=by rw[hZ];simp;omega
 have hZf:[l,List.replicate R 0].flatten=Z:=by rw[hZ];simp
 rw[hZf,hZl] at hcc;rw[← hR,← hZ];have hb12:=LH b2;have e1:=LH (show w1.heap.size=w.heap.size+1+1 by rw[hw1];simp);have e2:=LH (show w2.heap.size=w1.heap.size+1 by rw[hw2];simp);obtain⟨c,hc⟩:∃ c,c=xs.toArray:=⟨_,rfl⟩;rw[← hc] at hw1 ⊢;replace hc:=LH hc;replace hx:=LH hx;replace b1:=LH b1;replace x1:=LH x1;replace s1:=LH s1;replace hZ:=LH hZ;replace hn:=LH hn;replace hR:=LH hR;have hk1:=LH (Cells.keep hk b1.out.size (fun g _ hg=>b1.out.block g hg):Bytes w1 SK (.slice ka 64 kc) A);replace hxs:=LH hxs;clear hd hs hk hd1 hz2 hd2 hP b2 hZf;go_enter func90,ntmps90;have hw2':=LH hw2
 go_wp2_with (first|(rw[← hw1];refine wpList_mk rfl 42 _ _ rfl _ rfl rfl _ (mk_z w1 R _ (by omega) (by omega)) ?_;rw[← hw2])|fail)
 rw[← hw1,← hw2,← e1.out,← e2.out];refine hcc.out.mono ?_;rintro e w3 ⟨zv,rfl,hzv,hb3⟩;have hb2a:=hb12.out.alloc hb12.out.size (.cells #[.slice da n dc,.slice (some ⟨w1.heap.size,0,none⟩) R R] 42);have hB23:=hb2a.trans (hb3.mono hb2a.size);obtain⟨za,zc,rfl,_⟩:=own_shape hzv (by omega)
 have hzb:Bytes w3 (fun _=>True) (.slice (some ⟨za,0,none⟩) 64 zc) Z:=by
  have h:=(Cells.own hzv).mono (S':=fun _=>True) (fun _ _ _=>trivial);show Cells w3 _ _ Z.length 1 _;rw[hZl];exact h
 have hx3:=hx.out.chg (Chg.of_below hB23 _);have s3:SuiteAt w3 s none t:=(hB23.block s (heap_lt s1.out)).trans s1.out;have x3:=(hB23.block (q+1) (heap_lt x1.out)).trans x1.out;have b3:=LH (b1.out.trans (hB23.mono b1.out.size));have hk3:=LH (Cells.keep hk1.out hB23.size (fun g _ hg=>hB23.block g hg):Bytes w3 SK (.slice ka 64 kc) A)
 have hse:∀ w4,Chg No w3 w4→Calls prog 118 #[.pointer (some ⟨s,0,none⟩),.string what,.slice ka 64 kc,.int .i64 Y,.slice (some ⟨za,0,none⟩) 64 zc] w4 fun e w'=>∃ v,e=.returned (.tuple #[v,.int .i64 0])∧w'.ownsRow w4.heap.size 5 1 v 64 (u8s (xtsE A Y Z))∧Below w4.heap.size w4 w':=fun w4 hc=>
  seal64 (w:=w4) ((hc.block s (heap_lt s3) id).trans s3) _ (Bytes.chg hk3.out hc (fun _ _ _=>id)) hAl (Bytes.chg hzb hc (fun _ _ _=>id)) hZl Y hY6
 have hdr:∀ w4,Chg No w3.drew w4→Chg No w3 w4:=fun w3 h=>⟨h.os,h.tape,h.output,h.size,h.block⟩
 obtain⟨XE,hXE⟩:∃ X,X=xtsE A Y Z:=⟨_,rfl⟩;rw[← hXE] at hse;replace hXE:=LH hXE;replace hse:=LH hse;replace hdr:=LH hdr;replace hx3:=LH hx3;replace x3:=LH x3;rw[← hq];replace hw1:=LH hw1;replace hw2:=LH hw2;have hq':=LH hq;clear hb2a hq hb3 hB23 hzv hzb s3 hcc hx s1 x1 hb12 b1;have d1:=hx3.out.get (j:=1) (by rw[hxs.out];rfl);have d2:=hx3.out.get (j:=2) (by rw[hxs.out];rfl);have d3:=hx3.out.get (j:=3) (by rw[hxs.out];rfl);have d5:=hx3.out.get (j:=5) (by rw[hxs.out];rfl)
 go_wp2_with fail
 refine (hse.out w3 (Chg.refl _ _)).mono ?_;rintro e w5 ⟨v,rfl,hv',hb5⟩;have hC5:Chg No w3 w5:=Chg.of_below hb5 _;have hv:=owns_base hv' b3.out.size;obtain⟨vg,vc,rfl,_⟩:=own_shape hv (by omega);clear d1 d2 d3 d5 hv' hb5;have x5:=(hC5.block (q+1) (heap_lt x3.out) id).trans x3.out;have c25:w5.cell? ⟨q,3,none⟩=some (.int .i64 25):=(hx3.out.chg hC5).get (by rw[hxs.out];rfl);have hst:=store_struct (P:=prog) (ty:=168) (x:=[.int .i64 Y,.slice (some ⟨vg,0,none⟩) 64 vc]) x5 (by kernel_rfl) rfl (by simp[Value.oneCell']);have y5:(w5.setRow (q+1) #[.int .i64 Y,.slice (some ⟨vg,0,none⟩) 64 vc]).heap[q+1]?=some (.cells #[.int .i64 Y,.slice (some ⟨vg,0,none⟩) 64 vc] 168 (0,0)):=setRow_heap _ _ _ _ _ _ x5;have hB5:Below w.heap.size w (w5.setRow (q+1) #[.int .i64 Y,.slice (some ⟨vg,0,none⟩) 64 vc]):=below_setRow (b3.out.trans (hC5.no.mono b3.out.size)) (by rw[← hq'.out];omega) _
 have hv5:(w5.setRow (q+1) #[.int .i64 Y,.slice (some ⟨vg,0,none⟩) 64 vc]).ownsRow w.heap.size 5 1 (.slice (some ⟨vg,0,none⟩) 64 vc) 64 (u8s XE):=owns_keep hv (fun g hg=>setRow_other _ _ _ _ (by
  rintro rfl;exact apartT hv x5 (by decide) hg))
 replace hst:=LH hst;replace y5:=LH y5;replace hB5:=LH hB5;replace hv5:=LH hv5;clear hC5 hv x5 hse hx3 x3 hdr
 go_wp2_with (first|(refine wpList_store rfl 168 _ _ rfl _ _ rfl rfl hst.out ?_)|fail)
 refine bodyPost_ret (results_cell_row2 results90 _ _ (q+1) 168 _ (0,0) _ rfl y5.out underlying168 rfl (by kernel_rfl)) rfl ⟨_,rfl,by rw[← hXE.out];exact hv5.out,hB5.out⟩
end Go.Proofs.YthmcbgidehjlbaaGreat.Fd
/-
  Frames where a book is written and literals' rows are marked. No condition beyond what each theorem names.
-/
namespace Go.Proofs.YthmcbgidehjlbaaGreat.Fd
open _root_.Go.Proofs.Tryz
open Go Go.RowKit K
def EX (N b:Nat) (x y:World):Prop:=(∃ n,Bk x b n)∧Mk N x y∧∀ (g:Nat) (C:Array Value) (t:TypeId) (m:Nat×Nat),x.heap[g]?=some (.cells C t m)→t≠5→y.heap[g]?=some (.cells C t m)
structure RX (N b:Nat) (x y:World):Prop where
 b0:∃ n,Bk x b n
 b1:∃ n,Bk y b n
 os:y.os=x.os
 tape:y.tape=x.tape
 output:y.output=x.output
 size:x.heap.size≤y.heap.size
 old:∀ g,g<N→g<x.heap.size→¬ BkT x b g→y.heap[g]?=x.heap[g]?
 other:∀ (g:Nat) (C:Array Value) (t:TypeId) (m:Nat×Nat),x.heap[g]?=some (.cells C t m)→t≠5→t≠223→t≠145→y.heap[g]?=some (.cells C t m)
 row:∀ (g:Nat) (C:Array Value) (m:Nat×Nat),x.heap[g]?=some (.cells C 5 m)→∃ m',y.heap[g]?=some (.cells C 5 m')
section
variable {N b n:Nat}{x y z:World}
theorem RX.trans (h:RX N b x y) (k:RX N b y z):RX N b x z:=by
 refine⟨h.b0,k.b1,k.os.trans h.os,k.tape.trans h.tape,k.output.trans h.output,Nat.le_trans h.size k.size,fun g hg hx hn=>?_,fun g C t m hg h1 h2 h3=>k.other g C t m (h.other g C t m hg h1 h2 h3) h1 h2 h3,fun g C m hg=>?_⟩
 ·have e:=h.old g hg hx hn;rw[k.old g hg (Nat.lt_of_lt_of_le hx h.size) ?_,e];rintro (rfl|⟨hle,cs,m,hc⟩)
  ·exact hn (.inl rfl)
  ·rw[e] at hc;exact hn (.inr ⟨hle,cs,m,hc⟩)
 ·obtain⟨m',h'⟩:=h.row g C m hg;exact k.row g C m' h'
theorem EX.bk (h:EX N b x y) (hB:Bk x b n):Bk y b n:=hB.keep (fun g hg _=>by
 rcases hg with rfl|⟨_,cs,m,hc⟩
 ·obtain⟨lv,hc⟩:=hB.box;rw[hc];exact h.2.2 _ _ _ _ hc (by decide)
 ·rw[hc];exact h.2.2 _ _ _ _ hc (by decide))
theorem EX.rx (h:EX N b x y):RX N b x y:=by
 obtain⟨n,hB⟩:=h.1;refine⟨⟨n,hB⟩,⟨n,h.bk hB⟩,h.2.1.1.os,h.2.1.1.tape,h.2.1.1.output,h.2.1.1.size,fun g hg _ _=>h.2.1.1.block g hg,fun g C t m hg h1 _ _=>h.2.2 g C t m hg h1,fun g C m hg=>h.2.1.2 g C _ m hg⟩
theorem EX.of_chg (hB:∃ n,Bk x b n) (h:Chg No x y) (hN:N≤x.heap.size):EX N b x y:=⟨hB,Mk.of_chg h hN,fun g _ _ _ hg _=>(h.block g (heap_lt hg) id).trans hg⟩
theorem EX.of_below (hB:∃ n,Bk x b n) (h:Below x.heap.size x y) (hN:N≤x.heap.size):EX N b x y:=EX.of_chg hB (Chg.of_below h _) hN
theorem RX.of_bkg {k:Nat}(hB:Bk x b n) (hB':Bk y b k) (h:BkG No b x y):RX N b x y:=
 ⟨⟨n,hB⟩,⟨k,hB'⟩,h.os,h.tape,h.output,h.size,fun g _ hx hn=>h.block g hx (fun e=>e.elim id hn),fun g C t m hg _ h2 h3=>h.at hB hg id h2 h3,fun g C m hg=>⟨m,h.at hB hg id (by decide) (by decide)⟩⟩
theorem RX.bkg (h:RX N b x y) (hN:N=x.heap.size):BkG No b x y:=⟨h.os,h.tape,h.output,h.size,fun g hg hn=>h.old g (hN ▸ hg) hg (fun e=>hn (.inr e))⟩
def RowB (l:List UInt8) (v:Value) (w:World):Prop:=∃ g m cap cur,v=.slice (some ⟨g,0,none⟩) l.length cap∧l.length≤cap∧cap≤maxLen∧w.heap[g]?=some (.cells cur 5 m)∧cur.toList.take l.length=u8s l
theorem RowB.own {l:List UInt8}{v:Value}{w:World}{B k:Nat}(h:w.ownsRow B 5 1 v k (u8s l)) (hk:l.length=k) (h0:0<k):RowB l v w:=by
 obtain⟨hl,h|⟨g,cap,cur,h1,_,h2,h3,h4,h5,h6⟩⟩:=h
 ·omega
 ·subst hk;exact⟨g,_,cap,cur,h1,h3,h4,h2,by rw[Nat.mul_one] at h6;exact h6⟩
theorem RowB.bytes {l:List UInt8}{v:Value}{w:World}(h:RowB l v w):Bytes w (fun _=>True) v l:=by
 obtain⟨g,m,cap,cur,h1,h2,h3,h4,h5⟩:=h;refine⟨by rw[u8s_length,Nat.mul_one],_,_,h1,h2,h3,fun h=>(by cases h),.inr ⟨g,0,rfl,trivial,heap_lt h4,fun j u hu=>?_⟩⟩;rw[Nat.zero_add,cell_of h4,← Array.getElem?_toList];have hj:j<l.length:=by have:=(List.getElem?_eq_some_iff.1 hu).1;rw[u8s_length] at this;exact this
 rw[← List.getElem?_take_of_lt hj,h5];exact hu
theorem RowB.rx {l:List UInt8}{v:Value}(h:RowB l v x) (hr:RX N b x y):RowB l v y:=by
 obtain⟨g,m,cap,cur,h1,h2,h3,h4,h5⟩:=h;obtain⟨m',h6⟩:=hr.row g cur m h4;exact⟨g,m',cap,cur,h1,h2,h3,h6,h5⟩
theorem conv_row {w:World}{N:Nat}{l:List UInt8}{v:Value}(h:LitR N l 5 v w):∃ w',(convert 42 42 v).run prog w=.ok v w'∧Mk N w w'∧LitR N l 5 v w'∧∀ (g:Nat) (C:Array Value) (t:TypeId) (m:Nat×Nat),w.heap[g]?=some (.cells C t m)→t≠5→w'.heap[g]?=some (.cells C t m):=by
 have h0:=h;obtain⟨g,m,rfl,h2,h3,h4⟩:=h;obtain⟨w',k1,k2,k3⟩:=conv_lit (P:=prog) (t:=42) underlying42 underlying5 h0;refine⟨w',k1,k2,k3,fun j C t mm hj hne=>?_⟩
 have hsh:w.shape? g=some (5,(u8s l).toArray.size):=by
  unfold World.shape?;rw[h4]
 have e:w'=w.freeze ⟨g,(u8s l).toArray.size,none⟩ 1:=by
  simp[convert,run_underlying underlying42,run_underlying underlying5,markStringish,hsh] at k1;exact k1.symm
 have hgj:j≠g:=by
  rintro rfl;rw[h4] at hj;simp only[Option.some.injEq,Obj.cells.injEq] at hj;exact hne hj.2.1.symm
 rw[e];unfold World.freeze;rw[if_neg (by decide)];show (w.heap.modify g _)[j]?=_;rw[Array.getElem?_modify,if_neg (Ne.symm hgj)];exact hj
theorem LitR.rx {l:List UInt8}{v:Value}(h:LitR N l 5 v x) (hr:RX N b x y):LitR N l 5 v y:=by
 obtain⟨g,m,h1,h2,h3,h4⟩:=h;obtain⟨m',h5⟩:=hr.row g _ m h4;exact⟨g,m',h1,h2,h3,h5⟩
end
end Go.Proofs.YthmcbgidehjlbaaGreat.Fd
/-
  ring.store.bytes: a head's bytes, with its tag. No condition beyond what each theorem names.
-/
namespace Go.Proofs.YthmcbgidehjlbaaGreat.Fd
open _root_.Go.Proofs.Tryz
open Go Go.RowKit K
set_option maxRecDepth 100000
set_option maxHeartbeats 8000000
def headL (i j:Nat) (T:List UInt8):List Value:=[.int .i64 i,.int .i64 j]++u8s T
theorem headL_block {w:World}{g i j:Nat}{T:List UInt8}(h:w.heap[g]?=some (.cells (headL i j T).toArray 181 (0,0))) (hT:T.length=16):Bytes w (fun _=>True) (.slice (some ⟨g,2,none⟩) 16 16) T:=by
 refine⟨by rw[u8s_length,Nat.mul_one],_,_,by rw[hT],by omega,by unfold maxLen;omega,fun h=>(by cases h),.inr ⟨g,2,rfl,trivial,heap_lt h,fun k u hu=>?_⟩⟩;rw[cell_of h,List.getElem?_toArray,headL,List.getElem?_append_right (by simp)]
 simpa using hu
theorem riBytes_ok {w:World}{d s b n:Nat}{what:ByteArray}{dv:Value}{ma:Option Addr}{mc:Nat}{M:List UInt8}(hB:Bk w b n) (hn:n<1000000) (hk:w.ownsRow 0 5 1 (.slice ma 32 mc) 32 (u8s M)) (i j:Nat) (hi:i≤1000000) (hj:j≤1000000){T:List UInt8}(hT:T.length=16):
  Calls prog 91 #[.agg (stL d s b what dv (.slice ma 32 mc)).toArray,.agg (headL i j T).toArray] w fun e w'=>∃ v,e=.returned v∧(∃ l:List UInt8,l.length=48∧Bytes w' (fun _=>True) v l)∧Bk w' b (n+1)∧BkG No b w w':=by
 obtain⟨st,hst⟩:∃ st,st=stL d s b what dv (.slice ma 32 mc):=⟨_,rfl⟩;rw[← hst];obtain⟨q,hq⟩:∃ q,q=w.heap.size:=⟨_,rfl⟩;obtain⟨w1,hw1⟩:∃ w1,w1=(w.alloc (.cells st.toArray 174)).alloc (.cells (headL i j T).toArray 181):=⟨_,rfl⟩;have hx:BoxS w1 q st:=by rw[hw1,hq];exact (boxS_new w st).chg ((Chg.refl _ _).alloc _)
 have b1:Below w.heap.size w w1:=by rw[hw1];exact ((Below.refl _ _).alloc (Nat.le_refl _) _).alloc (by simp) _
 have x1:w1.heap[q+1]?=some (.cells (headL i j T).toArray 181 (0,0)):=by rw[hw1,hq];have h:=heap_alloc_new (w.alloc (.cells st.toArray 174)) (.cells (headL i j T).toArray 181);simp only[World.size_alloc] at h;exact h
 have hB1:=hB.after b1;have hk1:=owns_keep hk (fun g hg=>b1.block g (owns_lt hk g hg));have hMl:M.length=32:=by have:=hk.1;rw[u8s_length] at this;omega
 have c0:w1.cell? ⟨q+1,0,none⟩=some (.int .i64 i):=by rw[cell_of x1];rfl
 have c1:w1.cell? ⟨q+1,1,none⟩=some (.int .i64 j):=by rw[cell_of x1];rfl
 have hTb:=LH (fun w3 (hc:Chg No w1 w3)=>Bytes.chg (headL_block x1 hT) hc (fun _ _ _=>id));have hdr:∀ w3,Chg No w1.drew w3→Chg No w1 w3:=fun w3 h=>⟨h.os,h.tape,h.output,h.size,h.block⟩
 have hql:=LH (heap_lt x1);obtain⟨c,hc⟩:∃ c,c=st.toArray:=⟨_,rfl⟩;obtain⟨hv,hhv⟩:∃ c,c=(headL i j T).toArray:=⟨_,rfl⟩;rw[← hc,← hhv] at hw1 ⊢;replace hc:=LH hc;replace hhv:=LH hhv;replace hst:=LH hst;replace hdr:=LH hdr;replace hx:=LH hx;replace b1:=LH b1;replace hB1:=LH hB1;replace hk1:=LH hk1;replace c0:=LH c0;replace c1:=LH c1;clear hB hk x1;go_enter func91,ntmps91;go_wp2;rw[← hw1,← hq];replace hw1:=LH hw1;replace hq:=LH hq;refine RA.rt (Chg No) [1,1,3,1,1,3,1,1,3,3,1] [] (fun _=>True) trivial (fun _=>Chg.refl _ _) (fun _ _ _ h k=>h.trans k) (h:=?_);intro cx;refine RA.fk prog (q+1) (0) (h:=?_);refine RA.lk prog (.int .i64 i) (hc:=fun w3 hp=>by exact ((hdr.out _ hp.1).cell (p:=⟨q+1,0,none⟩) hql.out id).trans c0.out) (h:=?_)
 refine RA.qc (P:=prog) [.int .i64 i] (fun v w3=>Bytes w3 (fun _=>True) v (numL i)) (fun _ _=>True) (fun _ _=>by go_simp) (by kernel_rfl) (by rfl) (by rfl) (by kernel_rfl) (fun v a b h h2=>h2.chg h (fun _ _ _=>id)) (fun _ _ _ _ h=>h) rfl (fun w3 hp hH=>(num_ok i (by omega) w3).mono (by
  rintro e w4 ⟨v,rfl,k1,k2⟩;exact⟨v,rfl,Chg.of_below k2 _,num_bytes k1,trivial⟩)) (fun u1=>?_)
 refine RA.fk prog (q+1) (1) (h:=?_);refine RA.lk prog (.int .i64 j) (hc:=fun w3 hp=>by exact ((hdr.out _ hp.1).cell (p:=⟨q+1,1,none⟩) hql.out id).trans c1.out) (h:=?_)
 refine RA.qc (P:=prog) [.int .i64 j] (fun v w3=>Bytes w3 (fun _=>True) v (numL j)) (fun _ _=>True) (fun _ _=>by go_simp) (by kernel_rfl) (by rfl) (by rfl) (by kernel_rfl) (fun v a b h h2=>h2.chg h (fun _ _ _=>id)) (fun _ _ _ _ h=>h) rfl (fun w3 hp hH=>(num_ok j (by omega) w3).mono (by
  rintro e w4 ⟨v,rfl,k1,k2⟩;exact⟨v,rfl,Chg.of_below k2 _,num_bytes k1,trivial⟩)) (fun u2=>?_)
 refine RA.fk prog (q+1) (2) (h:=?_);refine RA.sal (by kernel_rfl) (by rfl) (by rfl) (y':=.slice (some ⟨q+1,2,none⟩) 16 16) (fun w3 hp=>by show (Instr.sliceAt _ _ _ _ _).run prog w3=_;go_simp) ?_
 refine RA.bq (fun x w3=>PartsAt w3 (fun _=>True) x [numL i,numL j,T]) (fun _ _=>True) (by kernel_rfl) (by rfl) (by kernel_rfl) (fun _ _ _ h k=>k.keep h.size (fun b _ hb=>h.block b hb id)) (fun _ _ _ _ _=>trivial) (fun w3 hp _=>by
  have f1:=(show Bytes w3 (fun _=>True) u1 (numL i) from hp.fact 1 rfl (by kernel_rfl));have f2:=(show Bytes w3 (fun _=>True) u2 (numL j) from hp.fact 0 rfl (by kernel_rfl));have f3:=hTb.out w3 (hdr.out _ hp.1)
  have hP:=parts_lit (w:=w3) (S:=fun _=>True) (vs:=[u1,u2,.slice (some ⟨q+1,2,none⟩) 16 16]) (parts:=[numL i,numL j,T]) rfl (by unfold maxLen;simp) (by
   intro j v hv
   match j with
   | 0=>cases hv;exact f1
   | 1=>cases hv;exact f2
   | 2=>cases hv;exact f3
   | _+3=>simp at hv)
  refine⟨_,w3.alloc (.cells #[u1,u2,.slice (some ⟨q+1,2,none⟩) 16 16] 42),?_,(Chg.refl _ _).alloc _,hP,trivial⟩;obtain⟨_,_,rfl,_⟩:=f1.shape;obtain⟨_,_,rfl,_⟩:=f2.shape;clear f1 f2 f3 hP hp;show (execOp _ _).run prog w3=_;go_simp) (fun x=>?_)
 refine RA.qc (P:=prog) [x] (fun v w3=>∃ l:List UInt8,l.length=32∧w3.ownsRow w1.heap.size 5 1 v 32 (u8s l)) (fun _ _=>True) (fun _ _=>by go_simp) (by kernel_rfl) (by rfl) (by rfl) (by kernel_rfl) (fun v a b h h2=>by
  obtain⟨l,k1,k2⟩:=h2;exact⟨l,k1,owns_keep k2 (fun g hg=>h.block g (owns_lt k2 g hg) id)⟩) (fun _ _ _ _ h=>h) rfl (fun w3 hp hH=>by
  have hlen:∀ y ∈ [numL i,numL j,T],y.length≤100000:=by
   intro y hy;simp only[List.mem_cons,List.not_mem_nil,or_false] at hy;rcases hy with rfl|rfl|rfl
   ·rw[numL_length];omega
   ·rw[numL_length];omega
   ·omega
  have hfl:[numL i,numL j,T].flatten.length=32:=by
   simp only[List.flatten_cons,List.flatten_nil,List.append_nil,List.length_append,numL_length];omega
  refine (concat_ok (hp.fact 0 rfl (by kernel_rfl)) (by simp) hlen).mono ?_;rintro e w4 ⟨v,rfl,k1,k2⟩;rw[hfl] at k1;exact⟨v,rfl,Chg.of_below k2 _,⟨_,hfl,owns_base k1 (hdr.out _ hp.1).size⟩,trivial⟩) (fun y=>?_)
 repeat (first|refine RA.mv (by rfl) (by rfl) (by rfl) ?_|refine RA.as (by rfl) (by rfl) (by rfl) ?_|refine RA.pt (by rfl) (by rfl) (by rfl) (by rfl) ?_|refine RA.pf (by rfl) (by rfl) (by rfl) (by rfl) ?_)
 refine RA.RA.done rfl (fun w2 hR hF hH=>?_);clear hH;simp only[RA.put,List.foldr_cons,List.foldr_nil,cx,Act.put,List.setIfInBounds_toArray,List.set_cons_succ,List.set_cons_zero];obtain⟨IN,hIN,hin⟩:=hF _ (List.mem_cons_self ..);have hC2:=hdr.out _ hR;obtain⟨ig,ic,rfl,_⟩:=own_shape hin (by omega);clear hF hR;obtain⟨N,hN⟩:∃ N,N=w2.heap.size:=⟨_,rfl⟩;have hB2:=hB1.out.after hC2.no;have hx2:=hx.out.chg hC2;have hk2:RowB M (.slice ma 32 mc) w2:=RowB.own (owns_keep hk1.out (fun g hg=>hC2.block g (owns_lt hk1.out g hg) id)) hMl (by omega);have hi2:RowB IN (.slice (some ⟨ig,0,none⟩) 32 ic) w2:=RowB.own hin hIN (by omega);have hBd:Bk w2.drew b n:=hB2.keep (fun _ _ _=>rfl);have hR0:RX N b w2.drew w2.drew:=(EX.of_chg ⟨n,hBd⟩ (Chg.refl No w2.drew) (by rw[hN];exact Nat.le_refl _)).rx;have hmk:∀ w3,RX N b w2.drew w3→RX N b w2 w3:=fun w3 h=>⟨⟨n,hB2⟩,h.b1,h.os,h.tape,h.output,h.size,h.old,h.other,h.row⟩
 have hNs:∀ w3,RX N b w2 w3→N≤w3.heap.size:=fun w3 h=>hN ▸ h.size
 have hxq:∀ w3,RX N b w2 w3→BoxS w3 q st:=fun w3 h=>⟨h.other _ _ _ _ hx2.at_ (by decide) (by decide) (by decide)⟩
 have hbw:BkG No b w w2:=(BkG.of_below b1.out).trans (BkG.of_no hC2);have hsw:w.heap.size≤w2.heap.size:=Nat.le_trans b1.out.size hC2.size;have hkc:∀ {v:Value}{j:Nat},st[j]?=some v→∀ w3,RX N b w2 w3→w3.cell? ⟨q,j,none⟩=some v:=fun hj w3 h=>(hxq w3 h).get hj
 have d5:=LH (hkc (j:=6) (v:=.slice ma 32 mc) (by rw[hst.out];rfl));have d3:=LH (hkc (j:=3) (v:=.int .i64 25) (by rw[hst.out];rfl));have d4:=LH (hkc (j:=4) (v:=.int .i64 35) (by rw[hst.out];rfl));have d7:=LH (hkc (j:=7) (v:=.pointer (some ⟨b,0,none⟩)) (by rw[hst.out];rfl));replace hBd:=LH hBd;replace hR0:=LH hR0;replace hmk:=LH hmk;replace hNs:=LH hNs;replace hk2:=LH hk2;replace hi2:=LH hi2;replace hbw:=LH hbw;replace hsw:=LH hsw;replace hN:=LH hN;replace hB2:=LH hB2;clear hC2 hx2 hin hxq hkc hx hk1 hB1 hTb hdr c0 c1;go_wp2;refine RA.regionT (RX N b) (EX N b) [1,1,1,1,2,2,1,1,1,2,1,1,1,2,1,3,3,2,7] [18] (fun k v w3=>match k with|4=>LitR N [114,105,110,103,32,104,101,97,100] 5 v w3|5=>LitR N [114,105,110,103,32,104,101,97,100] 5 v w3|9=>RowB (numL 25) v w3|13=>RowB (numL 35) v w3|_=>∃ p,v=.pointer (some ⟨p,0,none⟩)∧N≤p∧Arr w3 p 209 (List.replicate 32 0)) (fun w3=>Bk w3 b n) (by kernel_rfl) hR0.out (fun _ _ h=>h.rx) (fun _ _ _ h k=>h.trans k) (fun _ _ h k=>h.bk k) hBd.out (by kernel_rfl) (by kernel_rfl) ?_;intro cx;refine RA.fk prog (q) (7) (h:=?_);refine RA.lk prog (.pointer (some ⟨b,0,none⟩)) (hc:=fun w3 hp=>by exact d7.out _ (hmk.out _ hp.1)) (h:=?_);refine RA.fk prog (q) (6) (h:=?_);refine RA.lk prog (.slice ma 32 mc) (hc:=fun w3 hp=>by exact d5.out _ (hmk.out _ hp.1)) (h:=?_)
 refine RA.fr (by kernel_rfl) (by rfl) (fun v a b h h2=>LitR.rx h2 h) (fun w3 hp=>⟨.slice (some ⟨w3.heap.size,0,none⟩) 9 9,w3.alloc (.cells (u8s [114,105,110,103,32,104,101,97,100]).toArray 5),by
  show (execOp _ _).run prog w3=_;go_simp;rfl,EX.of_chg (hmk.out _ hp.1).b1 ((Chg.refl _ _).alloc _) (hNs.out _ (hmk.out _ hp.1)),⟨w3.heap.size,(0,0),rfl,hNs.out _ (hmk.out _ hp.1),by unfold maxLen;exact Nat.le_of_ble_eq_true rfl,heap_alloc_new w3 _⟩⟩) (fun u0=>?_)
 refine RA.fr (by kernel_rfl) (by rfl) (fun v a b h h2=>LitR.rx h2 h) (fun w3 hp=>by
  obtain⟨w4,k1,k2,k3,k4⟩:=conv_row (show LitR N [114,105,110,103,32,104,101,97,100] _ u0 w3 from hp.fact 0 rfl (by kernel_rfl));refine⟨u0,w4,?_,⟨(hmk.out _ hp.1).b1,k2,k4⟩,k3⟩;exact RA.ex_conv (by rfl) k1) (fun u1=>?_)
 refine RA.fk prog (q) (3) (h:=?_);refine RA.fk prog (q) (3) (h:=?_);refine RA.lk prog (.int .i64 25) (hc:=fun w3 hp=>by exact d3.out _ (hmk.out _ hp.1)) (h:=?_)
 refine RA.frc (P:=prog) [.int .i64 25] (fun _ _=>by go_simp) (by kernel_rfl) (by rfl) (by rfl) (fun v a b h h2=>RowB.rx h2 h) rfl (fun w3 hp=>(num_ok 25 (by omega) w3).mono (by
  rintro e w4 ⟨v,rfl,k1,k2⟩;exact⟨v,rfl,EX.of_below (hmk.out _ hp.1).b1 k2 (hNs.out _ (hmk.out _ hp.1)),RowB.own k1 numL_length (by omega)⟩)) (fun u2=>?_)
 refine RA.fk prog (q) (3) (h:=?_);refine RA.fk prog (q) (4) (h:=?_);refine RA.lk prog (.int .i64 35) (hc:=fun w3 hp=>by exact d4.out _ (hmk.out _ hp.1)) (h:=?_)
 refine RA.frc (P:=prog) [.int .i64 35] (fun _ _=>by go_simp) (by kernel_rfl) (by rfl) (by rfl) (fun v a b h h2=>RowB.rx h2 h) rfl (fun w3 hp=>(num_ok 35 (by omega) w3).mono (by
  rintro e w4 ⟨v,rfl,k1,k2⟩;exact⟨v,rfl,EX.of_below (hmk.out _ hp.1).b1 k2 (hNs.out _ (hmk.out _ hp.1)),RowB.own k1 numL_length (by omega)⟩)) (fun u3=>?_)
 repeat refine RA.qq (h:=?_)
 refine RA.bq (fun _ _=>True) (fun x w3=>Bk w3 b n∧PartsAt w3 (fun _=>True) x [[114,105,110,103,32,104,101,97,100],numL 25,numL 35,IN]) (by kernel_rfl) (by rfl) (by kernel_rfl) (fun _ _ _ _ _=>trivial) (fun _ _ _ h k=>⟨h.bk k.1,Mk.parts h.2.1 k.2⟩) (fun w3 hp hH=>by
  have hr3:=hmk.out _ hp.1;have f1:=(show LitR N [114,105,110,103,32,104,101,97,100] _ u1 w3 from hp.fact 2 rfl (by kernel_rfl)).bytes;have f2:=(show RowB (numL 25) u2 w3 from hp.fact 1 rfl (by kernel_rfl)).bytes;have f3:=(show RowB (numL 35) u3 w3 from hp.fact 0 rfl (by kernel_rfl)).bytes;have f4:=(hi2.out.rx hr3).bytes
  have hP:=parts_lit (w:=w3) (S:=fun _=>True) (vs:=[u1,u2,u3,.slice (some ⟨ig,0,none⟩) 32 ic]) (parts:=[[114,105,110,103,32,104,101,97,100],numL 25,numL 35,IN]) rfl (by unfold maxLen;simp) (by
   intro j v hv
   match j with
   | 0=>cases hv;exact f1
   | 1=>cases hv;exact f2
   | 2=>cases hv;exact f3
   | 3=>cases hv;exact f4
   | _+4=>simp at hv)
  have hEX:=EX.of_chg (b:=b) hr3.b1 ((Chg.refl No w3).alloc (.cells #[u1,u2,u3,.slice (some ⟨ig,0,none⟩) 32 ic] 42)) (hNs.out _ hr3);have hH':Bk w3 b n:=hH;refine⟨_,w3.alloc (.cells #[u1,u2,u3,.slice (some ⟨ig,0,none⟩) 32 ic] 42),?_,hEX.rx,trivial,hEX.bk hH',hP⟩;obtain⟨_,_,rfl,_⟩:=f1.shape;obtain⟨_,_,rfl,_⟩:=f2.shape;obtain⟨_,_,rfl,_⟩:=f3.shape;clear f1 f2 f3 f4 hP hp hH hH' hEX hr3;show (execOp _ _).run prog w3=_;go_simp) (fun x4=>?_)
 refine RA.qc (P:=prog) [.pointer (some ⟨b,0,none⟩),.slice ma 32 mc,x4] (fun v _=>∃ H:List UInt8,H.length=32∧v=.agg (u8s H).toArray) (fun _ w4=>Bk w4 b (n+1)) (fun _ _=>by go_simp) (by kernel_rfl) (by rfl) (by rfl) (by kernel_rfl) (fun _ _ _ _ h=>h) (fun _ _ _ h k=>h.bk k) rfl (fun w4 hp hH=>by
  obtain⟨hH1,k2⟩:=hH
  have hlen:∀ x ∈ [[114,105,110,103,32,104,101,97,100],numL 25,numL 35,IN],x.length≤1000:=by
   intro x hx;simp only[List.mem_cons,List.not_mem_nil,or_false] at hx;rcases hx with rfl|rfl|rfl|rfl
   ·simp
   ·rw[numL_length];omega
   ·rw[numL_length];omega
   ·omega
  refine (clMake_ok hH1 hn (hk2.out.rx (hmk.out _ hp.1)).bytes (by omega) k2 (by simp) (fun x hx=>by have:=hlen x hx;omega) (framed_len hlen (by simp))).mono ?_;rintro e w5 ⟨rfl,k4,k5⟩;exact⟨_,rfl,RX.of_bkg hH1 k4 k5,⟨_,tagL_length,rfl⟩,k4⟩) (fun u5=>?_)
 refine RA.fr (by kernel_rfl) (by rfl) (fun v x y hr hk=>by
  obtain⟨p,h1,h2,h3⟩:=hk;exact⟨p,h1,h2,hr.other _ _ _ _ h3 (by decide) (by decide) (by decide)⟩) (fun w4 hp=>⟨.pointer (some ⟨w4.heap.size,0,none⟩),w4.alloc (.cells (u8s (List.replicate 32 0)).toArray 209),by
  show (execOp _ _).run prog w4=_;go_simp;rfl,EX.of_chg (hmk.out _ hp.1).b1 ((Chg.refl _ _).alloc _) (hNs.out _ (hmk.out _ hp.1)),w4.heap.size,rfl,hNs.out _ (hmk.out _ hp.1),heap_alloc_new w4 _⟩) (fun u6=>?_)
 refine RA.stt (fun w5=>∃ (p:Nat) (H:List UInt8),u6=.pointer (some ⟨p,0,none⟩)∧H.length=32∧Arr w5 p 209 H∧Bk w5 b (n+1)∧RX N b w2 w5) (by kernel_rfl) (by rfl) (by kernel_rfl) (fun x y hE hk=>by
  obtain⟨p,H,h1,h2,h3,h4,h5⟩:=hk;exact⟨p,H,h1,h2,hE.2.2 _ _ _ _ h3 (by decide),hE.bk h4,h5.trans hE.rx⟩) (fun w4 hp0 hH=>by
  have hp:=hp0.first (by kernel_rfl);obtain⟨p,rfl,h2,h3⟩:=hp.fact 0 rfl (by kernel_rfl);obtain⟨H,hHl,rfl⟩:=hp.fact 1 rfl (by kernel_rfl);have hr:=hmk.out _ hp.1;have hH':Bk w4 b (n+1):=hH;have hBk:Bk (w4.setRow p (u8s H).toArray) b (n+1):=hH'.keep (fun g hg hl=>setRow_other _ _ _ _ (fun e=>BkT.type hH' h3 (by decide) (by decide) (e ▸ hg)))
  have hne:∀ (g:Nat) (C:Array Value) (t:TypeId) (m:Nat×Nat),w2.heap[g]?=some (.cells C t m)→g≠p:=fun g C t m hg=>by
   have:=heap_lt hg;have:=hN.out;omega
  refine⟨w4.setRow p (u8s H).toArray,RA.ex_store (by rfl) (by rfl) (hash_store h3 hHl),p,H,rfl,hHl,h3.setRow H,hBk,⟨hr.b0,⟨_,hBk⟩,by rw[setRow_os];exact hr.os,by rw[setRow_tape];exact hr.tape,by rw[setRow_output];exact hr.output,by rw[setRow_size];exact hr.size,fun g hg hx hn=>?_,fun g C t m hg h1 h2 h3=>?_,fun g C m hg=>?_⟩⟩
  ·rw[setRow_other _ _ _ _ (by omega)];exact hr.old g hg hx hn
  ·rw[setRow_other _ _ _ _ (hne g C t m hg)];exact hr.other g C t m hg h1 h2 h3
  ·rw[setRow_other _ _ _ _ (hne g C _ m hg)];exact hr.row g C m hg) ?_
 refine RA.RA.doneT (fun w5 hH=>?_);simp only[RA.put,List.foldr_cons,List.foldr_nil,cx,Act.put,List.setIfInBounds_toArray,List.set_cons_succ,List.set_cons_zero];obtain⟨p7,H,rfl,hHl,hH5,hB5,hR5⟩:=hH;have hi5:=(hi2.out.rx hR5).bytes;have hG5:BkG No b w w5:=hbw.out.trans (hR5.bkg hN.out);have hcut:=hash_cut hH5 hHl
 have hP:=parts_lit (w:=w5) (S:=fun _=>True) (vs:=[.slice (some ⟨ig,0,none⟩) 32 ic,.slice (some ⟨p7,0,none⟩) 16 32]) (parts:=[IN,H.take 16]) rfl (by unfold maxLen;simp) (by
  intro j v hv
  match j with
  | 0=>cases hv;exact hi5
  | 1=>cases hv;exact hcut
  | _+2=>simp at hv)
 have hfl:[IN,H.take 16].flatten.length=48:=by
  simp only[List.flatten_cons,List.flatten_nil,List.append_nil,List.length_append,List.length_take];omega
 have hcc:=LH (concat_ok hP (by simp) (by
  intro x hx;simp only[List.mem_cons,List.not_mem_nil,or_false] at hx;rcases hx with rfl|rfl
  ·omega
  ·rw[List.length_take];omega))
 obtain⟨Z,hZ⟩:∃ Z,Z=[IN,H.take 16].flatten:=⟨_,rfl⟩;rw[← hZ] at hcc hfl;rw[hfl] at hcc;replace hG5:=LH hG5;replace hB5:=LH hB5;replace hZ:=LH hZ;replace hfl:=LH hfl;clear hi5 hcut hP hH5 hR5 hk2 hi2 hmk hNs hbw hsw hB2 hBd hR0 d5 d3 d4 d7
 go_wp2_with fail
 refine hcc.out.mono ?_;rintro e w6 ⟨v,rfl,k1,k2⟩;have hb56:Below w5.heap.size w5 w6:=((Below.refl _ _).alloc (Nat.le_refl _) _).trans (k2.mono (by simp))
 have hv6:Bytes w6 (fun _=>True) v Z:=by
  show Cells w6 _ _ Z.length 1 _;rw[hfl.out];exact (Cells.own k1).mono (fun _ _ _=>trivial)
 have hB6:=LH (hB5.out.after hb56);have hG6:=LH (hG5.out.trans (BkG.of_below hb56));replace hv6:=LH hv6;obtain⟨va,vc,rfl,_⟩:=(Cells.own k1).shape;clear k1 k2 hb56 hcc;go_wp2;go_ret;exact⟨_,rfl,⟨Z,hfl.out,hv6.out⟩,hB6.out,hG6.out⟩
end Go.Proofs.YthmcbgidehjlbaaGreat.Fd

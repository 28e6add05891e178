/-
  Texts of this claim, laid together by a program of mine. No condition beyond what each theorem names.
-/
import Derived.Test.YthmcbgidehjlbaaGreatRmGHdr
import Derived.Test.YthmcbgidehjlbaaGreatRmDiskGPk
import Derived.Test.YthmcbgidehjlbaaGreatRmTapeBPk
import Derived.OwnWalk
import Derived.Test.YthmcbgidehjlbaaGreatRmDiskPk
/-
  The law's fresh volume. No condition beyond what each theorem names.
-/
namespace Go.Proofs.YthmcbgidehjlbaaGreat.Fd
open _root_.Go.Proofs.Tryz
open Go Go.RowKit K
set_option maxRecDepth 100000
set_option maxHeartbeats 4000000
theorem bytes_nil0 (w:World):Bytes w (fun _=>False) (.slice none 0 0) []:=Cells.nil _ _ 1
theorem glFresh_ok (w:World):Calls prog 9 #[] w fun e w'=>∃ d v m,e=.returned (.tuple #[.pointer (some ⟨d,0,none⟩),.pointer (some ⟨v,0,none⟩),.bool true])∧w.heap.size≤v∧w.heap.size≤m∧VolAt w' v m (List.replicate 7 0) [] false∧(∀ g,VolB w' v g→w.heap.size≤g)∧Below w.heap.size w w':=by
 have hnew:=LH (D.Fresh.new 120 (by omega) (by omega) w);go_enter func9,ntmps9
 go_wp2_with fail
 refine hnew.out.mono ?_;rintro e w1 ⟨d,rfl,hF1⟩;replace hF1:=LH hF1;have ht:=LH (tapeNew_ok (bytes_nil0 w1) (by simp));clear hnew
 go_wp2_with fail
 refine ht.out.mono ?_;rintro e w2 ⟨p,bv,rfl,-,-,hb2⟩;replace hb2:=LH hb2;have hr:=LH (real_ok (some ⟨p,0,none⟩) w2);clear ht
 go_wp2_with fail
 refine hr.out.mono ?_;rintro e w3 ⟨s,rfl,hsl,hS3,hb3⟩;replace hb3:=LH hb3;replace hS3:=LH hS3;replace hsl:=LH hsl;have hh:=LH (glHeader_ok w3);clear hr
 go_wp2_with fail
 refine hh.out.mono ?_;rintro e w4 ⟨A,M,hA,hM,rfl,hb4⟩;replace hb4:=LH hb4;replace hA:=LH hA;replace hM:=LH hM;obtain⟨H,hH⟩:∃ H,H=(hdrL A M).toArray:=⟨_,rfl⟩;rw[← hH];replace hH:=LH hH;have hc:=LH (clNew_ok w4);clear hh
 go_wp2_with fail
 refine hc.out.mono ?_;rintro e w5 ⟨rfl,hB5,hw5⟩;have hb5:Below w4.heap.size w4 w5:=by rw[hw5];exact (Below.refl _ _).alloc (Nat.le_refl _) _
 obtain⟨F,hD1,hF1',hb1⟩:=hF1.out;have b12:=hb1.trans (hb2.out.mono hb1.size);have b13:=b12.trans (hb3.out.mono b12.size);have b14:=b13.trans (hb4.out.mono b13.size);have b15:=b14.trans (hb5.mono b14.size);have k12:Below w1.heap.size w1 w2:=hb2.out;have k13:=k12.trans (hb3.out.mono k12.size);have k14:=k13.trans (hb4.out.mono k13.size);have k15:=k14.trans (hb5.mono k14.size);have j34:Below w3.heap.size w3 w4:=hb4.out;have j35:=j34.trans (hb5.mono j34.size);have hD5:D.At w5 F d (.new 120):=hD1.chg (Chg.of_below k15 No) (fun _ _=>id);have hS5:SuiteAt w5 s none (some ⟨p,0,none⟩):=(j35.block s (heap_lt hS3.out)).trans hS3.out;have hFl:=hD1.lim;have hsF:¬ F s:=fun e=>by have:=hFl s e;have:=hsl.out;have:=k12.size;omega
 have hFB:∀ g,F g→¬ BkT w5 w4.heap.size g:=fun g hg hB=>by have:=hFl g hg;have:=hB.ge;have:=k14.size;omega
 have hfm:=voFormat_ok (what:=⟨#[119]⟩) hD5 (k:=0) ⟨⟨rfl,rfl⟩,by kernel_rfl,by simp[D.Dk.new]⟩ (by omega) hS5 hsF hB5 (by omega) hFB hA.out hM.out;rw[← hH.out] at hfm;replace hfm:=LH hfm;replace b15:=LH b15;have b14s:=LH b14.size;replace hF1':=LH hF1';clear hc hw5 hb5 b12 b13 b14 k12 k13 k14 k15 j34 j35 hD5 hS5 hsF hFB hFl hB5 hb1 hD1
 go_wp2_with fail
 refine hfm.out.mono ?_;rintro e w6 ⟨v,rfl,hvl,⟨m,hml,hV,xs,t,r,hx,hvx⟩,hC⟩
 have hfin:Below w.heap.size w w6:=b15.out.trans (hC.below b15.out.size (fun g hg e=>by
  rcases e with e|e
  ·have:=hF1'.out g e;omega
  ·have:=e.ge;have:=b14s.out;omega))
 have h1:w.heap.size≤v:=Nat.le_trans b15.out.size hvl;have h2:w.heap.size≤m:=Nat.le_trans b15.out.size hml
 have h3:∀ g,VolB w6 v g→w.heap.size≤g:=fun g hg=>by
  rcases hg with rfl|⟨n,pc,hc⟩
  ·exact h1
  ·rw[cell_of hvx,List.getElem?_toArray,volL,List.getElem?_append_right (by rw[hx.len];omega),hx.len] at hc;cases hc
 replace hfin:=LH hfin;replace hV:=LH hV;replace h3:=LH h3;clear hC hfm hvl hml hx hvx;go_wp2
 go_ret3
 exact⟨_,_,m,rfl,h1,h2,hV.out,h3.out,hfin.out⟩
end Go.Proofs.YthmcbgidehjlbaaGreat.Fd
/-
  guard.Room of no volume; areas that a call has laid; a sector's row is not the volume's. No condition beyond what each theorem names.
-/
namespace Go.Proofs.YthmcbgidehjlbaaGreat.P
open _root_.Go.Proofs.Tryz
open Go Go.RowKit K
set_option maxRecDepth 100000
set_option maxHeartbeats 4000000
theorem area_ne (w:World) (x x':Operand) (a b c d:Int) (r:Bool) (h:(!(decide (a=c) && decide (b=d)))=r):((do eqGuard .neq 27 x x' (.agg #[.int .i64 a,.int .i64 b]) (.agg #[.int .i64 c,.int .i64 d]);binOp .neq 27 (.agg #[.int .i64 a,.int .i64 b]) (.agg #[.int .i64 c,.int .i64 d])):Sem Value).run prog w=.ok (.bool r) w:=by
 have hS:prog.underlying 27=some (.struct (prog.fieldsOf 27)):=by kernel_rfl
 have hp:prog.stoodInHeld 27=false:=by kernel_rfl
 have hm:prog.eqGuardType prog.depth 27=false:=by kernel_rfl
 have u3:=underlying3;have a3:=Tryz.isAgg3;have z3:=Tryz.sizeOf3;rw[Sem.run_bind,run_eqGuard_agg _ _ _ _ _ _ _ hm,Result.andThen_ok,run_neq_struct,show (10000:Nat)=9999+1 from rfl,run_equalIn_agg w 9999 27 _ _ hS hp];simp only[Program.fieldsOf,underlying27];go_simp;subst h;by_cases h1:a=c<;>by_cases h2:b=d<;>simp[h1,h2]
theorem area_guard (w:World) (x x':Operand) (u v:Array Value) (op:BinOp):(eqGuard op 27 x x' (.agg u) (.agg v)).run prog w=.ok () w:=run_eqGuard_agg _ _ _ _ _ _ _ (by kernel_rfl)
theorem area_eql (w:World) (a b c d:Int):(binOp .eql 27 (.agg #[.int .i64 a,.int .i64 b]) (.agg #[.int .i64 c,.int .i64 d])).run prog w=.ok (.bool (decide (a=c) && decide (b=d))) w:=by
 have h:=area_eq w (.tmp 0) (.tmp 0) a b c d _ rfl;rw[Sem.run_bind,area_guard,Result.andThen_ok] at h;exact h
theorem area_neq (w:World) (a b c d:Int):(binOp .neq 27 (.agg #[.int .i64 a,.int .i64 b]) (.agg #[.int .i64 c,.int .i64 d])).run prog w=.ok (.bool (!(decide (a=c) && decide (b=d)))) w:=by
 have h:=area_ne w (.tmp 0) (.tmp 0) a b c d _ rfl;rw[Sem.run_bind,area_guard,Result.andThen_ok] at h;exact h
theorem cells_areas (w:World) (l:List Ar) (h:l.length≤1000):Cells (w.alloc (.cells (arCells l).toArray 27)) (·=w.heap.size) (.slice (some ⟨w.heap.size,0,none⟩) l.length l.length) l.length 2 (arCells l):=by
 refine⟨arCells_length l,_,_,rfl,Nat.le_refl _,by unfold maxLen;omega,fun h=>(by cases h),.inr ⟨_,0,rfl,rfl,by simp,fun j u hu=>?_⟩⟩;rw[Nat.zero_add,cell_of (heap_alloc_new _ _)]
 simpa using hu
end Go.Proofs.YthmcbgidehjlbaaGreat.P
namespace Go.Proofs.YthmcbgidehjlbaaGreat.Fd
open _root_.Go.Proofs.Tryz
open Go Go.RowKit K
set_option maxRecDepth 100000
set_option maxHeartbeats 4000000
theorem voData_nil (w:World):Calls prog 34 #[.pointer none] w fun e w'=>e=.returned (.agg #[.int .i64 0,.int .i64 0])∧Below w.heap.size w w':=by
 have x1:(w.alloc (.cells #[.int .i64 0,.int .i64 0] 27)).heap[w.heap.size]?=some (.cells #[.int .i64 0,.int .i64 0] 27 (0,0)):=heap_alloc_new w _;have hst:=store_struct (P:=prog) (ty:=27) (x:=[.int .i64 0,.int .i64 0]) x1 (by kernel_rfl) rfl (by simp[Value.oneCell']);have x2:((w.alloc (.cells #[.int .i64 0,.int .i64 0] 27)).setRow w.heap.size ([.int .i64 0,.int .i64 0]:List Value).toArray).heap[w.heap.size]?=some (.cells #[.int .i64 0,.int .i64 0] 27 (0,0)):=setRow_heap _ _ _ _ _ _ x1;have hb:Below w.heap.size w ((w.alloc (.cells #[.int .i64 0,.int .i64 0] 27)).setRow w.heap.size ([.int .i64 0,.int .i64 0]:List Value).toArray):=below_setRow ((Below.refl _ _).alloc (Nat.le_refl _) _) (Nat.le_refl _) _;replace hst:=LH hst;replace x2:=LH x2;replace hb:=LH hb;clear x1;go_enter func34,ntmps34
 go_wp2_with (first|(refine wpList_store rfl 27 _ _ rfl _ _ rfl rfl hst.out ?_)|fail)
 refine bodyPost_ret (results_cell_row results34 _ _ w.heap.size 27 _ (0,0) _ rfl x2.out underlying27 rfl (by kernel_rfl)) rfl ⟨rfl,hb.out⟩
theorem guRoom_nil (w:World):Calls prog 28 #[.pointer none,.int .i64 0,.int .i64 48] w fun e w'=>e=.returned (.tuple #[.agg #[.int .i64 0,.int .i64 0],.int .i64 3])∧Below w.heap.size w w':=by
 obtain⟨n0,hn0⟩:∃ n,n=w.heap.size:=⟨_,rfl⟩;obtain⟨w1,hw1⟩:∃ w1,w1=w.alloc (.cells #[.int .i64 0,.int .i64 0] 27):=⟨_,rfl⟩;have b1:Below w.heap.size w w1:=by rw[hw1];exact (Below.refl _ _).alloc (Nat.le_refl _) _
 have x1:w1.heap[n0]?=some (.cells #[.int .i64 0,.int .i64 0] 27 (0,0)):=by rw[hw1,hn0];exact heap_alloc_new w _
 have hD:=LH (voData_nil w1);have hin:=LH (fun w3=>P.inside_at (x:=0) (y:=0) (p:=0) (q:=48) (f:=0) (c:=0) (b:=false) (by decide) (by decide) w3);replace b1:=LH b1;replace x1:=LH x1;go_enter func28,ntmps28;have hw1':=LH hw1;subst hw1
 go_wp2_with fail
 refine hD.out.mono ?_;rintro e w2 ⟨rfl,hb2⟩;replace hb2:=LH hb2;clear hD
 go_wp2_with fail
 refine (hin.out w2).mono ?_;rintro e w3 ⟨rfl,hb3⟩;rw[← hn0];have hb23:=hb2.out.trans (hb3.mono hb2.out.size);have x3:=(hb23.block n0 (heap_lt x1.out)).trans x1.out;have hb3w:Below w.heap.size w w3:=b1.out.trans (hb23.mono b1.out.size);have xz:(w3.alloc (.cells #[.int .i64 0,.int .i64 0] 27)).heap[w3.heap.size]?=some (.cells #[.int .i64 0,.int .i64 0] 27 (0,0)):=heap_alloc_new w3 _;have hst1:=store_struct (P:=prog) (ty:=27) (x:=[.int .i64 0,.int .i64 0]) xz (by kernel_rfl) rfl (by simp[Value.oneCell']);obtain⟨w4,hw4⟩:∃ w4,w4=(w3.alloc (.cells #[.int .i64 0,.int .i64 0] 27)).setRow w3.heap.size #[.int .i64 0,.int .i64 0]:=⟨_,rfl⟩;have b34:Below w3.heap.size w3 w4:=by rw[hw4];exact below_setRow ((Below.refl _ _).alloc (Nat.le_refl _) _) (Nat.le_refl _) _
 have y4:=(b34.block n0 (heap_lt x3)).trans x3;have hb4w:Below w.heap.size w w4:=hb3w.trans (b34.mono hb3w.size);rw[← show w4=(w3.alloc (.cells #[.int .i64 0,.int .i64 0] 27)).setRow w3.heap.size ([.int .i64 0,.int .i64 0]:List Value).toArray from hw4] at hst1;have hst2:=store_struct (P:=prog) (ty:=27) (x:=[.int .i64 0,.int .i64 0]) y4 (by kernel_rfl) rfl (by simp[Value.oneCell']);have x5:(w4.setRow n0 ([.int .i64 0,.int .i64 0]:List Value).toArray).heap[n0]?=some (.cells #[.int .i64 0,.int .i64 0] 27 (0,0)):=setRow_heap _ _ _ _ _ _ y4;have hb5:Below w.heap.size w (w4.setRow n0 ([.int .i64 0,.int .i64 0]:List Value).toArray):=below_setRow hb4w (by rw[hn0];exact Nat.le_refl _) _;replace hst1:=LH hst1;replace hst2:=LH hst2;replace x5:=LH x5;replace hb5:=LH hb5;replace hw4:=LH hw4;replace hn0:=LH hn0;clear hb23 hb2 hb3 x3 hb3w xz b34 b1 x1 y4 hb4w
 go_wp2_with (first|(refine wpList_store rfl 27 _ _ rfl _ _ rfl rfl hst1.out ?_)|(refine wpList_store rfl 27 _ _ rfl _ _ rfl rfl hst2.out ?_)|fail)
 refine bodyPost_ret (results_cell_row2 results28 _ _ n0 27 _ (0,0) _ rfl x5.out underlying27 rfl (by kernel_rfl)) rfl ⟨rfl,hb5.out⟩
theorem VolB.lt {w:World}{v m:Nat}{L:List UInt8}{ks:List (Nat×List UInt8)}{lat:Bool}(h:VolAt w v m L ks lat){g:Nat}(hg:VolB w v g):g<w.heap.size:=by
 obtain⟨cs,t,h1,_⟩:=VolB.type h hg;exact heap_lt h1
end Go.Proofs.YthmcbgidehjlbaaGreat.Fd
/-
  priorylaw22.awake answers true. No condition.
-/
namespace Go.Proofs.YthmcbgidehjlbaaGreat.Fd
open _root_.Go.Proofs.Tryz
open Go Go.RowKit K
set_option maxRecDepth 100000
set_option maxHeartbeats 16000000
theorem newL_one (i:Nat){l:List UInt8}(hl:l.length=64):newL i l 1=[(i,l)]:=by
 have h:(l.drop 0).take 64=l:=by rw[List.drop_zero,List.take_of_length_le (by omega)]
 show [(i+0,(l.drop (0*64)).take 64)]=_;rw[Nat.zero_mul,h,Nat.add_zero]
theorem glAwake_ok (w:World):Calls prog 8 #[] w fun e w'=>e=.returned (.bool true)∧Below w.heap.size w w':=by
 have hag:=P.area_guard;have hne:=P.area_neq;have hf:=LH (glFresh_ok w);have r1:roomA (wroteL (List.replicate 7 0) []) 2 48=(62,48):=by decide +kernel
 have r2:roomE (wroteL (List.replicate 7 0) []) 2 48=0:=by decide +kernel
 have r3:roomA (wroteL (List.replicate 7 0) []) 2 49=(0,0):=by decide +kernel
 have r4:roomE (wroteL (List.replicate 7 0) []) 2 49=3:=by decide +kernel
 replace r1:=LH r1;replace r2:=LH r2;replace r3:=LH r3;replace r4:=LH r4;go_enter func8,ntmps8
 go_wp2_with fail
 refine hf.out.mono ?_;rintro e w1 ⟨d,v,m,rfl,hvl,hml,hV,hVB,B⟩;have HR:=guRoom_ok hV 2 48;rw[r1.out,r2.out] at HR;dsimp only at HR;replace HR:=LH HR;replace hV:=LH hV;replace hVB:=LH hVB;replace B:=LH B;replace hvl:=LH hvl;clear hf hml
 go_wp2_with fail
 refine HR.out.mono ?_;rintro e w2 ⟨rfl,hb⟩;have hbb:=hb.alloc hb.size (.cells #[.int .i64 (62),.int .i64 (48)] 27);replace B:=LH (B.out.trans (hbb.mono B.out.size));have hVv:=fun g=>VolB.back (g:=g) hV.out (Chg.of_below hbb No) id
 replace hVB:=LH (fun g hg=>hVB.out g (hVv g hg));replace hV:=LH (hV.out.after hbb);have Xp4:=LH (P.box_new w2 (62) (48));clear hb hbb hVv HR
 go_wp2_with fail
 obtain⟨p4,hp4⟩:∃ p4,p4=w2.heap.size:=⟨_,rfl⟩;rw[← hp4] at Xp4 ⊢;clear hp4;generalize w2.alloc (.cells #[.int .i64 62,.int .i64 48] 27)=W2 at*;have HR:=guRoom_ok hV.out 2 49;rw[r3.out,r4.out] at HR;refine HR.mono ?_;rintro e w3 ⟨rfl,hb⟩;have hbb:=hb.alloc hb.size (.cells #[.int .i64 (0),.int .i64 (0)] 27);replace B:=LH (B.out.trans (hbb.mono B.out.size));have hVv:=fun g=>VolB.back (g:=g) hV.out (Chg.of_below hbb No) id
 replace hVB:=LH (fun g hg=>hVB.out g (hVv g hg));replace hV:=LH (hV.out.after hbb);replace Xp4:=LH (Xp4.out.keep hbb);clear hb hbb hVv HR
 go_wp2_with fail
 generalize w3.alloc (.cells #[.int .i64 0,.int .i64 0] 27)=W3 at*;refine (guRoom_nil W3).mono ?_;rintro e w4 ⟨rfl,hb⟩;have hbb:=hb.alloc hb.size (.cells #[.int .i64 (0),.int .i64 (0)] 27);replace B:=LH (B.out.trans (hbb.mono B.out.size));have hVv:=fun g=>VolB.back (g:=g) hV.out (Chg.of_below hbb No) id
 replace hVB:=LH (fun g hg=>hVB.out g (hVv g hg));replace hV:=LH (hV.out.after hbb);replace Xp4:=LH (Xp4.out.keep hbb);have c0:=Xp4.out.c0;have c1:=Xp4.out.c1;have l1:=Xp4.out.lt;clear hb hbb hVv
 go_wp2_with fail
 have hcs:=P.cells_areas (w4.alloc (.cells #[.int .i64 0,.int .i64 0] 27)) [(62,48),(0,0)] (by decide);rw[World.size_alloc,show ([(62,48),(0,0)]:List P.Ar).length=2 from rfl,show (P.arCells [(62,48),(0,0)]).toArray=#[.int .i64 62,.int .i64 48,.int .i64 0,.int .i64 0] from rfl] at hcs;have hgn:=guNew_ok v hcs (by decide);obtain⟨n4,hn4⟩:∃ n,n=w4.heap.size:=⟨_,rfl⟩;have hW4s:(w4.alloc (.cells #[.int .i64 0,.int .i64 0] 27)).heap.size=n4+1:=by rw[World.size_alloc,hn4]
 rw[← hn4] at hgn ⊢;clear hcs c0 c1 l1;generalize w4.alloc (.cells #[.int .i64 0,.int .i64 0] 27)=W4 at*;replace hW4s:=LH hW4s;replace hn4:=LH hn4;refine hgn.mono ?_;clear hgn;rintro e w5 ⟨k,rfl,hkk,hK,hb⟩;have hkw:=LH (show w.heap.size≤k from Nat.le_trans B.out.size (Nat.le_trans (by simp) hkk));clear hkk;have hbb:Below W4.heap.size W4 w5:=((Below.refl _ _).alloc (Nat.le_refl _) _).trans (hb.mono (by simp));replace B:=LH (B.out.trans (hbb.mono B.out.size));have hVv:=fun g=>VolB.back (g:=g) hV.out (Chg.of_below hbb No) id
 replace hVB:=LH (fun g hg=>hVB.out g (hVv g hg));replace hV:=LH (hV.out.after hbb);replace Xp4:=LH (Xp4.out.keep hbb);rw[show ([(62,48),(0,0)]:List P.Ar).filter P.cntB=[(62,48)] from rfl] at hK;replace hK:=LH hK;have c0:=Xp4.out.c0;have c1:=Xp4.out.c1;have l1:=Xp4.out.lt;clear hb hbb hVv
 go_wp2_with fail
 refine (guAreas_ok hK.out (by decide)).mono ?_;rintro e w6 ⟨g6,c6,rfl,hb⟩;replace B:=LH (B.out.trans (hb.mono B.out.size));have hVv:=fun g=>VolB.back (g:=g) hV.out (Chg.of_below hb No) id
 replace hVB:=LH (fun g hg=>hVB.out g (hVv g hg));replace hV:=LH (hV.out.after hb);replace hK:=LH (hK.out.after hb);clear hb hVv c0 c1 l1 Xp4
 go_wp2_with fail
 refine (D.sector_ok _ _).mono ?_;rintro e w7 ⟨rfl,hs,hb⟩
 have hsn:∀ g,g=w6.heap.size→¬ VolB w7 v g:=fun g e hB=>by
  have:=VolB.lt hV.out (VolB.back hV.out (Chg.of_below hb No) id hB);omega
 replace B:=LH (B.out.trans (hb.mono B.out.size));have hVv:=fun g=>VolB.back (g:=g) hV.out (Chg.of_below hb No) id
 replace hVB:=LH (fun g hg=>hVB.out g (hVv g hg));replace hV:=LH (hV.out.after hb);replace hK:=LH (hK.out.after hb);have hw:=guWrite_ok hK.out hV.out hs hsn 0 1 (D.sec_length _) (by omega) (by omega) (by simp) (by simp);rw[newL_one 0 (D.sec_length _)] at hw;replace hw:=LH hw;clear hb hVv hs hsn
 go_wp2_with fail
 refine hw.out.mono ?_;rintro e w8 (⟨-,rfl,hV8,hK8,hC,hN⟩|⟨h,-⟩)
 rotate_left
 ·exact absurd h (by decide)
 have hVB8:∀ g,VolB w8 v g→w.heap.size≤g:=fun g hg=>(hN g hg).elim (hVB.out g) (fun e=>Nat.le_trans B.out.size e)
 replace B:=LH (B.out.trans (hC.below B.out.size (fun g hg hB=>by have:=hVB.out g hB;omega)));obtain⟨KS,hKS⟩:∃ KS,KS=([]++[(0,D.sec [97])]:List (Nat×List UInt8)):=⟨_,rfl⟩;rw[← hKS] at hV8;have hKl:KS.length=1:=by rw[hKS];rfl
 replace hKS:=LH hKS;replace hKl:=LH hKl;replace hV:=LH hV8;replace hK:=LH hK8;replace hVB:=LH hVB8;clear hV8 hK8 hVB8 hC hN hw
 go_wp2_with fail
 refine (D.sector_ok _ _).mono ?_;rintro e w9 ⟨rfl,hs,hb⟩
 have hsn:∀ g,g=w8.heap.size→¬ VolB w9 v g:=fun g e hB=>by
  have:=VolB.lt hV.out (VolB.back hV.out (Chg.of_below hb No) id hB);omega
 replace B:=LH (B.out.trans (hb.mono B.out.size));have hVv:=fun g=>VolB.back (g:=g) hV.out (Chg.of_below hb No) id
 replace hVB:=LH (fun g hg=>hVB.out g (hVv g hg));replace hV:=LH (hV.out.after hb);replace hK:=LH (hK.out.after hb);have hw:=guWrite_ok hK.out hV.out hs hsn 2 1 (D.sec_length _) (by omega) (by omega) (by rw[hKl.out];omega) (by simp);replace hw:=LH hw;clear hb hVv hs hsn
 go_wp2_with fail
 refine hw.out.mono ?_;rintro e w10 (⟨h,-⟩|⟨-,rfl,hV8,hK8,hC⟩)
 ·exact absurd h (by decide)
 have hkl:w.heap.size≤k:=hkw.out;replace B:=LH (B.out.trans (hC.below B.out.size (fun g hg hB=>hB.elim (fun e=>by have:=hvl.out;omega) (fun e=>by omega))));replace hV:=LH hV8;replace hK:=LH hK8;clear hV8 hK8 hC hw hVB
 go_wp2_with fail
 refine (D.sector_ok _ _).mono ?_;rintro e w11 ⟨rfl,-,hb⟩;replace B:=LH (B.out.trans (hb.mono B.out.size));replace hV:=LH (hV.out.after hb);replace hK:=LH (hK.out.after hb);clear hb
 go_wp2_with fail
 refine (guWrite_ro hK.out hV.out 0 _ _ _).mono ?_;rintro e w12 ⟨rfl,rfl⟩;have ck:w11.cell? ⟨k,0,none⟩=some (.pointer (some ⟨v,0,none⟩)):=by obtain⟨g,cap,h1,_⟩:=hK.out;exact cell_of h1 0
 have hrd:=LH (voRead_ok hV.out 0 1 (by omega) (fun p hp=>by
  have:∀ p,p<50→bitB (List.replicate 7 0) p=false:=by decide +kernel
  exact this p hp))
 go_wp2_with fail
 refine hrd.out.mono ?_;rintro e w13 ⟨u,rfl,hu,hb⟩;rw[show readL KS 0 1=D.sec [97] by rw[hKS.out];kernel_rfl] at hu
 have hub:Bytes w13 (fun _=>True) u (D.sec [97]):=by
  show Cells _ _ _ (D.sec [97]).length 1 _;rw[D.sec_length];exact (Cells.own hu).mono (fun _ _ _=>trivial)
 replace B:=LH (B.out.trans (hb.mono B.out.size));replace hV:=LH (hV.out.after hb);replace hK:=LH (hK.out.after hb);replace hub:=LH hub;have hua:∃ ua un uc,u=.slice ua un uc:=by obtain⟨ua,uc,e,_⟩:=hub.out.shape;exact⟨_,_,_,e⟩
 obtain⟨ua,un,uc,rfl⟩:=hua;clear hb hu hrd ck;have ck:w13.cell? ⟨k,0,none⟩=some (.pointer (some ⟨v,0,none⟩)):=by obtain⟨g,cap,h1,_⟩:=hK.out;exact cell_of h1 0
 replace ck:=LH ck
 go_wp2_with fail
 have hdr:∀ w3,Chg No w13.drew w3→Chg No w13 w3:=fun w3 h=>⟨h.os,h.tape,h.output,h.size,h.block⟩
 replace hdr:=LH hdr;have hkc:=LH (fun w3 (h:Chg No w13.drew w3)=>(((hdr.out _ h).cell (p:=⟨k,0,none⟩) (cell_lt ck.out) id).trans ck.out));have hkt:=LH (fun w3 (h:Chg No w13.drew w3)=>guTripped_ok (hK.out.after (hdr.out _ h).no));have hvr:=LH (fun w3 (h:Chg No w13.drew w3)=>voReadOnly_ok (hV.out.after (hdr.out _ h).no));refine RA.rt (Chg No) [1,1,1,1,1,1,1,1,1,1,1,1,4,1,1,1,1,1,1,4,1,1,1,1,1,1,1,1,3,1,1,1,1,1,4,1,1,1,1,4,1,1,1,1] [] (fun _=>True) trivial (fun _=>Chg.refl _ _) (fun _ _ _ h k=>h.trans k) (h:=?_);intro cx
 repeat (first|refine RA.qq (h:=?_)|refine RA.eq true (by kernel_rfl) (by rfl) (by rfl) (by rfl) (by rfl) ?_|refine RA.pt (by kernel_rfl) (by rfl) (by rfl) (by rfl) ?_|refine RA.es true (by kernel_rfl) (by rfl) (by rfl) (by rfl) (by simp) ?_|refine RA.nt (by kernel_rfl) (by rfl) (by rfl) ?_)
 refine RA.kc (P:=prog) [.pointer (some ⟨k,0,none⟩)] (.bool true) (fun _=>True) (fun _ _=>by go_simp) (by kernel_rfl) (by rfl) (by rfl) (by kernel_rfl) (fun _ _ _ h=>h) rfl (fun w3 hp hH=>(hkt.out w3 hp.1).mono (by rintro e w4 ⟨rfl,rfl⟩;exact⟨rfl,Chg.refl _ _,trivial⟩)) ?_
 repeat (first|refine RA.qq (h:=?_)|refine RA.eq true (by kernel_rfl) (by rfl) (by rfl) (by rfl) (by rfl) ?_|refine RA.pt (by kernel_rfl) (by rfl) (by rfl) (by rfl) ?_|refine RA.es true (by kernel_rfl) (by rfl) (by rfl) (by rfl) (by simp) ?_|refine RA.nt (by kernel_rfl) (by rfl) (by rfl) ?_)
 refine RA.fk prog (k) (0) (h:=?_);refine RA.lk prog (.pointer (some ⟨v,0,none⟩)) (hc:=fun w3 hp=>by exact hkc.out _ hp.1) (h:=?_);refine RA.kc (P:=prog) [.pointer (some ⟨v,0,none⟩)] (.bool true) (fun _=>True) (fun _ _=>by go_simp) (by kernel_rfl) (by rfl) (by rfl) (by kernel_rfl) (fun _ _ _ h=>h) rfl (fun w3 hp hH=>(hvr.out w3 hp.1).mono (by rintro e w4 ⟨rfl,rfl⟩;exact⟨rfl,Chg.refl _ _,trivial⟩)) ?_
 repeat (first|refine RA.qq (h:=?_)|refine RA.eq true (by kernel_rfl) (by rfl) (by rfl) (by rfl) (by rfl) ?_|refine RA.pt (by kernel_rfl) (by rfl) (by rfl) (by rfl) ?_|refine RA.es true (by kernel_rfl) (by rfl) (by rfl) (by rfl) (by simp) ?_|refine RA.nt (by kernel_rfl) (by rfl) (by rfl) ?_)
 refine RA.cv (by kernel_rfl) (by rfl) (by rfl) (fun w3 hp=>by exact run_string _ _ _ _ underlying42 underlying5 underlying9 _ _ _ (hub.out.chg (hdr.out _ hp.1) (fun _ _ _=>id))) ?_;refine RA.qc (P:=prog) [.string ⟨#[97]⟩] (fun v w3=>∃ g,v=.slice (some ⟨g,0,none⟩) 64 64∧Bytes w3 (fun _=>True) v (D.sec [97])) (fun _ _=>True) (fun _ _=>by go_simp) (by kernel_rfl) (by rfl) (by rfl) (by kernel_rfl) (fun v a b h h2=>by obtain⟨g,h3,h4⟩:=h2;exact⟨g,h3,h4.chg h (fun _ _ _=>id)⟩) (fun _ _ _ _ h=>h) rfl (fun w3 hp hH=>(D.sector_ok _ _).mono (by rintro e w4 ⟨rfl,h1,h2⟩;exact⟨_,rfl,Chg.of_below h2 _,⟨_,rfl,h1.mono (fun _ _ _=>trivial)⟩,trivial⟩)) (fun u=>?_);refine RA.cv (by kernel_rfl) (by rfl) (by rfl) (fun w3 hp=>by obtain⟨g,hg,hb⟩:=hp.fact 0 rfl (by kernel_rfl);exact run_string _ _ _ _ underlying42 underlying5 underlying9 _ _ _ hb) ?_
 repeat (first|refine RA.qq (h:=?_)|refine RA.eq true (by kernel_rfl) (by rfl) (by rfl) (by rfl) (by rfl) ?_|refine RA.pt (by kernel_rfl) (by rfl) (by rfl) (by rfl) ?_|refine RA.es true (by kernel_rfl) (by rfl) (by rfl) (by rfl) (by simp) ?_|refine RA.nt (by kernel_rfl) (by rfl) (by rfl) ?_)
 refine RA.kc (P:=prog) [.pointer none] (.bool false) (fun _=>True) (fun _ _=>by go_simp) (by kernel_rfl) (by rfl) (by rfl) (by kernel_rfl) (fun _ _ _ h=>h) rfl (fun w3 hp hH=>(guTripped_nil _).mono (by rintro e w4 ⟨rfl,rfl⟩;exact⟨rfl,Chg.refl _ _,trivial⟩)) ?_
 repeat (first|refine RA.qq (h:=?_)|refine RA.eq true (by kernel_rfl) (by rfl) (by rfl) (by rfl) (by rfl) ?_|refine RA.pt (by kernel_rfl) (by rfl) (by rfl) (by rfl) ?_|refine RA.es true (by kernel_rfl) (by rfl) (by rfl) (by rfl) (by simp) ?_|refine RA.nt (by kernel_rfl) (by rfl) (by rfl) ?_)
 refine RA.kc (P:=prog) [.pointer none] (.slice none 0 0) (fun _=>True) (fun _ _=>by go_simp) (by kernel_rfl) (by rfl) (by rfl) (by kernel_rfl) (fun _ _ _ h=>h) rfl (fun w3 hp hH=>(guAreas_nil _).mono (by rintro e w4 ⟨rfl,rfl⟩;exact⟨rfl,Chg.refl _ _,trivial⟩)) ?_;refine RA.vk prog (.int .i64 0) (h:=?_)
 repeat (first|refine RA.qq (h:=?_)|refine RA.eq true (by kernel_rfl) (by rfl) (by rfl) (by rfl) (by rfl) ?_|refine RA.pt (by kernel_rfl) (by rfl) (by rfl) (by rfl) ?_|refine RA.es true (by kernel_rfl) (by rfl) (by rfl) (by rfl) (by simp) ?_|refine RA.nt (by kernel_rfl) (by rfl) (by rfl) ?_)
 refine RA.RA.done rfl (fun w14 hR hF hH=>?_);clear hF hH;simp only[RA.put,List.foldr_cons,List.foldr_nil,cx,Act.put,List.setIfInBounds_toArray,List.set_cons_succ,List.set_cons_zero]
 try simp only[Bool.not_true]
 try simp only[Bool.not_false]
 have hfin:=LH (B.out.trans ((hdr.out _ hR).no.mono B.out.size));clear hR;go_wp2;go_ret;exact⟨rfl,hfin.out⟩
end Go.Proofs.YthmcbgidehjlbaaGreat.Fd
/-
  Plain laws: what is read of what was written; what was written of a volume's marks; areas that meet. No condition beyond what each theorem names.
-/
namespace Go.Proofs.YthmcbgidehjlbaaGreat.Fd
open Go Go.RowKit K
theorem bitB_wroteL:∀ (ks:List (Nat×List UInt8)) (L:List UInt8) (i:Nat),L.length=7→(∀ k ∈ ks,k.1<50)→bitB (wroteL L ks) i=(bitB L i || ks.any (fun k=>decide (i=k.1)))
 | [],L,i,_,_=>by simp[wroteL]
 | k::ks,L,i,hL,hk=>by
  have h1:=hk k (List.mem_cons_self ..);have ih:=bitB_wroteL ks (setL L k.1) i (by rw[setL_length];exact hL) (fun x hx=>hk x (List.mem_cons_of_mem _ hx));rw[show wroteL L (k::ks)=wroteL (setL L k.1) ks from rfl,ih,bitB_set (by omega),List.any_cons,Bool.or_assoc]
theorem bitB_zero (i:Nat):bitB (List.replicate 7 0) i=false:=by
 have h:(List.replicate 7 (0:UInt8)).getD (i / 8) 0=0:=by
  generalize (7:Nat)=n;rw[List.getD,List.getElem?_replicate];split<;>rfl
 unfold bitB;rw[h];simp
theorem anyB_wrote (ks:List (Nat×List UInt8)) (hk:∀ k ∈ ks,k.1<50) (f c:Nat):anyB (wroteL (List.replicate 7 0) ks) f c=ks.any (fun k=>decide (f≤k.1) && decide (k.1 - f<c)):=by
 rw[Bool.eq_iff_iff];unfold anyB;rw[List.any_eq_true,List.any_eq_true];constructor
 ·rintro⟨i,hi,h⟩;unfold hitB at h;rw[bitB_wroteL _ _ _ (List.length_replicate) hk,bitB_zero,Bool.false_or] at h;simp only[Bool.and_eq_true,List.any_eq_true,decide_eq_true_eq] at h;obtain⟨⟨⟨k,hk1,rfl⟩,h2⟩,h3⟩:=h;exact⟨k,hk1,by simp[h2,h3]⟩
 ·rintro⟨k,hk1,h⟩;refine⟨k.1,List.mem_range.2 (hk k hk1),?_⟩;unfold hitB;rw[bitB_wroteL _ _ _ (List.length_replicate) hk,bitB_zero,Bool.false_or];simp only[Bool.and_eq_true,List.any_eq_true,decide_eq_true_eq] at h ⊢;exact⟨⟨⟨k,hk1,rfl⟩,h.1⟩,h.2⟩
end Go.Proofs.YthmcbgidehjlbaaGreat.Fd
/-
  priorylaw22.GuardRoom answers true. No condition beyond what each theorem names.
-/
namespace Go.Proofs.YthmcbgidehjlbaaGreat.Fd
open _root_.Go.Proofs.Tryz
open Go Go.RowKit K
set_option maxRecDepth 100000
set_option maxHeartbeats 16000000
theorem hdr_area {A M:List UInt8}(w:World):(Instr.field 39 (.agg (hdrL A M).toArray) 0).run prog w=.ok (.agg #[.int .i64 10,.int .i64 100]) w:=by
 have h:(part 27 (hdrL A M).toArray 0).run prog w=.ok (.agg #[.int .i64 10,.int .i64 100]) w:=by
  have a3:=Tryz.isAgg27;have z3:=Tryz.sizeOf27;have e:(hdrL A M).toArray.extract 0 2=#[.int .i64 10,.int .i64 100]:=by simp[hdrL]
  unfold part;simp only[Sem.run_bind,a3,z3,Result.andThen_ok,if_true,Nat.zero_add,e];rfl
 unfold Instr.field;simp only[Sem.run_bind,run_underlying underlying39,Result.andThen_ok];exact h
def atK (ls:List Int):List (Nat×List UInt8):=ls.map fun k=>((k % 50).toNat,D.sec [120])
def usedB (ls:List Int) (f c:Int):Bool:=ls.any fun k=>decide (f≤k % 50) && decide (wrap64 (k % 50 - f)<c)
theorem used_any {ls:List Int}{f c:Int}(hf:0≤f∧f≤50) (hc:48≤c∧c≤50):anyB (wroteL (List.replicate 7 0) (atK ls)) f.toNat c.toNat=usedB ls f c:=by
 rw[anyB_wrote _ (fun k hk=>by
  obtain⟨x,_,rfl⟩:=List.mem_map.1 hk;show (x % 50).toNat<50;omega)]
 unfold atK usedB;rw[List.any_map];congr 1
 funext k
 simp only[Function.comp];have e:wrap64 (k % 50 - f)=k % 50 - f:=by unfold wrap64;omega
 rw[e,Bool.eq_iff_iff];simp only[Bool.and_eq_true,decide_eq_true_eq];omega
theorem guardRoom_ok {w:World}{a:Option Addr}{len cap:Nat}{ls:List Int}(hc:Cells w (fun _=>True) (.slice a len cap) len 1 (ls.map (.int .i64))) (f c:Int):Calls prog 4 #[.slice a len cap,.int .i64 f,.int .i64 c] w fun e w'=>e=.returned (.bool true)∧Below w.heap.size w w':=by
 have haw:=LH glAwake_ok;by_cases h10:10<len
 ·have h10':(10:Int)<len:=by omega
  go_enter func4,ntmps4
  go_wp2_with fail
  refine (haw.out _).mono ?_;rintro e w1 ⟨rfl,hb⟩;go_wp2;go_ret;exact⟨rfl,hb⟩
 have h10':¬ (10:Int)<len:=by omega
 have hll:ls.length=len:=by have:=hc.1;simpa using this
 have hae:=P.area_eql;have hag:=P.area_guard;have hf:=LH (glFresh_ok w)
 have hcc:∀ w3,Below w.heap.size w w3→∀ i (hi:i<len),∃ g o,a=some ⟨g,o,none⟩∧w3.cell? ⟨g,o+i,none⟩=some (.int .i64 (ls[i]'(by omega))):=fun w3 hb i hi=>by
  obtain⟨g,o,c',hv,_,_,_,hg,hcl⟩:=Cells.at hc (by omega);simp only[Value.slice.injEq] at hv;obtain⟨rfl,-,-⟩:=hv;refine⟨g,o,rfl,?_⟩;have h1:=hcl i (.int .i64 ls[i]) (by simp[hi,hll]);exact (hb.cell (p:=⟨g,o+i,none⟩) (by simpa using hg)).trans h1
 replace hcc:=LH hcc;replace hll:=LH hll;clear hc;go_enter func4,ntmps4
 go_wp2_with fail
 refine hf.out.mono ?_;rintro e w1 ⟨d,v,m,rfl,hvl,hml,hV,hVB,B⟩;have hS1:∃ ks,ks=atK (ls.take 0)∧VolAt w1 v m (List.replicate 7 0) ks false∧(∀ g,VolB w1 v g→w.heap.size≤g)∧Below w.heap.size w w1:=⟨[],by simp[atK],hV,hVB,B⟩;replace hS1:=LH hS1;clear hf hml hV hVB B hvl;go_wp2
 go_loopg [10,11] len (fun g u ix wr=>∃ i:Nat,i+g=len∧ix=.int .i64 i∧(∃ ub,u=.bool ub∧Hid (ub=usedB (ls.take i) f c))∧Hid (∃ ks,ks=atK (ls.take i)∧VolAt wr v m (List.replicate 7 0) ks false∧(∀ g,VolB wr v g→w.heap.size≤g)∧Below w.heap.size w wr))
 case atStart=>exact⟨0,by omega,rfl,⟨false,rfl,by show false=usedB _ _ _;simp[usedB]⟩,hS1.out⟩
 case round=>
  obtain⟨i,hig,rfl,⟨ub,rfl,hub⟩,HS⟩:=hrel;obtain⟨ks,hks,hV,hVB,B⟩:=HS.out;clear hS1;by_cases hlt:i<len
  ·obtain⟨g1,rfl⟩:∃ j,gk=j+1:=⟨gk - 1,by omega⟩;have hlI:(i:Int)<len:=by omega
   obtain⟨ag,ao,rfl,hcell⟩:=hcc.out wr B i hlt;obtain⟨x,hx⟩:∃ x,x=ls[i]'(by have:=hll.out;omega):=⟨_,rfl⟩;rw[← hx] at hcell;have hkl:ks.length=i:=by rw[hks,atK,List.length_map,List.length_take,hll.out];omega
   replace hx:=LH hx;replace hks:=LH hks;replace hV:=LH hV;replace hVB:=LH hVB;replace B:=LH B;replace hkl:=LH hkl;clear HS
   go_wp2_with fail
   refine (D.round_ok x 50 (by omega) _).mono ?_;rintro e w2 ⟨rfl,rfl⟩;obtain⟨K,hK⟩:∃ K:Nat,x % 50=K:=⟨(x % 50).toNat,by omega⟩;have hK50:K<50:=by omega
   rw[hK]
   go_wp2_with fail
   refine (D.sector_ok _ _).mono ?_;rintro e w3 ⟨rfl,hs,hb⟩
   have hsn:∀ g,g=wr.heap.size→¬ VolB w3 v g:=fun g e hB=>by
    have:=VolB.lt hV.out (VolB.back hV.out (Chg.of_below hb No) id hB);omega
   replace B:=LH (B.out.trans (hb.mono B.out.size));have hVv:=fun g=>VolB.back (g:=g) hV.out (Chg.of_below hb No) id
   replace hVB:=LH (fun g hg=>hVB.out g (hVv g hg));replace hV:=LH (hV.out.after hb);have hw:=voWrite_ok hV.out hs hsn K 1 (D.sec_length _) (by omega) (by omega) (by rw[hkl.out];omega);rw[newL_one K (D.sec_length _)] at hw;replace hw:=LH hw;clear hb hVv hs hsn hcell
   go_wp2_with fail
   refine hw.out.mono ?_;rintro e w4 ⟨rfl,hV4,hC,hN⟩;have hVB4:∀ g,VolB w4 v g→w.heap.size≤g:=fun g hg=>(hN g hg).elim (hVB.out g) (fun e=>Nat.le_trans B.out.size e)
   have hSn:∃ ks,ks=atK (ls.take (i+1))∧VolAt w4 v m (List.replicate 7 0) ks false∧(∀ g,VolB w4 v g→w.heap.size≤g)∧Below w.heap.size w w4:=⟨_,by
    rw[hks.out,List.take_add_one,List.getElem?_eq_getElem (by have:=hll.out;omega),← hx.out];simp only[atK,Option.toList,List.map_append,List.map_cons,List.map_nil];rw[hK];rfl,hV4,hVB4,B.out.trans (hC.below B.out.size (fun g hg hB=>by have:=hVB.out g hB;omega))⟩
   have hun:usedB (ls.take (i+1)) f c=(ub || (decide (f≤(K:Int)) && decide (wrap64 (K - f)<c))):=by
    rw[hub.out,List.take_add_one,List.getElem?_eq_getElem (by have:=hll.out;omega),← hx.out];simp only[usedB,Option.toList,List.any_append,List.any_cons,List.any_nil,Bool.or_false,hK]
   replace hSn:=LH hSn;replace hun:=LH hun;clear hV4 hVB4 hC hN hw hV hVB B hks;cases ub with
   | true=>
    go_wp2;go_roundg g1
    case measure=>omega
    case rel=>exact⟨i+1,by omega,by go_num,⟨_,rfl,by show _=usedB _ _ _;rw[hun.out];rfl⟩,hSn.out⟩
   | false=>
    by_cases hfk:f≤(K:Int)
    ·go_wp2;go_roundg g1
     case measure=>omega
     case rel=>exact⟨i+1,by omega,by go_num,⟨_,rfl,by show _=usedB _ _ _;rw[hun.out];simp[hfk]⟩,hSn.out⟩
    ·go_wp2;go_roundg g1
     case measure=>omega
     case rel=>exact⟨i+1,by omega,by go_num,⟨_,rfl,by show _=usedB _ _ _;rw[hun.out];simp;omega⟩,hSn.out⟩
  ·obtain rfl:gk=0:=by omega
   obtain rfl:i=len:=by omega
   rw[List.take_of_length_le (by have:=hll.out;omega)] at hks hub;subst hks;have hR:=guRoom_ok hV f c;obtain⟨W,hW⟩:∃ W,W=wroteL (List.replicate 7 0) (atK ls):=⟨_,rfl⟩;rw[← hW] at hR;obtain⟨⟨rx,ry⟩,hrA⟩:∃ A,A=roomA W f c:=⟨_,rfl⟩;obtain⟨rE,hrE⟩:∃ E,E=roomE W f c:=⟨_,rfl⟩;rw[← hrA,← hrE] at hR;dsimp only at hR;obtain⟨⟨ix,iy⟩,hiA⟩:∃ A,A=P.insideA (60,50) f c:=⟨_,rfl⟩;obtain⟨IB,hIB⟩:∃ B,B=P.insideB (60,50) f c:=⟨_,rfl⟩;have hua:=fun (hb:true=P.insideB (60,50) f c)=>(used_any (ls:=ls) (f:=f) (c:=c) (by have:=insideB_of hb.symm;omega) (by have:=insideB_of hb.symm;omega))
   rw[← hub.out,← hW] at hua;have hin:=LH (fun w3=>P.inside_at (x:=60) (y:=50) (p:=f) (q:=c) hiA.symm hIB.symm w3);have hsp:=LH (fun w3=>P.split_at (x:=10) (y:=100) (f:=10) (c:=50) (g:=60) (d:=50) (b:=true) (by decide) (by decide) (by decide) w3);replace B:=LH B;replace hW:=LH hW;replace hrA:=LH hrA;replace hrE:=LH hrE;replace hiA:=LH hiA;replace hIB:=LH hIB;replace hua:=LH hua;replace hR:=LH hR;clear HS hV hVB hcc hig hlt
   go_wp2_with fail
   refine hR.out.mono ?_;rintro e w2 ⟨rfl,hb⟩;have hbb:=hb.alloc hb.size (.cells #[.int .i64 (rx),.int .i64 (ry)] 27);replace B:=LH (B.out.trans (hbb.mono B.out.size));have Xa:=LH (P.box_new w2 (rx) (ry));clear hb hbb hR
   go_wp2_with fail
   obtain⟨a,ha⟩:∃ a,a=w2.heap.size:=⟨_,rfl⟩;rw[← ha] at Xa ⊢;clear ha;generalize w2.alloc (.cells #[.int .i64 rx,.int .i64 ry] 27)=W2 at*;refine (glHeader_ok W2).mono ?_;rintro e w3 ⟨A,M,-,-,rfl,hb⟩;obtain⟨H,hH⟩:∃ H,H=(hdrL A M).toArray:=⟨_,rfl⟩;have hha:=hdr_area (A:=A) (M:=M);rw[← hH] at hha ⊢;replace hH:=LH hH;replace B:=LH (B.out.trans (hb.mono B.out.size));replace Xa:=LH (Xa.out.keep hb);clear hb
   go_wp2_with fail
   refine (hsp.out _).mono ?_;rintro e w4 ⟨rfl,hb⟩;have hbb:=((hb.alloc hb.size (.cells #[.int .i64 10,.int .i64 50] 27))).alloc (Nat.le_trans hb.size (by simp)) (.cells #[.int .i64 60,.int .i64 50] 27);replace B:=LH (B.out.trans (hbb.mono B.out.size));replace Xa:=LH (Xa.out.keep hbb);have xd:=P.box_new (w4.alloc (.cells #[.int .i64 10,.int .i64 50] 27)) 60 50;simp only[World.size_alloc] at xd;have Xd:=LH xd;have c0:=xd.c0;have c1:=xd.c1;have l1:=xd.lt;clear hb hbb hha xd
   go_wp2_with fail
   clear c0 c1 l1;obtain⟨n4,hn4⟩:∃ n,n=w4.heap.size+1:=⟨_,rfl⟩;rw[← hn4] at Xd ⊢;clear hn4;generalize (w4.alloc (.cells #[.int .i64 10,.int .i64 50] 27)).alloc (.cells #[.int .i64 60,.int .i64 50] 27)=W4 at*;refine (hin.out W4).mono ?_;rintro e w5 ⟨rfl,hb⟩;have hbb:=hb.alloc hb.size (.cells #[.int .i64 (ix),.int .i64 (iy)] 27);replace B:=LH (B.out.trans (hbb.mono B.out.size));replace Xa:=LH (Xa.out.keep hbb);have Xi:=LH (P.box_new w5 (ix) (iy));clear hb hbb;cases IB with
   | false=>
    have hE3:rE=3:=by rw[hrE.out];unfold roomE;rw[if_pos hIB.out.symm]
    have hA0:rx=0∧ry=0:=by
     have h:roomA W f c=(0,0):=by unfold roomA;rw[← hrE.out,hE3];rfl
     have h2:=hrA.out.trans h
     simpa using h2
    obtain⟨rfl,rfl⟩:=hA0;subst hE3;have c0:=Xa.out.c0;have c1:=Xa.out.c1;have l1:=Xa.out.lt
    go_wp2_with fail
    refine (haw.out _).mono ?_;rintro e w6 ⟨rfl,hb⟩;have hfin:=LH (B.out.trans (hb.mono B.out.size));clear hb;go_wp2;go_ret;exact⟨rfl,hfin.out⟩
   | true=>
    have hu:=hua.out hIB.out;cases ub with
    | true=>
     have hE3:rE=8:=by rw[hrE.out];unfold roomE;rw[if_neg (by rw[← hIB.out];decide),if_pos hu]
     have hA0:rx=0∧ry=0:=by
      have h:roomA W f c=(0,0):=by unfold roomA;rw[← hrE.out,hE3];rfl
      have h2:=hrA.out.trans h
      simpa using h2
     obtain⟨rfl,rfl⟩:=hA0;subst hE3;have c0:=Xa.out.c0;have c1:=Xa.out.c1;have l1:=Xa.out.lt
     go_wp2_with fail
     refine (haw.out _).mono ?_;rintro e w6 ⟨rfl,hb⟩;have hfin:=LH (B.out.trans (hb.mono B.out.size));clear hb;go_wp2;go_ret;exact⟨rfl,hfin.out⟩
    | false=>
     have hE3:rE=0:=by rw[hrE.out];unfold roomE;rw[if_neg (by rw[← hIB.out];decide),if_neg (by rw[hu];decide)]
     have hA0:rx=ix∧ry=iy:=by
      have h:roomA W f c=(60+f,c):=by unfold roomA;rw[← hrE.out,hE3];rfl
      have h2:=(hrA.out.trans h).trans ((insideA_of hIB.out.symm).symm.trans hiA.out.symm)
      simpa using h2
     obtain⟨rfl,rfl⟩:=hA0;subst hE3;have c0:=Xa.out.c0;have c1:=Xa.out.c1;have l1:=Xa.out.lt;have d0:=Xi.out.c0;have d1:=Xi.out.c1;have l2:=Xi.out.lt
     go_wp2_with fail
     refine (haw.out _).mono ?_;rintro e w6 ⟨rfl,hb⟩;have hfin:=LH (B.out.trans (hb.mono B.out.size));clear hb;go_wp2;go_ret;exact⟨rfl,hfin.out⟩
end Go.Proofs.YthmcbgidehjlbaaGreat.Fd

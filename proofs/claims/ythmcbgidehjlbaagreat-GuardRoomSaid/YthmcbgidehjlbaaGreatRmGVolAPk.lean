/-
  Texts of this claim, laid together by a program of mine. No condition beyond what each theorem names.
-/
import Derived.Test.YthmcbgidehjlbaaGreatRmGVFormat
import Derived.ChangeKeysEq
import Derived.RangeFuncNested
import Derived.RangeFuncBound
import Derived.RangeFuncCalls
import Derived.RangeFuncLeaves
import Derived.RangeFuncFrom
import Derived.RangeFuncKeeps
import Derived.Shelf.Abstract
import Derived.WalkKit
import Derived.OwnWalkIn
import Derived.TacticsInMore
import Derived.LoopNIn
import Derived.LoopIn
/-
  volume: Data, Size, within, ReadOnly, May, Latch. No condition beyond what each theorem names.
-/
namespace Go.Proofs.YthmcbgidehjlbaaGreat.Fd
open _root_.Go.Proofs.Tryz
open Go Go.RowKit K
set_option maxRecDepth 100000
set_option maxHeartbeats 4000000
theorem run_area_count (x y:Int) (w:World):(Instr.field 27 (.agg #[.int .i64 x,.int .i64 y]) 1).run prog w=.ok (.int .i64 y) w:=by
 have u3:=underlying3;have a3:=Tryz.isAgg3;have z3:=Tryz.sizeOf3;unfold Instr.field;simp only[Sem.run_bind,run_underlying underlying27,Result.andThen_ok];have h:=run_part_plain (P:=prog) (w:=w) (e:=3) (xs:=#[.int .i64 x,.int .i64 y]) (off:=1) (v:=.int .i64 y) (by kernel_rfl) rfl;exact h
section
variable {w w':World}{v m:Nat}{L:List UInt8}{ks:List (Nat×List UInt8)}{lat:Bool}
def VolT (t:TypeId):Prop:=t=104∨t=111∨t=5∨t=195
theorem VolAt.keep (h:VolAt w v m L ks lat) (hk:∀ (g:Nat) (cs:Array Value) (t:TypeId),VolT t→w.heap[g]?=some (.cells cs t (0,0))→w'.heap[g]?=w.heap[g]?):VolAt w' v m L ks lat:=by
 obtain⟨⟨cs,pv,h1,h2,h3,h4,h5,h6,h7,h8,h9,vs,h10,h11,h12⟩,hm,hf,hp⟩:=h;refine⟨⟨cs,pv,(hk _ _ _ (.inl rfl) h1).trans h1,h2,h3,h4,h5,h6,h7,h8,h9,vs,h10,owns_keep h11 (fun g hg=>?_),fun j k u hj hu=>⟨(h12 j k u hj hu).1,owns_keep (h12 j k u hj hu).2 (fun g hg=>?_)⟩⟩,hm.keep (fun g _ ⟨cs,t,ht,hc⟩=>hk g cs t (ht.elim (fun e=>.inr (.inr (.inr e))) (fun e=>.inr (.inr (.inl e)))) hc),hf,hp⟩
 ·obtain⟨cur,hc⟩:=own_cells' h11 hg;exact hk _ _ _ (.inr (.inl rfl)) hc
 ·obtain⟨cur,hc⟩:=own_cells' (h12 j k u hj hu).2 hg;exact hk _ _ _ (.inr (.inr (.inl rfl))) hc
theorem VolAt.after (h:VolAt w v m L ks lat) (hb:Below w.heap.size w w'):VolAt w' v m L ks lat:=h.keep (fun g _ _ _ hg=>hb.block g (heap_lt hg))
theorem VolAt.cells (h:VolAt w v m L ks lat):∃ pa pc,w.cell? ⟨v,104,none⟩=some (.int .i64 60)∧w.cell? ⟨v,105,none⟩=some (.int .i64 50)∧w.cell? ⟨v,107,none⟩=some (.pointer (some ⟨m,0,none⟩))∧w.cell? ⟨v,110,none⟩=some (.slice pa ks.length pc)∧w.cell? ⟨v,111,none⟩=some (.bool lat)∧w.frozen? ⟨v,110,none⟩=false∧w.frozen? ⟨v,111,none⟩=false:=by
 obtain⟨⟨cs,pv,h1,h2,h3,h4,h5,h6,h7,h8,h9,vs,h10,h11,h12⟩,hm,hf⟩:=h;obtain⟨pa,pc,rfl,_⟩:=(Cells.own h11).shape;exact⟨pa,pc,(cell_of h1 _).trans h5,(cell_of h1 _).trans h6,(cell_of h1 _).trans h7,(cell_of h1 _).trans h8,(cell_of h1 _).trans h9,frozen_of h1 _,frozen_of h1 _⟩
theorem voData_ok (h:VolAt w v m L ks lat):Calls prog 34 #[.pointer (some ⟨v,0,none⟩)] w fun e w'=>e=.returned (.agg #[.int .i64 60,.int .i64 50])∧Below w.heap.size w w':=by
 obtain⟨n,hn⟩:∃ n,n=w.heap.size:=⟨_,rfl⟩;obtain⟨w1,hw1⟩:∃ w1,w1=w.alloc (.cells #[.int .i64 0,.int .i64 0] 27):=⟨_,rfl⟩;have b1:Below w.heap.size w w1:=by rw[hw1];exact (Below.refl _ _).alloc (Nat.le_refl _) _
 have x1:w1.heap[n]?=some (.cells #[.int .i64 0,.int .i64 0] 27 (0,0)):=by rw[hw1,hn];exact heap_alloc_new w _
 obtain⟨pa,pc,c4,c5,_⟩:=(h.after b1).cells
 have hst:(Instr.storeAt 27 (.pointer (some ⟨n,0,none⟩)) (.agg #[.int .i64 60,.int .i64 50])).run prog w1=.ok () (w1.setRow n #[.int .i64 60,.int .i64 50]):=
  store_struct (x:=[.int .i64 60,.int .i64 50]) x1 (by kernel_rfl) rfl (by simp[Value.oneCell'])
 have x3:(w1.setRow n #[.int .i64 60,.int .i64 50]).heap[n]?=some (.cells #[.int .i64 60,.int .i64 50] 27 (0,0)):=setRow_heap _ _ _ _ _ _ x1;have hbf:Below w.heap.size w (w1.setRow n #[.int .i64 60,.int .i64 50]):=below_setRow b1 (by omega) _;rw[hn] at hst x3 hbf;replace hst:=LH hst;replace x3:=LH x3;replace hbf:=LH hbf;subst hw1;clear h x1 b1 hn;go_enter func34,ntmps34
 go_wp2_with (first|(refine wpList_store rfl 27 _ _ rfl _ _ rfl rfl hst.out ?_)|fail)
 refine bodyPost_ret (results_cell_row results34 _ _ w.heap.size 27 _ (0,0) _ rfl x3.out underlying27 rfl (by kernel_rfl)) rfl ⟨rfl,hbf.out⟩
theorem voSize_ok (h:VolAt w v m L ks lat):Calls prog 23 #[.pointer (some ⟨v,0,none⟩)] w fun e w'=>e=.returned (.int .i64 50)∧Below w.heap.size w w':=by
 have hd:=LH (voData_ok h);have hfl:=run_area_count 60 50;clear h;go_enter func23,ntmps23
 go_wp2_with fail
 refine hd.out.mono ?_;rintro e w1 ⟨rfl,hb⟩;replace hb:=LH hb;go_wp2;go_ret;exact⟨rfl,hb.out⟩
theorem voWithin_ok (h:VolAt w v m L ks lat) (i n:Nat) (hin:i+n≤50):Calls prog 48 #[.pointer (some ⟨v,0,none⟩),.int .i64 i,.int .i64 n] w fun e w'=>e=.returned (.bool true)∧Below w.heap.size w w':=by
 have hs:=LH (voSize_ok h);have h0:(0:Int)≤n:=by omega
 have h1:(0:Int)≤i:=by omega
 have h2:(n:Int)≤50:=by omega
 have h3:(i:Int)≤50 - n:=by omega
 have HV:=LH (fun w1 (hb:Below w.heap.size w w1)=>voSize_ok (h.after hb));clear h;go_enter func48,ntmps48
 go_wp2_with fail
 refine hs.out.mono ?_;rintro e w1 ⟨rfl,hb⟩;have hs2:=LH (HV.out w1 hb);replace hb:=LH hb
 go_wp2_with fail
 refine hs2.out.mono ?_;rintro e w2 ⟨rfl,hb2⟩;have hbb:=LH (hb.out.trans (hb2.mono hb.out.size));clear hb2;go_wp2;go_ret;exact⟨rfl,hbb.out⟩
theorem voReadOnly_ok (h:VolAt w v m L ks lat):Calls prog 22 #[.pointer (some ⟨v,0,none⟩)] w fun e w'=>e=.returned (.bool lat)∧w=w':=by
 obtain⟨pa,pc,_,_,_,_,c,_⟩:=h.cells;clear h;go_enter func22,ntmps22;go_wp2;go_ret;exact⟨rfl,rfl⟩
theorem VolAt.latch (h:VolAt w v m L ks lat):VolAt (w.setCell ⟨v,111,none⟩ (.bool true)) v m L ks true:=by
 obtain⟨⟨cs,pv,h1,h2,h3,h4,h5,h6,h7,h8,h9,vs,h10,h11,h12⟩,hm,hf,hp⟩:=h
 have hne:∀ (g:Nat) (cs':Array Value) (t:TypeId),t≠104→w.heap[g]?=some (.cells cs' t (0,0))→(w.setCell ⟨v,111,none⟩ (.bool true)).heap[g]?=w.heap[g]?:=fun g cs' t hne hg=>setCell_heap_ne _ _ _ (by
  rintro rfl;rw[h1] at hg;simp only[Option.some.injEq,Obj.cells.injEq] at hg;exact hne hg.2.1.symm)
 have hget:∀ j,j≠111→(cs.setIfInBounds 111 (.bool true))[j]?=cs[j]?:=fun j hj=>by rw[Array.getElem?_setIfInBounds_ne (Ne.symm hj)]
 refine⟨⟨_,pv,setCell_block h1 111 _,by simpa using h2,by rw[hget _ (by decide)];exact h3,by rw[hget _ (by decide)];exact h4,by rw[hget _ (by decide)];exact h5,by rw[hget _ (by decide)];exact h6,by rw[hget _ (by decide)];exact h7,by rw[hget _ (by decide)];exact h8,by rw[Array.getElem?_setIfInBounds_self_of_lt (by omega)],vs,h10,owns_keep h11 (fun g hg=>?_),fun j k u hj hu=>⟨(h12 j k u hj hu).1,owns_keep (h12 j k u hj hu).2 (fun g hg=>?_)⟩⟩,hm.keep (fun g _ ⟨cs',t,ht,hc⟩=>hne g cs' t (by rcases ht with rfl|rfl<;>decide) hc),hf,hp⟩
 ·obtain⟨cur,hc⟩:=own_cells' h11 hg;exact hne _ _ _ (by decide) hc
 ·obtain⟨cur,hc⟩:=own_cells' (h12 j k u hj hu).2 hg;exact hne _ _ _ (by decide) hc
theorem voLatch_ok (h:VolAt w v m L ks lat):Calls prog 31 #[.pointer (some ⟨v,0,none⟩)] w fun e w'=>e=.returned (.tuple #[])∧VolAt w' v m L ks true∧Chg (fun g=>g=v) w w':=by
 obtain⟨pa,pc,_,_,_,_,c,_,f⟩:=h.cells;have h2:=LH h.latch;have h3:=LH ((Chg.refl (fun g=>g=v) w).setCell (p:=⟨v,111,none⟩) (fun _=>rfl) (.bool true));clear h;go_enter func31,ntmps31;go_wp2;go_end0;exact⟨rfl,h2.out,h3.out⟩
theorem voMay_ok (h:VolAt w v m L ks false){S:Nat→Prop}{dv:Value}{l:List UInt8}(hd:Bytes w S dv l) (i n:Nat) (hl:l.length=n*64) (hin:i+n≤50):Calls prog 44 #[.pointer (some ⟨v,0,none⟩),.int .i64 i,dv] w fun e w'=>e=.returned (.int .i64 0)∧Below w.heap.size w w':=by
 obtain⟨da,dc,rfl,_⟩:=hd.shape;have hr:=LH (voReadOnly_ok h);have hw:=LH (voWithin_ok h i n hin);obtain⟨N,hN⟩:∃ N,N=l.length:=⟨_,rfl⟩;rw[← hN] at hl ⊢;have e1:(N:Int) / 64=n:=by omega
 have e2:(N:Int) % 64=0:=by omega
 have e3:(n:Int)≤64:=by omega
 have e4:¬ (64:Int)<n:=by omega
 replace hN:=LH hN;replace hl:=LH hl;clear h hd;go_enter func44,ntmps44
 go_wp2_with (first|(go_at_call 22;refine hr.out.mono ?_;rintro e w' ⟨rfl,rfl⟩)|fail)
 refine hw.out.mono ?_;rintro e w1 ⟨rfl,hb⟩;replace hb:=LH hb;go_wp2;go_ret;exact⟨rfl,hb.out⟩
theorem voMay_ro (h:VolAt w v m L ks true) (i:Int) (da:Option Addr) (dn dc:Nat):Calls prog 44 #[.pointer (some ⟨v,0,none⟩),.int .i64 i,.slice da dn dc] w fun e w'=>e=.returned (.int .i64 6)∧w=w':=by
 have hr:=LH (voReadOnly_ok h);clear h;go_enter func44,ntmps44
 go_wp2_with (first|(go_at_call 22;refine hr.out.mono ?_;rintro e w' ⟨rfl,rfl⟩)|fail)
 go_ret;exact⟨rfl,rfl⟩
end
end Go.Proofs.YthmcbgidehjlbaaGreat.Fd
/-
  marks: Set and Copy, of marks in new memory. No condition beyond what each theorem names.
-/
namespace Go.Proofs.YthmcbgidehjlbaaGreat.Fd
open _root_.Go.Proofs.Tryz
open Go Go.RowKit K
set_option maxRecDepth 100000
set_option maxHeartbeats 4000000
theorem mkSetB_ok {w:World}{m B:Nat}{L:List UInt8}(hBB:MarksB w m L B) (k:Nat) (hk:k<50):Calls prog 82 #[.pointer (some ⟨m,0,none⟩),.int .i64 k,.int .i64 1] w fun e w'=>∃ g,e=.returned (.int .i64 0)∧MarksB w' m (setL L k) B∧Chg (fun x=>x=g) w w'∧B≤g∧∃ cs,w.heap[g]?=some (.cells cs 5 (0,0)):=by
 have h:=hBB.at_;have hl:=h.len;have hBm:=hBB.1;obtain⟨_,sv,b1,hl1,hrow⟩:=hBB;have hk8:k / 8<7:=by omega
 obtain⟨g,cap,cur,rfl,hBg,hg,hn,hm,hs,hx⟩:∃ g cap cur,sv=.slice (some ⟨g,0,none⟩) 7 cap∧B≤g∧w.heap[g]?=some (.cells cur 5 (0,0))∧7≤cap∧cap≤maxLen∧cur.size=cap*1∧cur.toList.take (7*1)=u8s L:=by
  rcases hrow with ⟨rfl,hx⟩|⟨g,cap,cur,rfl,hBg,hg,hn,hm,hs,hx⟩
  ·exact absurd hx (by decide)
  ·exact⟨g,cap,cur,rfl,hBg,hg,hn,hm,hs,hx⟩
 have h0:w.cell? ⟨m,0,none⟩=some (.int .i64 50):=cell_of b1 0;have h1:w.cell? ⟨m,1,none⟩=some (.slice (some ⟨g,0,none⟩) 7 cap):=cell_of b1 1
 have hc0:w.cell? ⟨g,k / 8,none⟩=some (.int .u8 (L.getD (k / 8) 0).toNat):=by
  rw[cell_of hg,← Array.getElem?_toList,← List.getElem?_take_of_lt (show k / 8<7*1 by omega),hx,u8s_get L _ (by omega)];simp[List.getD,show k / 8<L.length by omega]
 have hgm:m≠g:=by
  rintro rfl;rw[b1] at hg;simp only[Option.some.injEq,Obj.cells.injEq] at hg;exact absurd hg.2.1 (by decide)
 have hf1:MarksB (w.setCell ⟨g,k / 8,none⟩ (.int .u8 ((L.getD (k / 8) 0).toNat ||| 2 ^ (k % 8):Nat))) m (setL L k) B:=by
  refine⟨hBm,_,(setCell_heap_ne _ _ _ hgm).trans b1,?_,.inr ⟨g,cap,_,rfl,hBg,setCell_block hg _ _,hn,hm,by simpa using hs,?_⟩⟩
  ·rw[u8s_length,setL_length,hl]
  ·rw[Array.toList_setIfInBounds,List.take_set,hx,setL];have e:=byte_toNat (or_lt (L.getD (k / 8) 0).toNat_lt (show k % 8<8 by omega));simp only[u8s,List.map_set,u8,e]
 have hf2:∃ cs,w.heap[g]?=some (.cells cs 5 (0,0)):=⟨_,hg⟩;have hfz:w.frozen? ⟨g,k / 8,none⟩=false:=frozen_of hg _;have hch:Chg (fun x=>x=g) w (w.setCell ⟨g,k / 8,none⟩ (.int .u8 ((L.getD (k / 8) 0).toNat ||| 2 ^ (k % 8):Nat))).drew:=((Chg.refl (fun x=>x=g) w).setCell (p:=⟨g,k / 8,none⟩) (fun _=>rfl) _).drew;obtain⟨D,hD⟩:∃ D,D=k / 8:=⟨_,rfl⟩;obtain⟨R,hR⟩:∃ R,R=k % 8:=⟨_,rfl⟩;have hDl:D<7:=by omega
 have hRl:R<8:=by omega
 have hd:(k:Int) / 8=(D:Int):=by omega
 have hr:(k:Int) % 8=(R:Int):=by omega
 rw[← hD,← hR] at hf1 hch;rw[← hD] at hfz hc0;obtain⟨B,hB⟩:∃ B,B=(L.getD D 0).toNat:=⟨_,rfl⟩;have hBl:B<256:=hB ▸ (L.getD D 0).toNat_lt;rw[← hB] at hc0 hf1 hch
 have hor:bits .or .u8 (B:Int) (2 ^ R % 256)=((B ||| 2 ^ R:Nat):Int):=by
  have h2R:2 ^ R<256:=Nat.lt_of_le_of_lt (Nat.pow_le_pow_right (by omega) (show R≤7 by omega)) (by omega);have e1:((2 ^ R:Nat):Int)=(2:Int) ^ R:=by simp
  have e:((2:Int) ^ R % 256)=((2 ^ R:Nat):Int):=by
   rw[← e1];clear e1;generalize 2 ^ R=P at h2R ⊢;omega
  rw[e];exact u8_or_nat B (2 ^ R) hBl h2R
 have hi0:¬ (k:Int)<0:=by omega
 have hi1:¬ (50:Int)<k:=by omega
 have hi2:¬ (49:Int)<k:=by omega
 replace hD:=LH hD;replace hR:=LH hR;replace hB:=LH hB;replace hf1:=LH hf1;replace hf2:=LH hf2;replace hch:=LH hch;clear hx hs hgm hg b1 hl1 hrow h;go_enter func82,ntmps82;go_wp2;obtain⟨W',hW'⟩:∃ W,W=(w.setCell ⟨g,D,none⟩ (.int .u8 (B ||| 2 ^ R:Nat))).drew:=⟨_,rfl⟩;have hch:=LH (hW' ▸ hch.out);replace hW':=LH hW'
 go_loopg [39] 1 (fun gh i wr=>(gh=1∧i=.int .i64 0∧wr=w)∨(gh=0∧i=.int .i64 1∧wr=W'))
 case atStart=>exact .inl ⟨rfl,rfl,rfl⟩
 case round=>
  rcases hrel with ⟨rfl,rfl,rfl⟩|⟨rfl,rfl,rfl⟩
  ·go_wp2
   go_region
   go_wp2;go_roundg 0
   case measure=>omega
   case rel=>exact .inr ⟨rfl,rfl,by rw[hW'.out]⟩
  ·go_wp2;go_ret;exact⟨_,rfl,by rw[hW'.out];exact hf1.out,hch.out,hBg,hf2.out⟩
theorem mkCopyB_ok {w:World}{m:Nat}{L:List UInt8}(h:MarksAt w m L):Calls prog 78 #[.pointer (some ⟨m,0,none⟩)] w fun e w'=>∃ m',e=.returned (.pointer (some ⟨m',0,none⟩))∧MarksB w' m' L w.heap.size∧Below w.heap.size w w':=by
 have hm:∃ sv,w.heap[m]?=some (.cells #[.int .i64 50,sv] 195 (0,0)):=by obtain⟨sv,h1,_⟩:=h;exact⟨sv,h1⟩
 obtain⟨sv,hm⟩:=hm;have c0:=LH (cell_of hm 0);have hml:=LH (heap_lt hm);have HB:=LH (fun w3 (hc:Chg No w w3)=>mkBytes_ok (h.after hc.no));have hdr:∀ w3,Chg No w.drew w3→Chg No w w3:=fun w3 h=>⟨h.os,h.tape,h.output,h.size,h.block⟩
 replace hdr:=LH hdr;clear hm h;go_enter func78,ntmps78;go_wp2;refine RA.rt (Chg No) [1,1,1,1,1,3,1,3,1] [] (fun _=>True) trivial (fun _=>Chg.refl _ _) (fun _ _ _ h k=>h.trans k) (h:=?_);intro cx
 repeat refine RA.qq (h:=?_)
 refine RA.fk prog (m) (0) (h:=?_);refine RA.lk prog (.int .i64 50) (hc:=fun w3 hp=>by exact ((hdr.out _ hp.1).cell (p:=⟨m,0,none⟩) hml.out id).trans c0.out) (h:=?_)
 repeat refine RA.qq (h:=?_)
 refine RA.qc (P:=prog) [.pointer (some ⟨m,0,none⟩)] (fun v w3=>w3.ownsRow w.heap.size 5 1 v 7 (u8s L)) (fun _ _=>True) (fun _ _=>by go_simp) (by rfl) (by rfl) (by rfl) (by kernel_rfl) (fun v a b h h2=>owns_keep h2 (fun g hg=>h.block g (owns_lt h2 g hg) id)) (fun _ _ _ _ h=>h) rfl (fun w3 hp hH=>by
  refine (HB.out w3 (hdr.out _ hp.1)).mono ?_;rintro e w4 ⟨v,rfl,k1,k2⟩;exact⟨v,rfl,Chg.of_below k2 _,owns_base k1 (hdr.out _ hp.1).size,trivial⟩) (fun u=>?_)
 refine RA.vk prog (.agg #[.int .i64 50,u]) (hr:=fun w3 hp=>by
  obtain⟨g,cp,rfl,_⟩:=own_shape (hp.fact 0 rfl (by kernel_rfl)) (by omega);go_simp) (h:=?_)
 refine RA.bq (fun x w3=>∃ p,x=.pointer (some ⟨p,0,none⟩)∧w.heap.size≤p∧w3.heap[p]?=some (.cells #[.int .i64 50,u] 195 (0,0))) (fun _ _=>True) (by kernel_rfl) (by rfl) (by kernel_rfl) (fun _ _ _ h k=>by obtain⟨p,h1,h2,h3⟩:=k;exact⟨p,h1,h2,(h.block p (heap_lt h3) id).trans h3⟩) (fun _ _ _ _ _=>trivial) (fun w3 hp _=>by
  have ho:=hp.fact 0 rfl (by kernel_rfl);have hs:=(hdr.out _ hp.1).size;refine⟨.pointer (some ⟨w3.heap.size,0,none⟩),w3.alloc (.cells #[.int .i64 50,u] 195),?_,(Chg.refl _ _).alloc _,⟨_,rfl,hs,heap_alloc_new w3 _⟩,trivial⟩;obtain⟨g,cp,rfl,_⟩:=own_shape ho (by omega);clear hp ho hs;show (execOp _ _).run prog w3=_;go_simp) (fun x=>?_)
 repeat refine RA.qq (h:=?_)
 refine RA.RA.done rfl (fun w5 hR hF hH=>?_);clear hH;simp only[RA.put,List.foldr_cons,List.foldr_nil,cx,Act.put,List.setIfInBounds_toArray,List.set_cons_succ,List.set_cons_zero];have hC:=hdr.out _ hR;obtain⟨p,rfl,hp1,hp2⟩:=hF _ (List.mem_cons_self ..);have ho:=hF _ (List.mem_cons_of_mem _ (List.mem_cons_self ..));clear hF hR;have hM:MarksB w5 p L w.heap.size:=⟨hp1,u,hp2,ho⟩;replace hM:=LH hM;replace hC:=LH hC;clear hp2 ho;go_wp2;go_ret;exact⟨p,rfl,hM.out,hC.out.no⟩
end Go.Proofs.YthmcbgidehjlbaaGreat.Fd
/-
  volume: written, Any. No condition beyond what each theorem names.
-/
namespace Go.Proofs.YthmcbgidehjlbaaGreat.Fd
open _root_.Go.Proofs.Tryz
open Go Go.RowKit K
set_option maxRecDepth 100000
set_option maxHeartbeats 8000000
def wroteL (L:List UInt8) (ks:List (Nat×List UInt8)):List UInt8:=ks.foldl (fun L k=>setL L k.1) L
theorem kpL_get:∀ (ks:List (Nat×List UInt8)) (vs:List Value),vs.length=ks.length→∀ (j:Nat) (k:Nat×List UInt8),ks[j]?=some k→∃ u,vs[j]?=some u∧(kpL ks vs)[j*2]?=some (.int .i64 k.1)∧(kpL ks vs)[j*2+1]?=some u:=by
 intro ks
 induction ks with
 | nil=>intro vs _ j k h;simp at h
 | cons q ks ih=>
  intro vs hl j k h;cases vs with
  | nil=>simp at hl
  | cons u vs=>
   have e:kpL (q::ks) (u::vs)=.int .i64 q.1::u::kpL ks vs:=by simp[kpL]
   rw[e];cases j with
   | zero=>
    simp at h;subst h;exact⟨u,rfl,rfl,rfl⟩
   | succ j=>
    simp at h;obtain⟨u',h1,h2,h3⟩:=ih vs (by simpa using hl) j k h;refine⟨u',by simpa using h1,?_⟩;rw[show (j+1)*2=j*2+1+1 by omega];exact⟨h2,h3⟩
section
variable {w w':World}{v m:Nat}{L:List UInt8}{ks:List (Nat×List UInt8)}{lat:Bool}
theorem VolAt.pend (h:VolAt w v m L ks lat):∃ pa pc,w.cell? ⟨v,110,none⟩=some (.slice pa ks.length pc)∧∀ (j:Nat) (k:Nat×List UInt8),ks[j]?=some k→∃ pg ug uc,pa=some ⟨pg,0,none⟩∧pg<w.heap.size∧w.cell? ⟨pg,j*2,none⟩=some (.int .i64 k.1)∧w.cell? ⟨pg,j*2+1,none⟩=some (.slice (some ⟨ug,0,none⟩) 64 uc)∧k.2.length=64∧Bytes w (fun _=>True) (.slice (some ⟨ug,0,none⟩) 64 uc) k.2:=by
 obtain⟨⟨cs,pv,h1,h2,h3,h4,h5,h6,h7,h8,h9,vs,h10,h11,h12⟩,hm,hf⟩:=h;obtain⟨pa,pc,rfl,_⟩:=(Cells.own h11).shape;refine⟨pa,pc,(cell_of h1 _).trans h8,fun j k hk=>?_⟩;have hj:j<ks.length:=(List.getElem?_eq_some_iff.1 hk).1;obtain⟨u,hu,e1,e2⟩:=kpL_get ks vs h10 j k hk;obtain⟨hk64,hub⟩:=h12 j k u hk hu;obtain⟨ug,uc,rfl,_⟩:=own_shape hub (by omega);obtain⟨pg,off,c',hv',_,_,_,hgl,hcl⟩:=Cells.at (Cells.own h11) (by omega);obtain⟨g2,cp2,hv2,_⟩:=own_shape h11 (by omega);rw[hv2] at hv';simp only[Value.slice.injEq,Option.some.injEq,Addr.mk.injEq] at hv' hv2;obtain⟨⟨rfl,rfl,_⟩,_,_⟩:=hv';have f1:=hcl _ _ e1;have f2:=hcl _ _ e2;rw[Nat.zero_add] at f1 f2;refine⟨g2,ug,uc,hv2.1,hgl,f1,f2,hk64,?_⟩;show Cells w _ _ k.2.length 1 _;rw[hk64];exact (Cells.own hub).mono (fun _ _ _=>trivial)
theorem voWritten_ok (h:VolAt w v m L ks lat):Calls prog 58 #[.pointer (some ⟨v,0,none⟩)] w fun e w'=>∃ m',e=.returned (.pointer (some ⟨m',0,none⟩))∧MarksB w' m' (wroteL L ks) w.heap.size∧Below w.heap.size w w':=by
 obtain⟨_,_,_,_,c7,_⟩:=h.cells;have hcp:=LH (mkCopyB_ok h.marks);obtain⟨n,hn⟩:∃ n,n=ks.length:=⟨_,rfl⟩;have hn1:n≤1000:=by rw[hn];exact h.few
 have hpl:=LH h.pl;have HV:=LH (fun w1 (hb:Below w.heap.size w w1)=>h.after hb);have hP:=h.pend;obtain⟨pa,pc,c110,hpe⟩:=hP;have HP:=LH (fun w1 (hb:Below w.heap.size w w1)=>(show w1.cell? ⟨v,110,none⟩=some (.slice pa ks.length pc) from ((Chg.of_below hb No).cell (p:=⟨v,110,none⟩) (cell_lt c110) id).trans c110))
 have HE:=LH (fun w1 (hb:Below w.heap.size w w1) (j:Nat) (k:Nat×List UInt8) (hk:ks[j]?=some k)=>(show ∃ pg ug uc,pa=some ⟨pg,0,none⟩∧w1.cell? ⟨pg,j*2,none⟩=some (.int .i64 k.1)∧w1.cell? ⟨pg,j*2+1,none⟩=some (.slice (some ⟨ug,0,none⟩) 64 uc) from by
  obtain⟨pg,ug,uc,h1,h2,h3,h4,_⟩:=hpe j k hk;have hc:=Chg.of_below hb No;exact⟨pg,ug,uc,h1,(hc.cell (p:=⟨pg,j*2,none⟩) h2 id).trans h3,(hc.cell (p:=⟨pg,j*2+1,none⟩) h2 id).trans h4⟩))
 rw[← hn] at HP;replace hn:=LH hn;clear h c110 hpe;go_enter func58,ntmps58
 go_wp2_with fail
 refine hcp.out.mono ?_;rintro e w1 ⟨m',rfl,hM,hb1⟩;have d110:=HP.out w1 hb1;replace hM:=LH hM;replace hb1:=LH hb1;clear hcp c7;go_wp2;clear d110
 go_loopg [19] n (fun g ix wr=>∃ j:Nat,j+g=n∧ix=.int .i64 j∧Hid (MarksB wr m' (wroteL L (ks.take j)) w.heap.size)∧Hid (Below w.heap.size w wr))
 case atStart=>exact⟨0,by omega,rfl,hM.out,hb1.out⟩
 case round=>
  obtain⟨j,hjg,rfl,HM,HW⟩:=hrel;by_cases hlt:j<n
  ·obtain⟨g1,rfl⟩:∃ i,gk=i+1:=⟨gk - 1,by omega⟩;have hlI:(j:Int)<n:=by omega
   have hjl:j<ks.length:=by have:=hn.out;omega
   obtain⟨k,hk⟩:∃ k,ks[j]?=some k:=⟨ks[j],List.getElem?_eq_getElem hjl⟩;obtain⟨pg,ug,uc,rfl,c0,c1⟩:=HE.out wr HW.out j k hk;obtain⟨K,hK⟩:∃ K,K=k.1:=⟨_,rfl⟩;rw[← hK] at c0;have hK50:K<50:=by rw[hK];exact hpl.out k (List.mem_of_getElem? hk)
   obtain⟨w5,hw5⟩:∃ w5,w5=wr.alloc (.cells #[.int .i64 K,.slice (some ⟨ug,0,none⟩) 64 uc] 111):=⟨_,rfl⟩;have b5:Below wr.heap.size wr w5:=by rw[hw5];exact (Below.refl _ _).alloc (Nat.le_refl _) _
   have x5:w5.heap[wr.heap.size]?=some (.cells #[.int .i64 K,.slice (some ⟨ug,0,none⟩) 64 uc] 111 (0,0)):=by rw[hw5];exact heap_alloc_new wr _
   have f0:=cell_of x5 0;have M5:MarksB w5 m' (wroteL L (ks.take j)) w.heap.size:=HM.out.keep (fun g _ _ _ _ hg=>b5.block g (heap_lt hg));have hset:=LH (mkSetB_ok M5 K hK50);have hbw5:=LH (HW.out.trans (b5.mono HW.out.size));have htk:ks.take (j+1)=ks.take j++[k]:=by rw[List.take_succ_eq_append_getElem hjl];rw[List.getElem?_eq_getElem hjl] at hk;rw[Option.some.inj hk]
   replace htk:=LH htk;replace hK:=LH hK;have hw5':=LH hw5;subst hw5;clear x5 M5 b5 hk HM HW
   go_wp2_with fail
   refine hset.out.mono ?_;rintro e w6 ⟨g,rfl,M6,hC6,hg6,_⟩;have hb6:=LH (hbw5.out.trans (hC6.below hbw5.out.size (fun i hi e=>by omega)))
   have M7:MarksB w6 m' (wroteL L (ks.take (j+1))) w.heap.size:=by
    rw[htk.out,wroteL,List.foldl_append];rw[hK.out] at M6;exact M6
   replace M7:=LH M7;clear M6 hC6 hset c0 c1 f0;go_wp2;go_roundg g1
   case measure=>omega
   case rel=>exact⟨j+1,by omega,by go_num,M7.out,hb6.out⟩
  ·obtain rfl:gk=0:=by omega
   obtain rfl:j=n:=by omega
   have hlI:¬ (j:Int)<j:=by omega
   have hfin:MarksB wr m' (wroteL L ks) w.heap.size:=by
    have h:=HM.out;rw[hn.out,List.take_length] at h;exact h
   replace hfin:=LH hfin;clear hlt hjg;go_wp2;go_ret;exact⟨_,rfl,hfin.out,HW.out⟩
theorem voAny_ok (h:VolAt w v m L ks lat) (f c:Nat) (hf:f≤50) (hc:c≤50):Calls prog 32 #[.pointer (some ⟨v,0,none⟩),.int .i64 f,.int .i64 c] w fun e w'=>e=.returned (.bool (anyB (wroteL L ks) f c))∧Below w.heap.size w w':=by
 have hw:=LH (voWritten_ok h);clear h;go_enter func32,ntmps32
 go_wp2_with fail
 refine hw.out.mono ?_;rintro e w1 ⟨m',rfl,hM,hb⟩;have ha:=LH (mkAny_ok hM.at_ f c hf hc);replace hb:=LH hb;clear hM hw
 go_wp2_with fail
 refine ha.out.mono ?_;rintro e w2 ⟨rfl,rfl⟩;go_wp2;go_ret;exact⟨rfl,hb.out⟩
end
end Go.Proofs.YthmcbgidehjlbaaGreat.Fd
/-
  volume: one more pending sector. No condition beyond what each theorem names.
-/
namespace Go.Proofs.YthmcbgidehjlbaaGreat.Fd
open _root_.Go.Proofs.Tryz
open Go Go.RowKit K
def VolB (w:World) (v:Nat):Nat→Prop:=fun g=>g=v∨∃ n pc,w.cell? ⟨v,110,none⟩=some (.slice (some ⟨g,0,none⟩) n pc)
theorem infoKept:(prog.info? 111).map (fun i=>(i.zero,i.size,i.bytes))=some (some (.agg #[.int .i64 0,.slice none 0 0]),2,32):=by kernel_rfl
theorem kpL_snoc {ks:List (Nat×List UInt8)}{vs:List Value}{k:Nat×List UInt8}{u:Value}(h:vs.length=ks.length):kpL (ks++[k]) (vs++[u])=kpL ks vs++[.int .i64 k.1,u]:=by
 unfold kpL;rw[List.zip_append h.symm,List.flatMap_append];simp
theorem VolAt.push {w:World}{v m:Nat}{L:List UInt8}{ks:List (Nat×List UInt8)}{lat:Bool}(h:VolAt w v m L ks lat) (hfew:ks.length<1000){w3:World}(hR:Chg No w w3){u x:Value}{Z:List UInt8}(hZ:Z.length=64){B:Nat}(hu:w3.ownsRow B 5 1 u 64 (u8s Z)) (at':Nat) (hat:at'<50) (hx:Cells w3 (fun _=>True) x 1 2 [.int .i64 at',u]):
  ∃ pv v' w4,w.cell? ⟨v,110,none⟩=some pv∧(Builtin.append_ #[102,102] 102 #[pv,x]).run prog w3=.ok v' w4∧w4.cell? ⟨v,110,none⟩=some pv∧w4.frozen? ⟨v,110,none⟩=false∧(∃ g cp,v'=.slice (some ⟨g,0,none⟩) (ks.length+1) cp)∧
   VolAt (w4.setCell ⟨v,110,none⟩ v') v m L (ks++[(at',Z)]) lat∧Chg (VolB w v) w (w4.setCell ⟨v,110,none⟩ v')∧∀ g,VolB (w4.setCell ⟨v,110,none⟩ v') v g→VolB w v g∨w.heap.size≤g:=by
 have hVw3:=h.after hR.no;obtain⟨⟨cs,pv,h1,h2,h3,h4,h5,h6,h7,h8,h9,vs,h10,h11,h12⟩,hm,hf,hpl⟩:=h;obtain⟨uc,ucp,rfl,_⟩:=own_shape hu (by omega);obtain⟨v',w4,hr,r1,r2,r3⟩:=own_push2 (P:=prog) (bytes:=32) (t:=102) underlying102 infoKept rfl (by decide) h11 (Nat.zero_le _) hR hx (by simp[Value.oneCell']) (by unfold maxLen;omega) (by omega) 102;have h113:=owns_keep h11 (fun g hg=>hR.block g (owns_lt h11 g hg) id)
 have hown:∀ {p:Nat}{cs:Array Value}{ty:TypeId},w3.heap[p]?=some (.cells cs ty (0,0))→111≠ty→w4.heap[p]?=some (.cells cs ty (0,0)):=fun {p cs ty} hp hne=>by
  rw[r2.block p (heap_lt hp) (apartT h113 hp hne)];exact hp
 have hb3:=(hR.block v (heap_lt h1) id).trans h1;have hb4:=hown hb3 (by decide)
 have hvt:v'.ownBlock≠some v:=by
  intro e;obtain⟨cur,hc⟩:=own_cells' r1 e;rw[hb4] at hc;simp only[Option.some.injEq,Obj.cells.injEq] at hc;exact absurd hc.2.1 (by decide)
 have hset:∀ {p:Nat}{cs':Array Value}{ty:TypeId},w4.heap[p]?=some (.cells cs' ty (0,0))→ty≠104→(w4.setCell ⟨v,110,none⟩ v').heap[p]?=some (.cells cs' ty (0,0)):=fun {p cs' ty} hp hne=>by
  rw[setCell_heap_ne _ _ _ (by
   rintro rfl;rw[hb4] at hp;simp only[Option.some.injEq,Obj.cells.injEq] at hp;exact hne hp.2.1.symm)]
  exact hp
 have hby:∀ {C:Nat}{u':Value}{k:Nat}{xs:List Value},w3.ownsRow C 5 1 u' k xs→(w4.setCell ⟨v,110,none⟩ v').ownsRow C 5 1 u' k xs:=fun {C u' k xs} hu=>owns_keep hu (fun g hg=>by
  obtain⟨cur,hc⟩:=own_cells' hu hg;rw[hc];exact hset (hown hc (by decide)) (by decide))
 have hget:∀ j,j≠110→(cs.setIfInBounds 110 v')[j]?=cs[j]?:=fun j hj=>by rw[Array.getElem?_setIfInBounds_ne (Ne.symm hj)]
 have hnew:(w4.setCell ⟨v,110,none⟩ v').cell? ⟨v,110,none⟩=some v':=by rw[cell_of (setCell_block hb4 110 v'),Array.getElem?_setIfInBounds_self_of_lt (by omega)]
 have hpc:w.cell? ⟨v,110,none⟩=some pv:=(cell_of h1 _).trans h8;refine⟨pv,v',w4,hpc,hr,(cell_of hb4 _).trans h8,frozen_of hb4 _,?_,⟨⟨_,v',setCell_block hb4 110 v',by simpa using h2,by rw[hget _ (by decide)];exact h3,by rw[hget _ (by decide)];exact h4,by rw[hget _ (by decide)];exact h5,by rw[hget _ (by decide)];exact h6,by rw[hget _ (by decide)];exact h7,by rw[Array.getElem?_setIfInBounds_self_of_lt (by omega)],by rw[hget _ (by decide)];exact h9,vs++[.slice (some ⟨uc,0,none⟩) 64 ucp],by simp[h10],?_,?_⟩,?_,by simp;omega,?_⟩,?_,?_⟩
 ·obtain⟨g',cp,e,_⟩:=own_shape r1 (by omega);exact⟨g',cp,e⟩
 ·rw[kpL_snoc h10,List.length_append];exact owns_keep r1 (fun p hp=>setCell_heap_ne _ _ _ (by rintro rfl;exact hvt hp))
 ·intro j k u hj hu';by_cases hlt:j<ks.length
  ·rw[List.getElem?_append_left hlt] at hj;rw[List.getElem?_append_left (by omega)] at hu';obtain⟨k1,k2⟩:=h12 j k u hj hu';exact⟨k1,hby (owns_keep k2 (fun g hg=>hR.block g (owns_lt k2 g hg) id))⟩
  ·have hjl:j<(ks++[(at',Z)]).length:=(List.getElem?_eq_some_iff.1 hj).1;simp at hjl;obtain rfl:j=ks.length:=by omega
   rw[List.getElem?_append_right (Nat.le_refl _),Nat.sub_self] at hj;rw[← h10,List.getElem?_append_right (Nat.le_refl _),Nat.sub_self] at hu';simp at hj hu';subst hj hu';exact⟨hZ,hby (owns_base hu (Nat.zero_le _))⟩
 ·refine hVw3.marks.keep (fun g hg ⟨cs',ty,hty,hc⟩=>?_);rw[hc];exact hset (hown hc (by rcases hty with rfl|rfl<;>decide)) (by rcases hty with rfl|rfl<;>decide)
 ·intro k hk;rcases List.mem_append.1 hk with hk|hk
  ·exact hpl k hk
  ·simp only[List.mem_singleton] at hk;subst hk;exact hat
 ·have hC4:Chg (VolB w v) w w4:=(Chg.mono hR (fun _ _ e=>e.elim)).then r2 (fun i hi e=>by
   obtain⟨pa,pc,rfl,_⟩:=(Cells.own h11).shape
   obtain⟨g2,cp2,hv2⟩:∃ g2 cp2,(Value.slice pa ks.length pc)=.slice (some ⟨g2,0,none⟩) ks.length cp2:=by
    rcases h11.2 with ⟨e1,e2⟩|⟨g,cap,cur,e1,_⟩
    ·rw[e1] at e;simp[Value.ownBlock] at e
    ·exact⟨g,cap,e1⟩
   rw[hv2] at e hpc;simp[Value.ownBlock] at e;subst e;exact .inr ⟨_,_,hpc⟩)
  exact hC4.setCell (fun _=>.inl rfl) _
 ·intro g hg;rcases hg with rfl|⟨n',pc',hc⟩
  ·exact .inl (.inl rfl)
  ·rw[hnew] at hc;obtain rfl:=Option.some.inj hc;rcases r3 with e|⟨g',e,hl⟩
   ·refine .inl (.inr ?_);rcases h11.2 with ⟨e1,e2⟩|⟨g2,cap,cur,e1,_⟩
    ·rw[e1] at e;simp[Value.ownBlock] at e
    ·rw[e1] at e;simp[Value.ownBlock] at e;subst e;exact⟨_,_,by rw[hpc,e1]⟩
   ·simp[Value.ownBlock] at e;subst e;exact .inr (Nat.le_trans hR.size hl)
end Go.Proofs.YthmcbgidehjlbaaGreat.Fd
/-
  volume.Write, of some sectors, while few are pending. No condition beyond what each theorem names.
-/
namespace Go.Proofs.YthmcbgidehjlbaaGreat.Fd
open _root_.Go.Proofs.Tryz
open Go Go.RowKit K
set_option maxRecDepth 100000
set_option maxHeartbeats 8000000
def newL (i:Nat) (l:List UInt8) (n:Nat):List (Nat×List UInt8):=(List.range n).map fun k=>(i+k,(l.drop (k*64)).take 64)
theorem newL_succ {i n:Nat}{l:List UInt8}:newL i l (n+1)=newL i l n++[(i+n,(l.drop (n*64)).take 64)]:=by simp[newL,List.range_succ]
theorem newL_length {i n:Nat}{l:List UInt8}:(newL i l n).length=n:=by simp[newL]
theorem voWrite_ok {w:World}{v m:Nat}{L:List UInt8}{ks:List (Nat×List UInt8)}(h:VolAt w v m L ks false){S:Nat→Prop}{dv:Value}{l:List UInt8}(hd:Bytes w S dv l) (hS:∀ g,S g→¬ VolB w v g) (i n:Nat) (hl:l.length=n*64) (hin:i+n≤50) (h0:0<n) (hks:ks.length<64):
  Calls prog 26 #[.pointer (some ⟨v,0,none⟩),.int .i64 i,dv] w fun e w'=>e=.returned (.int .i64 0)∧VolAt w' v m L (ks++newL i l n) false∧Chg (VolB w v) w w'∧∀ g,VolB w' v g→VolB w v g∨w.heap.size≤g:=by
 obtain⟨db,doff,dcap,rfl,hdc1,hdc2,hSb,hdl,hdcl⟩:=Cells.at hd (by omega);obtain⟨N,hN⟩:∃ N,N=l.length:=⟨_,rfl⟩;have hmay:=LH (voMay_ok h hd i n hl hin);have hdb:∀ w1,Chg (VolB w v) w w1→∀ j u,(u8s l)[j]?=some u→w1.cell? ⟨db,doff+j,none⟩=some u:=fun w1 hc j u hu=>(hc.cell (p:=⟨db,doff+j,none⟩) hdl (hS db hSb)).trans (hdcl j u hu)
 rw[← hN] at hmay hdc1 ⊢;rw[← hN] at hl;have e1:(N:Int) / 64=n:=by omega
 have hV:=LH h;have hn50:n≤50:=by omega
 replace hdb:=LH hdb;replace hN:=LH hN;replace hl:=LH hl;clear h hd hS hdcl;go_enter func26,ntmps26
 go_wp2_with fail
 refine hmay.out.mono ?_;rintro e w1 ⟨rfl,hb1⟩;have V1:=hV.out.after hb1;obtain⟨pa,pc,_,_,_,c110,_⟩:=V1.cells;have hks2:¬ (64:Int)≤(ks.length:Int):=by omega
 obtain⟨KL,hKL⟩:∃ k,k=ks.length:=⟨_,rfl⟩;rw[← hKL] at c110 hks2;have hC1:Chg (VolB w v) w w1:=Chg.of_below hb1 _
 have hB1:∀ g,VolB w1 v g→VolB w v g∨w.heap.size≤g:=fun g hg=>hg.elim (fun e=>.inl (.inl e)) (fun ⟨n',pc',hc⟩=>by
  obtain⟨pa0,pc0,_,_,_,c0,_⟩:=hV.out.cells;have hc0:=((Chg.of_below hb1 No).cell (p:=⟨v,110,none⟩) (cell_lt c0) id).trans c0;rw[hc0] at hc;exact .inl (.inr ⟨n',pc',by rw[c0];exact hc⟩))
 replace V1:=LH V1;replace hC1:=LH hC1;replace hB1:=LH hB1;replace hKL:=LH hKL;clear hb1 hmay;go_wp2;clear c110
 go_loopg [31] n (fun g ix wr=>∃ j:Nat,j+g=n∧ix=.int .i64 j∧Hid (VolAt wr v m L (ks++newL i l j) false)∧Hid (Chg (VolB w v) w wr)∧Hid (∀ g,VolB wr v g→VolB w v g∨w.heap.size≤g))
 case atStart=>exact⟨0,by omega,rfl,by show VolAt _ _ _ _ _ _;simpa [newL] using V1.out,hC1.out,hB1.out⟩
 case round=>
  obtain⟨j,hjg,rfl,V,HC,HB⟩:=hrel;by_cases hlt:j<n
  ·obtain⟨g1,rfl⟩:∃ i,gk=i+1:=⟨gk - 1,by omega⟩;have hlI:(j:Int)<n:=by omega
   obtain⟨wo,rfl⟩:∃ wo:World,wo=wr:=⟨_,rfl⟩;obtain⟨Y,hY⟩:∃ Y,Y=i+j:=⟨_,rfl⟩;have hYI:(i:Int)+j=Y:=by omega
   obtain⟨LO,hLO⟩:∃ X,X=j*64:=⟨_,rfl⟩;obtain⟨HI,hHI⟩:∃ X,X=(j+1)*64:=⟨_,rfl⟩;have hLOI:(j:Int)*64=LO:=by omega
   have hHII:((j:Int)+1)*64=HI:=by omega
   have hLH:HI - LO=64:=by omega
   have hlo:=hl.out;have hHN:HI≤N:=by omega
   have i1:(LO:Int)≤HI:=by omega
   have i2:(HI:Int)≤dcap:=by omega
   have i3:(0:Int)≤LO:=by omega
   obtain⟨Z,hZ⟩:∃ Z,Z=(l.drop (j*64)).take 64:=⟨_,rfl⟩;have hNo:=hN.out;have hZl:Z.length=64:=by rw[hZ,List.length_take,List.length_drop];omega
   have hcut:∀ w3,Chg No wo w3→Bytes w3 (fun _=>True) (.slice (some ⟨db,doff+LO,none⟩) 64 (dcap - LO)) Z:=fun w3 hc=>by
    have hc2:=HC.out.trans (Chg.mono hc (fun _ _ e=>e.elim));refine⟨by rw[u8s_length,Nat.mul_one],_,_,by rw[hZl],by omega,by omega,fun h=>(by cases h),.inr ⟨db,doff+LO,rfl,trivial,Nat.lt_of_lt_of_le hdl hc2.size,fun k u hu=>?_⟩⟩;have hk:k<64:=by have:=(List.getElem?_eq_some_iff.1 hu).1;rw[u8s_length,hZl] at this;exact this
    rw[Nat.add_assoc];refine hdb.out w3 hc2 _ _ ?_;rw[← hu,hZ,hLO];simp[u8s,hk]
   have hsl:∀ w3,(Instr.sliceAt 42 (.slice (some ⟨db,doff,none⟩) N dcap) (some (.int .i64 LO)) (some (.int .i64 HI)) none).run prog w3=.ok (.slice (some ⟨db,doff+LO,none⟩) 64 (dcap - LO)) w3:=fun w3=>by
    have h1:=cut_at (P:=prog) w3 underlying42 D.sizeByte (some ⟨db,doff,none⟩) N dcap LO HI (by omega) (by omega);rw[sliced_in _ _ _ _ _ _ (by omega)] at h1;simp only[hLH,Nat.mul_one] at h1;exact h1
   replace hsl:=LH hsl;have hcl:=LH (fun w3 (hc:Chg No wo w3)=>clone_ok (hcut w3 hc) (by omega));rw[hZl] at hcl;obtain⟨pa,pc,_,_,_,c110,_⟩:=V.out.cells;obtain⟨KJ,hKJ⟩:∃ k,k=(ks++newL i l j).length:=⟨_,rfl⟩;rw[← hKJ] at c110;have hKJ1:(ks++newL i l j).length<1000:=by rw[List.length_append,newL_length];omega
   have hvl:=LH (cell_lt c110);have hdr:∀ w3,Chg No wo.drew w3→Chg No wo w3:=fun w3 h=>⟨h.os,h.tape,h.output,h.size,h.block⟩
   replace hdr:=LH hdr;replace c110:=LH c110;replace hKJ:=LH hKJ;replace hLH:=LH hLH;replace hZ:=LH hZ;replace hY:=LH hY;replace hLO:=LH hLO;replace hHI:=LH hHI;clear hcut hNo hlo;go_wp2;refine RA.rt (Chg No) [5,1,1,1,1,1,1,1,1,1,1,1,1,1,1,3,1,3,6,5,5,7] [18,21] (fun _=>True) (trivial) (fun _=>Chg.refl _ _) (fun _ _ _ h k=>h.trans k) (h:=?_);intro cx;refine RA.pq (h:=?_)
   repeat refine RA.qq (h:=?_)
   refine RA.fk prog (v) (110) (h:=?_);refine RA.lk prog (.slice pa KJ pc) (hc:=fun w3 hp=>by exact ((hdr.out _ hp.1).cell (p:=⟨v,110,none⟩) hvl.out id).trans c110.out) (h:=?_)
   repeat refine RA.qq (h:=?_)
   refine RA.vw prog (.int .i64 Y) (h:=?_)
   repeat refine RA.qq (h:=?_)
   refine RA.vw prog (.int .i64 LO) (h:=?_)
   repeat refine RA.qq (h:=?_)
   refine RA.vw prog (.int .i64 (j+1:Nat)) (h:=?_);refine RA.vw prog (.int .i64 HI) (h:=?_);refine RA.slh (by kernel_rfl) (by rfl) (by rfl) (by rfl) (by rfl) (y':=.slice (some ⟨db,doff+LO,none⟩) 64 (dcap - LO)) (fun w3 hp=>hsl.out w3) ?_
   refine RA.qc (P:=prog) [.slice (some ⟨db,doff+LO,none⟩) 64 (dcap - LO)] (fun v w3=>w3.ownsRow wo.heap.size 5 1 v 64 (u8s Z)) (fun _ _=>True) (fun _ _=>by go_simp) (by kernel_rfl) (by rfl) (by rfl) (by kernel_rfl) (fun v a b h h2=>owns_keep h2 (fun g hg=>h.block g (owns_lt h2 g hg) id)) (fun _ _ _ _ h=>h) rfl (fun w3 hp hH=>by
    refine (hcl.out w3 (hdr.out _ hp.1)).mono ?_;rintro e w4 ⟨v,rfl,k1,k2,-⟩;exact⟨v,rfl,Chg.of_below k2 _,owns_base k1 (hdr.out _ hp.1).size,trivial⟩) (fun u=>?_)
   refine RA.vk prog (.agg #[.int .i64 Y,u]) (hr:=fun w3 hp=>by
    obtain⟨g,cp,rfl,_⟩:=own_shape (show w3.ownsRow wo.heap.size 5 1 u 64 (u8s Z) from hp.fact 0 rfl (by kernel_rfl)) (by omega);clear hp;go_simp) (h:=?_)
   refine RA.bq (fun x w3=>Cells w3 (fun _=>True) x 1 2 [.int .i64 Y,u]) (fun _ _=>True) (by kernel_rfl) (by rfl) (by kernel_rfl) (fun _ _ _ h k=>k.chg h (fun _ _ _=>id)) (fun _ _ _ _ _=>trivial) (fun w3 hp _=>by
    refine⟨.slice (some ⟨w3.heap.size,0,none⟩) 1 1,w3.alloc (.cells #[.int .i64 Y,u] 111),?_,(Chg.refl _ _).alloc _,lit_cells w3 #[.int .i64 Y,u] 111 1 2 rfl (by unfold maxLen;omega),trivial⟩;exact ex_slice1 (RA.evo_ev (by rfl)) underlying102 infoKept (by show 0<2;omega) (by show 2≤1000;omega) rfl) (fun x=>?_)
   refine RA.bqt (fun v' w4=>w4.cell? ⟨v,110,none⟩=some (.slice pa KJ pc)∧w4.frozen? ⟨v,110,none⟩=false∧(∃ g cp,v'=.slice (some ⟨g,0,none⟩) (KJ+1) cp)∧VolAt (w4.setCell ⟨v,110,none⟩ v') v m L (ks++newL i l (j+1)) false∧Chg (VolB wo v) wo (w4.setCell ⟨v,110,none⟩ v')∧∀ g,VolB (w4.setCell ⟨v,110,none⟩ v') v g→VolB wo v g∨wo.heap.size≤g) (by kernel_rfl) (by rfl) (by kernel_rfl) (fun _ _ _ h k=>h ▸ k) (fun w3 hp0 _=>by
    have hp:=hp0.first (by kernel_rfl);obtain⟨pv,v',w4,q1,q2,q3,q4,q5,q6,q7,q8⟩:=V.out.push hKJ1 (hdr.out _ hp.1) hZl (show w3.ownsRow wo.heap.size 5 1 u 64 (u8s Z) from hp.fact 1 rfl (by kernel_rfl)) Y (by omega) (hp.fact 0 rfl (by kernel_rfl));rw[c110.out] at q1;obtain rfl:=Option.some.inj q1;rw[← hKJ.out] at q5;refine⟨v',w4,RA.ex_append (by rfl) (by rfl) q2,q3,q4,q5,?_,q7,q8⟩;rw[newL_succ,← hY.out,← hZ.out,← List.append_assoc];exact q6) (fun v'=>?_)
   refine RA.pq (h:=?_);refine RA.pk prog (v) (110) (h:=?_)
   refine RA.stt (fun w5=>VolAt w5 v m L (ks++newL i l (j+1)) false∧Chg (VolB wo v) wo w5∧∀ g,VolB w5 v g→VolB wo v g∨wo.heap.size≤g) (by rfl) (by rfl) (by kernel_rfl) (fun _ _ h k=>h ▸ k) (fun w4 _ hH=>by
    obtain⟨f1,f2,⟨g',cp,rfl⟩,f3,f4,f5⟩:=hH;refine⟨_,RA.ex_store (by rfl) (by rfl) (w':=w4.setCell ⟨v,110,none⟩ (.slice (some ⟨g',0,none⟩) (KJ+1) cp)) ?_,f3,f4,f5⟩;clear f3 f4 f5;show (Instr.storeAt _ _ _).run prog w4=_;go_simp) ?_
   refine RA.RA.doneT (fun w5 hH=>?_);simp only[RA.put,List.foldr_cons,List.foldr_nil,cx,Act.put,List.setIfInBounds_toArray,List.set_cons_succ,List.set_cons_zero];obtain⟨z1,z2,z3⟩:=hH;have HC5:Chg (VolB w v) w w5:=HC.out.then z2 (fun g hg e=>(HB.out g e).elim id (fun e=>by omega));have HB5:∀ g,VolB w5 v g→VolB w v g∨w.heap.size≤g:=fun g hg=>(z3 g hg).elim (HB.out g) (fun e=>.inr (Nat.le_trans HC.out.size e))
   replace z1:=LH z1;replace HC5:=LH HC5;replace HB5:=LH HB5;clear z2 z3;go_wp2;go_roundg g1
   case measure=>omega
   case rel=>exact⟨j+1,by omega,by go_num,z1.out,HC5.out,HB5.out⟩
  ·obtain rfl:gk=0:=by omega
   obtain rfl:j=n:=by omega
   have hlI:¬ (j:Int)<j:=by omega
   clear hlt hjg;go_wp2;go_ret;exact⟨rfl,V.out,HC.out,HB.out⟩
end Go.Proofs.YthmcbgidehjlbaaGreat.Fd
/-
  guard.Room; claims.New; guard.Tripped. No condition beyond what each theorem names.
-/
namespace Go.Proofs.YthmcbgidehjlbaaGreat.Fd
open _root_.Go.Proofs.Tryz
open Go Go.RowKit K
set_option maxRecDepth 100000
set_option maxHeartbeats 8000000
def roomE (L:List UInt8) (f c:Int):Int:=if P.insideB (60,50) f c=false then 3 else if anyB L f.toNat c.toNat then 8 else 0
def roomA (L:List UInt8) (f c:Int):Int×Int:=if roomE L f c=0 then (60+f,c) else (0,0)
theorem insideB_of {f c:Int}(h:P.insideB (60,50) f c=true):0≤f∧f≤50∧48≤c∧c≤50:=by
 simp[P.insideB,P.countsB] at h;omega
theorem insideA_of {f c:Int}(h:P.insideB (60,50) f c=true):P.insideA (60,50) f c=(60+f,c):=by
 unfold P.insideA;rw[if_pos h]
theorem insideA_no {f c:Int}(h:P.insideB (60,50) f c=false):P.insideA (60,50) f c=(0,0):=by
 unfold P.insideA;rw[if_neg (by rw[h];decide)]
theorem guRoom_ok {w:World}{v m:Nat}{L:List UInt8}{ks:List (Nat×List UInt8)}{lat:Bool}(h:VolAt w v m L ks lat) (f c:Int):
  Calls prog 28 #[.pointer (some ⟨v,0,none⟩),.int .i64 f,.int .i64 c] w fun e w'=>e=.returned (.tuple #[.agg #[.int .i64 (roomA (wroteL L ks) f c).1,.int .i64 (roomA (wroteL L ks) f c).2],.int .i64 (roomE (wroteL L ks) f c)])∧Below w.heap.size w w':=by
 obtain⟨n0,hn0⟩:∃ n,n=w.heap.size:=⟨_,rfl⟩;obtain⟨w1,hw1⟩:∃ w1,w1=w.alloc (.cells #[.int .i64 0,.int .i64 0] 27):=⟨_,rfl⟩;have b1:Below w.heap.size w w1:=by rw[hw1];exact (Below.refl _ _).alloc (Nat.le_refl _) _
 have x1:w1.heap[n0]?=some (.cells #[.int .i64 0,.int .i64 0] 27 (0,0)):=by rw[hw1,hn0];exact heap_alloc_new w _
 have hD:=LH (voData_ok (h.after b1));obtain⟨W,hW⟩:∃ W,W=wroteL L ks:=⟨_,rfl⟩;have HA:=fun (w3:World) (hb:Below w.heap.size w w3) (f c:Nat) (hf:f≤50) (hc:c≤50)=>voAny_ok (h.after hb) f c hf hc
 rw[← hW] at HA ⊢;replace HA:=LH HA;replace hW:=LH hW;obtain⟨IA,hIA⟩:∃ A,A=P.insideA (60,50) f c:=⟨_,rfl⟩;obtain⟨IB,hIB⟩:∃ B,B=P.insideB (60,50) f c:=⟨_,rfl⟩;obtain⟨ax,ay⟩:=IA;have hin:=LH (fun w3=>P.inside_at (x:=60) (y:=50) (p:=f) (q:=c) hIA.symm hIB.symm w3);replace b1:=LH b1;replace x1:=LH x1;clear h;go_enter func28,ntmps28;have hw1':=LH hw1;subst hw1;have hIA':=LH hIA;have hIB':=LH hIB;clear hIA hIB
 go_wp2_with fail
 refine hD.out.mono ?_;rintro e w2 ⟨rfl,hb2⟩;replace hb2:=LH hb2;clear hD
 go_wp2_with fail
 refine (hin.out w2).mono ?_;rintro e w3 ⟨rfl,hb3⟩;rw[← hn0];have hb23:=hb2.out.trans (hb3.mono hb2.out.size);have x3:=(hb23.block n0 (heap_lt x1.out)).trans x1.out;have hb3w:Below w.heap.size w w3:=b1.out.trans (hb23.mono b1.out.size);have xz:(w3.alloc (.cells #[.int .i64 0,.int .i64 0] 27)).heap[w3.heap.size]?=some (.cells #[.int .i64 0,.int .i64 0] 27 (0,0)):=heap_alloc_new w3 _;have hst1:=store_struct (P:=prog) (ty:=27) (x:=[.int .i64 ax,.int .i64 ay]) xz (by kernel_rfl) rfl (by simp[Value.oneCell']);obtain⟨w4,hw4⟩:∃ w4,w4=(w3.alloc (.cells #[.int .i64 0,.int .i64 0] 27)).setRow w3.heap.size #[.int .i64 ax,.int .i64 ay]:=⟨_,rfl⟩;have x4:w4.heap[w3.heap.size]?=some (.cells #[.int .i64 ax,.int .i64 ay] 27 (0,0)):=by rw[hw4];exact setRow_heap _ _ _ _ _ _ xz
 have b34:Below w3.heap.size w3 w4:=by rw[hw4];exact below_setRow ((Below.refl _ _).alloc (Nat.le_refl _) _) (Nat.le_refl _) _
 have y4:=(b34.block n0 (heap_lt x3)).trans x3;have hb4w:Below w.heap.size w w4:=hb3w.trans (b34.mono hb3w.size);rw[← show w4=(w3.alloc (.cells #[.int .i64 0,.int .i64 0] 27)).setRow w3.heap.size ([.int .i64 ax,.int .i64 ay]:List Value).toArray from hw4] at hst1;replace hst1:=LH hst1;replace hw4:=LH hw4;replace x4:=LH x4;replace y4:=LH y4;replace hb4w:=LH hb4w;replace hn0:=LH hn0;clear hb23 hb2 hb3 x3 hb3w xz b34 b1 x1;cases IB with
 | false=>
  have hA0:=insideA_no hIB'.out.symm;have hE:roomE W f c=3:=by unfold roomE;rw[if_pos hIB'.out.symm]
  have hR:roomA W f c=(0,0):=by unfold roomA;rw[hE];rfl
  have hst2:=store_struct (P:=prog) (ty:=27) (x:=[.int .i64 0,.int .i64 0]) y4.out (by kernel_rfl) rfl (by simp[Value.oneCell']);have x5:(w4.setRow n0 ([.int .i64 0,.int .i64 0]:List Value).toArray).heap[n0]?=some (.cells #[.int .i64 0,.int .i64 0] 27 (0,0)):=setRow_heap _ _ _ _ _ _ y4.out;have hb5:Below w.heap.size w (w4.setRow n0 ([.int .i64 0,.int .i64 0]:List Value).toArray):=below_setRow hb4w.out (by rw[hn0.out];exact Nat.le_refl _) _;replace hst2:=LH hst2;replace x5:=LH x5;replace hb5:=LH hb5;replace hA0:=LH hA0;replace hE:=LH hE;replace hR:=LH hR
  go_wp2_with (first|(refine wpList_store rfl 27 _ _ rfl _ _ rfl rfl hst1.out ?_)|(refine wpList_store rfl 27 _ _ rfl _ _ rfl rfl hst2.out ?_)|fail)
  refine bodyPost_ret (results_cell_row2 results28 _ _ n0 27 _ (0,0) _ rfl x5.out underlying27 rfl (by kernel_rfl)) rfl ⟨by rw[hE.out,hR.out];rfl,hb5.out⟩
 | true=>
  obtain⟨i1,i2,i3,i4⟩:=insideB_of hIB'.out.symm;have hA0:=insideA_of hIB'.out.symm;rw[← hIA'.out] at hA0;simp only[Prod.mk.injEq] at hA0;obtain⟨F,rfl⟩:∃ F:Nat,f=F:=⟨f.toNat,by omega⟩;obtain⟨C,rfl⟩:∃ C:Nat,c=C:=⟨c.toNat,by omega⟩;have hany:=LH (HA.out w4 hb4w.out F C (by omega) (by omega));obtain⟨AB,hAB⟩:∃ A,A=anyB W F C:=⟨_,rfl⟩;rw[← hAB] at hany;have hF':(F:Int).toNat=F∧(C:Int).toNat=C:=⟨rfl,rfl⟩;have y4':=hn0.out;cases AB with
  | true=>
   have hE:roomE W F C=8:=by unfold roomE;rw[if_neg (by rw[← hIB'.out];decide),hF'.1,hF'.2,← hAB];rfl
   have hR:roomA W F C=(0,0):=by unfold roomA;rw[hE];rfl
   replace hAB:=LH hAB;replace hE:=LH hE;replace hR:=LH hR;replace hA0:=LH hA0;replace hF':=LH hF';replace y4':=LH y4'
   go_wp2_with (first|(refine wpList_store rfl 27 _ _ rfl _ _ rfl rfl hst1.out ?_)|fail)
   refine hany.out.mono ?_;rintro e w5 ⟨rfl,hb5⟩;have y5:=(hb5.block n0 (heap_lt y4.out)).trans y4.out;have hb5w:=hb4w.out.trans (hb5.mono hb4w.out.size);have hst2:=store_struct (P:=prog) (ty:=27) (x:=[.int .i64 0,.int .i64 0]) y5 (by kernel_rfl) rfl (by simp[Value.oneCell']);have x5:(w5.setRow n0 ([.int .i64 0,.int .i64 0]:List Value).toArray).heap[n0]?=some (.cells #[.int .i64 0,.int .i64 0] 27 (0,0)):=setRow_heap _ _ _ _ _ _ y5;have hb6:Below w.heap.size w (w5.setRow n0 ([.int .i64 0,.int .i64 0]:List Value).toArray):=below_setRow hb5w (by rw[hn0.out];exact Nat.le_refl _) _;replace hst2:=LH hst2;replace x5:=LH x5;replace hb6:=LH hb6;clear hb5 y5 hb5w
   go_wp2_with (first|(refine wpList_store rfl 27 _ _ rfl _ _ rfl rfl hst2.out ?_)|fail)
   refine bodyPost_ret (results_cell_row2 results28 _ _ n0 27 _ (0,0) _ rfl x5.out underlying27 rfl (by kernel_rfl)) rfl ⟨by rw[hE.out,hR.out];rfl,hb6.out⟩
  | false=>
   have hE:roomE W F C=0:=by unfold roomE;rw[if_neg (by rw[← hIB'.out];decide),hF'.1,hF'.2,← hAB];rfl
   have hR:roomA W F C=((60+F:Int),(C:Int)):=by unfold roomA;rw[hE];rfl
   obtain⟨rfl,rfl⟩:=hA0;replace hAB:=LH hAB;replace hE:=LH hE;replace hR:=LH hR;replace hF':=LH hF';replace y4':=LH y4'
   go_wp2_with (first|(refine wpList_store rfl 27 _ _ rfl _ _ rfl rfl hst1.out ?_)|fail)
   refine hany.out.mono ?_;rintro e w5 ⟨rfl,hb5⟩;have y5:=(hb5.block n0 (heap_lt y4.out)).trans y4.out;have z5:=(hb5.block w3.heap.size (heap_lt x4.out)).trans x4.out;have hb5w:=hb4w.out.trans (hb5.mono hb4w.out.size);have hst2:=store_struct (P:=prog) (ty:=27) (x:=[.int .i64 (60+F),.int .i64 C]) y5 (by kernel_rfl) rfl (by simp[Value.oneCell']);have hld:=load_struct (P:=prog) (w:=w5) (g:=w3.heap.size) (off:=0) (ty:=27) (x:=[.int .i64 (60+F),.int .i64 C]) underlying27 (by kernel_rfl) (fun j v hv=>by rw[Nat.zero_add,cell_of z5];simpa using hv);have x5:(w5.setRow n0 ([.int .i64 (60+F),.int .i64 C]:List Value).toArray).heap[n0]?=some (.cells #[.int .i64 (60+F),.int .i64 C] 27 (0,0)):=setRow_heap _ _ _ _ _ _ y5;have hb6:Below w.heap.size w (w5.setRow n0 ([.int .i64 (60+F),.int .i64 C]:List Value).toArray):=below_setRow hb5w (by rw[hn0.out];exact Nat.le_refl _) _;replace hst2:=LH hst2;replace hld:=LH hld;replace x5:=LH x5;replace hb6:=LH hb6;clear hb5 y5 hb5w z5
   go_wp2_with (first|(refine wpList_load rfl 27 _ rfl _ _ rfl hld.out ?_)|(refine wpList_store rfl 27 _ _ rfl _ _ rfl rfl hst2.out ?_)|fail)
   refine bodyPost_ret (results_cell_row2 results28 _ _ n0 27 _ (0,0) _ rfl x5.out underlying27 rfl (by kernel_rfl)) rfl ⟨by rw[hE.out,hR.out];rfl,hb6.out⟩
end Go.Proofs.YthmcbgidehjlbaaGreat.Fd
/-
  slices.Backward over what is pending. No condition beyond what each theorem names.
-/
namespace Go.Proofs.YthmcbgidehjlbaaGreat.Fd
open _root_.Go.Proofs.Tryz
open Go Go.RowKit Go.Shelf K
set_option maxRecDepth 100000
set_option maxHeartbeats 4000000
attribute [local go_sem] Oper.semAt_some
theorem backK_in (F:Fence) (n:Nat) (h6:F.fn 70) (hro:F.round=none) (a:Option Addr) (len cap:Nat) (w:World):
  CallsIn F n prog 70 #[.slice a len cap] w fun e w'=>e=.returned (.func (.func 107) #[] #[.pointer (some ⟨w.heap.size,0,none⟩)])∧w'=w.alloc (.cells #[.slice a len cap] 102):=by
 refine callsIn_of_wp func70 rfl h6 ?_ hro;simp only[ntmps70,List.size_toArray,List.length_cons,List.length_nil,Nat.reduceAdd,Nat.reduceSub,Array.replicate_succ,Array.replicate_zero,List.push_toArray,List.append_toArray,List.nil_append,List.cons_append]
 gi_wp2
 go_ret;exact⟨rfl,rfl⟩
theorem backK_ok (a:Option Addr) (len cap:Nat) (w:World):
  Calls prog 70 #[.slice a len cap] w fun e w'=>e=.returned (.func (.func 107) #[] #[.pointer (some ⟨w.heap.size,0,none⟩)])∧w'=w.alloc (.cells #[.slice a len cap] 102):=callsIn_wide.1 (backK_in .wide 3 trivial rfl a len cap w)
abbrev KE:=Nat×Nat×Nat
def kv (x:KE):Value:=.slice (some ⟨x.2.1,0,none⟩) 64 x.2.2
abbrev KR:=KE×Nat
def encK (x:KR):Array Value:=#[.int .i64 x.2,.agg #[.int .i64 x.1.1,.slice (some ⟨x.1.2.1,0,none⟩) 64 x.1.2.2]]
def backL (E:List KE):List KR:=E.zipIdx.reverse
theorem backL_length (E:List KE):(backL E).length=E.length:=by simp[backL]
theorem backL_get (E:List KE) (j:Nat) (x:KE) (h:E[j]?=some x):(backL E)[E.length - 1 - j]?=some (x,j):=by
 have hj:j<E.length:=(List.getElem?_eq_some_iff.1 h).1;unfold backL;rw[List.getElem?_reverse (by simp;omega)];simp only[List.length_zipIdx];rw[show E.length - 1 - (E.length - 1 - j)=j by omega];simp[h]
theorem backL_take (E:List KE) (j:Nat) (x:KE) (h:E[j]?=some x):(backL E).take (E.length - (j+1))++[(x,j)]=(backL E).take (E.length - j):=by
 have hj:j<E.length:=(List.getElem?_eq_some_iff.1 h).1;have hl:E.length - (j+1)<(backL E).length:=by rw[backL_length];omega
 rw[show E.length - j=E.length - (j+1)+1 by omega,List.take_succ_eq_append_getElem hl];have h1:=backL_get E j x h;rw[show E.length - 1 - j=E.length - (j+1) by omega,List.getElem?_eq_getElem hl] at h1;rw[Option.some.inj h1]
theorem backK1_in (F:Fence) (n:Nat) (h8:F.fn 107) (hro:F.round=none) (hn:1≤n) (l Bs n0:Nat) (a:Option Addr) (cap:Nat) (E:List KE) (hsm:E.length≤1000) (J Jx:List KR→World→Prop)
  (hY:∀ pre x W,J pre W→pre.length<E.length→YieldAt F (n - 1) prog l (encK x) W fun e W'=>
   (e=.returned (.bool true)∧J (pre++[x]) W'∧Below n0 W W')∨(e=.returned (.bool false)∧Jx (pre++[x]) W'))
  (W:World) (hb:Bs<n0) (hBs:W.cell? ⟨Bs,0,none⟩=some (.slice a E.length cap)) (hE:∀ j x,E[j]?=some x→∃ pg,a=some ⟨pg,0,none⟩∧pg<n0∧W.cell? ⟨pg,j*2,none⟩=some (.int .i64 x.1)∧W.cell? ⟨pg,j*2+1,none⟩=some (kv x)) (h0:J [] W):
  CallsIn F n prog 107 #[.func (.yield l) #[] #[],.pointer (some ⟨Bs,0,none⟩)] W fun e W'=>(∃ v,e=.returned v)∧
   ((∃ ys,ys=backL E∧J ys W')∨(∃ pre,pre <+: backL E∧Jx pre W')):=by
 obtain⟨L,hL⟩:∃ L,L=E.length:=⟨_,rfl⟩;rw[← hL] at hBs hsm;replace hL:=LH hL
 have HE:=LH (fun W1 (hk:Below n0 W W1) j (x:KE) (hx:E[j]?=some x)=>(show ∃ pg,a=some ⟨pg,0,none⟩∧W1.cell? ⟨pg,j*2,none⟩=some (.int .i64 x.1)∧W1.cell? ⟨pg,j*2+1,none⟩=some (kv x) from by
  obtain⟨pg,h1,h2,h3,h4⟩:=hE j x hx;exact⟨pg,h1,(hk.cell (p:=⟨pg,j*2,none⟩) h2).trans h3,(hk.cell (p:=⟨pg,j*2+1,none⟩) h2).trans h4⟩))
 have HB:=LH (fun W1 (hk:Below n0 W W1)=>(hk.cell (p:=⟨Bs,0,none⟩) hb).trans hBs);replace hE:=LH hE;replace hY:=LH hY;refine callsIn_of_wp func107 rfl h8 ?_ hro;simp only[ntmps107,List.size_toArray,List.length_cons,List.length_nil,Nat.reduceAdd,Nat.reduceSub,Array.replicate_succ,Array.replicate_zero,List.push_toArray,List.append_toArray,List.nil_append,List.cons_append];have hl1:wrap64 ((L:Int) - 1)=(L:Int) - 1:=by unfold wrap64;omega
 gi_wp2
 clear hBs
 gi_loopw [3] (fun i wr=>∃ k:Nat,k≤L∧i=.int .i64 ((k:Int) - 1)∧Hid (J ((backL E).take (E.length - k)) wr)∧Hid (Below n0 W wr)) (fun i _=>match i with|.int _ z=>(z+1).toNat|_=>0)
 case atStart=>
  refine⟨L,Nat.le_refl _,by simp,?_,Below.refl _ _⟩;rw[hL.out,Nat.sub_self];exact h0
 case round=>
  obtain⟨k,hk,rfl,HJ,HW⟩:=hrel;have hB1:=HB.out wr HW.out;cases k with
  | zero=>
   have hfin:J (backL E) wr:=by
    have h:=HJ.out
    rwa [Nat.sub_zero,← backL_length E,List.take_length] at h
   clear hB1
   gi_wp2
   go_end0;exact⟨⟨_,rfl⟩,.inl ⟨_,rfl,hfin⟩⟩
  | succ j=>
   have hj:j<E.length:=by rw[← hL.out];omega
   obtain⟨⟨p,ug,uc⟩,hx⟩:∃ x,E[j]?=some x:=⟨E[j],List.getElem?_eq_getElem hj⟩;obtain⟨pg,rfl,c0,c1⟩:=HE.out wr HW.out j _ hx;obtain⟨fn,tmps,assign,body,hy,hR⟩:=hY.out _ ((p,ug,uc),j) wr HJ.out (by rw[List.length_take];omega);have htk:=LH (backL_take E j _ hx);have hk1:((j+1:Nat):Int) - 1=j:=by omega
   rw[hk1]
   have hld:=load_struct (P:=prog) (w:=wr) (g:=pg) (off:=j*2) (ty:=111) (x:=[.int .i64 p,.slice (some ⟨ug,0,none⟩) 64 uc]) underlying111 (by kernel_rfl) (fun i v hv=>by
    match i,hv with
    | 0,hv=>simp at hv;subst hv;exact c0
    | 1,hv=>simp at hv;subst hv;exact c1)
   have hlI:(j:Int)<L:=by omega
   unfold kv at c1;unfold encK at hy
   gi_wp2
   refine hR.mono ?_;rintro e W3 (⟨rfl,hJ3,hk3⟩|⟨rfl,hJx3⟩)
   ·have hW3:=HW.out.trans hk3;rw[htk.out] at hJ3;replace hJ3:=LH hJ3;replace hW3:=LH hW3;clear hB1 hld hy hk1 c0 c1
    gi_wp2
    go_roundw
    case rel=>exact⟨j,by omega,by go_num,hJ3.out,hW3.out⟩
    case measure=>
     show ((_:Int)+1).toNat<((_:Int)+1).toNat;omega
   ·replace hJx3:=LH hJx3;clear hB1 hld hy hk1 c0 c1
    gi_wp2
    refine bodyPost_ret (results_none rfl _ _ _) rfl ?_;refine⟨⟨_,rfl⟩,.inr ⟨_,?_,hJx3.out⟩⟩;rw[htk.out];exact List.take_prefix _ _
theorem backK_stops (F:Fence) (n:Nat) (h8:F.fn 107) (hro:F.round=none) (hn:1≤n) (Bs n0:Nat) (a:Option Addr) (cap:Nat) (E:List KE) (hsm:E.length≤1000) (w:World) (hn0:n0≤w.heap.size)
  (hb:Bs<n0) (hBs:w.cell? ⟨Bs,0,none⟩=some (.slice a E.length cap)) (hE:∀ j x,E[j]?=some x→∃ pg,a=some ⟨pg,0,none⟩∧pg<n0∧w.cell? ⟨pg,j*2,none⟩=some (.int .i64 x.1)∧w.cell? ⟨pg,j*2+1,none⟩=some (kv x)):
  SeqStopsK F n prog 107 #[.pointer (some ⟨Bs,0,none⟩)] encK (Below n0) (fun ys=>ys=backL E) (fun pre=>pre <+: backL E) E.length w:=fun l J Jx W hW _ _ hY h0=>
 backK1_in F n h8 hro hn l Bs n0 a cap E hsm J Jx hY W hb (((hW.mono hn0).cell (p:=⟨Bs,0,none⟩) hb).trans hBs) (fun j x hx=>by
  obtain⟨pg,h1,h2,h3,h4⟩:=hE j x hx;exact⟨pg,h1,h2,((hW.mono hn0).cell (p:=⟨pg,j*2,none⟩) h2).trans h3,((hW.mono hn0).cell (p:=⟨pg,j*2+1,none⟩) h2).trans h4⟩) h0
end Go.Proofs.YthmcbgidehjlbaaGreat.Fd

/-
  Texts of this claim, laid together by a program of mine. No condition beyond what each theorem names.
-/
import Derived.Test.YthmcbgidehjlbaaGreatRmDiskPk
import Derived.RangeFuncNested
import Derived.RangeFuncBound
import Derived.RangeFuncCalls
import Derived.RangeFuncLeaves
import Derived.RangeFuncFrom
import Derived.RangeFuncKeeps
import Derived.Shelf.Abstract
import Derived.WalkKit
import Derived.OwnWalkIn
import Derived.TacticsInMore
import Derived.LoopNIn
import Derived.LoopIn
/-
  Get where nothing is pending. No condition beyond what each theorem names.
-/
namespace Go.Proofs.YthmcbgidehjlbaaGreat.D
open _root_.Go.Proofs.Tryz
open Go Go.RowKit Go.Shelf K
set_option maxRecDepth 100000
set_option maxHeartbeats 1000000
attribute [local go_sem] Oper.semAt_some
theorem back_in (F:Fence) (n:Nat) (h6:F.fn 55) (hro:F.round=none) (a:Option Addr) (len cap:Nat) (w:World):
  CallsIn F n prog 55 #[.slice a len cap] w fun e w'=>e=.returned (.func (.func 94) #[] #[.pointer (some ⟨w.heap.size,0,none⟩)])∧w'=w.alloc (.cells #[.slice a len cap] 116):=by
 refine callsIn_of_wp func55 rfl h6 ?_ hro;simp only[ntmps55,List.size_toArray,List.length_cons,List.length_nil,Nat.reduceAdd,Nat.reduceSub,Array.replicate_succ,Array.replicate_zero,List.push_toArray,List.append_toArray,List.nil_append,List.cons_append]
 gi_wp2
 go_ret;exact⟨rfl,rfl⟩
theorem back1_nil_in (F:Fence) (n:Nat) (h8:F.fn 94) (hro:F.round=none) (l Bs:Nat) (a:Option Addr) (cap:Nat) (J:World→Prop) (W:World) (hBs:W.cell? ⟨Bs,0,none⟩=some (.slice a 0 cap)) (h0:J W):
  CallsIn F n prog 94 #[.func (.yield l) #[] #[],.pointer (some ⟨Bs,0,none⟩)] W fun e W'=>(∃ v,e=.returned v)∧J W':=by
 refine callsIn_of_wp func94 rfl h8 ?_ hro;simp only[ntmps94,List.size_toArray,List.length_cons,List.length_nil,Nat.reduceAdd,Nat.reduceSub,Array.replicate_succ,Array.replicate_zero,List.push_toArray,List.append_toArray,List.nil_append,List.cons_append]
 gi_wp2
 gi_loopw [3] (fun i wr=>i=.int .i64 (-1)∧J wr) (fun _ _=>0)
 case atStart=>exact⟨rfl,h0⟩
 case round=>
  obtain⟨rfl,hJs⟩:=hrel
  gi_wp2
  go_end0;exact⟨⟨_,rfl⟩,hJs⟩
theorem back_stops_nil (F:Fence) (n:Nat) (h8:F.fn 94) (hro:F.round=none) (Bs:Nat) (a:Option Addr) (cap:Nat) (w:World) (hBs:w.cell? ⟨Bs,0,none⟩=some (.slice a 0 cap)) (hl:Bs<w.heap.size):
  SeqStopsK F n prog 94 #[.pointer (some ⟨Bs,0,none⟩)] (fun x:Empty=>x.elim) (fun _ _=>True) (fun _=>True) (fun _=>False) 0 w:=fun l J _ W hW _ _ _ h0=>
 (back1_nil_in F n h8 hro l Bs a cap (J []) W ((hW.cell (p:=⟨Bs,0,none⟩) hl).trans hBs) h0).mono fun _ _ ⟨he,hj⟩=>⟨he,.inl ⟨[],trivial,hj⟩⟩
theorem back_ok (a:Option Addr) (len cap:Nat) (w:World):
  Calls prog 55 #[.slice a len cap] w fun e w'=>e=.returned (.func (.func 94) #[] #[.pointer (some ⟨w.heap.size,0,none⟩)])∧w'=w.alloc (.cells #[.slice a len cap] 116):=callsIn_wide.1 (back_in .wide 3 trivial rfl a len cap w)
def Dk.at (d:Dk) (n:Nat):List UInt8:=(d.sure.drop (n*64)).take 64
theorem get_ok {w:World}{F:Nat→Prop}{p:Nat}{D:Dk}(h:At w F p D) (hp:D.pend=[]) (n:Nat) (hn:n<D.size):Calls prog 24 #[.pointer (some ⟨p,0,none⟩),.int .i64 n] w (fun e w'=>∃ v,e=.returned (.tuple #[v,.int .i64 0])∧w'.ownsRow w.heap.size 5 1 v 64 (u8s (D.at n))∧Below w.heap.size w w'):=by
 obtain⟨sg,scap,c3,hsb⟩:=h.sureBytes;obtain⟨pv,pcs,c4,hpc,hpe⟩:=h.pendAt;obtain⟨pa,pcap,rfl,hp1,hp2⟩:=Cells.shape hpc;rw[hp] at c4;clear hpc hpe hp1 hp2;obtain⟨m,hm⟩:∃ m,m=D.sure.length:=⟨_,rfl⟩;rw[← hm] at c3 hsb;have hd:(decide ((0:Int)≤n∧(n:Int)<D.size))=true:=by simp;omega
 have hpl:=h.lim p h.self
 have hHH:∀ u,Below w.heap.size w u→Calls prog 54 #[.pointer (some ⟨p,0,none⟩),.int .i64 n] u fun e w'=>e=.returned (.bool true)∧u=w':=fun u hb=>by
  have:=has_ok (h.keep hb.size (fun k hk hl=>hb.block k hl)) n;rw[hd] at this;exact this
 have HHH:=LH hHH;have H:=LH h;have HM:=LH hm;clear h hHH;refine (callsIn_wide (n:=3)).1 ?_;refine callsIn_of_wp_marks func24 rfl trivial ?_ rfl;simp only[ntmps24,List.size_toArray,List.length_cons,List.length_nil,Nat.reduceAdd,Nat.reduceSub,Array.replicate_succ,Array.replicate_zero,List.push_toArray,List.append_toArray,List.nil_append,List.cons_append];refine wpIn_wide.2 ?_
 go_wp2_with fail
 refine (HHH.out _ ((((Below.refl _ w).alloc (Nat.le_refl _) _).alloc (by simp) _).alloc (by simp;omega) _)).mono ?_;rintro e w1 ⟨rfl,rfl⟩;have b0:=((Boxed.new w 3 (.int .i64 n)).alloc (.cells #[.slice none 0 0] 42)).alloc (.cells #[.int .i64 0] 47);have b1:=(Boxed.new (w.alloc (.cells #[.int .i64 n] 3)) 42 (.slice none 0 0)).alloc (.cells #[.int .i64 0] 47);have b2:=Boxed.new ((w.alloc (.cells #[.int .i64 n] 3)).alloc (.cells #[.slice none 0 0] 42)) 47 (.int .i64 0);have hb3:Below w.heap.size w (((w.alloc (.cells #[.int .i64 n] 3)).alloc (.cells #[.slice none 0 0] 42)).alloc (.cells #[.int .i64 0] 47)):=((((Below.refl _ w).alloc (Nat.le_refl _) _).alloc (by simp) _).alloc (by simp;omega) _);simp only[World.size_alloc] at b1 b2;have hs3:(((w.alloc (.cells #[.int .i64 n] 3)).alloc (.cells #[.slice none 0 0] 42)).alloc (.cells #[.int .i64 0] 47)).heap.size=w.heap.size+3:=by simp
 generalize (((w.alloc (.cells #[.int .i64 n] 3)).alloc (.cells #[.slice none 0 0] 42)).alloc (.cells #[.int .i64 0] 47))=W3 at*;have c4':=(hb3.cell (p:=⟨p,4,none⟩) hpl).trans c4
 go_wp2_with fail
 refine (back_ok _ _ _ _).mono ?_;rintro e w1 ⟨rfl,rfl⟩;have bk:=Boxed.new W3 116 (.slice pa 0 pcap);have hb4:Below w.heap.size w (W3.alloc (.cells #[.slice pa 0 pcap] 116)):=hb3.alloc (by omega) _;have b0':=b0.alloc (.cells #[.slice pa 0 pcap] 116);have b1':=b1.alloc (.cells #[.slice pa 0 pcap] 116);have b2':=b2.alloc (.cells #[.slice pa 0 pcap] 116);have hs4:(W3.alloc (.cells #[.slice pa 0 pcap] 116)).heap.size=w.heap.size+4:=by simp;omega
 have hst:=back_stops_nil .wide 2 trivial rfl W3.heap.size pa pcap _ bk.cell bk.lt;rw[hs3] at hst;generalize (W3.alloc (.cells #[.slice pa 0 pcap] 116))=W4 at*
 go_wp2_with fail
 refine (wpIn_wide (n:=3)).1 ?_
 refine wpIn_rangeFunc_ownF (F:=.wide) (n:=3) (P:=prog) (α:=Empty) rfl (by omega) (gf:=94) (lb:=#[.pointer (some ⟨w.heap.size+3,0,none⟩)]) ?hg trivial (enters_of func94 (by kernel_rfl) rfl) hst (fun _ _=>trivial) (fun _ _ _ _ _ _ _ _=>trivial) (Below.refl _ _) (fun x=>x.elim)
  (fun _ W=>Below W4.heap.size W4 W) (fun _ _ _=>False) (ownFrom_below (Nat.le_refl _) (Nat.le_refl _)) (fun _ _ _ _ _ hs _ _=>hs) (Below.refl _ _) (fun x=>x.elim) (fun _ x=>x.elim) (fun _ _ x=>x.elim) ?done (fun _ _ _ _ _ h=>h.elim)
 case hg=>rfl
 case done=>
  rintro Dd ys W hD _ hI hK;have hbW:Below w.heap.size w W:=hb4.trans (hI.mono (by omega));have c3':=(hbW.cell (p:=⟨p,3,none⟩) hpl).trans c3;have z0:Boxed W w.heap.size 3 (.int .i64 n):=(hI.block _ (by omega)).trans b0';have z1:Boxed W (w.heap.size+1) 42 (.slice none 0 0):=(hI.block _ (by omega)).trans b1';have z2:Boxed W (w.heap.size+1+1) 47 (.int .i64 0):=(hI.block _ (by omega)).trans b2';have hsW:=hI.size;have hsbW:Bytes W F (.slice (some ⟨sg,0,none⟩) m scap) D.sure:=Cells.keep hsb hbW.size (fun k _ hk=>hbW.block k hk)
  have hnm:n*64+64≤m:=by
   have:=H.out.full.1;have:=HM.out;have h3:D.size=D.sure.length / 64:=rfl;omega
  have hmb:m≤4194304:=by have:=H.out.full;have:=HM.out;omega
  have hsec:Bytes W F (.slice (some ⟨sg,n*64,none⟩) 64 (scap - n*64)) (D.at n):=by
   have h0:Cells W F (.slice (some ⟨sg,0,none⟩) m scap) m 1 (u8s D.sure):=by
    have h:=hsbW;unfold Bytes at h;rw[← HM.out] at h;exact h
   have h1:=Cells.sliced h0 (n*64) (n*64+64) (by omega) hnm;have hcp:m≤scap:=by obtain⟨_,_,hv,h1,_⟩:=Cells.shape hsb;cases hv;rw[← HM.out] at h1;exact h1
   rw[sliced_in _ _ _ _ _ _ (by omega)] at h1;have e1:n*64+64 - n*64=64:=by omega
   have hl:(D.at n).length=64:=by simp only[Dk.at,List.length_take,List.length_drop];have:=HM.out;omega
   simp only[e1,Nat.mul_one,Nat.zero_add] at h1;show Cells _ _ _ _ _ _;rw[hl]
   simpa [Dk.at,u8s] using h1
  have hcap:n*64+64≤scap:=by obtain⟨_,_,hv,h1,_⟩:=Cells.shape hsb;cases hv;have:=HM.out;omega
  have hl64:(D.at n).length=64:=by simp only[Dk.at,List.length_take,List.length_drop];have:=HM.out;omega
  have HSEC:=LH hsec;have H64:=LH hl64;clear hsec hsbW hl64
  go_wp2_with fail
  have hdr:∀ w3,Chg No W.drew w3→Chg No W w3:=fun w3 h=>⟨h.os,h.tape,h.output,h.size,h.block⟩
  refine RA.regionT (Chg No) (·=·) [5,5,5,1,1,1,1,1,1,1,3,7,7] [11,12] (fun _ _ _=>True) (fun _=>True) (by kernel_rfl) (Chg.refl _ _) (fun _ _ h=>h ▸ Chg.refl _ _) (fun _ _ _ h k=>h.trans k) (fun _ _ h k=>h ▸ k) trivial (by kernel_rfl) (by kernel_rfl) ?_;intro c;refine RA.pmv (by rfl) (by rfl) (by rfl) ?_;refine RA.pnc (by rfl) (by rfl) (by rfl) ?_;refine RA.pfa (by rfl) (by rfl) (by rfl) (y':=.pointer (some ⟨p,3,none⟩)) (fun w3=>by show (Instr.fieldAt _ _ _).run prog w3=_;go_simp) ?_
  refine RA.ld (by kernel_rfl) (by rfl) (by rfl) (y':=.slice (some ⟨sg,0,none⟩) m scap) (fun w3 hp=>by
   have h1:=((hdr _ hp.1).cell (p:=⟨p,3,none⟩) (cell_lt c3') id).trans c3';show (Instr.loadAt _ _).run prog w3=_;go_simp) ?_
  refine RA.ld (by kernel_rfl) (by rfl) (by rfl) (y':=.int .i64 n) (fun w3 hp=>by
   have h1:=((hdr _ hp.1).cell (p:=⟨w.heap.size,0,none⟩) z0.lt id).trans z0.cell;show (Instr.loadAt _ _).run prog w3=_;go_simp) ?_
  refine RA.mi (by kernel_rfl) (by rfl) (by rfl) (by rfl) ((n*64:Nat):Int) (by omega) (by omega) ?_
  refine RA.ld (by kernel_rfl) (by rfl) (by rfl) (y':=.int .i64 n) (fun w3 hp=>by
   have h1:=((hdr _ hp.1).cell (p:=⟨w.heap.size,0,none⟩) z0.lt id).trans z0.cell;show (Instr.loadAt _ _).run prog w3=_;go_simp) ?_
  refine RA.ai (by kernel_rfl) (by rfl) (by rfl) (by rfl) ((n+1:Nat):Int) (by omega) (by omega) ?_;refine RA.mi (by kernel_rfl) (by rfl) (by rfl) (by rfl) ((n*64+64:Nat):Int) (by omega) (by omega) ?_
  refine RA.slh (by kernel_rfl) (by rfl) (by rfl) (by rfl) (by rfl) (y':=.slice (some ⟨sg,n*64,none⟩) 64 (scap - n*64)) (fun w3 _=>by
   have h1:=cut_at (P:=prog) w3 underlying42 sizeByte (some ⟨sg,0,none⟩) m scap (n*64) (n*64+64) (by omega) hcap;rw[sliced_in _ _ _ _ _ _ (by omega)] at h1;have e1:n*64+64 - n*64=64:=by omega
   simp only[e1,Nat.mul_one,Nat.zero_add] at h1;exact h1) ?_
  refine RA.qc (P:=prog) [_] (fun _ _=>True) (fun v w3=>w3.ownsRow W.heap.size 5 1 v 64 (u8s (D.at n))∧Below W.heap.size W w3) (fun _ _=>by go_simp) (by kernel_rfl) (by rfl) (by rfl) (by kernel_rfl) (fun _ _ _ _ _=>trivial) (fun _ _ _ h k=>h ▸ k) rfl (fun w3 hp _=>by
   have hR:=hdr _ hp.1;refine (clone_ok (w:=w3) (HSEC.out.chg hR (fun _ _ _=>id)) (by rw[H64.out];omega)).mono ?_;rintro e w4 ⟨u,rfl,ho,hbe,_⟩;rw[H64.out] at ho;refine⟨_,rfl,Chg.of_below hbe _,trivial,⟨ho.1,ho.2.imp id ?_⟩,hR.no.trans (hbe.mono hR.size)⟩;rintro⟨g,cap,cur,e1,e2,r⟩;exact⟨g,cap,cur,e1,Nat.le_trans hR.size e2,r⟩) (fun u=>?_)
  refine RA.stt (fun w4=>∃ w3,w3.ownsRow W.heap.size 5 1 u 64 (u8s (D.at n))∧Below W.heap.size W w3∧w4=w3.setCell ⟨w.heap.size+1,0,none⟩ u) (by kernel_rfl) (by rfl) (by kernel_rfl) (fun _ _ h k=>h ▸ k) (fun w3 _ hH=>by
   obtain⟨r1,r2⟩:=hH;have z:=(show Boxed w3 _ _ _ from (r2.block _ z1.lt).trans z1);have hc:=z.cell;have hf:=z.frozen;refine⟨_,RA.ex_store (by rfl) (by rfl) (w':=w3.setCell ⟨w.heap.size+1,0,none⟩ u) ?_,w3,r1,r2,rfl⟩;rcases r1.2 with ⟨_,h0⟩|⟨g,cap,cur,rfl,_⟩
   ·omega
   ·clear r1;show (Instr.storeAt _ _ _).run prog w3=_;go_simp) ?_
  refine RA.stt (fun w4=>∃ w3,w3.ownsRow W.heap.size 5 1 u 64 (u8s (D.at n))∧Below W.heap.size W w3∧w4=(w3.setCell ⟨w.heap.size+1,0,none⟩ u).setCell ⟨w.heap.size+1+1,0,none⟩ (.int .i64 0)) (by kernel_rfl) (by rfl) (by kernel_rfl) (fun _ _ h k=>h ▸ k) (fun w4 _ hH=>by
   obtain⟨w3,r1,r2,rfl⟩:=hH;have z:=(show Boxed w3 _ _ _ from (r2.block _ z2.lt).trans z2);have z':Boxed (w3.setCell ⟨w.heap.size+1,0,none⟩ u) (w.heap.size+1+1) 47 (.int .i64 0):=z.kept (grownBy_setCell' w3 _ u) (by simp);have hc:=z'.cell;have hf:=z'.frozen;refine⟨_,RA.ex_store (by rfl) (by rfl) (w':=(w3.setCell ⟨w.heap.size+1,0,none⟩ u).setCell ⟨w.heap.size+1+1,0,none⟩ (.int .i64 0)) ?_,w3,r1,r2,rfl⟩;generalize w3.setCell ⟨w.heap.size+1,0,none⟩ u=w5 at*;show (Instr.storeAt _ _ _).run prog w5=_;go_simp) ?_
  refine RA.RA.doneT (fun w5 hH=>?_);simp only[RA.put,List.foldr_cons,List.foldr_nil,c,Act.put,List.setIfInBounds_toArray,List.set_cons_succ,List.set_cons_zero];obtain⟨w3,r1,r2,rfl⟩:=hH;have R1:=LH r1;have R2:=LH r2;clear r1 r2
  go_wp2_with fail
  have hDl:Dd<W.heap.size:=(Array.getElem?_eq_some_iff.1 hK).1;have hK3:w3.heap[Dd]?=some (.deferred (some [])):=(R2.out.block _ hDl).trans hK;have x1:Boxed w3 (w.heap.size+1) 42 _:=(R2.out.block _ z1.lt).trans z1;have x2:Boxed w3 (w.heap.size+1+1) 47 _:=(R2.out.block _ z2.lt).trans z2;have x1':Boxed ((w3.setCell ⟨w.heap.size+1,0,none⟩ u).setCell ⟨w.heap.size+1+1,0,none⟩ (.int .i64 0)) _ _ _:=(x1.set u).kept (grownBy_setCell' _ _ (.int .i64 0)) (by simp);have x2':Boxed ((w3.setCell ⟨w.heap.size+1,0,none⟩ u).setCell ⟨w.heap.size+1+1,0,none⟩ (.int .i64 0)) _ _ _:=(x2.kept (grownBy_setCell' _ _ u) (by simp)).set (.int .i64 0)
  have hK5:((w3.setCell ⟨w.heap.size+1,0,none⟩ u).setCell ⟨w.heap.size+1+1,0,none⟩ (.int .i64 0)).heap[Dd]?=some (.deferred (some [])):=by
   rw[setCell_heap_ne _ _ _ (by simp;omega),setCell_heap_ne _ _ _ (by simp;omega)];exact hK3
  have hw5:Below w.heap.size w ((w3.setCell ⟨w.heap.size+1,0,none⟩ u).setCell ⟨w.heap.size+1+1,0,none⟩ (.int .i64 0)):=((hbW.trans (R2.out.mono hbW.size)).setCell (p:=⟨w.heap.size+1,0,none⟩) (by simp) _).setCell (p:=⟨w.heap.size+1+1,0,none⟩) (by simp;omega) _
  have ho5:((w3.setCell ⟨w.heap.size+1,0,none⟩ u).setCell ⟨w.heap.size+1+1,0,none⟩ (.int .i64 0)).ownsRow W.heap.size 5 1 u 64 (u8s (D.at n)):=by
   refine owns_keep R1.out (fun g hg=>?_);have:=owns_ge R1.out g hg;rw[setCell_heap_ne _ _ _ (by simp;omega),setCell_heap_ne _ _ _ (by simp;omega)]
  generalize (w3.setCell ⟨w.heap.size+1,0,none⟩ u).setCell ⟨w.heap.size+1+1,0,none⟩ (.int .i64 0)=W5 at*;refine⟨by simp,.inl ⟨_,_,rfl,run_takeDeferred hK5,?_⟩⟩;have hg5:=grownBy_putObj' W5 Dd (.deferred none);have hne:∀ k,k<w.heap.size+4→some k≠some Dd:=fun k hk e=>by simp at e;omega
  have e1:=(x1'.kept hg5 (hne _ (by omega))).cell;have e2:=(x2'.kept hg5 (hne _ (by omega))).cell;refine⟨.tuple #[u,.int .i64 0],?_,u,rfl,?_,?_⟩
  ·simp[results,f24,go_sem,e1,e2]
  ·have ho6:=owns_keep ho5 (w':=W5.putObj Dd (.deferred none)) (fun g hg=>hg5.block g (owns_lt ho5 g hg) (fun e=>by
    cases e
    rcases ho5.2 with ⟨rfl,_⟩|⟨g,_,_,rfl,_,h,_⟩
    ·simp[Value.ownBlock] at hg
    ·simp[Value.ownBlock] at hg;subst hg;rw[hK5] at h;cases h))
   refine⟨ho6.1,ho6.2.imp id ?_⟩;rintro⟨g,cap,cur,q1,q2,q3⟩;exact⟨g,cap,cur,q1,Nat.le_trans hbW.size q2,q3⟩
  ·exact hw5.trans (belowK_b (w:=w) (Nat.le_refl _) W5 Dd _ _ (by omega) hK5 rfl rfl)
end Go.Proofs.YthmcbgidehjlbaaGreat.D
/-
  The disk without a fuse, and what the document fixes (awake). No condition beyond what each theorem names.
-/
namespace Go.Proofs.YthmcbgidehjlbaaGreat.D
open _root_.Go.Proofs.Tryz
open Go Go.RowKit K
def Dk.plain (d:Dk):Prop:=d.dark=false∧d.fuse=false
theorem Dk.plain.stepped {d:Dk}(h:d.plain):d.stepped=d:=by
 obtain⟨fu,le,da,s,p⟩:=d;obtain⟨h1,h2⟩:=h;subst h1 h2;simp[Dk.stepped]
theorem put_plain {w:World}{F:Nat→Prop}{p:Nat}{D:Dk}(h:At w F p D) (hp:D.plain) (hfew:D.pend.length<1000000000) (n:Nat) (hn:n<D.size){S:Nat→Prop}{v:Value}{l:List UInt8}(hb:Bytes w S v l) (hS:∀ k,S k→¬ F k) (hl:l.length=64):
  Calls prog 66 #[.pointer (some ⟨p,0,none⟩),.int .i64 n,v] w fun e w'=>e=.returned (.int .i64 0)∧Then w F p { D with pend:=D.pend++[(n,l)] } w':=by
 have hm:mayE D n 64=0:=by simp[mayE];omega
 refine (put_ok h hfew n hb hS).mono ?_;rintro e w' ⟨rfl,h2⟩;refine⟨ret_int ?_,?_⟩
 ·simp[Dk.putE,hp.stepped,hp.1,hl,hm]
 ·rw[Dk.put,hp.stepped,if_pos ⟨hp.1,by rw[hl];exact hm⟩] at h2;exact h2
def Fresh (w:World) (p:Nat) (D:Dk) (w':World):Prop:=∃ F,At w' F p D∧(∀ k,F k→w.heap.size≤k)∧Below w.heap.size w w'
theorem Fresh.below {w:World}{p:Nat}{D:Dk}{w1:World}(h:Fresh w p D w1):Below w.heap.size w w1:=let ⟨_,_,_,hb⟩:=h;hb
theorem Fresh.keep {w:World}{p:Nat}{D:Dk}{w1 w2:World}(h:Fresh w p D w1) (hb:Below w1.heap.size w1 w2):Fresh w p D w2:=
 let ⟨F,h1,h2,h3⟩:=h
 ⟨F,h1.keep hb.size (fun b _ hbl=>hb.block b hbl),h2,h3.trans (hb.mono h3.size)⟩
theorem Fresh.then {w w1 w2 w3:World}{p:Nat}{D D':Dk}{F:Nat→Prop}(h1:Fresh w p D w1) (h2:∀ k,F k→w.heap.size≤k) (hb:Below w1.heap.size w1 w2) (h:Then w2 F p D' w3):Fresh w p D' w3:=by
 obtain⟨F',q1,q2,q3⟩:=h;have hs:=Nat.le_trans h1.below.size hb.size;refine⟨F',q1,fun k hk=>(q3 k hk).elim (h2 k) (fun h=>Nat.le_trans hs h),?_⟩;have hbw:=h1.below.trans (hb.mono h1.below.size);exact⟨q2.os.trans hbw.os,q2.tape.trans hbw.tape,q2.output.trans hbw.output,Nat.le_trans hs q2.size,fun k hk=>(q2.block k (by omega) (fun hF=>by have:=h2 k hF;omega)).trans (hbw.block k hk)⟩
theorem Fresh.put {w w1 w2:World}{p:Nat}{D:Dk}(h:Fresh w p D w1) (hb:Below w1.heap.size w1 w2) (hp:D.plain) (hfew:D.pend.length<1000000000) (n:Nat) (hn:n<D.size){S:Nat→Prop}{v:Value}{l:List UInt8}(hv:Bytes w2 S v l) (hS:∀ k,S k→w1.heap.size≤k) (hl:l.length=64):
  Calls prog 66 #[.pointer (some ⟨p,0,none⟩),.int .i64 n,v] w2 fun e w'=>e=.returned (.int .i64 0)∧Fresh w p { D with pend:=D.pend++[(n,l)] } w':=by
 have hh:=h;obtain⟨F,h1,h2,h3⟩:=h;refine (put_plain (h1.keep hb.size (fun b _ hbl=>hb.block b hbl)) hp hfew n hn hv (fun k hk hF=>by have:=h1.lim k hF;have:=hS k hk;omega) hl).mono ?_;rintro e w' ⟨rfl,ht⟩;exact⟨rfl,hh.then h2 hb ht⟩
theorem Fresh.new (n:Nat) (h1:1≤n) (h2:n≤65536) (w:World):Calls prog 35 #[.int .i64 n] w fun e w'=>∃ p,e=.returned (.tuple #[.pointer (some ⟨p,0,none⟩),.int .i64 0])∧Fresh w p (.new n) w':=by
 refine (new_ok n h1 h2 w).mono ?_;rintro e w1 ⟨p,F,rfl,hat,hF,hb1⟩;exact⟨p,rfl,F,hat,hF,hb1⟩
theorem Fresh.get {w w1:World}{p:Nat}{D:Dk}(h:Fresh w p D w1) (hp:D.pend=[]) (n:Nat) (hn:n<D.size):
  Calls prog 24 #[.pointer (some ⟨p,0,none⟩),.int .i64 n] w1 fun e w'=>∃ g cap,e=.returned (.tuple #[.slice (some ⟨g,0,none⟩) 64 cap,.int .i64 0])∧w1.heap.size≤g∧Bytes w' (·=g) (.slice (some ⟨g,0,none⟩) 64 cap) (D.at n)∧Below w1.heap.size w1 w':=by
 obtain⟨F,h1,h2,h3⟩:=h;refine (get_ok h1 hp n hn).mono ?_;rintro e w' ⟨v,rfl,ho,hb⟩;have hc:=Cells.own ho;rcases ho.2 with ⟨_,h0⟩|⟨g,cap,cur,rfl,hg,_⟩
 ·omega
 ·have hl:(D.at n).length=64:=by have:=ho.1;simpa [u8s] using this
  refine⟨g,cap,rfl,hg,?_,hb⟩;show Cells _ _ _ _ _ _;rw[hl];exact hc.mono (fun k _ hk=>by have:=hk.1;simp[Value.ownBlock] at this;exact this.symm)
end Go.Proofs.YthmcbgidehjlbaaGreat.D
/-
  Flush. No condition beyond what each theorem names.
-/
namespace Go.Proofs.YthmcbgidehjlbaaGreat.D
open _root_.Go.Proofs.Tryz
open Go Go.RowKit K
set_option maxRecDepth 100000
set_option maxHeartbeats 4000000
theorem At.flushAt {w:World}{F:Nat→Prop}{p:Nat}{D:Dk}(h:At w F p D):∃ g cap cur pv pcs,w.heap[p]?=some (.cells #[.bool D.fuse,.int .i64 D.left,.bool D.dark,.slice (some ⟨g,0,none⟩) D.sure.length cap,pv] 122 (0,0))∧
  w.heap[g]?=some (.cells cur 5 (0,0))∧D.sure.length≤cap∧cap≤maxLen∧cur.size=cap∧cur.toList.take D.sure.length=u8s D.sure∧F g∧g≠p∧
  Cells w (fun k=>F k∧k≠p∧k≠g) pv D.pend.length 2 pcs∧Pend w (fun k=>F k∧k≠p∧k≠g) D.pend pcs:=by
 obtain⟨⟨sv,pv,pcs,h1,h2,h3,h4,h5,h6,h7,h8,h9⟩,hF,hl,a1,a2,a3,a4⟩:=h;rcases h2.2 with ⟨rfl,_⟩|⟨g,cap,cur,rfl,hb,hg,c1,c2,c3,c4⟩
 ·simp[Value.ownBlock] at h9
 have hgp:g≠p:=fun e=>h4 (by simp[Value.ownBlock,e])
 refine⟨g,cap,cur,pv,pcs,h1,hg,c1,c2,by simpa using c3,by simpa using c4,h7 g (.inl rfl),hgp,(Cells.own h3).mono (fun b _ hb=>⟨h7 b (.inr hb.1),fun e=>h5 (by rw[← e];exact hb.1),fun e=>h6 g rfl (by rw[← e];exact hb.1)⟩),h8.mono (fun b _ hb=>⟨hb.1,hb.2.1,fun e=>hb.2.2.1 (by simp[Value.ownBlock,e])⟩)⟩
def Dk.flushed (d:Dk):Dk:={ d.stepped with sure:=layAll d.sure d.pend,pend:=[] }
theorem flush_ok {w:World}{F:Nat→Prop}{p:Nat}{D:Dk}(h:At w F p D) (hd:D.stepped.dark=false):Calls prog 67 #[.pointer (some ⟨p,0,none⟩)] w fun e w'=>e=.returned (.int .i64 0)∧Then w F p D.flushed w':=by
 have HST:=LH (step_ok h);have HD:=LH hd;clear hd;go_enter func67,ntmps67
 go_wp2_with fail
 refine HST.out.mono ?_;rw[HD.out];rintro e w1 ⟨rfl,hat,hch⟩;obtain⟨g,cap,cur,pv,pcs,hp1,hg,q1,q2,q3,q4,hFg,hgp,hpc,hpe⟩:=hat.flushAt;have hep:D.stepped.pend=D.pend:=rfl;have hes:D.stepped.sure=D.sure:=rfl;rw[hep] at hpc hpe;rw[hes] at hp1 q1 q4;obtain⟨m,hm⟩:∃ m,m=D.sure.length:=⟨_,rfl⟩;obtain⟨n,hn⟩:∃ n,n=D.pend.length:=⟨_,rfl⟩;rw[← hm] at hp1 q1 q4;rw[← hn] at hpc;have hmb:m≤4194304:=by have:=h.full;omega
 have hnb:n≤1000000000:=by have:=h.few;omega
 obtain⟨pa,pcap,rfl,hp2,hp3⟩:=Cells.shape hpc;have c3:=cell_of hp1 3;have c4:=cell_of hp1 4;have hps:p<w1.heap.size:=heap_lt hp1;have H:=LH h;have HAT:=LH hat;have HM:=LH hm;have HN:=LH hn;have HPC:=LH hpc;have HPE:=LH hpe;have HG:=LH hg;have HG3:=LH q3;have HG4:=LH q4;have HP1:=LH hp1;clear h hat hm hn hpc hpe hg q3 q4 hep hes HST hp1
 have HPH:Hid (∀ wr,Chg (·=g) w1 wr→Cells wr (fun k=>F k∧k≠p∧k≠g) (.slice pa n pcap) n 2 pcs∧Pend wr (fun k=>F k∧k≠p∧k≠g) D.pend pcs):=fun wr hb=>
  ⟨HPC.out.keep hb.size (fun b hS hbl=>hb.block b hbl hS.2.2),HPE.out.keep hb.size (fun b hS hbl=>hb.block b hbl hS.2.2)⟩
 go_wp2
 go_loopw [19] (fun i wr=>∃ k:Nat,k≤n∧i=.int .i64 k∧Chg (·=g) w1 wr∧∃ cu:Array Value,Hid (wr.heap[g]?=some (.cells cu 5 (0,0))∧cu.size=cap∧cu.toList.take m=u8s (layAll D.sure (D.pend.take k))))
  (fun i _=>n - (intOf i).toNat)
 case atStart=>exact⟨0,Nat.zero_le _,rfl,Chg.refl _ _,cur,HG.out,HG3.out,by simpa [layAll] using HG4.out⟩
 case round=>
  obtain⟨k,hk,rfl,hbr,cu,HCU⟩:=hrel;have hsz:=hbr.size;by_cases hlt:k<n
  ·obtain⟨hcl,hpd⟩:=HPH.out wr hbr;obtain⟨b,off,ba,bc,rfl,_,hbl,hSb,hc0,hc1,hbb,hb64⟩:=pend_at hcl hpd HN.out k hlt;obtain⟨q,hq⟩:∃ q,q=D.pend[k]'(HN.out ▸ hlt):=⟨_,rfl⟩;rw[← hq] at hc0 hbb hb64;have HQ:=LH hq;have HBB:=LH hbb;have HB6:=LH hb64;clear hcl hpd hq hbb hb64;have hof:g<wr.heap.size:=heap_lt HCU.out.1;have hpr:wr.heap[p]?=_:=(hbr.block p hps (fun e=>hgp e.symm)).trans HP1.out;have HPR:=LH hpr;clear hpr
   have hqs:q.1*64+64≤m:=by
    have h1:=H.out.inb q (by rw[HQ.out];exact List.getElem_mem _);have h2:=H.out.full;have h3:=HM.out;omega
   have HQS:=LH hqs;clear hqs;go_wp2;obtain⟨W0,hW0⟩:∃ W0,W0=(wr.alloc (.cells #[.int .i64 q.1,.slice ba 64 bc] 118)).drew:=⟨_,rfl⟩
   have hW:W0.heap.size=wr.heap.size+1∧W0.heap[g]?=some (.cells cu 5 (0,0))∧W0.heap[p]?=some (.cells #[.bool D.stepped.fuse,.int .i64 D.stepped.left,.bool D.stepped.dark,.slice (some ⟨g,0,none⟩) m cap,.slice (some ⟨b,off,none⟩) n pcap] 122 (0,0))∧
     W0.heap[wr.heap.size]?=some (.cells #[.int .i64 q.1,.slice ba 64 bc] 118 (0,0))∧Bytes W0 (fun k=>(F k∧k≠p∧k≠g)∧k<wr.heap.size) (.slice ba 64 bc) q.2∧Chg (·=g) w1 W0:=by
    subst hW0;exact⟨by simp,(Below.heap_alloc _ _ _ hof).trans HCU.out.1,(Below.heap_alloc _ _ _ (by omega)).trans HPR.out,heap_alloc_new _ _,Cells.keep (HBB.out.mono (fun k hk hS=>⟨hS,hk⟩)) (by simp) (fun k _ hk=>Below.heap_alloc _ _ _ hk),(hbr.alloc _).drew⟩
   obtain⟨z1,z2,z3,z4,z5,z6⟩:=hW;have hso:p≠g:=fun e=>hgp e.symm
   have hwo:wr.heap.size≠g:=by omega
   refine RA.region (Chg (·=g)) (Chg No) [1,1,1,1,1,4] (fun _ _ _=>True) (fun w3=>w3.heap[g]?=some (.cells cu 5 (0,0))) (by kernel_rfl) (Chg.refl _ _) (fun _ _ h=>h.mono (fun _ _ h=>h.elim)) (fun _ _ _ h k=>h.trans k) (fun a b h k=>(h.block g (heap_lt k) id).trans k) (by rw[← hW0];exact z2) (by kernel_rfl) ?_;rw[← hW0];intro c;refine RA.mv (by rfl) (by rfl) (by rfl) ?_;refine RA.nc (by rfl) (by rfl) (by rfl) ?_;refine RA.fa (by rfl) (by rfl) (by rfl) (y':=.pointer (some ⟨p,3,none⟩)) (fun w3 hp=>by show (Instr.fieldAt _ _ _).run prog w3=_;go_simp) ?_
   refine RA.ld (by rfl) (by rfl) (by rfl) (y':=.slice (some ⟨g,0,none⟩) m cap) (fun w3 hp=>by
    have hR:Chg (·=g) W0 w3:=hp.1;have h1:=cell_of ((hR.block _ (heap_lt z3) hso).trans z3) 3;show (Instr.loadAt _ _).run prog w3=_;go_simp) ?_
   refine RA.ld (by rfl) (by rfl) (by rfl) (y':=.agg #[.int .i64 q.1,.slice ba 64 bc]) (fun w3 hp=>by
    have hR:Chg (·=g) W0 w3:=hp.1;have h0:=cell_of ((hR.block _ (heap_lt z4) hwo).trans z4) 0;have h1:=cell_of ((hR.block _ (heap_lt z4) hwo).trans z4) 1;show (Instr.loadAt _ _).run prog w3=_;go_simp) ?_
   refine RA.kc (P:=prog) [_,_] (.tuple #[]) (fun w3=>w3.heap[g]?=some (.cells (splice cu.toList (q.1*64) (u8s q.2)).toArray 5 (0,0))) (fun _ _=>by go_simp) (by rfl) (by rfl) (by rfl) (by kernel_rfl) (fun a b h k=>(h.block g (heap_lt k) id).trans k) rfl (fun w3 hp hH=>by
    have hR:Chg (·=g) W0 w3:=hp.1;refine (lay_ok (w:=w3) (g:=g) (n:=m) (cap:=cap) (cur:=cu) hH q1 HCU.out.2.1 q2 q.1 (S:=fun k=>(F k∧k≠p∧k≠g)∧k<wr.heap.size) (v:=.slice ba 64 bc) (b:=q.2) (z5.chg hR (fun k hk hF e=>hF.1.2.2 e)) HB6.out HQS.out).mono ?_;rintro e w4 ⟨rfl,h1,h2⟩;exact⟨rfl,h2,h1⟩) ?_
   refine RA.RA.done rfl (fun w3 hR hF hH=>?_);have hR:Chg (·=g) W0 w3:=hR;simp only[RA.put,List.foldr_cons,List.foldr_nil,c,Act.put,List.setIfInBounds_toArray,List.set_cons_succ,List.set_cons_zero];have HH:=LH hH;clear hH hF;have hb3:Chg (·=g) w1 w3:=z6.trans hR;go_wp2;go_roundw
   case rel=>
    obtain⟨r1,r2⟩:=lay_rel (l:=D.pend) (k:=k) (s:=D.sure) (q:=q) HCU.out.2.1 q1 HCU.out.2.2 (by rw[← HN.out];exact hlt) HQ.out HB6.out HQS.out;exact⟨k+1,by omega,by go_num,hb3,_,HH.out,r1,r2⟩
   case measure=>simp[intOf];omega
  ·have hc4r:wr.cell? ⟨p,4,none⟩=some (.slice pa n pcap):=(hbr.cell (p:=⟨p,4,none⟩) hps (fun e=>hgp e.symm)).trans c4;have hpr:wr.heap[p]?=_:=(hbr.block p hps (fun e=>hgp e.symm)).trans HP1.out;have hfr:=frozen_of hpr 4;have HPR:=LH hpr;clear hpr;go_wp2;go_ret;obtain⟨g1,g2,g3⟩:=HCU.out;have hkn:k=D.pend.length:=by rw[← HN.out];omega
   rw[hkn,List.take_length] at g3;have hil:(layAll D.sure D.pend).length=D.sure.length:=Dk.image_len H.out;have hsz:D.flushed.size=D.size:=by simp only[Dk.flushed,Dk.size,hil]
   have hp':=setCell_block HPR.out 4 (.slice none 0 0);refine⟨rfl,fun k=>k=p∨k=g,At.made (g:=g) (cap:=cap) (cur:=cu) (D:=D.flushed) ?_ ?_ hgp ?_ ?_ rfl HAT.out.lo ?_,?_,?_⟩
   ·show _=some (Obj.cells #[_,_,_,.slice _ (layAll D.sure D.pend).length _,_] _ _);rw[hil,← HM.out];exact hp'
   ·exact (setCell_heap_ne _ _ _ hgp).trans g1
   ·show (layAll D.sure D.pend).length≤_∧_;rw[hil,← HM.out];exact⟨q1,q2,g2⟩
   ·show cu.toList.take (layAll D.sure D.pend).length=u8s (layAll D.sure D.pend);rw[hil,← HM.out];exact g3
   ·show (layAll D.sure D.pend).length=64*D.flushed.size∧_;rw[hsz,hil];exact H.out.full
   ·exact ((hch.trans (hbr.mono (fun k _ e=>e ▸ hFg))).setCell (fun _=>H.out.self) _)
   ·rintro k (rfl|rfl)
    ·exact .inl H.out.self
    ·exact .inl hFg
end Go.Proofs.YthmcbgidehjlbaaGreat.D

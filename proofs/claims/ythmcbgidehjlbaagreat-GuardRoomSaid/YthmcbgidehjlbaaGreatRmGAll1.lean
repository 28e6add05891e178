/-
  volume.base.all's own function: a sector that is to be written is put behind the others. No condition beyond what each theorem names.
-/
import Derived.Test.YthmcbgidehjlbaaGreatRmGRoot
namespace Go.Proofs.YthmcbgidehjlbaaGreat.Fd
open _root_.Go.Proofs.Tryz
open Go Go.RowKit K
set_option maxRecDepth 100000
set_option maxHeartbeats 8000000
def wsL (ws:List (Nat×Value)):List Value:=ws.flatMap fun p=>[.int .i64 p.1,p.2]
theorem wsL_snoc {ws:List (Nat×Value)}{p:Nat×Value}:wsL (ws++[p])=wsL ws++[.int .i64 p.1,p.2]:=by simp[wsL]
theorem infoRWrite:(prog.info? 142).map (fun i=>(i.zero,i.size,i.bytes))=some (some (.agg #[.int .i64 0,.slice none 0 0]),2,32):=by kernel_rfl
structure OutAt (w:World) (og eg B:Nat) (ws:List (Nat×Value)):Prop where
 box:∃ ov,w.heap[og]?=some (.cells #[ov] 105 (0,0))∧w.ownsRow B 142 2 ov ws.length (wsL ws)
 err:w.heap[eg]?=some (.cells #[.int .i64 0] 47 (0,0))
 els:∀ p ∈ ws,p.1<120∧∃ Z:List UInt8,Z.length=64∧w.ownsRow B 5 1 p.2 64 (u8s Z)
 ge:B≤og∧B≤eg
def OutT (t:TypeId):Prop:=t=105∨t=142∨t=47
def FT (T:TypeId→Prop) (w w':World):Prop:=∀ (g:Nat) (cs:Array Value) (t:TypeId) (m:Nat×Nat),w.heap[g]?=some (.cells cs t m)→¬ T t→w'.heap[g]?=some (.cells cs t m)
theorem OutAt.keep {w w':World}{og eg B:Nat}{ws:List (Nat×Value)}(h:OutAt w og eg B ws) (hk:∀ (g:Nat) (cs:Array Value) (t:TypeId),(OutT t∨t=5)→w.heap[g]?=some (.cells cs t (0,0))→w'.heap[g]?=some (.cells cs t (0,0))):OutAt w' og eg B ws:=by
 obtain⟨ov,h1,h2⟩:=h.box;refine⟨⟨ov,hk _ _ _ (.inl (.inl rfl)) h1,owns_keep h2 (fun g hg=>?_)⟩,hk _ _ _ (.inl (.inr (.inr rfl))) h.err,fun p hp=>?_,h.ge⟩
 ·obtain⟨cur,hc⟩:=own_cells' h2 hg;rw[hc];exact hk _ _ _ (.inl (.inr (.inl rfl))) hc
 ·obtain⟨h3,Z,h4,h5⟩:=h.els p hp;refine⟨h3,Z,h4,owns_keep h5 (fun g hg=>?_)⟩;obtain⟨cur,hc⟩:=own_cells' h5 hg;rw[hc];exact hk _ _ _ (.inr rfl) hc
theorem voAll1_ok {w:World}{og eg B:Nat}{ws:List (Nat×Value)}(h:OutAt w og eg B ws) (hB:B≤w.heap.size) (hfew:ws.length≤1000) (at':Nat) (hat:at'<120){v:Value}{Z:List UInt8}(hZ:Z.length=64) (hv:w.ownsRow B 5 1 v 64 (u8s Z)):
  Calls prog 100 #[.agg #[.int .i64 at',v],.int .i64 0,.pointer (some ⟨eg,0,none⟩),.pointer (some ⟨og,0,none⟩)] w fun e w'=>e=.returned (.tuple #[])∧OutAt w' og eg B (ws++[(at',v)])∧Below B w w'∧FT OutT w w'∧(∀ g,g<w.heap.size→(∀ cs t m,w.heap[g]?≠some (.cells cs t m))→w'.heap[g]?=w.heap[g]?):=by
 obtain⟨vg,vc,rfl,hvc1,hvc2⟩:=own_shape hv (by omega);obtain⟨ov,o1,o2⟩:=h.box;obtain⟨n,hn⟩:∃ n,n=ws.length:=⟨_,rfl⟩;rw[← hn] at o2 hfew;obtain⟨oa,oc,rfl,_⟩:=(Cells.own o2).shape;obtain⟨w1,hw1⟩:∃ w1,w1=w.alloc (.cells #[.int .i64 at',.slice (some ⟨vg,0,none⟩) 64 vc] 142):=⟨_,rfl⟩;have b1:Below w.heap.size w w1:=by rw[hw1];exact (Below.refl _ _).alloc (Nat.le_refl _) _
 have x1:w1.heap[w.heap.size]?=some (.cells #[.int .i64 at',.slice (some ⟨vg,0,none⟩) 64 vc] 142 (0,0)):=by rw[hw1];exact heap_alloc_new w _
 have p1:=(b1.block og (heap_lt o1)).trans o1;have p2:=(b1.block eg (heap_lt h.err)).trans h.err;have c0:=cell_of x1 0;have c1:=cell_of x1 1;have d0:=cell_of p1 0;have d1:=cell_of p2 0;have o3:=owns_keep o2 (fun g hg=>b1.block g (owns_lt o2 g hg));have o4:=LH (owns_keep o3 (fun g hg=>Below.heap_alloc w1 (.cells #[.int .i64 at',.slice (some ⟨vg,0,none⟩) 64 vc] 142) g (owns_lt o3 g hg)));have HCB:=LH (lit_cells w1 #[.int .i64 at',.slice (some ⟨vg,0,none⟩) 64 vc] 142 1 2 rfl (by unfold maxLen;omega));have hbs:B≤(w1.alloc (.cells #[.int .i64 at',.slice (some ⟨vg,0,none⟩) 64 vc] 142)).heap.size:=by rw[World.size_alloc];have:=b1.size;omega
 have b2:=LH (b1.alloc b1.size (.cells #[.int .i64 at',.slice (some ⟨vg,0,none⟩) 64 vc] 142));replace o1:=LH o1;replace o2:=LH o2;replace h:=LH h;replace hv:=LH hv;replace hn:=LH hn;replace b1:=LH b1;replace p1:=LH p1;replace p2:=LH p2;clear x1 o3;go_enter func100,ntmps100;have hw1':=LH hw1;subst hw1
 go_wp2_with (at_builtin;refine K.append ?_ (.tmp 8) (.tmp 10) 105 ?_ B 142 (.agg #[.int .i64 0,.slice none 0 0]) 2 32 underlying105 infoRWrite rfl (by omega) _ n _ ?_ o4.out (fun _=>True) _ 1 [.int .i64 at',.slice (some ⟨vg,0,none⟩) 64 vc] ?_ HCB.out (by simp[Value.oneCell']) (by unfold maxLen;omega) (by omega) ?_ ?_)
 any_goals (first|rfl|omega|exact hbs)
 intro v' w2 y1 y2 y3 y4;obtain⟨Wx,hWx⟩:∃ W,W=(w.alloc (.cells #[.int .i64 at',.slice (some ⟨vg,0,none⟩) 64 vc] 142)).alloc (.cells #[.int .i64 at',.slice (some ⟨vg,0,none⟩) 64 vc] 142):=⟨_,rfl⟩;have y2:Wx.grownBy w2 (Value.slice oa n oc).ownBlock:=by rw[hWx];exact y2
 have b2:=LH (show Below w.heap.size w Wx by rw[hWx];exact b2.out);have hbs:B≤Wx.heap.size:=by rw[hWx];exact hbs
 have hold:∀ g,g<w.heap.size→Wx.heap[g]?=w.heap[g]?:=fun g hg=>b2.out.block g hg
 have hkeep:∀ (g:Nat) (cs:Array Value) (ty:TypeId) (m:Nat×Nat),w.heap[g]?=some (.cells cs ty m)→ty≠142→w2.heap[g]?=some (.cells cs ty m):=fun g cs ty m hg hne=>by
  rw[y2.block g (Nat.lt_of_lt_of_le (heap_lt hg) b2.out.size) (fun e=>?_),hold g (heap_lt hg),hg];obtain⟨cur,hc⟩:=own_cells' o2.out e.symm;rw[hg] at hc;simp only[Option.some.injEq,Obj.cells.injEq] at hc;exact hne hc.2.1
 have q1:=hkeep og _ _ _ o1.out (by decide);have q2:=hkeep eg _ _ _ h.out.err (by decide)
 have hne:eg≠og:=by
  rintro rfl;have e:=q1.symm.trans q2;simp only[Option.some.injEq,Obj.cells.injEq] at e;exact absurd e.2.1 (by decide)
 obtain⟨vg',vc',rfl,_⟩:=own_shape y1 (by omega);have q3:=setCell_block q1 0 (.slice (some ⟨vg',0,none⟩) (n+1) vc');have q4:(w2.setCell ⟨og,0,none⟩ (.slice (some ⟨vg',0,none⟩) (n+1) vc')).heap[eg]?=some (.cells #[.int .i64 0] 47 (0,0)):=(setCell_heap_ne _ _ _ hne).trans q2;have f1:w2.cell? ⟨og,0,none⟩=some (.slice oa n oc):=by rw[cell_of q1];rfl
 have f2:w2.frozen? ⟨og,0,none⟩=false:=frozen_of q1 0;have f3:(w2.setCell ⟨og,0,none⟩ (.slice (some ⟨vg',0,none⟩) (n+1) vc')).cell? ⟨eg,0,none⟩=some (.int .i64 0):=by rw[cell_of q4];rfl
 have f4:(w2.setCell ⟨og,0,none⟩ (.slice (some ⟨vg',0,none⟩) (n+1) vc')).frozen? ⟨eg,0,none⟩=false:=frozen_of q4 0;obtain⟨W9,hW9⟩:∃ W,W=(w2.setCell ⟨og,0,none⟩ (.slice (some ⟨vg',0,none⟩) (n+1) vc')).setCell ⟨eg,0,none⟩ (.int .i64 0):=⟨_,rfl⟩;have hheap:∀ g,g≠og→g≠eg→W9.heap[g]?=w2.heap[g]?:=fun g h1 h2=>by rw[hW9,setCell_heap_ne _ _ _ h2,setCell_heap_ne _ _ _ h1]
 have z1:W9.heap[og]?=some (.cells #[.slice (some ⟨vg',0,none⟩) (n+1) vc'] 105 (0,0)):=by rw[hW9,setCell_heap_ne _ _ _ hne.symm];exact q3
 have z2:W9.heap[eg]?=some (.cells #[.int .i64 0] 47 (0,0)):=by rw[hW9];exact setCell_block q4 0 (.int .i64 0)
 have hFT:FT OutT w W9:=fun g cs ty m hg hn=>by
  have hg2:=hkeep g cs ty m hg (fun e=>hn (.inr (.inl e)));rw[hheap g ?_ ?_,hg2]
  ·rintro rfl;rw[o1.out] at hg;simp only[Option.some.injEq,Obj.cells.injEq] at hg;exact hn (.inl hg.2.1.symm)
  ·rintro rfl;rw[h.out.err] at hg;simp only[Option.some.injEq,Obj.cells.injEq] at hg;exact hn (.inr (.inr hg.2.1.symm))
 have hBe:Below B w W9:=by
  have h0:Below B w w2:=(b2.out.mono hB).trans ((Chg.refl _ _:Chg (fun g=>(Value.slice oa n oc).ownBlock=some g) Wx Wx).grown y2 (fun _ h _=>h) |>.below hbs (fun g hg e=>by have:=owns_ge o2.out g e;omega));rw[hW9];exact (h0.setCell h.out.ge.1 _).setCell h.out.ge.2 _
 have hmaps:∀ g,g<w.heap.size→(∀ cs t m,w.heap[g]?≠some (.cells cs t m))→W9.heap[g]?=w.heap[g]?:=fun g hg hno=>by
  rw[hheap g (by rintro rfl;exact hno _ _ _ o1.out) (by rintro rfl;exact hno _ _ _ h.out.err),y2.block g (Nat.lt_of_lt_of_le hg b2.out.size) (fun e=>?_),hold g hg];obtain⟨cur,hc⟩:=own_cells' o2.out e.symm;exact hno _ _ _ hc
 have hO:OutAt W9 og eg B (ws++[(at',.slice (some ⟨vg,0,none⟩) 64 vc)]):=by
  refine⟨⟨_,z1,?_⟩,z2,fun p hp=>?_,h.out.ge⟩
  ·rw[List.length_append,← hn.out,wsL_snoc];refine owns_keep y1 (fun g hg=>hheap g ?_ ?_)
   ·rintro rfl;exact apartT y1 q1 (by decide) hg
   ·rintro rfl;exact apartT y1 q2 (by decide) hg
  ·have hby:∀ {u:Value}{Z:List UInt8},w.ownsRow B 5 1 u 64 (u8s Z)→W9.ownsRow B 5 1 u 64 (u8s Z):=fun {u Z} hu=>owns_keep hu (fun g hg=>by
    obtain⟨cur,hc⟩:=own_cells' hu hg;rw[hc];exact hFT g _ _ _ hc (by rintro (e|e|e)<;>exact absurd e (by decide)))
   rcases List.mem_append.1 hp with hp|hp
   ·obtain⟨k1,Z',k2,k3⟩:=h.out.els p hp;exact⟨k1,Z',k2,hby k3⟩
   ·simp only[List.mem_singleton] at hp;subst hp;exact⟨hat,Z,hZ,hby hv.out⟩
 rw[hW9] at hFT hBe hO hmaps;replace hFT:=LH hFT;replace hBe:=LH hBe;replace hO:=LH hO;replace hmaps:=LH hmaps;clear hheap z1 z2 q1 q2 q3 q4 hkeep hold y1 y2 y3 y4 hne;replace hW9:=LH hW9;replace hWx:=LH hWx;clear hbs b2 o4 HCB;go_wp2;go_end0;exact⟨rfl,hO.out,hBe.out,hFT.out,hmaps.out⟩
end Go.Proofs.YthmcbgidehjlbaaGreat.Fd

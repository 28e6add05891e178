/-
  The document's own NewSuite. No condition beyond what each theorem names.
-/
import Derived.Test.YtbgfdbidbjlaaaaGreatSaQIdealPk
import Derived.Test.YtbgfdbidbjlaaaaGreatSaQXts
import Derived.Test.YtbgfdbidbjlaaaaGreatSaQMacPk
namespace Go.Proofs.YtbgfdbidbjlaaaaGreat.Fd
open _root_.Go.Proofs.Tryz
open Go Go.RowKit K
set_option maxRecDepth 100000
set_option maxHeartbeats 4000000
structure QSuiteAt (w:World) (n s hp xp tp:Nat) (cv:Value):Prop where
 box:w.heap[s]?=some (.cells #[.pointer (some ⟨hp,0,none⟩),.pointer (some ⟨xp,0,none⟩),.pointer (some ⟨tp,0,none⟩),cv] 50 (0,0))
 hash:QHashAt w hp
 tab:QBoxAt w xp
 low:n≤hp∧n≤xp∧n≤tp∧n≤s
theorem QSuiteAt.keep {w w':World}{n s hp xp tp:Nat}{cv:Value}(h:QSuiteAt w n s hp xp tp cv) (hk:∀ g,g=s∨g=hp∨g=xp→w'.heap[g]?=w.heap[g]?):QSuiteAt w' n s hp xp tp cv:=
 ⟨(hk s (.inl rfl)).trans h.box,(hk hp (.inr (.inl rfl))).trans h.hash,Arr.keep h.tab (hk xp (.inr (.inr rfl))),h.low⟩
theorem two_new (w:World) (o1 o2:Obj):((w.alloc o1).alloc o2).heap[w.heap.size]?=some o1∧((w.alloc o1).alloc o2).heap[w.heap.size+1]?=some o2∧∀ g,g<w.heap.size→((w.alloc o1).alloc o2).heap[g]?=w.heap[g]?:=by
 refine⟨(Below.heap_alloc _ _ _ (by simp)).trans (heap_alloc_new w o1),?_,fun g hg=>(Below.heap_alloc _ _ _ (by simp;omega)).trans (Below.heap_alloc _ _ _ hg)⟩;have h:=heap_alloc_new (w.alloc o1) o2;rw[show (w.alloc o1).heap.size=w.heap.size+1 by simp] at h;exact h
theorem three_new (w:World) (o1 o2 o3:Obj):let y:=((w.alloc o1).alloc o2).alloc o3
  y.heap[w.heap.size]?=some o1∧y.heap[w.heap.size+1]?=some o2∧y.heap[w.heap.size+2]?=some o3∧(∀ g,g<w.heap.size→y.heap[g]?=w.heap[g]?)∧y.heap.size=w.heap.size+3:=by
 obtain⟨e1,e2,e3⟩:=two_new w o1 o2;have h:=heap_alloc_new ((w.alloc o1).alloc o2) o3;rw[show ((w.alloc o1).alloc o2).heap.size=w.heap.size+2 by simp] at h;exact⟨(Below.heap_alloc _ _ _ (by simp;omega)).trans e1,(Below.heap_alloc _ _ _ (by simp)).trans e2,h,fun g hg=>(Below.heap_alloc _ _ _ (by simp;omega)).trans (e3 g hg),by simp⟩
theorem qNewReal_ok {w:World}{S:Nat→Prop}{bv:Value}{b:List UInt8}(hb:Bytes w S bv b) (hl:b.length≤100000) (hS:∀ g,S g→g<w.heap.size):
  Calls prog 8 #[bv,.bool false] w fun e w'=>∃ s hp xp tp,e=.returned (.pointer (some ⟨s,0,none⟩))∧QSuiteAt w' w.heap.size s hp xp tp (.pointer none)∧QTapeAt w' S tp bv (.slice none 0 0) b 0 0∧Below w.heap.size w w':=by
 obtain⟨ba,bc,rfl,hb1,hb2⟩:=hb.shape;obtain⟨n,hn⟩:∃ n,n=w.heap.size:=⟨_,rfl⟩;have HN:=LH hn;replace hb:=LH hb;replace hS:=LH hS;obtain⟨L,hL⟩:∃ L,L=b.length:=⟨_,rfl⟩;replace hL:=LH hL;clear hn;go_enter func8,ntmps8
 go_wp2_with (fail)
 refine (qNew_ok w).mono ?_;rintro e w1 ⟨hp,rfl,hh,hH,hb1'⟩;replace hH:=LH hH;replace hb1':=LH hb1'
 go_wp2_with (fail)
 refine (qBox_ok w1).mono ?_;rintro e w2 ⟨rfl,hX,hb2'⟩;obtain⟨xp,hxp⟩:∃ x,x=w1.heap.size:=⟨_,rfl⟩;rw[← hxp] at hX hb2' ⊢;replace hxp:=LH hxp;replace hX:=LH hX;replace hb2':=LH hb2'
 go_wp2_with (fail)
 go_ret;have h0:w.heap.size≤w1.heap.size:=hb1'.out.size;have h2:w1.heap.size≤w2.heap.size:=hb2'.out.size;have hl1:hp<w1.heap.size:=heap_lt hH.out;have hl2:xp<w2.heap.size:=heap_lt hX.out;have hx:=hxp.out;have hT:∀ g,g<w1.heap.size→w2.heap[g]?=w1.heap[g]?:=fun g hg=>hb2'.out.block g (by omega)
 have hW:∀ g,g<w.heap.size→w1.heap[g]?=w.heap[g]?:=fun g hg=>hb1'.out.block g hg
 have hC:Below w.heap.size w w2:=hb1'.out.trans (hb2'.out.mono (by omega));obtain⟨e1,e2,e3⟩:=two_new w2 (.cells #[.slice ba b.length bc,.int .i64 0,.slice none 0 0] 44) (.cells #[.pointer (some ⟨hp,0,none⟩),.pointer (some ⟨xp,0,none⟩),.pointer (some ⟨w2.heap.size,0,none⟩),.pointer none] 50);refine⟨w2.heap.size+1,hp,xp,w2.heap.size,rfl,⟨e2,?_,?_,?_⟩,⟨e1,?_,hl,Nat.zero_le _,⟨[],Cells.nil _ _ 3,by simp⟩,Nat.le_refl _,fun h=>?_⟩,?_⟩
 ·exact ArrN.keep hH.out ((e3 hp (by omega)).trans (hT hp hl1))
 ·exact Arr.keep hX.out (e3 xp hl2)
 ·omega
 ·exact Cells.keep hb.out (by simp;omega) (fun g _ hg=>((e3 g (by omega)).trans (hT g (by omega))).trans (hW g hg))
 ·have:=hS.out _ h;omega
 ·exact (hC.alloc (by omega) _).alloc (by simp;omega) _
theorem qNewIdeal_ok {w:World}{S:Nat→Prop}{bv:Value}{b:List UInt8}(hb:Bytes w S bv b) (hl:b.length≤100000) (hS:∀ g,S g→g<w.heap.size):
  Calls prog 8 #[bv,.bool true] w fun e w'=>∃ s hp xp tp c,e=.returned (.pointer (some ⟨s,0,none⟩))∧QSuiteAt w' w.heap.size s hp xp tp (.pointer (some ⟨c,0,none⟩))∧QIdeal w' S c tp bv (.slice none 0 0) (.slice none 0 0) (.slice none 0 0) b 0 0 [] 0∧w.heap.size≤c∧Below w.heap.size w w':=by
 obtain⟨ba,bc,rfl,hb1,hb2⟩:=hb.shape;obtain⟨n,hn⟩:∃ n,n=w.heap.size:=⟨_,rfl⟩;have HN:=LH hn;replace hb:=LH hb;replace hS:=LH hS;obtain⟨L,hL⟩:∃ L,L=b.length:=⟨_,rfl⟩;replace hL:=LH hL;clear hn;go_enter func8,ntmps8
 go_wp2_with (fail)
 refine (qNew_ok w).mono ?_;rintro e w1 ⟨hp,rfl,hh,hH,hb1'⟩;replace hH:=LH hH;replace hb1':=LH hb1'
 go_wp2_with (fail)
 refine (qBox_ok w1).mono ?_;rintro e w2 ⟨rfl,hX,hb2'⟩;obtain⟨xp,hxp⟩:∃ x,x=w1.heap.size:=⟨_,rfl⟩;rw[← hxp] at hX hb2' ⊢;replace hxp:=LH hxp;replace hX:=LH hX;replace hb2':=LH hb2'
 go_wp2_with (fail)
 go_ret;have h0:w.heap.size≤w1.heap.size:=hb1'.out.size;have h2:w1.heap.size≤w2.heap.size:=hb2'.out.size;have hl1:hp<w1.heap.size:=heap_lt hH.out;have hl2:xp<w2.heap.size:=heap_lt hX.out;have hx:=hxp.out;have hT:∀ g,g<w1.heap.size→w2.heap[g]?=w1.heap[g]?:=fun g hg=>hb2'.out.block g (by omega)
 have hW:∀ g,g<w.heap.size→w1.heap[g]?=w.heap[g]?:=fun g hg=>hb1'.out.block g hg
 have hC:Below w.heap.size w w2:=hb1'.out.trans (hb2'.out.mono (by omega));obtain⟨e1,e2,e3,e4,e5⟩:=three_new w2 (.cells #[.slice ba b.length bc,.int .i64 0,.slice none 0 0] 44) (.cells #[.pointer (some ⟨hp,0,none⟩),.pointer (some ⟨xp,0,none⟩),.pointer (some ⟨w2.heap.size,0,none⟩),.pointer (some ⟨w2.heap.size+2,0,none⟩)] 50) (.cells #[.pointer (some ⟨w2.heap.size,0,none⟩),.slice none 0 0,.slice none 0 0,.int .i64 0] 62);have hfar:∀ g,w2.heap.size≤g→¬ S g:=fun g hg h=>by have:=hS.out _ h;omega
 refine⟨w2.heap.size+1,hp,xp,w2.heap.size,w2.heap.size+2,rfl,⟨e2,?_,?_,?_⟩,⟨e3,⟨e1,?_,hl,Nat.zero_le _,⟨[],Cells.nil _ _ 3,by simp⟩,Nat.le_refl _,hfar _ (by omega)⟩,Cells.nil _ _ 35,⟨by simp,by simp⟩,Nat.zero_le _,Nat.zero_le _,hfar _ (by omega),by omega⟩,by omega,?_⟩
 ·exact ArrN.keep hH.out ((e4 hp (by omega)).trans (hT hp hl1))
 ·exact Arr.keep hX.out (e4 xp hl2)
 ·omega
 ·exact Cells.keep hb.out (by rw[e5];omega) (fun g _ hg=>((e4 g (by omega)).trans (hT g (by omega))).trans (hW g hg))
 ·exact ((hC.alloc (by omega) _).alloc (by simp;omega) _).alloc (by simp;omega) _
end Go.Proofs.YtbgfdbidbjlaaaaGreat.Fd

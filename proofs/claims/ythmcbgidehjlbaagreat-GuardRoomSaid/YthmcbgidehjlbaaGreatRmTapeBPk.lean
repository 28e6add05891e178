/-
  Texts of this claim, laid together by a program of mine. No condition beyond what each theorem names.
-/
import Derived.Test.YthmcbgidehjlbaaGreatRmSmallPk
import Derived.Lib.Agree
/-
  slices.Clone at []byte; tape.New. No condition beyond what each theorem names.
-/
namespace Go.Proofs.YthmcbgidehjlbaaGreat.Fd
open _root_.Go.Proofs.Tryz
open Go Go.RowKit K
set_option maxHeartbeats 2000000
set_option maxRecDepth 100000
theorem clone_nil (w:World):Calls prog 56 #[.slice none 0 0] w fun e w'=>e=.returned (.slice none 0 0)∧w=w':=by
 have he:=Lib.run_eql_slice_nil (P:=prog) w 42 5 none 0 0 0 0 underlying42;go_enter func56,ntmps56;go_wp2;go_ret;exact⟨rfl,rfl⟩
def Cloned (w:World) (v:Value) (n:Nat) (T:TypeId) (sz:Nat) (xs:List Value) (e:Ending) (w':World):Prop:=
 ∃ v',e=.returned v'∧w'.ownsRow w.heap.size T sz v' n xs∧Below w.heap.size w w'∧(v'=.slice none 0 0→v=.slice none 0 0)
theorem clone_ok {w:World}{S:Nat→Prop}{v:Value}{l:List UInt8}(hb:Bytes w S v l) (hl:l.length≤140737488355328):
  Calls prog 56 #[v] w (Cloned w v l.length 5 1 (u8s l)):=by
 obtain⟨a,cap,hv,h1,h2,h0⟩:∃ a cap,v=.slice a l.length cap∧l.length≤cap∧cap≤maxLen∧(a=none→cap=0):=by
  obtain⟨_,a,cap,hv,h1,h2,h0,_⟩:=hb;exact⟨a,cap,hv,h1,h2,h0⟩
 cases a with
 | none=>
  obtain rfl:=h0 rfl;have hln:l=[]:=List.eq_nil_of_length_eq_zero (by omega);subst hln;obtain rfl:v=.slice none 0 0:=hv;exact (clone_nil w).mono fun e w' ⟨h1,h2⟩=>⟨_,h1,World.ownsRow_nil _ _ _ _,by subst h2;exact Below.refl _ _,fun _=>rfl⟩
 | some ad=>
  have hrow:=World.ownsRow_lit (base:=w.heap.size) (e:=5) (size:=1) w #[] 0 (Nat.le_refl _) (by unfold maxLen;omega) rfl;have hcl:Cells (w.alloc (.cells #[] 5)) S v l.length 1 (u8s l):=hb.keep (by simp) (fun b _ hb=>Below.heap_alloc w _ b hb);subst hv;have he:=Lib.run_eql_slice_nil (P:=prog) w 42 5 (some ad) l.length cap 0 0 underlying42;have H:=LH hcl;clear hcl hb;have HL:=LH hl;clear hl;go_enter func56,ntmps56
  go_wp2_with (at_builtin;(refine K.append rfl _ _ 42 rfl w.heap.size 5 (.int .u8 0) 1 1 underlying42 infoByte rfl (by decide) _ 0 [] rfl hrow S _ l.length (u8s l) rfl H.out (u8s_one l) ?m ?b (by simp) ?k))
  case m=>have:=HL.out;unfold maxLen;omega
  case b=>have:=HL.out;omega
  case k=>
   intro v' w' ho hg hn _;go_wp2;go_ret;refine⟨_,rfl,by simpa using ho,(((Below.refl _ _).alloc (Nat.le_refl _) _).grown hg (by simp) (fun k hk=>by simp[Value.ownBlock] at hk;omega)),fun h=>absurd h hn⟩
theorem tapeNew_ok {w:World}{S:Nat→Prop}{v:Value}{b:List UInt8}(hb:Bytes w S v b) (hl:b.length≤1000000):
  Calls prog 37 #[v] w fun e w'=>∃ p bv,e=.returned (.pointer (some ⟨p,0,none⟩))∧w.heap.size≤p∧TapeAt w' (fun g=>w.heap.size≤g) p bv (.slice none 0 0) b 0 []∧Below w.heap.size w w':=by
 have hc:=LH (clone_ok hb (by omega));go_enter func37,ntmps37
 go_wp2_with fail
 refine hc.out.mono ?_;rintro e w1 ⟨bv,rfl,ho,hbe,_⟩;have HB:=LH (show Bytes w1 (fun g=>w.heap.size≤g) bv b from (Cells.own ho).mono (fun _ _ h=>h.2));have HO:=LH ho;have hbe2:=LH hbe;obtain⟨ba,cap,rfl,hc1,hc2⟩:=HB.out.shape;clear ho hbe;go_wp2;go_ret;refine⟨w1.heap.size,_,rfl,hbe2.out.size,⟨heap_alloc_new w1 _,hbe2.out.size,Cells.keep HB.out (by simp) (fun g _ hg=>Below.heap_alloc _ _ _ hg),hl,by omega,Cells.nil _ _ 3,by simp⟩,hbe2.out.alloc hbe2.out.size _⟩
end Go.Proofs.YthmcbgidehjlbaaGreat.Fd
/-
  suite: what it is made of. No condition beyond what each theorem names.
-/
namespace Go.Proofs.YthmcbgidehjlbaaGreat.Fd
open _root_.Go.Proofs.Tryz
open Go Go.RowKit K
set_option maxHeartbeats 400000
theorem u8s_zero (n:Nat):(madeCells #[.int .u8 0] n).toList=u8s (List.replicate n 0):=by
 rw[toList_madeCells_one];simp[u8s,u8]
def SuiteAt (w:World) (p:Nat) (c t:Option Addr):Prop:=w.heap[p]?=some (.cells #[.pointer c,.pointer t] 127 (0,0))
theorem real_ok (t:Option Addr) (w:World):Calls prog 36 #[.pointer t] w fun e w'=>∃ p,e=.returned (.pointer (some ⟨p,0,none⟩))∧w.heap.size≤p∧SuiteAt w' p none t∧Below w.heap.size w w':=by
 go_enter func36,ntmps36;go_wp2;go_ret;exact⟨w.heap.size,rfl,Nat.le_refl _,heap_alloc_new w _,(Below.refl _ _).alloc (Nat.le_refl _) _⟩
theorem isIdeal_ok {w:World}{p:Nat}{c t:Option Addr}(h:SuiteAt w p c t):Calls prog 137 #[.pointer (some ⟨p,0,none⟩)] w fun e w'=>e=.returned (.bool c.isSome)∧w=w':=by
 have h0:=cell_of h 0;have h1:w.cell? ⟨p,0,none⟩=some (.pointer c):=h0;clear h0;replace h:=LH h;cases c with
 | none=>
  go_enter func137,ntmps137;go_wp2;go_ret;exact⟨rfl,rfl⟩
 | some a=>
  go_enter func137,ntmps137;go_wp2;go_ret;exact⟨rfl,rfl⟩
end Go.Proofs.YthmcbgidehjlbaaGreat.Fd

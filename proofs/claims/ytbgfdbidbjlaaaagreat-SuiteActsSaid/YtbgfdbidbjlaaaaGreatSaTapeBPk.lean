/-
  Texts of this claim, laid together by a program of mine. No condition beyond what each theorem names.
-/
import Derived.Test.YtbgfdbidbjlaaaaGreatSaSmallPk
import Derived.Lib.Agree
/-
  slices.Clone at []byte; tape.New. No condition beyond what each theorem names.
-/
namespace Go.Proofs.YtbgfdbidbjlaaaaGreat.Fd
open _root_.Go.Proofs.Tryz
open Go Go.RowKit K
set_option maxHeartbeats 400000
theorem clone_nil (w:World):Calls prog 19 #[.slice none 0 0] w fun e w'=>e=.returned (.slice none 0 0)∧w=w':=by
 have he:=Lib.run_eql_slice_nil (P:=prog) w 22 5 none 0 0 0 0 underlying22;go_enter func19,ntmps19;go_wp2;go_ret;exact⟨rfl,rfl⟩
def Cloned (w:World) (v:Value) (n:Nat) (T:TypeId) (sz:Nat) (xs:List Value) (e:Ending) (w':World):Prop:=
 ∃ v',e=.returned v'∧w'.ownsRow w.heap.size T sz v' n xs∧Below w.heap.size w w'∧(v'=.slice none 0 0→v=.slice none 0 0)
theorem clone_ok {w:World}{S:Nat→Prop}{v:Value}{l:List UInt8}(hb:Bytes w S v l) (hl:l.length≤140737488355328):
  Calls prog 19 #[v] w (Cloned w v l.length 5 1 (u8s l)):=by
 obtain⟨a,cap,hv,h1,h2,h0⟩:∃ a cap,v=.slice a l.length cap∧l.length≤cap∧cap≤maxLen∧(a=none→cap=0):=by
  obtain⟨_,a,cap,hv,h1,h2,h0,_⟩:=hb;exact⟨a,cap,hv,h1,h2,h0⟩
 cases a with
 | none=>
  obtain rfl:=h0 rfl;have hln:l=[]:=List.eq_nil_of_length_eq_zero (by omega);subst hln;obtain rfl:v=.slice none 0 0:=hv;exact (clone_nil w).mono fun e w' ⟨h1,h2⟩=>⟨_,h1,World.ownsRow_nil _ _ _ _,by subst h2;exact Below.refl _ _,fun _=>rfl⟩
 | some ad=>
  have hrow:=World.ownsRow_lit (base:=w.heap.size) (e:=5) (size:=1) w #[] 0 (Nat.le_refl _) (by unfold maxLen;omega) rfl;have hcl:Cells (w.alloc (.cells #[] 5)) S v l.length 1 (u8s l):=hb.keep (by simp) (fun b _ hb=>Below.heap_alloc w _ b hb);subst hv;have he:=Lib.run_eql_slice_nil (P:=prog) w 22 5 (some ad) l.length cap 0 0 underlying22;have H:=LH hcl;clear hcl hb;have HL:=LH hl;clear hl;go_enter func19,ntmps19
  go_wp2_with (at_builtin;(refine K.append rfl _ _ 22 rfl w.heap.size 5 (.int .u8 0) 1 1 underlying22 infoByte rfl (by decide) _ 0 [] rfl hrow S _ l.length (u8s l) rfl H.out (u8s_one l) ?m ?b (by simp) ?k))
  case m=>have:=HL.out;unfold maxLen;omega
  case b=>have:=HL.out;omega
  case k=>
   intro v' w' ho hg hn _;go_wp2;go_ret;refine⟨_,rfl,by simpa using ho,(((Below.refl _ _).alloc (Nat.le_refl _) _).grown hg (by simp) (fun k hk=>by simp[Value.ownBlock] at hk;omega)),fun h=>absurd h hn⟩
theorem infoTape:(prog.info? 56).map (fun i=>(i.size,i.bytes))=some (3,56):=by kernel_rfl
end Go.Proofs.YtbgfdbidbjlaaaaGreat.Fd
/-
  suite: what it is made of. No condition beyond what each theorem names.
-/
namespace Go.Proofs.YtbgfdbidbjlaaaaGreat.Fd
open _root_.Go.Proofs.Tryz
open Go Go.RowKit K
set_option maxHeartbeats 400000
theorem u8s_zero (n:Nat):(madeCells #[.int .u8 0] n).toList=u8s (List.replicate n 0):=by
 rw[toList_madeCells_one];simp[u8s,u8]
def SuiteAt (w:World) (p:Nat) (c t:Option Addr):Prop:=w.heap[p]?=some (.cells #[.pointer c,.pointer t] 67 (0,0))
theorem real_ok (t:Option Addr) (w:World):Calls prog 16 #[.pointer t] w fun e w'=>∃ p,e=.returned (.pointer (some ⟨p,0,none⟩))∧w.heap.size≤p∧SuiteAt w' p none t∧Below w.heap.size w w':=by
 go_enter func16,ntmps16;go_wp2;go_ret;exact⟨w.heap.size,rfl,Nat.le_refl _,heap_alloc_new w _,(Below.refl _ _).alloc (Nat.le_refl _) _⟩
theorem isIdeal_ok {w:World}{p:Nat}{c t:Option Addr}(h:SuiteAt w p c t):Calls prog 15 #[.pointer (some ⟨p,0,none⟩)] w fun e w'=>e=.returned (.bool c.isSome)∧w=w':=by
 have h0:=cell_of h 0;have h1:w.cell? ⟨p,0,none⟩=some (.pointer c):=h0;clear h0;replace h:=LH h;cases c with
 | none=>
  go_enter func15,ntmps15;go_wp2;go_ret;exact⟨rfl,rfl⟩
 | some a=>
  go_enter func15,ntmps15;go_wp2;go_ret;exact⟨rfl,rfl⟩
theorem suTape_nil (w:World):Calls prog 18 #[.pointer none] w fun e w'=>e=.returned (.pointer none)∧w=w':=by
 go_enter func18,ntmps18;go_wp2;go_ret;exact⟨rfl,rfl⟩
theorem suTape_ok {w:World}{p:Nat}{c t:Option Addr}(h:SuiteAt w p c t):Calls prog 18 #[.pointer (some ⟨p,0,none⟩)] w fun e w'=>e=.returned (.pointer t)∧w=w':=by
 have h0:=cell_of h 1;have h1:w.cell? ⟨p,1,none⟩=some (.pointer t):=h0;clear h0;replace h:=LH h;go_enter func18,ntmps18;go_wp2;go_ret;exact⟨rfl,rfl⟩
end Go.Proofs.YtbgfdbidbjlaaaaGreat.Fd

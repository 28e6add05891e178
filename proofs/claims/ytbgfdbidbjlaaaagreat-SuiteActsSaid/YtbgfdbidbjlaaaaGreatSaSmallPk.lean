/-
  Texts of this claim, laid together by a program of mine. No condition beyond what each theorem names.
-/
import Derived.Test.YtbgfdbidbjlaaaaGreatSaFieldPk
import Derived.Test.YtbgfdbidbjlaaaaGreatSaRegionB
/-
  stretch.May, may; tape.Left. No condition beyond what each theorem names.
-/
namespace Go.Proofs.YtbgfdbidbjlaaaaGreat.Fd
open _root_.Go.Proofs.Tryz
open Go Go.RowKit K
set_option maxHeartbeats 2000000
theorem stMay_ok (a:Option Addr) (n cap:Nat) (w:World):Calls prog 71 #[.slice a n cap] w fun e w'=>e=.returned (.bool (decide (n≤128)))∧w=w':=by
 go_enter func71,ntmps71;go_wp2;go_ret;exact⟨ret_bool (by simp;omega),rfl⟩
def mayB (n m:Nat) (r:Int):Bool:=decide (n≤128∧m≤64∧1≤r∧r≤10000)
theorem may_ok (a b:Option Addr) (n cap m cap':Nat) (r:Int) (w:World):Calls prog 53 #[.slice a n cap,.slice b m cap',.int .i64 r] w fun e w'=>e=.returned (.bool (mayB n m r))∧w=w':=by
 obtain⟨q,hq⟩:∃ q,q=decide (n≤128):=⟨_,rfl⟩;have M:=LH (hq ▸ stMay_ok a n cap w);by_cases h1:n≤128
 ·have hq1:q=true:=by simp[hq,h1]
  subst hq1;clear hq;by_cases h2:m≤64
  ·by_cases h3:1≤r
   ·go_enter func53,ntmps53
    go_wp2_with (go_at_call 71;refine M.out.mono ?_;rintro e w' ⟨rfl,rfl⟩)
    all_goals go_ret
    all_goals exact⟨ret_bool (by simp[mayB,h1,h2,h3]),rfl⟩
   ·go_enter func53,ntmps53
    go_wp2_with (go_at_call 71;refine M.out.mono ?_;rintro e w' ⟨rfl,rfl⟩)
    all_goals go_ret
    all_goals exact⟨ret_bool (by simp[mayB];omega),rfl⟩
  ·go_enter func53,ntmps53
   go_wp2_with (go_at_call 71;refine M.out.mono ?_;rintro e w' ⟨rfl,rfl⟩)
   all_goals go_ret
   all_goals exact⟨ret_bool (by simp[mayB];omega),rfl⟩
 ·have hq1:q=false:=by simp[hq,h1]
  subst hq1;clear hq;go_enter func53,ntmps53
  go_wp2_with (go_at_call 71;refine M.out.mono ?_;rintro e w' ⟨rfl,rfl⟩)
  all_goals go_ret
  all_goals exact⟨ret_bool (by simp[mayB];omega),rfl⟩
end Go.Proofs.YtbgfdbidbjlaaaaGreat.Fd
/-
  tape. No condition beyond what each theorem names.
-/
namespace Go.Proofs.YtbgfdbidbjlaaaaGreat.Fd
open _root_.Go.Proofs.Tryz
open Go Go.RowKit K
set_option maxRecDepth 100000
set_option maxHeartbeats 2000000
def takeCells (t:ByteArray×Nat×Nat):List Value:=[.string t.1,.int .i64 t.2.1,.int .i64 t.2.2]
structure TapeAt (w:World) (F:Nat→Prop) (p:Nat) (bv tv:Value) (b:List UInt8) (a:Nat) (ts:List (ByteArray×Nat×Nat)):Prop where
 box:w.heap[p]?=some (.cells #[bv,.int .i64 a,tv] 56 (0,0))
 own:F p
 bytes:Bytes w F bv b
 few:b.length≤1000000
 within:a≤b.length
 takes:Cells w F tv ts.length 3 (ts.flatMap takeCells)
 count:ts.length≤1000000
theorem left_ok {w:World}{F:Nat→Prop}{p:Nat}{bv tv:Value}{b:List UInt8}{a:Nat}{ts:List (ByteArray×Nat×Nat)}(h:TapeAt w F p bv tv b a ts):
  Calls prog 14 #[.pointer (some ⟨p,0,none⟩)] w fun e w'=>e=.returned (.int .i64 (b.length - a:Nat))∧Chg No w w':=by
 obtain⟨ba,cap,rfl,hc1,hc2⟩:=h.bytes.shape;have hpl:=heap_lt h.box;have h0:=LH (cell_of h.box 0);have h1:=LH (cell_of h.box 1);have hw:=h.within;have hf:=h.few;replace h:=LH h;have hdr:∀ w3,Chg No w.drew w3→Chg No w w3:=fun w3 h=>⟨h.os,h.tape,h.output,h.size,h.block⟩
 replace hdr:=LH hdr;obtain⟨d,hd⟩:∃ d,d=b.length - a:=⟨_,rfl⟩;rw[← hd];go_enter func14,ntmps14;go_wp2;refine RA.rt (Chg No) [1,1,1,1,1,1,1,1,1,1,1] [] (fun _=>True) trivial (fun _=>Chg.refl _ _) (fun _ _ _ h k=>h.trans k) (h:=?_);intro cx
 repeat refine RA.qq (h:=?_)
 refine RA.fk prog (p) (0) (h:=?_);refine RA.lk prog (.slice ba b.length cap) (hc:=fun w3 hp=>by exact ((hdr.out _ hp.1).cell (p:=⟨p,0,none⟩) hpl id).trans h0.out) (h:=?_);refine RA.vk prog (.int .i64 b.length) (h:=?_)
 repeat refine RA.qq (h:=?_)
 refine RA.fk prog (p) (1) (h:=?_);refine RA.lk prog (.int .i64 a) (hc:=fun w3 hp=>by exact ((hdr.out _ hp.1).cell (p:=⟨p,1,none⟩) hpl id).trans h1.out) (h:=?_);refine RA.si (by kernel_rfl) (by rfl) (by rfl) (by rfl) ((d:Int)) (by omega) (by omega) ?_
 repeat refine RA.qq (h:=?_)
 refine RA.RA.done rfl (fun w3 hR hF hH=>?_);clear hF hH;simp only[RA.put,List.foldr_cons,List.foldr_nil,cx,Act.put,List.setIfInBounds_toArray,List.set_cons_succ,List.set_cons_zero];go_wp2;go_ret;exact⟨rfl,hdr.out _ hR⟩
end Go.Proofs.YtbgfdbidbjlaaaaGreat.Fd

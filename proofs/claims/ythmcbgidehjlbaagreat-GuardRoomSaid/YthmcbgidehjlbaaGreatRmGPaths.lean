/-
  paths: how many nodes each level has. No condition beyond what each theorem names.
-/
import Derived.Test.YthmcbgidehjlbaaGreatRmPush
import Derived.Deep.LoopGhost
namespace Go.Proofs.YthmcbgidehjlbaaGreat.Fd
open _root_.Go.Proofs.Tryz
open Go Go.RowKit K
set_option maxRecDepth 100000
set_option maxHeartbeats 4000000
def n64s (l:List Nat):List Value:=l.map fun (x:Nat)=>.int .i64 x
theorem n64s_get (l:List Nat) (j:Nat) (h:j<l.length):(n64s l)[j]?=some (.int .i64 (l.getD j 0:Nat)):=by simp[n64s,List.getD,h]
theorem n64s_snoc (l:List Nat) (x:Nat):n64s (l++[x])=n64s l++[.int .i64 x]:=by simp[n64s]
theorem infoInt:(prog.info? 3).map (fun i=>(i.zero,i.size,i.bytes))=some (some (.int .i64 0),1,8):=by kernel_rfl
def widF:Nat→Nat→List Nat
 | 0,_=>[]
 | f+1,n=>if n≤1 then [] else (n+3) / 4::widF f ((n+3) / 4)
def widthsL (n:Nat):List Nat:=n::widF 20 n
theorem widths_ok (n:Nat) (h1:1≤n) (h2:n≤65536) (w:World):
  Calls prog 129 #[.int .i64 n] w fun e w'=>∃ v,e=.returned v∧w'.ownsRow w.heap.size 3 1 v (widthsL n).length (n64s (widthsL n))∧(widthsL n).length≤21∧Below w.heap.size w w':=by
 have hz1:(Value.int .i64 0).cells.size=1:=rfl;obtain⟨R,hR⟩:∃ R,R=widthsL n:=⟨_,rfl⟩;rw[← hR];have h0:(n:Int)≤65536:=by omega
 have h01:(1:Int)≤n:=by omega
 have hlit:(w.alloc (.cells #[.int .i64 n] 3)).ownsRow w.heap.size 3 1 (.slice (some ⟨w.heap.size,0,none⟩) 1 1) 1 (n64s [n]):=World.ownsRow_lit w #[.int .i64 n] 1 (Nat.le_refl _) (by unfold maxLen;omega) rfl;have hb0:Below w.heap.size w (w.alloc (.cells #[.int .i64 n] 3)):=(Below.refl _ _).alloc (Nat.le_refl _) _;replace hlit:=LH hlit;replace hb0:=LH hb0;replace hR:=LH hR;go_enter func129,ntmps129;go_wp2
 go_loopg [0,2] 20 (fun g x o wr=>∃ m:Nat,∃ l:List Nat,x=.int .i64 m∧m≤65536∧l.length+g=21∧Hid (m≤4 ^ g∧l++widF g m=R)∧Hid (wr.ownsRow w.heap.size 3 1 o l.length (n64s l))∧Hid (Below w.heap.size w wr))
 case atStart=>exact⟨n,[n],rfl,h2,rfl,⟨by omega,hR.out.symm⟩,hlit.out,hb0.out⟩
 case round=>
  obtain⟨m,l,rfl,hm,hl,hF,HO,hbr⟩:=hrel;clear hlit hb0;by_cases hlt:1<m
  ·obtain⟨g1,rfl⟩:∃ j,gk=j+1:=⟨gk - 1,by
    cases gk with
    | zero=>have:=hF.out.1;omega
    | succ k=>rfl⟩
   have hltI:(1:Int)<(m:Int):=by omega
   have hF2:Hid ((m+3) / 4≤4 ^ g1∧(l++[(m+3) / 4])++widF g1 ((m+3) / 4)=R):=by
    obtain⟨a1,a2⟩:=hF.out;refine⟨by rw[Nat.pow_succ] at a1;omega,?_⟩;rw[← a2,widF,if_neg (by omega),List.append_assoc];rfl
   obtain⟨m2,hm2⟩:∃ m2,m2=(m+3) / 4:=⟨_,rfl⟩;have hq:((m:Int)+4 - 1) / 4=(m2:Int):=by omega
   have hm2l:m2≤65536:=by omega
   rw[← hm2] at hF2;replace hm2:=LH hm2;clear hF;have ho2:(wr.alloc (.cells #[.int .i64 m2] 3)).ownsRow _ _ _ _ _ _:=owns_keep HO.out (fun g hg=>Below.heap_alloc _ _ _ (owns_lt HO.out g hg));have HO2:=LH ho2;have HCB:=LH (lit_cells wr #[.int .i64 m2] 3 1 1 rfl (by unfold maxLen;omega));have HBK:=LH (fun g=>owns_ge HO.out g);have hrs:=hbr.out.size;clear ho2
   go_wp2_with (at_builtin;refine K.append ?_ (.tmp 13) (.tmp 15) 59 ?_ w.heap.size 3 (.int .i64 0) 1 8 underlying59 infoInt hz1 (by omega) _ l.length _ ?_ HO2.out (fun _=>True) _ 1 [.int .i64 m2] ?_ HCB.out (by simp[Value.oneCell']) (by unfold maxLen;omega) (by omega) ?_ ?_)
   ·rfl
   ·rfl
   ·omega
   intro v' w2 x1 x2 x3 x4;have X1:=LH x1;have hb2:Below w.heap.size w (wr.alloc (.cells #[.int .i64 m2] 3)):=hbr.out.alloc hbr.out.size _;have hb3:=LH ((Chg.of_below hb2 No).grown x2 (fun g hg hl=>absurd (HBK.out g hg) (by omega))).no;clear x1 x2 x3 x4 hb2;go_wp2;go_roundg g1
   case measure=>omega
   case rel=>
    refine⟨m2,l++[m2],rfl,hm2l,by simp;omega,hF2.out,?_,hb3.out⟩;show World.ownsRow _ _ _ _ _ _ _;rw[n64s_snoc,List.length_append];exact X1.out
  ·have hltI:¬ (1:Int)<(m:Int):=by omega
   have hfin:l=R:=by
    rw[← hF.out.2];cases gk with
    | zero=>simp[widF]
    | succ k=>rw[widF,if_pos (by omega),List.append_nil]
   replace hfin:=LH hfin;clear hF;go_wp2;go_ret;refine⟨_,rfl,?_,?_,hbr.out⟩
   ·rw[← hfin.out];exact HO.out
   ·rw[← hfin.out];omega
theorem widths50 (w:World):Calls prog 129 #[.int .i64 50] w fun e w'=>∃ v,e=.returned v∧w'.ownsRow w.heap.size 3 1 v 4 (n64s [50,13,4,1])∧Below w.heap.size w w':=
 (widths_ok 50 (by omega) (by omega) w).mono fun _ _ ⟨v,h1,h2,_,h3⟩=>⟨v,h1,h2,h3⟩
theorem levels50 (w:World):Calls prog 97 #[.int .i64 50] w fun e w'=>e=.returned (.int .i64 4)∧Below w.heap.size w w':=by
 have hc:=LH (widths50 w);go_enter func97,ntmps97
 go_wp2_with fail
 refine hc.out.mono ?_;rintro e w' ⟨v,rfl,h1,h2⟩;obtain⟨g,cp,rfl,_,_⟩:=own_shape h1 (by omega);replace h1:=LH h1;replace h2:=LH h2;clear hc;go_wp2;go_ret;exact⟨rfl,h2.out⟩
def wid50 (k:Int):Nat:=if k=0 then 50 else if k=1 then 13 else if k=2 then 4 else if k=3 then 1 else 0
theorem width50 (k:Int) (w:World):Calls prog 98 #[.int .i64 50,.int .i64 k] w fun e w'=>e=.returned (.int .i64 (wid50 k))∧Below w.heap.size w w':=by
 have hc:=LH (widths50 w);by_cases hk:0≤k∧k<4
 ·obtain⟨j,rfl⟩:∃ j:Nat,k=j:=⟨k.toNat,by omega⟩;have hj:j<4:=by omega
  have hv:([50,13,4,1]:List Nat).getD j 0=wid50 j:=by
   match j,hj with
   | 0,_=>rfl
   | 1,_=>rfl
   | 2,_=>rfl
   | 3,_=>rfl
  replace hv:=LH hv;have hj0:(0:Int)≤(j:Int):=by omega
  have hj4:(j:Int)<4:=by omega
  have hj4b:decide (4≤j)=false:=by simpa using hj
  have hj4c:decide ((4:Int)≤(j:Int))=false:=by simpa using hj4
  clear hk;go_enter func98,ntmps98
  go_wp2_with fail
  refine hc.out.mono ?_;rintro e w' ⟨v,rfl,h1,h2⟩;obtain⟨g,cp,rfl,_,_⟩:=own_shape h1 (by omega);have hcell:=h1.cells (g:=g) rfl j _ (n64s_get [50,13,4,1] j hj);rw[Addr.add_lit,hv.out,Nat.zero_add] at hcell;replace h1:=LH h1;replace h2:=LH h2;clear hc;go_wp2;go_ret;exact⟨rfl,h2.out⟩
 ·have hw:wid50 k=0:=by
   unfold wid50;rw[if_neg (by omega),if_neg (by omega),if_neg (by omega),if_neg (by omega)]
  rw[hw];replace hw:=LH hw;by_cases h0:k<0
  ·clear hk;go_enter func98,ntmps98
   go_wp2_with fail
   refine hc.out.mono ?_;rintro e w' ⟨v,rfl,h1,h2⟩;obtain⟨g,cp,rfl,_,_⟩:=own_shape h1 (by omega);replace h1:=LH h1;replace h2:=LH h2;clear hc;go_wp2;go_ret;exact⟨rfl,h2.out⟩
  ·have h4:(4:Int)≤k:=by omega
   have h0':(0:Int)≤k:=by omega
   have h4b:decide ((4:Int)≤k)=true:=by simpa using h4
   have h0b:decide (k<(0:Int))=false:=by simpa using h0'
   clear hk h0;go_enter func98,ntmps98
   go_wp2_with fail
   refine hc.out.mono ?_;rintro e w' ⟨v,rfl,h1,h2⟩;obtain⟨g,cp,rfl,_,_⟩:=own_shape h1 (by omega);replace h1:=LH h1;replace h2:=LH h2;clear hc;go_wp2;go_ret;exact⟨rfl,h2.out⟩
end Go.Proofs.YthmcbgidehjlbaaGreat.Fd

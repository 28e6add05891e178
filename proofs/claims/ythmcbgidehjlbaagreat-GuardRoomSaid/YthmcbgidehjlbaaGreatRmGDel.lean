/-
  slices.Clone, IndexFunc and DeleteFunc at areas, by guard's own test. No condition beyond what each theorem names.
-/
import Derived.Test.YthmcbgidehjlbaaGreatRmGPlan
import Derived.Shelf.Abstract
namespace Go.Proofs.YthmcbgidehjlbaaGreat.P
open _root_.Go.Proofs.Tryz
open Go Go.RowKit Go.Shelf K
set_option maxHeartbeats 4000000
set_option maxRecDepth 100000
def cntB (a:Ar):Bool:=decide (1≤a.2)
def encA (a:Ar):List Value:=[.int .i64 a.1,.int .i64 a.2]
theorem guNew1_ok (a:Ar) (w:World):Calls prog 42 #[arV a] w fun e w'=>e=.returned (.bool (!cntB a))∧Below w.heap.size w w':=by
 obtain⟨x,y⟩:=a;unfold arV at*;have hf:=((Below.refl _ w).alloc (Nat.le_refl _) (.cells #[.int .i64 x,.int .i64 y] 27))
 have hc:(!cntB (x,y))=decide (y<1):=by
  unfold cntB;by_cases h:1≤y
  ·rw[decide_eq_true h,decide_eq_false (by omega)];rfl
  ·rw[decide_eq_false h,decide_eq_true (by omega)];rfl
 rw[hc];replace hc:=LH hc;go_enter func42,ntmps42;go_wp2;go_ret;exact⟨rfl,hf⟩
def arCells (l:List Ar):List Value:=l.flatMap encA
theorem arCells_length (l:List Ar):(arCells l).length=l.length*2:=by
 induction l with
 | nil=>rfl
 | cons a l ih=>simp only[arCells,List.flatMap_cons,List.length_append,List.length_cons] at *;rw[ih];simp[encA];omega
theorem arCells_one (l:List Ar):∀ u ∈ arCells l,u.oneCell'=true:=by
 intro u hu;obtain⟨a,_,h⟩:=List.mem_flatMap.1 hu;simp[encA] at h;rcases h with rfl|rfl<;>rfl
theorem arCells_get:∀ (l:List Ar) (k:Nat) (h:k<l.length),(arCells l)[k*2]?=some (.int .i64 (l[k]).1)∧(arCells l)[k*2+1]?=some (.int .i64 (l[k]).2):=by
 intro l
 induction l with
 | nil=>intro k h;simp at h
 | cons a l ih=>
  intro k h;cases k with
  | zero=>exact⟨rfl,rfl⟩
  | succ k=>
   obtain⟨h1,h2⟩:=ih k (by simpa using h);have e:arCells (a::l)=.int .i64 a.1::.int .i64 a.2::arCells l:=rfl;rw[e,show (k+1)*2=k*2+1+1 by omega]
   simpa using ⟨h1,h2⟩
theorem infoArea:(prog.info? 27).map (fun i=>(i.zero,i.size,i.bytes))=some (some (.agg #[.int .i64 0,.int .i64 0]),2,16):=by kernel_rfl
def RowA (w:World) (g cap:Nat) (l:List Ar):Prop:=∃ cur:Array Value,w.heap[g]?=some (.cells cur 27 (0,0))∧l.length≤cap∧cap≤maxLen∧cur.size=cap*2∧cur.toList.take (l.length*2)=arCells l
theorem cloneA_ok {w:World}{S:Nat→Prop}{ad:Addr}{n cap:Nat}{l:List Ar}(hb:Cells w S (.slice (some ad) n cap) n 2 (arCells l)) (hl:n≤1000000):
  Calls prog 41 #[.slice (some ad) n cap] w (fun e w'=>∃ g c,e=.returned (.slice (some ⟨g,0,none⟩) n c)∧RowA w' g c l∧w.heap.size≤g∧Below w.heap.size w w'):=by
 have hnl:n=l.length:=by have:=hb.1;rw[arCells_length] at this;omega
 have hrow:=World.ownsRow_lit (base:=w.heap.size) (e:=27) (size:=2) w #[] 0 (Nat.le_refl _) (by unfold maxLen;omega) rfl;have hcl:Cells (w.alloc (.cells #[] 27)) S (.slice (some ad) n cap) n 2 (arCells l):=hb.keep (by simp) (fun b _ hb=>Below.heap_alloc w _ b hb);have he:=Lib.run_eql_slice_nil (P:=prog) w 23 27 (some ad) n cap 0 0 underlying23;have H:=LH hcl;have HN:=LH hnl;clear hcl hb hnl;have hzc:(Value.agg #[.int .i64 0,.int .i64 0]).cells.size=2:=rfl;go_enter func41,ntmps41
 go_wp2_with (at_builtin;(refine K.append ?_ (.tmp 5) (.tmp 6) 23 ?_ w.heap.size 27 _ 2 16 underlying23 infoArea hzc (by decide) _ 0 [] ?_ hrow S _ n (arCells l) ?_ H.out (arCells_one l) (by unfold maxLen;omega) (by omega) (by simp) ?_))
 ·rfl
 ·rfl
 intro v' w' ho hg hn _;go_wp2;go_ret;have hbel:=(((Below.refl _ w).alloc (Nat.le_refl _) (.cells #[] 27)).grown hg (by simp) (fun k hk=>by simp[Value.ownBlock] at hk;omega));rcases ho.2 with ⟨h0,_⟩|⟨g,c,cur,rfl,hg1,hg2,h1,h2,h3,h4⟩
 ·exact absurd h0 hn
 ·refine⟨g,c,rfl,⟨cur,hg2,by rw[← HN.out];exact h1,h2,h3,?_⟩,hg1,hbel⟩;rw[← HN.out]
  simpa using h4
theorem idx_ok {w:World}{S:Nat→Prop}{ad:Option Addr}{n cap:Nat}{l:List Ar}(hb:Cells w S (.slice ad n cap) n 2 (arCells l)) (r:Int)
  (hr:(r=-1∧∀ j (h:j<l.length),cntB l[j]=true)∨(∃ (k:Nat) (h:k<l.length),r=k∧cntB l[k]=false∧∀ j (h:j<l.length),j<k→cntB l[j]=true)):
  Calls prog 68 #[.slice ad n cap,.func (.func 42) #[] #[]] w fun e w'=>e=.returned (.int .i64 r)∧Below w.heap.size w w':=by
 have hnl:n=l.length:=by have:=hb.1;rw[arCells_length] at this;omega
 have hnm:n≤maxLen:=by obtain⟨_,_,hv,h1,h2⟩:=Cells.shape hb;cases hv;omega
 unfold maxLen at hnm;have HR:=LH hr;have HN:=LH hnl;have H:=LH hb;have eg:∀ args w,(callFunc 42 args).run prog w=.ok (.enter 42 args) w:=enters_of func42 (by kernel_rfl) rfl;clear hr hnl hb;go_enter func68,ntmps68;go_wp2
 go_loopw [5,8] (fun _ i wr=>∃ k:Nat,k≤n∧i=.int .i64 k∧Below w.heap.size w wr∧Hid (∀ j (h:j<l.length),j<k→cntB l[j]=true)) (fun _ i _=>n - (intOf i).toNat)
 case atStart=>exact⟨0,Nat.zero_le _,rfl,Below.refl _ _,fun j h hj=>by omega⟩
 case round=>
  obtain⟨k,hk,rfl,hbr,HA⟩:=hrel;by_cases hlt:k<n
  ·obtain⟨b,off,cp,hv,h1,_,_,hbl,hc⟩:=H.out.at (by omega);cases hv
   have hkl:k<l.length:=by rw[← HN.out];exact hlt
   obtain⟨g1,g2⟩:=arCells_get l k hkl;obtain⟨a,ha⟩:∃ a,a=l[k]:=⟨_,rfl⟩;rw[← ha] at g1 g2;obtain⟨x,y⟩:=a;have hc1:wr.cell? ⟨b,off+k*2,none⟩=some (.int .i64 x):=(hbr.cell (p:=⟨b,off+k*2,none⟩) hbl).trans (hc _ _ g1);have hc2:wr.cell? ⟨b,off+k*2+1,none⟩=some (.int .i64 y):=(hbr.cell (p:=⟨b,off+k*2+1,none⟩) hbl).trans (hc _ _ g2);have HJ:=LH (guNew1_ok (x,y) wr);have HAE:=LH ha;clear hc g1 g2 ha;cases hcb:cntB (x,y) with
   | true=>
    rw[hcb] at HJ;have HCB:=LH hcb;clear hcb
    go_wp2_with fail
    refine HJ.out.mono ?_;rintro e w1 ⟨rfl,hb1⟩;have hb2:=hbr.trans (hb1.mono hbr.size);clear hb1;go_wp2;go_roundw
    case rel=>exact⟨k+1,by omega,by go_num,hb2,fun j h hj=>by
     by_cases e:j=k
     ·subst e;rw[← HAE.out];exact HCB.out
     ·exact HA.out j h (by omega)⟩
    case measure=>simp[intOf];omega
   | false=>
    rw[hcb] at HJ;have HCB:=LH hcb;clear hcb
    go_wp2_with fail
    refine HJ.out.mono ?_;rintro e w1 ⟨rfl,hb1⟩;have hb2:=hbr.trans (hb1.mono hbr.size);clear hb1;go_wp2;go_ret;refine⟨ret_int ?_,hb2⟩;rcases HR.out with ⟨_,h0⟩|⟨k',hk',rfl,h1,h2⟩
    ·have:=h0 k hkl;rw[← HAE.out,HCB.out] at this;cases this
    ·have e:k'=k:=by
      rcases Nat.lt_trichotomy k' k with h|h|h
      ·have:=HA.out k' hk' h;rw[h1] at this;cases this
      ·exact h
      ·have:=h2 k hkl h;rw[← HAE.out,HCB.out] at this;cases this
     rw[e]
  ·go_wp2;go_ret;refine⟨ret_int ?_,hbr⟩;rcases HR.out with ⟨rfl,h0⟩|⟨k',hk',rfl,h1,h2⟩
   ·rfl
   ·have:=HA.out k' hk' (by have:=HN.out;omega);rw[h1] at this;cases this
theorem filter_take_succ (l:List Ar) (j:Nat) (h:j<l.length):(l.take (j+1)).filter cntB=(l.take j).filter cntB++(if cntB l[j] then [l[j]] else []):=by
 rw[List.take_succ_eq_append_getElem h,List.filter_append];cases hc:cntB l[j]<;>simp[hc]
structure Gone (l dk:List Ar) (i j:Nat):Prop where
 len:dk.length=l.length
 lo:dk.take i=(l.take j).filter cntB
 hi:dk.drop j=l.drop j
 le:i≤j
 jl:j≤l.length
theorem Gone.get {l dk:List Ar}{i j:Nat}(h:Gone l dk i j) (hj:j<l.length):dk[j]'(h.len.symm ▸ hj)=l[j]:=by
 have:=congrArg (·[0]?) h.hi;simp only[List.getElem?_drop,Nat.add_zero] at this;rw[List.getElem?_eq_getElem (h.len.symm ▸ hj),List.getElem?_eq_getElem hj] at this
 simpa using this
theorem Gone.skip {l dk:List Ar}{i j:Nat}(h:Gone l dk i j) (hj:j<l.length) (hc:cntB l[j]=false):Gone l dk i (j+1):=
 ⟨h.len,by rw[h.lo,filter_take_succ l j hj,hc];simp,by have:=congrArg (List.drop 1) h.hi;simpa [List.drop_drop] using this,by have:=h.le;omega,hj⟩
theorem Gone.keep {l dk:List Ar}{i j:Nat}(h:Gone l dk i j) (hj:j<l.length) (hc:cntB l[j]=true):Gone l (dk.set i l[j]) (i+1) (j+1):=by
 have hle:=h.le;have hil:i<dk.length:=by rw[h.len];omega
 refine⟨by simp[h.len],?_,?_,by omega,hj⟩
 ·rw[filter_take_succ l j hj,hc,← h.lo,List.take_succ_eq_append_getElem (by simpa using hil)];rw[List.take_set,List.set_eq_of_length_le (by simp;omega)];simp
 ·rw[List.drop_set_of_lt (by omega)];have:=congrArg (List.drop 1) h.hi
  simpa [List.drop_drop] using this
theorem RowA.set {w:World}{g cap:Nat}{l:List Ar}(h:RowA w g cap l) (i:Nat) (a:Ar) (hi:i<l.length):RowA ((w.setCell ⟨g,i*2,none⟩ (.int .i64 a.1)).setCell ⟨g,i*2+1,none⟩ (.int .i64 a.2)) g cap (l.set i a):=by
 obtain⟨cur,h1,h2,h3,h4,h5⟩:=h;refine⟨(cur.setIfInBounds (i*2) (.int .i64 a.1)).setIfInBounds (i*2+1) (.int .i64 a.2),setCell_block (setCell_block h1 _ _) _ _,by simpa using h2,h3,by simpa using h4,?_⟩;rw[List.length_set,Array.toList_setIfInBounds,Array.toList_setIfInBounds];rw[List.take_set,List.take_set,h5]
 have key:∀ (l:List Ar) (i:Nat),i<l.length→((arCells l).set (i*2) (.int .i64 a.1)).set (i*2+1) (.int .i64 a.2)=arCells (l.set i a):=by
  intro l
  induction l with
  | nil=>intro i h;simp at h
  | cons b l ih=>
   intro i hi;cases i with
   | zero=>rfl
   | succ i=>
    have:=ih i (by simpa using hi);have e:∀ (c:Ar) (m:List Ar),arCells (c::m)=.int .i64 c.1::.int .i64 c.2::arCells m:=fun _ _=>rfl
    rw[List.set_cons_succ,e,e,show (i+1)*2=i*2+1+1 by omega];simp only[List.set_cons_succ];rw[this]
 exact key l i hi
theorem RowA.get {w:World}{g cap:Nat}{l:List Ar}(h:RowA w g cap l) (i:Nat) (hi:i<l.length):w.cell? ⟨g,i*2,none⟩=some (.int .i64 (l[i]).1)∧w.cell? ⟨g,i*2+1,none⟩=some (.int .i64 (l[i]).2):=by
 obtain⟨cur,h1,h2,h3,h4,h5⟩:=h;obtain⟨g1,g2⟩:=arCells_get l i hi;rw[← h5,List.getElem?_take] at g1 g2;rw[if_pos (by omega)] at g1 g2;exact⟨by rw[cell_of h1];simpa using g1,by rw[cell_of h1];simpa using g2⟩
theorem RowA.lt {w:World}{g cap:Nat}{l:List Ar}(h:RowA w g cap l):g<w.heap.size:=by
 obtain⟨cur,h1,_⟩:=h;exact heap_lt h1
theorem RowA.free {w:World}{g cap:Nat}{l:List Ar}(h:RowA w g cap l) (j:Nat):w.frozen? ⟨g,j,none⟩=false:=by
 obtain⟨cur,h1,_⟩:=h;exact frozen_of h1 j
theorem RowA.keep {w w1:World}{g cap:Nat}{l:List Ar}(h:RowA w g cap l) (hb:w1.heap[g]?=w.heap[g]?):RowA w1 g cap l:=by
 obtain⟨cur,h1,h2⟩:=h;exact⟨cur,hb.trans h1,h2⟩
theorem RowA.cells {w:World}{g cap:Nat}{l:List Ar}(h:RowA w g cap l):Cells w (·=g) (.slice (some ⟨g,0,none⟩) l.length cap) l.length 2 (arCells l):=by
 have hh:=h;obtain⟨cur,h1,h2,h3,h4,h5⟩:=h;refine⟨arCells_length l,_,cap,rfl,h2,h3,fun h=>(by cases h),.inr ⟨g,0,rfl,rfl,heap_lt h1,fun j u hu=>?_⟩⟩;rw[← h5,List.getElem?_take] at hu;split at hu
 ·rw[cell_of h1,Nat.zero_add];simpa using hu
 ·cases hu
theorem zero_areas (n:Nat):(Builtin.zeroCells (Value.agg #[.int .i64 0,.int .i64 0]).cells n).toList=List.replicate (n*2) (.int .i64 0):=by
 apply List.ext_getElem
 ·simp[Builtin.zeroCells,Value.cells]
 ·intro i h1 h2;simp only[Builtin.zeroCells,Value.cells,Array.toList_map,List.getElem_map,List.getElem_replicate];have:i % 2=0∨i % 2=1:=by omega
  rcases this with h|h<;>simp[h]
theorem clear_row {w:World}{g cap:Nat}{l:List Ar}(h:RowA w g cap l) (i:Nat) (hi:i<l.length) (c':Nat):
  ∃ w',(∀ ty,(Builtin.clear_ #[23] ty #[.slice (some ⟨g,i*2,none⟩) (l.length - i) c']).run prog w=.ok (.tuple #[]) w')∧RowA w' g cap (l.take i)∧Chg (·=g) w w':=by
 obtain⟨cur,h1,h2,h3,h4,h5⟩:=h;have hst:=run_storeCells_at (P:=prog) g (i*2) 27 (List.replicate ((l.length - i)*2) (.int .i64 0)) 0 cur w h1 (by simp;omega) (fun v hv=>by rw[List.eq_of_mem_replicate hv];rfl);have hv:∀ w,(zeroValue 27).run prog w=.ok (.agg #[.int .i64 0,.int .i64 0]) w:=Tryz.zeroValue27;obtain⟨m,hm⟩:∃ m,l.length - i=m+1:=⟨l.length - i - 1,by omega⟩;have hz:=zero_areas (l.length - i);refine⟨w.setRow g (List.take (i*2+0) cur.toList++List.replicate ((l.length - i)*2) (Value.int .i64 0)++List.drop (i*2+0+(List.replicate ((l.length - i)*2) (Value.int .i64 0)).length) cur.toList).toArray,fun ty=>?_,?_,Chg.setRow (C:=(·=g)) (Chg.refl _ _) (fun _=>rfl) _⟩
 ·rw[hm] at hst hz ⊢;simp[Builtin.clear_,run_underlying underlying23,hv,hz,hst]
 ·refine⟨_,setRow_heap _ _ _ _ _ _ h1,by simp;omega,h3,?_,?_⟩
  ·simp;omega
  ·have e:(l.take i).length=i:=by simp;omega
   rw[e];simp only[Nat.add_zero,List.append_assoc];rw[List.take_append_of_le_length (by simp;omega),List.take_take,Nat.min_self];have:=congrArg (List.take (i*2)) h5;rw[List.take_take,Nat.min_eq_left (by omega)] at this;rw[this]
   have key:∀ (l:List Ar) (i:Nat),(arCells l).take (i*2)=arCells (l.take i):=by
    intro l
    induction l with
    | nil=>intro i;simp[arCells]
    | cons a l ih=>
     intro i;cases i with
     | zero=>simp[arCells]
     | succ i=>
      have e:∀ (c:Ar) (m:List Ar),arCells (c::m)=.int .i64 c.1::.int .i64 c.2::arCells m:=fun _ _=>rfl
      rw[List.take_succ_cons,e,e,show (i+1)*2=i*2+1+1 by omega,List.take_succ_cons,List.take_succ_cons,ih]
   exact key l i
theorem del_all {w:World}{S:Nat→Prop}{ad:Option Addr}{n cap:Nat}{l:List Ar}(hb:Cells w S (.slice ad n cap) n 2 (arCells l)) (hr:∀ j (h:j<l.length),cntB l[j]=true):
  Calls prog 40 #[.slice ad n cap,.func (.func 42) #[] #[]] w fun e w'=>e=.returned (.slice ad n cap)∧Below w.heap.size w w':=by
 have HI:=LH (idx_ok hb (-1) (.inl ⟨rfl,hr⟩));clear hb hr;go_enter func40,ntmps40
 go_wp2_with (go_at_call 68;refine HI.out.mono ?_;rintro e w' ⟨rfl,hb1⟩)
 go_ret;exact⟨rfl,hb1⟩
theorem del_some {w:World}{g cap:Nat}{l:List Ar}(hb:RowA w g cap l) (hbig:l.length≤1000000) (k0:Nat) (hk0:k0<l.length) (hc0:cntB l[k0]=false) (hall:∀ j (h:j<l.length),j<k0→cntB l[j]=true):
  Calls prog 40 #[.slice (some ⟨g,0,none⟩) l.length cap,.func (.func 42) #[] #[]] w fun e w'=>e=.returned (.slice (some ⟨g,0,none⟩) (l.filter cntB).length cap)∧RowA w' g cap (l.filter cntB)∧Chg (·=g) w w':=by
 have HI:=LH (idx_ok hb.cells k0 (.inr ⟨k0,hk0,rfl,hc0,hall⟩));have hne1:((k0:Int) == -1)=false:=beq_eq_false_iff_ne.2 (by omega)
 have h0:Gone l l k0 (k0+1):=by
  refine⟨rfl,?_,rfl,by omega,hk0⟩;rw[filter_take_succ l k0 hk0,hc0];simp only[if_false,List.append_nil,Bool.false_eq_true];rw[List.filter_eq_self.2 (fun a ha=>?_)];obtain⟨j,hj,rfl⟩:=List.getElem_of_mem ha;have hj':j<k0∧j<l.length:=by simp at hj;omega
  simpa using hall j hj'.2 hj'.1
 have H0:=LH h0;have HB:=LH hb;have eg:∀ args w,(callFunc 42 args).run prog w=.ok (.enter 42 args) w:=enters_of func42 (by kernel_rfl) rfl;have hgl:=hb.lt;have hcap:l.length≤cap∧cap≤maxLen:=by obtain⟨cur,_,h2,h3,_⟩:=hb;exact⟨h2,h3⟩
 obtain⟨n,hn⟩:∃ n,n=l.length:=⟨_,rfl⟩;rw[← hn] at HI hbig hcap ⊢;have HN:=LH hn;have hk0n:k0<n:=by rw[hn];exact hk0
 unfold maxLen at hcap;clear h0 hb hall hc0 hn hk0;go_enter func40,ntmps40
 go_wp2_with (go_at_call 68;refine HI.out.mono ?_;rintro e w' ⟨rfl,hb1⟩)
 have hr1:=HB.out.keep (hb1.block g hgl);have HC1:=LH (Chg.of_below hb1 (·=g));have HR1:=LH hr1;clear hb1 hr1
 go_loopw [5,6] (fun s5 s6 wr=>∃ (i j:Nat) (dk:List Ar),s5=.int .i64 i∧s6=.int .i64 j∧i<j∧j≤n∧Hid (Gone l dk i j∧RowA wr g cap dk∧Chg (·=g) w wr)) (fun _ s6 _=>n - (intOf s6).toNat)
 case atStart=>exact⟨k0,k0+1,l,rfl,by go_num,by omega,by omega,H0.out,HR1.out,HC1.out⟩
 case round=>
  obtain⟨i,j,dk,rfl,rfl,hij,hjn,HG⟩:=hrel;by_cases hlt:j<n
  ·obtain⟨hgone,hrow,hch⟩:=HG.out;have hjl:j<l.length:=by rw[← HN.out];exact hlt
   have hjd:j<dk.length:=by rw[hgone.len];exact hjl
   obtain⟨g1,g2⟩:=hrow.get j hjd;rw[hgone.get hjl] at g1 g2;obtain⟨a,ha⟩:∃ a,a=l[j]:=⟨_,rfl⟩;rw[← ha] at g1 g2;obtain⟨x,y⟩:=a;have hgl2:=hrow.lt;have HJ:=LH (guNew1_ok (x,y) (wr.alloc (.cells #[.int .i64 x,.int .i64 y] 27)));have HA:=LH ha;have HGO:=LH hgone;have HRO:=LH hrow;have HCH:=LH hch;clear ha hgone hrow hch;cases hcb:cntB (x,y) with
   | false=>
    rw[hcb] at HJ;have HCB:=LH hcb;clear hcb
    go_wp2_with fail
    refine HJ.out.mono ?_;rintro e w1 ⟨rfl,hb1⟩;have hb2:Below wr.heap.size wr w1:=((Below.refl _ wr).alloc (Nat.le_refl _) _).trans (hb1.mono (by simp));have HB2:=LH hb2;clear hb1 hb2;go_wp2;go_roundw
    case rel=>exact⟨i,j+1,dk,rfl,by go_num,by omega,by omega,HGO.out.skip hjl (by rw[← HA.out];exact HCB.out),HRO.out.keep (HB2.out.block g hgl2),HCH.out.trans (Chg.of_below HB2.out _)⟩
    case measure=>simp[intOf];omega
   | true=>
    rw[hcb] at HJ;have HCB:=LH hcb;clear hcb
    go_wp2_with fail
    refine HJ.out.mono ?_;rintro e w1 ⟨rfl,hb1⟩;have hb2:Below wr.heap.size wr w1:=((Below.refl _ wr).alloc (Nat.le_refl _) _).trans (hb1.mono (by simp));have hv1:w1.cell? ⟨wr.heap.size,0,none⟩=some (.int .i64 x):=(hb1.cell (p:=⟨wr.heap.size,0,none⟩) (by simp)).trans (by rw[cell_of (heap_alloc_new _ _)];rfl);have hv2:w1.cell? ⟨wr.heap.size,1,none⟩=some (.int .i64 y):=(hb1.cell (p:=⟨wr.heap.size,1,none⟩) (by simp)).trans (by rw[cell_of (heap_alloc_new _ _)];rfl);have hr1:=HRO.out.keep (hb2.block g hgl2);obtain⟨q1,q2⟩:=hr1.get i (by rw[HGO.out.len];omega);have f1:=hr1.free (i*2);have f2:=hr1.free (i*2+1);have hgl3:=hr1.lt;have hin:i<n:=by omega
    have HR1:=LH hr1;have HB2:=LH hb2;clear hb1 hb2 hr1 g1 g2;go_wp2;go_roundw
    case rel=>
     refine⟨i+1,j+1,dk.set i l[j],by go_num,by go_num,by omega,by omega,HGO.out.keep hjl (by rw[← HA.out];exact HCB.out),?_,?_⟩
     ·rw[← HA.out];exact HR1.out.set i (x,y) (by rw[HGO.out.len];omega)
     ·exact ((HCH.out.trans (Chg.of_below HB2.out _)).setCell (p:=⟨g,i*2,none⟩) (fun _=>rfl) _).setCell (p:=⟨g,i*2+1,none⟩) (fun _=>rfl) _
    case measure=>simp[intOf];omega
  ·obtain⟨hgone,hrow,hch⟩:=HG.out;have hdl:dk.length=n:=by rw[hgone.len];exact HN.out.symm
   obtain⟨w',hcl,hr',hc'⟩:=clear_row hrow i (by rw[hdl];omega) (cap - i);rw[hdl] at hcl;have hjl:j=l.length:=by have:=HN.out;omega
   have hlo:=hgone.lo;rw[hjl,List.take_length] at hlo;have hil:i=(l.filter cntB).length:=by rw[← hlo];simp[hdl];omega
   rw[hlo] at hr';have HR:=LH hr';have HC:=LH (hch.trans hc');have HI2:=LH hil;clear hgone hrow hch hdl hr' hc' hjl hlo hil HG;go_wp2;go_ret;exact⟨by rw[← HI2.out];rfl,HR.out,HC.out⟩
theorem del_ok {w:World}{g cap:Nat}{l:List Ar}(hb:RowA w g cap l) (hbig:l.length≤1000000):
  Calls prog 40 #[.slice (some ⟨g,0,none⟩) l.length cap,.func (.func 42) #[] #[]] w fun e w'=>e=.returned (.slice (some ⟨g,0,none⟩) (l.filter cntB).length cap)∧RowA w' g cap (l.filter cntB)∧Chg (·=g) w w':=by
 by_cases h:∀ j (h:j<l.length),cntB l[j]=true
 ·refine (del_all hb.cells h).mono ?_;rintro e w' ⟨rfl,hb1⟩
  have e:l.filter cntB=l:=List.filter_eq_self.2 fun a ha=>by
   obtain⟨j,hj,rfl⟩:=List.getElem_of_mem ha;exact h j hj
  rw[e];exact⟨rfl,hb.keep (hb1.block g hb.lt),Chg.of_below hb1 _⟩
 ·have h':∃ j,∃ h:j<l.length,cntB l[j]=false:=by
   false_or_by_contra
   rename_i hn
   exact h fun j hj=>by
    cases hc:cntB l[j] with
    | true=>rfl
    | false=>exact absurd ⟨j,hj,hc⟩ hn
  have key:∀ m,(∃ j,∃ h:j<l.length,j<m∧cntB l[j]=false)→∃ k,∃ h:k<l.length,cntB l[k]=false∧∀ j (h:j<l.length),j<k→cntB l[j]=true:=by
   intro m
   induction m with
   | zero=>rintro⟨j,_,h,_⟩;omega
   | succ m ih=>
    rintro⟨j,hj,hm,hc⟩;by_cases hx:∃ j,∃ h:j<l.length,j<m∧cntB l[j]=false
    ·exact ih hx
    ·have hjm:j=m:=by
      false_or_by_contra
      exact hx ⟨j,hj,by omega,hc⟩
     refine⟨j,hj,hc,fun i hi hij=>?_⟩;cases hci:cntB l[i] with
     | true=>rfl
     | false=>exact absurd ⟨i,hi,by omega,hci⟩ hx
  obtain⟨j,hj,hc⟩:=h';obtain⟨k0,hk0,h1,h2⟩:=key (j+1) ⟨j,hj,by omega,hc⟩;exact del_some hb hbig k0 hk0 h1 h2
theorem idxW_ok {w:World}{mb:Nat}{q:Ar→Bool}{S:Nat→Prop}{ad:Option Addr}{n cap:Nat}{l:List Ar}(hb:Cells w S (.slice ad n cap) n 2 (arCells l)) (hq:∀ a ∈ l,∀ w1,Below w.heap.size w w1→Calls prog 46 #[arV a,.pointer (some ⟨mb,0,none⟩)] w1 fun e w2=>e=.returned (.bool (q a))∧Below w1.heap.size w1 w2) (r:Int)
  (hr:(r=-1∧∀ j (h:j<l.length),q l[j]=false)∨(∃ (k:Nat) (h:k<l.length),r=k∧q l[k]=true∧∀ j (h:j<l.length),j<k→q l[j]=false)):
  Calls prog 68 #[.slice ad n cap,.func (.func 46) #[] #[.pointer (some ⟨mb,0,none⟩)]] w fun e w'=>e=.returned (.int .i64 r)∧Below w.heap.size w w':=by
 have hnl:n=l.length:=by have:=hb.1;rw[arCells_length] at this;omega
 have hnm:n≤maxLen:=by obtain⟨_,_,hv,h1,h2⟩:=Cells.shape hb;cases hv;omega
 unfold maxLen at hnm;have HR:=LH hr;have HQ:=LH hq;have HN:=LH hnl;have H:=LH hb;have eg:∀ args w,(callFunc 46 args).run prog w=.ok (.enter 46 args) w:=enters_of func46 (by kernel_rfl) rfl;clear hr hnl hb hq;go_enter func68,ntmps68;go_wp2
 go_loopw [5,8] (fun _ i wr=>∃ k:Nat,k≤n∧i=.int .i64 k∧Below w.heap.size w wr∧Hid (∀ j (h:j<l.length),j<k→q l[j]=false)) (fun _ i _=>n - (intOf i).toNat)
 case atStart=>exact⟨0,Nat.zero_le _,rfl,Below.refl _ _,fun j h hj=>by omega⟩
 case round=>
  obtain⟨k,hk,rfl,hbr,HA⟩:=hrel;by_cases hlt:k<n
  ·obtain⟨b,off,cp,hv,h1,_,_,hbl,hc⟩:=H.out.at (by omega);cases hv
   have hkl:k<l.length:=by rw[← HN.out];exact hlt
   obtain⟨g1,g2⟩:=arCells_get l k hkl;obtain⟨a,ha⟩:∃ a,a=l[k]:=⟨_,rfl⟩;rw[← ha] at g1 g2;obtain⟨x,y⟩:=a;have hc1:wr.cell? ⟨b,off+k*2,none⟩=some (.int .i64 x):=(hbr.cell (p:=⟨b,off+k*2,none⟩) hbl).trans (hc _ _ g1);have hc2:wr.cell? ⟨b,off+k*2+1,none⟩=some (.int .i64 y):=(hbr.cell (p:=⟨b,off+k*2+1,none⟩) hbl).trans (hc _ _ g2);have HJ:=LH (HQ.out (x,y) (ha ▸ List.getElem_mem _) wr hbr);have HAE:=LH ha;clear hc g1 g2 ha;cases hcb:q (x,y) with
   | false=>
    rw[hcb] at HJ;have HCB:=LH hcb;clear hcb
    go_wp2_with fail
    refine HJ.out.mono ?_;rintro e w1 ⟨rfl,hb1⟩;have hb2:=hbr.trans (hb1.mono hbr.size);clear hb1;go_wp2;go_roundw
    case rel=>exact⟨k+1,by omega,by go_num,hb2,fun j h hj=>by
     by_cases e:j=k
     ·subst e;rw[← HAE.out];exact HCB.out
     ·exact HA.out j h (by omega)⟩
    case measure=>simp[intOf];omega
   | true=>
    rw[hcb] at HJ;have HCB:=LH hcb;clear hcb
    go_wp2_with fail
    refine HJ.out.mono ?_;rintro e w1 ⟨rfl,hb1⟩;have hb2:=hbr.trans (hb1.mono hbr.size);clear hb1;go_wp2;go_ret;refine⟨ret_int ?_,hb2⟩;rcases HR.out with ⟨_,h0⟩|⟨k',hk',rfl,h1,h2⟩
    ·have:=h0 k hkl;rw[← HAE.out,HCB.out] at this;cases this
    ·have e:k'=k:=by
      rcases Nat.lt_trichotomy k' k with h|h|h
      ·have:=HA.out k' hk' h;rw[h1] at this;cases this
      ·exact h
      ·have:=h2 k hkl h;rw[← HAE.out,HCB.out] at this;cases this
     rw[e]
  ·go_wp2;go_ret;refine⟨ret_int ?_,hbr⟩;rcases HR.out with ⟨rfl,h0⟩|⟨k',hk',rfl,h1,h2⟩
   ·rfl
   ·have:=HA.out k' hk' (by have:=HN.out;omega);rw[h1] at this;cases this
theorem conW_ok {w:World}{mb:Nat}{q:Ar→Bool}{S:Nat→Prop}{ad:Option Addr}{n cap:Nat}{l:List Ar}(hb:Cells w S (.slice ad n cap) n 2 (arCells l)) (hq:∀ a ∈ l,∀ w1,Below w.heap.size w w1→Calls prog 46 #[arV a,.pointer (some ⟨mb,0,none⟩)] w1 fun e w2=>e=.returned (.bool (q a))∧Below w1.heap.size w1 w2):
  Calls prog 45 #[.slice ad n cap,.func (.func 46) #[] #[.pointer (some ⟨mb,0,none⟩)]] w fun e w'=>e=.returned (.bool (l.any q))∧Below w.heap.size w w':=by
 have key:∃ r:Int,(decide (0≤r)=l.any q)∧((r=-1∧∀ j (h:j<l.length),q l[j]=false)∨(∃ (k:Nat) (h:k<l.length),r=k∧q l[k]=true∧∀ j (h:j<l.length),j<k→q l[j]=false)):=by
  cases hf:l.findIdx? q with
  | none=>
   rw[List.findIdx?_eq_none_iff] at hf;refine⟨-1,?_,.inl ⟨rfl,fun j h=>by simpa using hf _ (List.getElem_mem h)⟩⟩;have:l.any q=false:=by rw[List.any_eq_false];intro x hx;simpa using hf x hx
   rw[this];rfl
  | some k=>
   rw[List.findIdx?_eq_some_iff_getElem] at hf;obtain⟨h,h1,h2⟩:=hf;refine⟨k,?_,.inr ⟨k,h,rfl,h1,fun j hj hlt=>by simpa using h2 j hlt⟩⟩;have:l.any q=true:=List.any_eq_true.2 ⟨_,List.getElem_mem h,h1⟩;rw[this];exact decide_eq_true (by omega)
 obtain⟨r,hr,hrr⟩:=key;have HI:=LH (idxW_ok hb hq r hrr);rw[← hr];replace hr:=LH hr;clear hrr hb hq;go_enter func45,ntmps45
 go_wp2_with (go_at_call 68;refine HI.out.mono ?_;rintro e w' ⟨rfl,hb1⟩)
 go_ret;exact⟨rfl,hb1⟩
end Go.Proofs.YthmcbgidehjlbaaGreat.P

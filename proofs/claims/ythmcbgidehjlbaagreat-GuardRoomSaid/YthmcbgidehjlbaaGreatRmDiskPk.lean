/-
  Texts of this claim, laid together by a program of mine. No condition beyond what each theorem names.
-/
import Derived.Test.YthmcbgidehjlbaaGreatRows
import Derived.Test.YthmcbgidehjlbaaGreatRmBase
import Derived.Test.YthmcbgidehjlbaaGreatRmRegion
/-
  The disk: what its memory says, and what each of its functions does, as a plain function on what it says. No condition beyond what each theorem names.
-/
namespace Go.Proofs.YthmcbgidehjlbaaGreat.D
open _root_.Go.Proofs.Tryz
open Go Go.RowKit K
set_option maxHeartbeats 400000
structure Dk where
 fuse:Bool
 left:Int
 dark:Bool
 sure:List UInt8
 pend:List (Nat×List UInt8)
def Dk.size (d:Dk):Nat:=d.sure.length / 64
def Dk.stepped (d:Dk):Dk:={ d with dark:=d.dark || d.fuse && d.left == 0,left:=if d.fuse && !(d.dark || d.fuse && d.left == 0) then d.left - 1 else d.left }
def Pend (w:World) (S:Nat→Prop):List (Nat×List UInt8)→List Value→Prop
 | [],cs=>cs=[]
 | p::ps,cs=>∃ v r,cs=.int .i64 p.1::v::r∧Bytes w S v p.2∧p.2.length=64∧Pend w S ps r
theorem Pend.keep {w w':World}{S:Nat→Prop}(hs:w.heap.size≤w'.heap.size) (hk:∀ b,S b→b<w.heap.size→w'.heap[b]?=w.heap[b]?):∀ {ps cs},Pend w S ps cs→Pend w' S ps cs:=by
 intro ps
 induction ps with
 | nil=>intro cs h;exact h
 | cons p ps ih=>
  rintro cs ⟨v,r,h1,h2,h3,h4⟩;exact⟨v,r,h1,Cells.keep h2 hs hk,h3,ih h4⟩
theorem Pend.mono {w:World}{S S':Nat→Prop}(hs:∀ b,b<w.heap.size→S b→S' b):∀ {ps cs},Pend w S ps cs→Pend w S' ps cs:=by
 intro ps
 induction ps with
 | nil=>intro cs h;exact h
 | cons p ps ih=>
  rintro cs ⟨v,r,h1,h2,h3,h4⟩;exact⟨v,r,h1,h2.mono hs,h3,ih h4⟩
theorem Pend.length {w:World}{S:Nat→Prop}:∀ {ps cs},Pend w S ps cs→cs.length=ps.length*2:=by
 intro ps
 induction ps with
 | nil=>rintro cs rfl;rfl
 | cons p ps ih=>
  rintro cs ⟨v,r,rfl,_,_,h4⟩;simp[ih h4];omega
theorem Pend.snoc {w:World}{S:Nat→Prop}{p:Nat×List UInt8}{v:Value}(hb:Bytes w S v p.2) (hl:p.2.length=64):∀ {ps cs},Pend w S ps cs→Pend w S (ps++[p]) (cs++[.int .i64 p.1,v]):=by
 intro ps
 induction ps with
 | nil=>rintro cs rfl;exact⟨v,[],rfl,hb,hl,rfl⟩
 | cons q ps ih=>
  rintro cs ⟨v',r,rfl,h2,h3,h4⟩;exact⟨v',r++[.int .i64 p.1,v],rfl,h2,h3,ih h4⟩
theorem Pend.one {w:World}{S:Nat→Prop}:∀ {ps cs},Pend w S ps cs→∀ u ∈ cs,u.oneCell'=true:=by
 intro ps
 induction ps with
 | nil=>rintro cs rfl u hu;cases hu
 | cons p ps ih=>
  rintro cs ⟨v,r,rfl,h2,_,h4⟩ u hu;rcases List.mem_cons.1 hu with rfl|hu
  ·rfl
  ·rcases List.mem_cons.1 hu with rfl|hu
   ·obtain⟨a,c,rfl,_⟩:=Cells.shape h2;rfl
   ·exact ih h4 u hu
theorem Pend.get {w:World}{S:Nat→Prop}:∀ {ps cs},Pend w S ps cs→∀ (k:Nat) (h:k<ps.length),∃ v,cs[k*2]?=some (.int .i64 (ps[k]).1)∧cs[k*2+1]?=some v∧Bytes w S v (ps[k]).2∧(ps[k]).2.length=64:=by
 intro ps
 induction ps with
 | nil=>intro cs _ k h;simp at h
 | cons p ps ih=>
  rintro cs ⟨v,r,rfl,h2,h3,h4⟩ k h;cases k with
  | zero=>exact⟨v,rfl,rfl,h2,h3⟩
  | succ k=>
   obtain⟨u,r1,r2,r3,r4⟩:=ih h4 k (by simpa using h);refine⟨u,?_,?_,r3,r4⟩
   ·rw[show (k+1)*2=k*2+1+1 from by omega];simpa using r1
   ·rw[show (k+1)*2+1=k*2+1+1+1 from by omega];simpa using r2
structure At (w:World) (F:Nat→Prop) (p:Nat) (D:Dk):Prop where
 box:∃ sv pv pcs,w.heap[p]?=some (.cells #[.bool D.fuse,.int .i64 D.left,.bool D.dark,sv,pv] 122 (0,0))∧
  w.ownsRow 0 5 1 sv D.sure.length (u8s D.sure)∧w.ownsRow 0 118 2 pv D.pend.length pcs∧sv.ownBlock≠some p∧pv.ownBlock≠some p∧(∀ g,sv.ownBlock=some g→pv.ownBlock≠some g)∧
  (∀ g,sv.ownBlock=some g∨pv.ownBlock=some g→F g)∧
  Pend w (fun k=>F k∧k≠p∧sv.ownBlock≠some k∧pv.ownBlock≠some k) D.pend pcs∧sv.ownBlock.isSome=true
 self:F p
 lim:∀ k,F k→k<w.heap.size
 lo:0≤D.left∧D.left≤9223372036854775807
 full:D.sure.length=64*D.size∧1≤D.size∧D.size≤65536
 inb:∀ q ∈ D.pend,q.1<D.size
 few:D.pend.length≤1000000000
theorem At.keep {w w':World}{F:Nat→Prop}{p:Nat}{D:Dk}(h:At w F p D) (hs:w.heap.size≤w'.heap.size) (hk:∀ b,F b→b<w.heap.size→w'.heap[b]?=w.heap[b]?):At w' F p D:=by
 obtain⟨⟨sv,pv,pcs,h1,h2,h3,h4,h5,h6,h7,h8,h9⟩,hF,hl,a1,a2,a3,a4⟩:=h;refine⟨⟨sv,pv,pcs,(hk p hF (hl p hF)).trans h1,?_,?_,h4,h5,h6,h7,h8.keep hs (fun b hb=>hk b hb.1),h9⟩,hF,fun k hk'=>Nat.lt_of_lt_of_le (hl k hk') hs,a1,a2,a3,a4⟩
 ·refine⟨h2.1,h2.2.imp id ?_⟩;rintro⟨g,cap,cur,e,hb,hg,r⟩;subst e;exact⟨g,cap,cur,rfl,hb,(hk g (h7 g (.inl rfl)) (heap_lt hg)).trans hg,r⟩
 ·refine⟨h3.1,h3.2.imp id ?_⟩;rintro⟨g,cap,cur,e,hb,hg,r⟩;subst e;exact⟨g,cap,cur,rfl,hb,(hk g (h7 g (.inr rfl)) (heap_lt hg)).trans hg,r⟩
theorem At.chg {C:Nat→Prop}{w w':World}{F:Nat→Prop}{p:Nat}{D:Dk}(h:At w F p D) (hc:Chg C w w') (hd:∀ b,F b→¬ C b):At w' F p D:=
 h.keep hc.size fun b hb hl=>hc.block b hl (hd b hb)
def Then (w:World) (F:Nat→Prop) (p:Nat) (D':Dk) (w':World):Prop:=∃ F',At w' F' p D'∧Chg F w w'∧∀ k,F' k→F k∨w.heap.size≤k
theorem infoByte:(prog.info? 5).map (fun i=>(i.zero,i.size,i.bytes))=some (some (.int .u8 0),1,1):=by kernel_rfl
theorem infoPut:(prog.info? 118).map (fun i=>(i.zero,i.size,i.bytes))=some (some (.agg #[.int .i64 0,.slice none 0 0]),2,32):=by kernel_rfl
theorem sizeByte:(prog.info? 5).map (·.size)=some 1:=by kernel_rfl
theorem size_nil (w:World):Calls prog 93 #[.pointer none] w fun e w'=>e=.returned (.int .i64 0)∧w=w':=by
 go_enter func93,ntmps93;go_wp2;go_ret;exact⟨rfl,rfl⟩
theorem At.cells {w:World}{F:Nat→Prop}{p:Nat}{D:Dk}(h:At w F p D):∃ g n cap pv,n=D.sure.length∧w.cell? ⟨p,0,none⟩=some (.bool D.fuse)∧w.cell? ⟨p,1,none⟩=some (.int .i64 D.left)∧w.cell? ⟨p,2,none⟩=some (.bool D.dark)∧
  w.cell? ⟨p,3,none⟩=some (.slice (some ⟨g,0,none⟩) n cap)∧w.cell? ⟨p,4,none⟩=some pv∧(∀ j,w.frozen? ⟨p,j,none⟩=false):=by
 obtain⟨⟨sv,pv,pcs,h1,h2,h3,h4,h5,h6,h7,h8,h9⟩,hF,hl,a1,a2,a3,a4⟩:=h;rcases h2.2 with ⟨rfl,_⟩|⟨g,cap,cur,rfl,_⟩
 ·simp[Value.ownBlock] at h9
 ·exact⟨g,_,cap,pv,rfl,cell_of h1 0,cell_of h1 1,cell_of h1 2,cell_of h1 3,cell_of h1 4,fun j=>frozen_of h1 j⟩
theorem size_ok {w:World}{F:Nat→Prop}{p:Nat}{D:Dk}(h:At w F p D):Calls prog 93 #[.pointer (some ⟨p,0,none⟩)] w fun e w'=>e=.returned (.int .i64 D.size)∧w=w':=by
 obtain⟨g,n,cap,pv,hn,_,_,_,c3,_,_⟩:=h.cells;have hb:n≤4194304:=by have:=h.full;omega
 have hz:((n:Int) / 64)=(D.size:Int):=by have:=h.full;omega
 have HZ:=LH hz;clear hz hn;go_enter func93,ntmps93;go_wp2;go_ret;exact⟨ret_int HZ.out,rfl⟩
theorem has_nil (n:Int) (w:World):Calls prog 54 #[.pointer none,.int .i64 n] w fun e w'=>e=.returned (.bool false)∧w=w':=by
 by_cases hn:0≤n
 all_goals
  go_enter func54,ntmps54
  go_wp2_with (go_at_call 93;(with_reducible refine (size_nil _).mono ?_);rintro e w' ⟨rfl,rfl⟩)
  go_ret;exact⟨ret_bool (by simp[*]),rfl⟩
theorem has_ok {w:World}{F:Nat→Prop}{p:Nat}{D:Dk}(h:At w F p D) (n:Int):Calls prog 54 #[.pointer (some ⟨p,0,none⟩),.int .i64 n] w fun e w'=>e=.returned (.bool (decide (0≤n∧n<D.size)))∧w=w':=by
 have hs:=size_ok h;have HS:=LH hs;clear hs;by_cases hn:0≤n
 all_goals
  go_enter func54,ntmps54
  go_wp2_with (go_at_call 93;(with_reducible refine HS.out.mono ?_);rintro e w' ⟨rfl,rfl⟩)
  go_ret;exact⟨ret_bool (by first|(simp[hn];done)|(simp;omega)),rfl⟩
def mayE (D:Dk) (n:Int) (l:Nat):Int:=if 0≤n∧n<D.size then (if l=64 then 0 else 1) else 3
theorem may_ok {w:World}{F:Nat→Prop}{p:Nat}{D:Dk}(h:At w F p D) (n:Int){S:Nat→Prop}{v:Value}{l:List UInt8}(hb:Bytes w S v l):
  Calls prog 105 #[.pointer (some ⟨p,0,none⟩),.int .i64 n,v] w fun e w'=>e=.returned (.int .i64 (mayE D n l.length))∧w=w':=by
 obtain⟨a,cap,rfl,_,_⟩:=Cells.shape hb;generalize l.length=m;have HS:=LH (has_ok h n);by_cases hn:0≤n∧n<D.size
 ·have HE:=LH (show decide (0≤n∧n<D.size)=true from by simpa using hn);by_cases hm:m=64
  ·subst hm;go_enter func105,ntmps105
   go_wp2_with (go_at_call 54;(with_reducible refine HS.out.mono ?_);rw[HE.out];rintro e w' ⟨rfl,rfl⟩)
   go_ret;exact⟨ret_int (by simp[mayE,hn]),rfl⟩
  ·have hm':((m:Int) != 64)=true:=by simp;omega
   go_enter func105,ntmps105
   go_wp2_with (go_at_call 54;(with_reducible refine HS.out.mono ?_);rw[HE.out];rintro e w' ⟨rfl,rfl⟩)
   go_ret;exact⟨ret_int (by simp[mayE,hn,hm]),rfl⟩
 ·have HE:=LH (show decide (0≤n∧n<D.size)=false from by simpa using hn);go_enter func105,ntmps105
  go_wp2_with (go_at_call 54;(with_reducible refine HS.out.mono ?_);rw[HE.out];rintro e w' ⟨rfl,rfl⟩)
  go_ret;exact⟨ret_int (by rw[mayE,if_neg hn]),rfl⟩
theorem At.setP {w:World}{F:Nat→Prop}{p:Nat}{D:Dk}(h:At w F p D) (j:Nat) (u:Value) (fu:Bool) (le:Int) (dk:Bool) (hle:0≤le∧le≤9223372036854775807)
  (hu:∀ sv pv:Value,(#[.bool D.fuse,.int .i64 D.left,.bool D.dark,sv,pv]:Array Value).setIfInBounds j u=#[.bool fu,.int .i64 le,.bool dk,sv,pv]):
  At (w.setCell ⟨p,j,none⟩ u) F p ⟨fu,le,dk,D.sure,D.pend⟩:=by
 obtain⟨⟨sv,pv,pcs,h1,h2,h3,h4,h5,h6,h7,h8,h9⟩,hF,hl,a1,a2,a3,a4⟩:=h;have hk:∀ b,b≠p→(w.setCell ⟨p,j,none⟩ u).heap[b]?=w.heap[b]?:=fun b hb=>setCell_heap_ne _ _ _ hb
 refine⟨⟨sv,pv,pcs,?_,?_,?_,h4,h5,h6,h7,h8.keep (by simp) (fun b hb _=>hk b hb.2.1),h9⟩,hF,fun k hk'=>by simpa using hl k hk',hle,a2,a3,a4⟩
 ·rw[setCell_block h1,hu]
 ·refine⟨h2.1,h2.2.imp id ?_⟩;rintro⟨g,cap,cur,e,hb,hg,r⟩;subst e;exact⟨g,cap,cur,rfl,hb,(hk g (fun e=>h4 (by simp[Value.ownBlock,e]))).trans hg,r⟩
 ·refine⟨h3.1,h3.2.imp id ?_⟩;rintro⟨g,cap,cur,e,hb,hg,r⟩;subst e;exact⟨g,cap,cur,rfl,hb,(hk g (fun e=>h5 (by simp[Value.ownBlock,e]))).trans hg,r⟩
theorem Then.refl {w:World}{F:Nat→Prop}{p:Nat}{D:Dk}(h:At w F p D):Then w F p D w:=⟨F,h,Chg.refl _ _,fun _=>.inl⟩
theorem At.chgP {w:World}{F:Nat→Prop}{p:Nat}{D:Dk}(h:At w F p D){w':World}(hc:Chg F w w') (j:Nat) (u:Value):Chg F w (w'.setCell ⟨p,j,none⟩ u):=hc.setCell (fun _=>h.self) u
theorem step_ok {w:World}{F:Nat→Prop}{p:Nat}{D:Dk}(h:At w F p D):Calls prog 104 #[.pointer (some ⟨p,0,none⟩)] w fun e w'=>e=.returned (.bool (!D.stepped.dark))∧At w' F p D.stepped∧Chg F w w':=by
 have H:=LH h;have hlo:=h.lo;obtain⟨g,n,cap,pv,_,c0,c1,c2,_,_,hf⟩:=h.cells;have f0:=hf 0;have f1:=hf 1;have f2:=hf 2;clear hf;obtain⟨fu,le,dk,su,pe⟩:=D;simp only at c0 c1 c2 hlo;cases dk with
 | true=>
  cases fu
  all_goals
   go_enter func104,ntmps104;go_wp2;go_ret;have h:=H.out;exact⟨rfl,h.setP 2 (.bool true) _ _ _ h.lo (fun _ _=>rfl),h.chgP (Chg.refl _ _) _ _⟩
 | false=>
  cases fu with
  | false=>
   go_enter func104,ntmps104;go_wp2;go_ret;have h:=H.out;exact⟨rfl,h.setP 2 (.bool false) _ _ _ h.lo (fun _ _=>rfl),h.chgP (Chg.refl _ _) _ _⟩
  | true=>
   by_cases hz:le=0
   ·subst hz;go_enter func104,ntmps104;go_wp2;go_ret;have h:=H.out;exact⟨rfl,h.setP 2 (.bool true) _ _ _ h.lo (fun _ _=>rfl),h.chgP (Chg.refl _ _) _ _⟩
   ·have hz1:(le == 0)=false:=by simpa using hz
    go_enter func104,ntmps104;go_wp2;go_ret;have h:=H.out;have h2:=h.setP 2 (.bool false) true le false h.lo (fun _ _=>rfl);have h3:=h2.setP 1 (.int .i64 (le - 1)) true (le - 1) false ⟨by omega,by omega⟩ (fun _ _=>rfl);exact⟨by simp[Dk.stepped,hz1],by simpa [Dk.stepped,hz1] using h3,h.chgP (h.chgP (Chg.refl _ _) _ _) _ _⟩
theorem lay_ok {w:World}{g n cap:Nat}{cur:Array Value}(hg:w.heap[g]?=some (.cells cur 5 (0,0))) (hn:n≤cap) (hcs:cur.size=cap) (hcm:cap≤maxLen) (at':Nat){S:Nat→Prop}{v:Value}{b:List UInt8}
  (hb:Bytes w S v b) (hl:b.length=64) (hfit:at'*64+64≤n):
  Calls prog 106 #[.slice (some ⟨g,0,none⟩) n cap,.agg #[.int .i64 at',v]] w fun e w'=>e=.returned (.tuple #[])∧w'.heap[g]?=some (.cells (splice cur.toList (at'*64) (u8s b)).toArray 5 (0,0))∧Chg (·=g) w w':=by
 have hgl:=heap_lt hg;unfold maxLen at hcm;have HG:=LH hg;clear hg;have HC:=LH hcs;clear hcs;have HL:=LH hl;clear hl;go_enter func106,ntmps106;go_wp2;refine RA.region (Chg (·=g)) (Chg No) [1,1,1,1,1,1,1,4] (fun _ _ _=>True) (fun w1=>w1.heap[g]?=some (.cells cur 5 (0,0))) (by kernel_rfl) (Chg.refl _ _) (fun _ _ h=>h.mono (fun _ _ h=>h.elim)) (fun _ _ _ h k=>h.trans k) (fun a b h k=>(h.block g (heap_lt k) id).trans k) (by simpa [World.drew] using (Below.heap_alloc w _ g hgl).trans HG.out) (by kernel_rfl) ?_;intro c
 have hbox:∀ w1,Chg (·=g) (w.alloc (.cells #[.int .i64 at',v] 118)).drew w1→w1.cell? ⟨w.heap.size,0,none⟩=some (.int .i64 at')∧w1.cell? ⟨w.heap.size,1,none⟩=some v:=by
  intro w1 h;have e:=h.block w.heap.size (by simp) (by omega);have e':(w.alloc (.cells #[.int .i64 at',v] 118)).drew.heap[w.heap.size]?=some (.cells #[.int .i64 at',v] 118 (0,0)):=heap_alloc_new w _;rw[e'] at e;exact⟨cell_of e 0,cell_of e 1⟩
 refine RA.mv (by rfl) (by rfl) (by rfl) ?_;refine RA.fa (by rfl) (by rfl) (by rfl) (y':=.pointer (some ⟨w.heap.size,0,none⟩)) (fun w1 hp=>by show (Instr.fieldAt _ _ _).run prog w1=_;go_simp) ?_;refine RA.ld (by rfl) (by rfl) (by rfl) (y':=.int .i64 at') (fun w1 hp=>by have h1:=(hbox w1 hp.1).1;show (Instr.loadAt _ _).run prog w1=_;go_simp) ?_;refine RA.mi (by rfl) (by rfl) (by rfl) (by rfl) ((at'*64:Nat):Int) (by omega) (by omega) ?_
 refine RA.slo (by rfl) (by rfl) (by rfl) (by rfl) (y':=.slice (some ⟨g,at'*64,none⟩) (n - at'*64) (cap - at'*64)) (fun w1 hp=>by
  show (Instr.sliceAt _ _ _ _ _).run prog w1=_;rw[cut_lo w1 (s:=1) (e:=5) underlying42 sizeByte _ _ _ _ (by omega),sliced_in _ _ _ _ _ _ (by omega)];simp) ?_
 refine RA.fa (by rfl) (by rfl) (by rfl) (y':=.pointer (some ⟨w.heap.size,1,none⟩)) (fun w1 hp=>by show (Instr.fieldAt _ _ _).run prog w1=_;go_simp) ?_;refine RA.ld (by rfl) (by rfl) (by rfl) (y':=v) (fun w1 hp=>by have h1:=(hbox w1 hp.1).2;show (Instr.loadAt _ _).run prog w1=_;go_simp) ?_;refine RA.bc (goInt 64) (fun w1=>w1.heap[g]?=some (.cells (splice cur.toList (at'*64) (u8s b)).toArray 5 (0,0))) (by rfl) (by rfl) (by kernel_rfl) (fun a b h k=>(h.block g (heap_lt k) id).trans k) (fun w1 hp hH=>?_) (RA.RA.done rfl (fun w2 hR _ hH=>?_))
 ·have hcs:=HC.out;have hl:=HL.out;have hR1:Chg (·=g) (w.alloc (.cells #[.int .i64 at',v] 118)).drew w1:=hp.1
  have hkb:Bytes w1 S v b:=Cells.keep hb (by have:=hR1.size;simp at this;omega) (fun k hk hkl=>by
   by_cases e:k=g
   ·subst e;rw[hH,HG.out]
   ·exact (hR1.block k (by simp;omega) e).trans (Below.heap_alloc w _ k hkl))
  have hm:Nat.min 64 (n - at'*64)=64:=Nat.min_eq_left (by omega)
  have hrun:=run_copy_cells' (P:=prog) w1 42 42 3 5 g (at'*64) (n - at'*64) (cap - at'*64) cur 5 underlying42 sizeByte hH S v b.length (u8s b) hkb (u8s_one b) (by
   rw[hl,hm];omega)
  rw[hl,hm,List.take_of_length_le (by rw[u8s_length,hl];exact Nat.le_refl _)] at hrun;exact⟨_,RA.ex_copy (by rfl) (by rfl) hrun,Chg.setRow (C:=(·=g)) (Chg.refl _ _) (fun _=>rfl) _,setRow_heap _ _ _ _ _ _ hH⟩
 ·refine bodyPost_end (results_none rfl _ _ _) rfl ⟨rfl,hH,?_⟩;have hR2:Chg (·=g) (w.alloc (.cells #[.int .i64 at',v] 118)).drew w2:=hR;exact Chg.then (((Chg.refl _ w).alloc _).drew) hR2 (fun _ _ h=>h)
end Go.Proofs.YthmcbgidehjlbaaGreat.D
/-
  The disk's functions that make or turn memory. No condition beyond what each theorem names.
-/
namespace Go.Proofs.YthmcbgidehjlbaaGreat.D
open _root_.Go.Proofs.Tryz
open Go Go.RowKit K
set_option maxHeartbeats 400000
theorem u8s_zero (n:Nat):(madeCells #[.int .u8 0] n).toList=u8s (List.replicate n 0):=by
 rw[toList_madeCells_one];simp[u8s,u8]
theorem clone_nil (w:World):Calls prog 56 #[.slice none 0 0] w fun e w'=>e=.returned (.slice none 0 0)∧w=w':=by
 have he:=Lib.run_eql_slice_nil (P:=prog) w 42 5 none 0 0 0 0 underlying42;go_enter func56,ntmps56;go_wp2;go_ret;exact⟨rfl,rfl⟩
def Cloned (w:World) (v:Value) (n:Nat) (T:TypeId) (sz:Nat) (xs:List Value) (e:Ending) (w':World):Prop:=
 ∃ v',e=.returned v'∧w'.ownsRow w.heap.size T sz v' n xs∧Below w.heap.size w w'∧(v'=.slice none 0 0→v=.slice none 0 0)
theorem clone_ok {w:World}{S:Nat→Prop}{v:Value}{l:List UInt8}(hb:Bytes w S v l) (hl:l.length≤140737488355328):
  Calls prog 56 #[v] w (Cloned w v l.length 5 1 (u8s l)):=by
 obtain⟨a,cap,hv,h1,h2,h0⟩:∃ a cap,v=.slice a l.length cap∧l.length≤cap∧cap≤maxLen∧(a=none→cap=0):=by
  obtain⟨_,a,cap,hv,h1,h2,h0,_⟩:=hb;exact⟨a,cap,hv,h1,h2,h0⟩
 cases a with
 | none=>
  obtain rfl:=h0 rfl;have hln:l=[]:=List.eq_nil_of_length_eq_zero (by omega);subst hln;obtain rfl:v=.slice none 0 0:=hv;exact (clone_nil w).mono fun e w' ⟨h1,h2⟩=>⟨_,h1,World.ownsRow_nil _ _ _ _,by subst h2;exact Below.refl _ _,fun _=>rfl⟩
 | some ad=>
  have hrow:=World.ownsRow_lit (base:=w.heap.size) (e:=5) (size:=1) w #[] 0 (Nat.le_refl _) (by unfold maxLen;omega) rfl;have hcl:Cells (w.alloc (.cells #[] 5)) S v l.length 1 (u8s l):=hb.keep (by simp) (fun b _ hb=>Below.heap_alloc w _ b hb);subst hv;have he:=Lib.run_eql_slice_nil (P:=prog) w 42 5 (some ad) l.length cap 0 0 underlying42;have H:=LH hcl;clear hcl hb;have HL:=LH hl;clear hl;go_enter func56,ntmps56
  go_wp2_with (at_builtin;(refine K.append rfl _ _ 42 rfl w.heap.size 5 (.int .u8 0) 1 1 underlying42 infoByte rfl (by decide) _ 0 [] rfl hrow S _ l.length (u8s l) rfl H.out (u8s_one l) ?m ?b (by simp) ?k))
  case m=>have:=HL.out;unfold maxLen;omega
  case b=>have:=HL.out;omega
  case k=>
   intro v' w' ho hg hn _;go_wp2;go_ret;refine⟨_,rfl,by simpa using ho,(((Below.refl _ _).alloc (Nat.le_refl _) _).grown hg (by simp) (fun k hk=>by simp[Value.ownBlock] at hk;omega)),fun h=>absurd h hn⟩
def Dk.new (n:Nat):Dk:=⟨false,0,false,List.replicate (64*n) 0,[]⟩
def Made (w:World) (D:Dk) (e:Ending) (w':World):Prop:=
 ∃ p F,e=.returned (.tuple #[.pointer (some ⟨p,0,none⟩),.int .i64 0])∧At w' F p D∧(∀ k,F k→w.heap.size≤k)∧Below w.heap.size w w'
theorem At.made {w:World}{p g:Nat}{cur:Array Value}{cap:Nat}{D:Dk}(hp:w.heap[p]?=some (.cells #[.bool D.fuse,.int .i64 D.left,.bool D.dark,.slice (some ⟨g,0,none⟩) D.sure.length cap,.slice none 0 0] 122 (0,0)))
  (hg:w.heap[g]?=some (.cells cur 5 (0,0))) (hne:g≠p) (hc:D.sure.length≤cap∧cap≤maxLen∧cur.size=cap) (hcur:cur.toList.take D.sure.length=u8s D.sure) (hpe:D.pend=[])
  (lo:0≤D.left∧D.left≤9223372036854775807) (full:D.sure.length=64*D.size∧1≤D.size∧D.size≤65536):At w (fun k=>k=p∨k=g) p D:=by
 refine⟨⟨_,_,[],hp,⟨by simp[u8s],.inr ⟨g,cap,cur,rfl,Nat.zero_le _,hg,hc.1,hc.2.1,by simpa using hc.2.2,by simpa using hcur⟩⟩,?_,by simpa [Value.ownBlock] using hne,by simp[Value.ownBlock],by simp[Value.ownBlock],?_,?_,rfl⟩,.inl rfl,?_,lo,full,by simp[hpe],by simp[hpe]⟩
 ·rw[hpe];exact World.ownsRow_nil _ _ _ _
 ·rintro k (hk|hk)
  ·simp[Value.ownBlock] at hk;exact .inr hk.symm
  ·simp[Value.ownBlock] at hk
 ·rw[hpe];rfl
 ·rintro k (rfl|rfl)
  ·exact heap_lt hp
  ·exact heap_lt hg
theorem new_ok (n:Nat) (h1:1≤n) (h2:n≤65536) (w:World):Calls prog 35 #[.int .i64 n] w (Made w (.new n)):=by
 have hmk:∀ u:World,_:=fun u=>make_full (P:=prog) u underlying42 infoByte rfl (n*64) ((n:Int)*64) (by omega) (by omega) (by omega)
 go_enter func35,ntmps35;go_wp2;go_ret2;refine⟨w.heap.size+1,_,rfl,At.made (g:=w.heap.size) (cap:=n*64) (cur:=madeCells #[.int .u8 0] (n*64)) ?_ ?_ (by omega) ⟨by simp[Dk.new];omega,by unfold maxLen;omega,by simp[size_madeCells]⟩ ?_ rfl ⟨Int.le_refl _,by simp[Dk.new]⟩ ⟨by simp[Dk.new,Dk.size],by simp[Dk.new,Dk.size];omega,by simp[Dk.new,Dk.size];omega⟩,?_,(((Below.refl _ _).alloc (Nat.le_refl _) _).alloc (by simp) _)⟩
 ·have:=heap_alloc_new (w.alloc (.cells (madeCells #[.int .u8 0] (n*64)) 5)) (.cells #[.bool false,.int .i64 0,.bool false,.slice (some ⟨w.heap.size,0,none⟩) (n*64) (n*64),.slice none 0 0] 122);simp only[World.size_alloc] at this;rw[this];simp[Dk.new,Nat.mul_comm]
 ·rw[Below.heap_alloc _ _ _ (by simp)];exact heap_alloc_new w _
 ·rw[u8s_zero];simp[Dk.new,u8s,Nat.mul_comm]
 ·rintro k (rfl|rfl)<;>omega
theorem At.sureAt {w:World}{F:Nat→Prop}{p:Nat}{D:Dk}(h:At w F p D):∃ g cap cur,w.cell? ⟨p,3,none⟩=some (.slice (some ⟨g,0,none⟩) D.sure.length cap)∧w.heap[g]?=some (.cells cur 5 (0,0))∧D.sure.length≤cap∧cap≤maxLen∧cur.size=cap∧
  cur.toList.take D.sure.length=u8s D.sure∧F g∧g≠p∧
  ∀ w' l',l'.length=D.sure.length→Chg (·=g) w w'→(∃ cur',w'.heap[g]?=some (.cells cur' 5 (0,0))∧cur'.size=cap∧cur'.toList.take D.sure.length=u8s l')→At w' F p { D with sure:=l' }:=by
 have hh:=h;obtain⟨⟨sv,pv,pcs,h1,h2,h3,h4,h5,h6,h7,h8,h9⟩,hF,hl,a1,a2,a3,a4⟩:=h;rcases h2.2 with ⟨rfl,_⟩|⟨g,cap,cur,rfl,hb,hg,c1,c2,c3,c4⟩
 ·simp[Value.ownBlock] at h9
 have hgp:g≠p:=fun e=>h4 (by simp[Value.ownBlock,e])
 refine⟨g,cap,cur,cell_of h1 3,hg,c1,c2,by simpa using c3,by simpa using c4,h7 g (.inl rfl),hgp,?_⟩;rintro w' l' hl' hc ⟨cur',hg',q1,q2⟩;have hk:∀ b,b<w.heap.size→b≠g→w'.heap[b]?=w.heap[b]?:=fun b hb hne=>hc.block b hb hne
 refine⟨⟨_,pv,pcs,(hk p (hl p hF) (fun e=>hgp e.symm)).trans h1,?_,?_,h4,h5,h6,h7,h8.keep hc.size (fun b hb hbl=>hk b hbl (fun e=>hb.2.2.1 (by simp[Value.ownBlock,e]))),h9⟩,hF,fun k hk'=>Nat.lt_of_lt_of_le (hl k hk') hc.size,a1,?_,?_,a4⟩
 ·show w'.ownsRow _ _ _ _ l'.length _;rw[hl'];exact⟨by simp[u8s,hl'],.inr ⟨g,cap,cur',rfl,hb,hg',c1,c2,by simpa using q1,by simpa using q2⟩⟩
 ·refine⟨h3.1,h3.2.imp id ?_⟩;rintro⟨g2,cap2,cur2,e,hb2,hg2,r⟩;subst e;exact⟨g2,cap2,cur2,rfl,hb2,(hk g2 (heap_lt hg2) (fun e=>h6 g rfl (by simp[Value.ownBlock,e]))).trans hg2,r⟩
 ·simpa [Dk.size,hl'] using a2
 ·simpa [Dk.size,hl'] using a3
def Dk.of (l:List UInt8):Dk:=⟨false,0,false,l,[]⟩
end Go.Proofs.YthmcbgidehjlbaaGreat.D
/-
  The disk's functions that go through what is pending. No condition beyond what each theorem names.
-/
namespace Go.Proofs.YthmcbgidehjlbaaGreat.D
open Go Go.RowKit K
theorem At.pendAt {w:World}{F:Nat→Prop}{p:Nat}{D:Dk}(h:At w F p D):∃ pv pcs,w.cell? ⟨p,4,none⟩=some pv∧Cells w (fun k=>F k∧k≠p) pv D.pend.length 2 pcs∧Pend w F D.pend pcs:=by
 obtain⟨⟨sv,pv,pcs,h1,h2,h3,h4,h5,h6,h7,h8,h9⟩,hF,hl,a1,a2,a3,a4⟩:=h;exact⟨pv,pcs,cell_of h1 4,(Cells.own h3).mono (fun b _ hb=>⟨h7 b (.inr hb.1),fun e=>h5 (by rw[← e];exact hb.1)⟩),h8.mono (fun b _ hb=>hb.1)⟩
theorem pend_at {w:World}{S F:Nat→Prop}{pa:Option Addr}{n pcap:Nat}{pcs:List Value}{ps:List (Nat×List UInt8)}(hc:Cells w S (.slice pa n pcap) n 2 pcs) (hp:Pend w F ps pcs) (hn:n=ps.length) (k:Nat) (hk:k<n):
  ∃ b off ba bc,pa=some ⟨b,off,none⟩∧n≤pcap∧b<w.heap.size∧S b∧w.cell? ⟨b,off+k*2,none⟩=some (.int .i64 (ps[k]'(hn ▸ hk)).1)∧w.cell? ⟨b,off+k*2+1,none⟩=some (.slice ba 64 bc)∧Bytes w F (.slice ba 64 bc) (ps[k]'(hn ▸ hk)).2∧(ps[k]'(hn ▸ hk)).2.length=64:=by
 obtain⟨b,off,cp,hva,h1,_,hSb,hbl,hcell⟩:=hc.at (by omega);obtain⟨pb,hx1,hx2,hbb,hb64⟩:=hp.get k (hn ▸ hk);cases hva
 obtain⟨ba,bc,rfl,_,_⟩:=Cells.shape hbb;refine⟨b,off,ba,bc,rfl,h1,hbl,hSb,hcell _ _ hx1,?_,?_,hb64⟩
 ·have:=hcell _ _ hx2;rw[← Nat.add_assoc,hb64] at this;exact this
 ·rw[← hb64];exact hbb
def layAll (s:List UInt8) (l:List (Nat×List UInt8)):List UInt8:=l.foldl (fun s q=>splice s (q.1*64) q.2) s
def Dk.image (d:Dk):List UInt8:=layAll d.sure d.pend
theorem layAll_snoc (s:List UInt8) (l:List (Nat×List UInt8)) (k:Nat) (h:k<l.length):layAll s (l.take (k+1))=splice (layAll s (l.take k)) ((l[k]).1*64) (l[k]).2:=by
 rw[List.take_succ_eq_append_getElem h];simp only[layAll,List.foldl_append,List.foldl_cons,List.foldl_nil]
theorem layAll_length (n:Nat):∀ (l:List (Nat×List UInt8)) (s:List UInt8),s.length=64*n→(∀ q ∈ l,q.1<n∧q.2.length=64)→(layAll s l).length=64*n:=by
 intro l
 induction l with
 | nil=>intro s h _;exact h
 | cons q l ih=>
  intro s h hq;refine ih _ ?_ (fun q' h'=>hq q' (by simp[h']));have:=hq q (by simp);rw[length_splice _ _ _ (by omega)];exact h
theorem lay_rel {cu:Array Value}{m cap k:Nat}{s:List UInt8}{l:List (Nat×List UInt8)}{q:Nat×List UInt8}(h1:cu.size=cap) (h2:m≤cap) (h3:cu.toList.take m=u8s (layAll s (l.take k))) (hk:k<l.length) (hq:q=l[k]) (h4:q.2.length=64) (h5:q.1*64+64≤m):
  (splice cu.toList (q.1*64) (u8s q.2)).toArray.size=cap∧(splice cu.toList (q.1*64) (u8s q.2)).toArray.toList.take m=u8s (layAll s (l.take (k+1))):=by
 have hlen:cu.toList.length=cap:=by rw[Array.length_toList,h1]
 constructor
 ·rw[List.size_toArray,length_splice _ _ _ (by rw[u8s_length];omega),hlen]
 ·simp only[];rw[splice_take _ _ _ _ (by rw[u8s_length];omega) (by omega),h3,layAll_snoc s l k hk,← hq,u8s_splice]
theorem Dk.image_len {w:World}{F:Nat→Prop}{p:Nat}{D:Dk}(h:At w F p D):D.image.length=D.sure.length:=by
 obtain⟨pv,pcs,_,_,hp⟩:=h.pendAt
 have:=layAll_length D.size D.pend D.sure h.full.1 (fun q hq=>⟨h.inb q hq,by
  obtain⟨k,hk,rfl⟩:=List.getElem_of_mem hq;obtain⟨_,_,_,_,h4⟩:=hp.get k hk;exact h4⟩)
 rw[Dk.image,this,h.full.1]
end Go.Proofs.YthmcbgidehjlbaaGreat.D
/-
  The disk: what a fall of the power leaves. No condition beyond what each theorem names.
-/
namespace Go.Proofs.YthmcbgidehjlbaaGreat.D
open Go Go.RowKit K
def kept:List (Nat×List UInt8)→List Bool→List (Nat×List UInt8)
 | [],_=>[]
 | _::_,[]=>[]
 | q::l,k::ks=>if k then q::kept l ks else kept l ks
def Dk.fall (d:Dk) (ks:List Bool):Dk:=⟨false,0,false,layAll d.sure (kept d.pend ks),[]⟩
theorem At.sureBytes {w:World}{F:Nat→Prop}{p:Nat}{D:Dk}(h:At w F p D):∃ g cap,w.cell? ⟨p,3,none⟩=some (.slice (some ⟨g,0,none⟩) D.sure.length cap)∧Bytes w F (.slice (some ⟨g,0,none⟩) D.sure.length cap) D.sure:=by
 obtain⟨g,cap,cur,c3,hg,q1,q2,q3,q4,hFg,hgp,_⟩:=h.sureAt;refine⟨g,cap,c3,by simp[u8s],some ⟨g,0,none⟩,cap,rfl,by omega,q2,fun h=>(by cases h),.inr ⟨g,0,rfl,hFg,heap_lt hg,fun j u hu=>?_⟩⟩;rw[Nat.zero_add,cell_of hg,← hu,← q4,List.getElem?_take];rw[← q4,List.getElem?_take] at hu;split at hu
 ·rename_i hj;simp[hj]
 ·cases hu
end Go.Proofs.YthmcbgidehjlbaaGreat.D
/-
  The disk: Put, Flush, Pending. No condition beyond what each theorem names.
-/
namespace Go.Proofs.YthmcbgidehjlbaaGreat.D
open _root_.Go.Proofs.Tryz
open Go Go.RowKit K
set_option maxRecDepth 100000
set_option maxHeartbeats 1000000
theorem At.push {w:World}{F:Nat→Prop}{p:Nat}{D:Dk}(h:At w F p D):∃ pv pcs,w.cell? ⟨p,4,none⟩=some pv∧w.ownsRow 0 118 2 pv D.pend.length pcs∧pv.ownBlock≠some p∧(∀ u ∈ pcs,u.oneCell'=true)∧
  ∀ (v' cv:Value) (n:Nat) (l:List UInt8) (w2:World),n<D.size→l.length=64→D.pend.length<1000000000→w2.ownsRow 0 118 2 v' (D.pend.length+1) (pcs++[.int .i64 n,cv])→
   Chg (fun k=>pv.ownBlock=some k) w w2→(v'.ownBlock=pv.ownBlock∨∃ g,v'.ownBlock=some g∧w.heap.size≤g)→Bytes w2 (fun k=>w.heap.size≤k∧v'.ownBlock≠some k) cv l→
   Then w F p { D with pend:=D.pend++[(n,l)] } (w2.setCell ⟨p,4,none⟩ v'):=by
 obtain⟨⟨sv,pv,pcs,h1,h2,h3,h4,h5,h6,h7,h8,h9⟩,hF,hl,a1,a2,a3,a4⟩:=h;refine⟨pv,pcs,cell_of h1 4,h3,h5,h8.one,?_⟩;intro v' cv n l w2 hn hl64 hfew hown hch hblk hcv;have hps:=hl p hF;have hp2:w2.heap[p]?=w.heap[p]?:=hch.block p hps h5
 have hv'p:v'.ownBlock≠some p:=by
  rcases hblk with e|⟨g,e,hg⟩
  ·rw[e];exact h5
  ·rw[e];intro h;cases h;omega
 have hk3:∀ k,k≠p→(w2.setCell ⟨p,4,none⟩ v').heap[k]?=w2.heap[k]?:=fun k hk=>setCell_heap_ne _ _ _ hk
 have hsvv:∀ g,sv.ownBlock=some g→v'.ownBlock≠some g:=by
  intro g hg;rcases hblk with e|⟨g',e,hg'⟩
  ·rw[e];exact h6 g hg
  ·rw[e];intro h;cases h;have:=hl g (h7 g (.inl hg));omega
 have hF2:∀ k,F k→k<w2.heap.size:=fun k hk=>Nat.lt_of_lt_of_le (hl k hk) hch.size
 refine⟨fun k=>(F k∨w.heap.size≤k)∧k<w2.heap.size,⟨⟨sv,v',pcs++[.int .i64 n,cv],?_,?_,?_,h4,hv'p,hsvv,?_,?_,h9⟩,⟨.inl hF,hF2 p hF⟩,fun k hk=>by simpa using hk.2,a1,a2,?_,by simp;omega⟩,?_,fun k hk=>hk.1⟩
 ·rw[setCell_block (hp2.trans h1)];rfl
 ·refine⟨h2.1,h2.2.imp id ?_⟩;rintro⟨g,cap,cur,e,hb,hg,r⟩;subst e;have hgp:g≠p:=fun e=>h4 (by simp[Value.ownBlock,e])
  have hgs:=heap_lt hg;exact⟨g,cap,cur,rfl,hb,(hk3 g hgp).trans ((hch.block g hgs (h6 g rfl)).trans hg),r⟩
 ·refine⟨by have:=hown.1;simp at this ⊢;try omega,hown.2.imp (fun h=>by simp at h ⊢;try omega) ?_⟩;rintro⟨g,cap,cur,e,hb,hg,r⟩;subst e;refine⟨g,cap,cur,by simp,hb,(hk3 g (fun e=>hv'p (by simp[Value.ownBlock,e]))).trans hg,by simpa using r⟩
 ·intro g hg;rcases hg with hg|hg
  ·exact⟨.inl (h7 g (.inl hg)),hF2 g (h7 g (.inl hg))⟩
  ·rcases hblk with e|⟨g',e,hg'⟩
   ·have:=h7 g (.inr (by rw[← e];exact hg));exact⟨.inl this,hF2 g this⟩
   ·rw[e] at hg;cases hg
    exact⟨.inr hg',(hown.lt _ e).2⟩
 ·refine Pend.snoc (p:=(n,l)) ?_ hl64 ?_
  ·refine (Cells.keep hcv (by simp) (fun k hk hkl=>hk3 k (fun e=>by have:=hk.1;omega))).mono (fun k hk hS=>⟨⟨.inr hS.1,by simpa using hk⟩,fun e=>by have:=hS.1;omega,fun e=>?_,hS.2⟩);have:=hl k (h7 k (.inl e));have:=hS.1;omega
  ·refine (Pend.keep hch.size (fun k hk hkl=>hch.block k hkl (fun e=>hk.2.2.2 e)) h8 |>.keep (w':=w2.setCell ⟨p,4,none⟩ v') (by simp) (fun k hk _=>hk3 k hk.2.1)).mono (fun k hk hS=>⟨⟨.inl hS.1,by simpa using hk⟩,hS.2.1,hS.2.2.1,?_⟩);rcases hblk with e|⟨g',e,hg'⟩
   ·rw[e];exact hS.2.2.2
   ·rw[e];intro h;cases h;have:=hl k hS.1;omega
 ·intro q hq;rcases List.mem_append.1 hq with hq|hq
  ·exact a3 q hq
  ·simp at hq;subst hq;exact hn
 ·exact (hch.mono (fun k hk e=>h7 k (.inr e))).setCell (fun _=>hF) _
def Dk.putE (d:Dk) (n:Int) (l:Nat):Int:=if d.stepped.dark then 11 else mayE d.stepped n l
def Dk.put (d:Dk) (n:Int) (l:List UInt8):Dk:=if d.stepped.dark=false∧mayE d.stepped n l.length=0 then { d.stepped with pend:=d.stepped.pend++[(n.toNat,l)] } else d.stepped
def PutPost (w:World) (F:Nat→Prop) (p:Nat) (D:Dk) (n:Int) (l:List UInt8) (e:Ending) (w':World):Prop:=e=.returned (.int .i64 (D.putE n l.length))∧Then w F p (D.put n l) w'
theorem put_ok {w:World}{F:Nat→Prop}{p:Nat}{D:Dk}(h:At w F p D) (hfew:D.pend.length<1000000000) (n:Int){S:Nat→Prop}{v:Value}{l:List UInt8}(hb:Bytes w S v l) (hS:∀ k,S k→¬ F k):
  Calls prog 66 #[.pointer (some ⟨p,0,none⟩),.int .i64 n,v] w (PutPost w F p D n l):=by
 have HST:=LH (step_ok h);have HB:=LH hb;obtain⟨a,cap,rfl,hc1,hc2⟩:=Cells.shape hb;clear hb;cases hdk:D.stepped.dark with
 | true=>
  have HDK:=LH hdk;clear hdk;go_enter func66,ntmps66
  go_wp2_with fail
  refine HST.out.mono ?_;rw[HDK.out];rintro e w1 ⟨rfl,hat,hch⟩;go_wp2;go_ret;refine⟨ret_int ?_,?_⟩
  ·rw[Dk.putE,if_pos HDK.out]
  ·have e:D.put n l=D.stepped:=by rw[Dk.put,if_neg (by rw[HDK.out];simp)]
   rw[e];exact⟨F,hat,hch,fun _=>.inl⟩
 | false=>
  by_cases hm:mayE D.stepped n l.length=0
  ·obtain⟨hn,hl64⟩:(0≤n∧n<D.stepped.size)∧l.length=64:=by
    unfold mayE at hm;split at hm
    ·rename_i h1;split at hm
     ·rename_i h2;exact⟨h1,h2⟩
     ·omega
    ·omega
   have HDK:=LH hdk;clear hdk;have HME:=LH hm;clear hm;have HLL:=LH hl64;clear hl64;go_enter func66,ntmps66
   go_wp2_with fail
   refine HST.out.mono ?_;rw[HDK.out];rintro e w1 ⟨rfl,hat,hch⟩
   go_wp2_with fail
   refine (may_ok hat n (HB.out.chg hch (fun k _ hk=>hS k hk))).mono ?_;rw[HME.out];rintro e w2 ⟨rfl,rfl⟩;obtain⟨pv,pcs,hc4,hown,hpvp,hone,hpush⟩:=hat.push;have HPU:=LH hpush;have HOW:=LH hown;have HON:=LH hone;clear hpush hown hone;obtain⟨np,hnp⟩:∃ np,np=D.stepped.pend.length:=⟨_,rfl⟩;have hnp9:np<1000000000:=by rw[hnp];exact hfew
   have hB1:=HB.out.chg hch (fun k _ hk=>hS k hk);have HB1:=LH hB1;clear hB1;go_wp2;refine RA.regionT (Chg No) (·=·) [5,5,5,5,1,5,5,3,1,3,6,5,5,7] [10,13] (fun _ _ _=>True) (fun _=>True) (by kernel_rfl) (Chg.refl _ _) (fun _ _ h=>h ▸ Chg.refl _ _) (fun _ _ _ h k=>h.trans k) (fun _ _ h k=>h ▸ k) trivial (by kernel_rfl) (by kernel_rfl) ?_;intro c;have hdr:∀ w3,Chg No w1.drew w3→Chg No w1 w3:=fun w3 h=>⟨h.os,h.tape,h.output,h.size,h.block⟩
   refine RA.pmv (by rfl) (by rfl) (by rfl) ?_;refine RA.pmv (by rfl) (by rfl) (by rfl) ?_;refine RA.pnc (by rfl) (by rfl) (by rfl) ?_;refine RA.pfa (by rfl) (by rfl) (by rfl) (y':=.pointer (some ⟨p,4,none⟩)) (fun w3=>by show (Instr.fieldAt _ _ _).run prog w3=_;go_simp) ?_
   refine RA.ld (by kernel_rfl) (by rfl) (by rfl) (y':=pv) (fun w3 hp=>by
    have h1:=((hdr _ hp.1).cell (p:=⟨p,4,none⟩) (cell_lt hc4) id).trans hc4;show (Instr.loadAt _ _).run prog w3=_;go_simp) ?_
   refine RA.pmv (by rfl) (by rfl) (by rfl) ?_;refine RA.pmv (by rfl) (by rfl) (by rfl) ?_
   refine RA.qc (P:=prog) [_] (fun u w3=>∃ ba bc,u=.slice ba 64 bc∧Bytes w3 (fun k=>w1.heap.size≤k) u l) (fun _ _=>True) (fun _ _=>by go_simp) (by kernel_rfl) (by rfl) (by rfl) (by kernel_rfl)
    (fun u a b h ⟨ba,bc,h1,h2⟩=>⟨ba,bc,h1,h2.chg h (fun _ _ _=>id)⟩) (fun _ _ _ _ _=>trivial) rfl (fun w3 hp _=>by
    have hR:=hdr _ hp.1;refine (clone_ok (w:=w3) (HB1.out.chg hR (fun _ _ _=>id)) (by rw[HLL.out];omega)).mono ?_;rintro e w4 ⟨u,rfl,ho,hbe,_⟩;have hcl:=Cells.own ho;obtain⟨ba,bc,rfl,_,_⟩:=Cells.shape hcl;refine⟨_,rfl,Chg.of_below hbe _,⟨ba,bc,by rw[HLL.out],hcl.mono (fun k _ hk=>Nat.le_trans hR.size hk.2)⟩,trivial⟩) (fun u=>?_)
   refine RA.pv (by kernel_rfl) (by rfl) (by rfl) (y:=.agg #[.int .i64 n,u]) (fun w3 hp=>by
    obtain⟨ba,bc,hu,_⟩:=hp.fact 0 rfl (by kernel_rfl);subst hu;show (execOp _ _).run prog w3=_;go_simp) ?_
   refine RA.bq (fun x w3=>Cells w3 (fun _=>True) x 1 2 [.int .i64 n,u]) (fun _ _=>True) (by kernel_rfl) (by rfl) (by kernel_rfl) (fun _ _ _ h k=>k.chg h (fun _ _ _=>id)) (fun _ _ _ _ _=>trivial) (fun w3 hp _=>by
    obtain⟨ba,bc,hu,hbb⟩:=hp.fact 0 rfl (by kernel_rfl);subst hu;refine⟨.slice (some ⟨w3.heap.size,0,none⟩) 1 1,w3.alloc (.cells #[.int .i64 n,.slice ba 64 bc] 118),?_,(Chg.refl _ _).alloc _,?_,trivial⟩
    ·show (execOp _ _).run prog w3=_;go_simp
    ·exact (Cells.own (World.ownsRow_lit (base:=0) (e:=118) (size:=2) w3 #[.int .i64 n,.slice ba 64 bc] 1 (Nat.zero_le _) (by unfold maxLen;omega) rfl)).mono (fun _ _ _=>trivial)) (fun x=>?_)
   refine RA.bqt (fun v' w4=>(w4.ownsRow 0 118 2 v' (np+1) (pcs++[.int .i64 n,u])∧Chg (fun k=>pv.ownBlock=some k) w1 w4∧(v'.ownBlock=pv.ownBlock∨∃ g,v'.ownBlock=some g∧w1.heap.size≤g)∧Bytes w4 (fun k=>w1.heap.size≤k∧v'.ownBlock≠some k) u l)) (by kernel_rfl) (by rfl) (by kernel_rfl) (fun _ _ _ h k=>h ▸ k) (fun w3 hp0 _=>by
    have hp:=hp0.first (by kernel_rfl);have hR:=hdr _ hp.1;have hx:=hp.fact 0 rfl (by kernel_rfl);obtain⟨ba,bc,hu,hbb⟩:=hp.fact 1 rfl (by kernel_rfl);have hown:=HOW.out;rw[← hnp] at hown;have hown3:w3.ownsRow 0 118 2 pv np pcs:=owns_keep hown (fun g hg=>hR.block g (hown.lt g hg).2 id);obtain⟨i0,hi1,hi2,hi3,hi4⟩:=info_parts infoPut
    obtain⟨v',w4,hrun,r1,r2,_,r4⟩:=run_append_cells (P:=prog) w3 0 116 116 118 i0 _ 2 32 underlying116 hi1 hi2 hi3 hi4 rfl (by decide) pv np pcs hown3 _ x 1 _ hx (by
     intro y hy;rcases List.mem_cons.1 hy with rfl|hy
     ·rfl
     ·simp at hy;subst hy;rw[hu];rfl) (by unfold maxLen;omega) (by omega) (Nat.zero_le _)
    refine⟨v',w4,RA.ex_append (by rfl) (by rfl) hrun,r1,(hR.mono (fun _ _ h=>h.elim)).grown r2 (fun _ h _=>h),?_,?_⟩
    ·rcases r4 with e|⟨g,e,hg⟩
     ·exact .inl e
     ·exact .inr ⟨g,e,Nat.le_trans hR.size hg⟩
    ·refine (Cells.keep (hbb.mono (S':=fun k=>w1.heap.size≤k∧k<w3.heap.size) (fun k hk hS=>⟨hS,hk⟩)) r2.size (fun k hS hk=>r2.block k hk (fun e=>by have:=(hown.lt k e.symm).2;have:=hS.1;omega))).mono (fun k _ hS=>⟨hS.1,fun e=>?_⟩);rcases r4 with e'|⟨g,e',hg⟩
     ·rw[e'] at e;have:=(hown.lt k e).2;have:=hS.1;omega
     ·rw[e'] at e;cases e
      have:=hS.2;omega) (fun v'=>?_)
   refine RA.pnc (by rfl) (by rfl) (by rfl) ?_;refine RA.pfa (by rfl) (by rfl) (by rfl) (y':=.pointer (some ⟨p,4,none⟩)) (fun w3=>by show (Instr.fieldAt _ _ _).run prog w3=_;go_simp) ?_
   refine RA.stt (fun w5=>Then w1 F p { D.stepped with pend:=D.stepped.pend++[(n.toNat,l)] } w5) (by kernel_rfl) (by rfl) (by kernel_rfl) (fun _ _ h k=>h ▸ k) (fun w4 _ hH=>by
    obtain⟨q1,q2,q3,q4⟩:=hH;have hcell:w4.cell? ⟨p,4,none⟩=some pv:=(q2.cell (p:=⟨p,4,none⟩) (cell_lt hc4) hpvp).trans hc4
    have hfr:w4.frozen? ⟨p,4,none⟩=false:=by
     obtain⟨_,_,_,_,_,_,_,_,_,_,hf⟩:=hat.cells;exact (q2.frozen (p:=⟨p,4,none⟩) (cell_lt hc4) hpvp).trans (hf 4)
    have hnn:((n.toNat:Nat):Int)=n:=Int.toNat_of_nonneg hn.1;have hfin:=HPU.out v' u n.toNat l w4 (by omega) HLL.out (by rw[← hnp];exact hnp9) (by rw[← hnp,hnn];exact q1) q2 q3 q4
    obtain⟨g,cp,hv⟩:∃ g cp,v'=.slice (some ⟨g,0,none⟩) (np+1) cp:=by
     rcases q1.2 with ⟨_,h0⟩|⟨g,cp,cur,h0,_⟩
     ·omega
     ·exact⟨g,cp,h0⟩
    clear q1 q3 q4 hnn;subst hv;refine⟨_,RA.ex_store (by rfl) (by rfl) (w':=w4.setCell ⟨p,4,none⟩ (.slice (some ⟨g,0,none⟩) (np+1) cp)) ?_,hfin⟩;clear hfin;show (Instr.storeAt _ _ _).run prog w4=_;go_simp) (RA.RA.doneT (fun w5 hH=>?_))
   simp only[RA.put,List.foldr_cons,List.foldr_nil,c,Act.put,List.setIfInBounds_toArray,List.set_cons_succ,List.set_cons_zero];have HF5:=LH hH;clear hH;go_wp2;go_ret;obtain⟨F',f1,f2,f3⟩:=HF5.out;refine⟨ret_int ?_,F',?_,hch.then f2 (fun _ _ h=>h),fun k hk=>(f3 k hk).imp id (fun h=>Nat.le_trans hch.size h)⟩
   ·rw[Dk.putE,if_neg (by rw[HDK.out];simp),HME.out]
   ·have e:D.put n l={ D.stepped with pend:=D.stepped.pend++[(n.toNat,l)] }:=by
     rw[Dk.put,if_pos ⟨HDK.out,HME.out⟩]
    rw[e];exact f1
  ·have HDK:=LH hdk;clear hdk;obtain⟨me,hme⟩:∃ me,me=mayE D.stepped n l.length:=⟨_,rfl⟩;have hme0:(me != 0)=true:=by rw[hme];simpa using hm
   have HME:=LH hme;clear hme hm;go_enter func66,ntmps66
   go_wp2_with fail
   refine HST.out.mono ?_;rw[HDK.out];rintro e w1 ⟨rfl,hat,hch⟩
   go_wp2_with fail
   refine (may_ok hat n (HB.out.chg hch (fun k _ hk=>hS k hk))).mono ?_;rw[← HME.out];rintro e w2 ⟨rfl,rfl⟩;go_wp2;go_ret;refine⟨ret_int ?_,?_⟩
   ·rw[Dk.putE,if_neg (by rw[HDK.out];simp),HME.out]
   ·have e:D.put n l=D.stepped:=by
     rw[Dk.put,if_neg];rw[← HME.out];simp at hme0;exact fun h=>hme0 h.2
    rw[e];exact⟨F,hat,hch,fun _=>.inl⟩
end Go.Proofs.YthmcbgidehjlbaaGreat.D
namespace Go.Proofs.YthmcbgidehjlbaaGreat.D
open _root_.Go.Proofs.Tryz
open Go Go.RowKit K
set_option maxHeartbeats 400000
set_option maxRecDepth 100000
theorem infoInt:(prog.info? 3).map (fun i=>(i.zero,i.size,i.bytes))=some (some (.int .i64 0),1,8):=by kernel_rfl
theorem owns_lt {w:World}{base:Nat}{e:TypeId}{sz:Nat}{v:Value}{n:Nat}{xs:List Value}(h:w.ownsRow base e sz v n xs) (g:Nat) (hg:v.ownBlock=some g):g<w.heap.size:=by
 rcases h.2 with ⟨rfl,_⟩|⟨g',cap,cur,rfl,_,hg',_⟩
 ·simp[Value.ownBlock] at hg
 ·simp[Value.ownBlock] at hg;subst hg;exact heap_lt hg'
theorem owns_ge {w:World}{base:Nat}{e:TypeId}{sz:Nat}{v:Value}{n:Nat}{xs:List Value}(h:w.ownsRow base e sz v n xs) (g:Nat) (hg:v.ownBlock=some g):base≤g:=by
 rcases h.2 with ⟨rfl,_⟩|⟨g',cap,cur,rfl,hb,_,_⟩
 ·simp[Value.ownBlock] at hg
 ·simp[Value.ownBlock] at hg;omega
theorem round_ok (k n:Int) (h:1≤n∧n≤1000000) (w:World):Calls prog 25 #[.int .i64 k,.int .i64 n] w fun e w'=>e=.returned (.int .i64 (k % n))∧w=w':=by
 have h1:k.tmod n<n:=Int.tmod_lt_of_pos k (by omega)
 have h2:-n<k.tmod n:=by
  have:=Int.lt_tmod_of_pos k (b:=n) (by omega);exact this
 go_enter func25,ntmps25;go_wp2;go_ret;refine⟨ret_int ?_,rfl⟩;rw[Int.add_emod_right,Int.tmod_def,Int.sub_mul_emod_self_left]
def sec (l:List UInt8):List UInt8:=l.take 64++List.replicate (64 - l.length) 0
theorem sec_length (l:List UInt8):(sec l).length=64:=by simp[sec];omega
theorem sec_step {l:List UInt8}{k:Nat}{cu:Array Value}(hk:k<64) (hl:k<l.length) (h:cu.toList=u8s (l.take k++List.replicate (64 - k) 0)):(cu.setIfInBounds k (.int .u8 (l[k]).toNat)).toList=u8s (l.take (k+1)++List.replicate (64 - (k+1)) 0):=by
 have h1:(u8s (l.take k)).length=k:=by simp[u8s];omega
 have h2:64 - k=(64 - (k+1))+1:=by omega
 rw[Array.toList_setIfInBounds,h,h2,List.replicate_succ,List.take_succ_eq_append_getElem hl];simp only[u8s,List.map_append,List.map_cons] at h1 ⊢;rw[List.set_append_right _ _ (by omega),h1,Nat.sub_self];simp[u8]
theorem sec_done {w:World}{g:Nat}{cu:Array Value}{l m:List UInt8}(hg:w.heap[g]?=some (.cells cu 5 (0,0))) (h:cu.toList=u8s m) (hm:m=sec l):Bytes w (·=g) (.slice (some ⟨g,0,none⟩) 64 64) (sec l):=by
 subst hm;refine⟨by simp[u8s],some ⟨g,0,none⟩,64,by rw[sec_length],by rw[sec_length];exact Nat.le_refl _,by unfold maxLen;omega,fun h=>(by cases h),.inr ⟨g,0,rfl,rfl,heap_lt hg,fun j u hu=>?_⟩⟩;rw[Nat.zero_add,cell_of hg,← Array.getElem?_toList,h];exact hu
theorem sector_ok (s:ByteArray) (w:World):Calls prog 27 #[.string s] w fun e w'=>e=.returned (.slice (some ⟨w.heap.size,0,none⟩) 64 64)∧Bytes w' (·=w.heap.size) (.slice (some ⟨w.heap.size,0,none⟩) 64 64) (sec s.data.toList)∧Below w.heap.size w w':=by
 have hmk:∀ u:World,_:=fun u=>make_full (P:=prog) u underlying42 infoByte rfl 64 64 rfl (by omega) (by omega)
 go_enter func27,ntmps27;go_wp2
 go_loopw [4] (fun i wr=>∃ k:Nat,k≤64∧k≤s.size∧i=.int .i64 k∧Below w.heap.size w wr∧∃ cu:Array Value,Hid (wr.heap[w.heap.size]?=some (.cells cu 5 (0,0))∧cu.toList=u8s (s.data.toList.take k++List.replicate (64 - k) 0)))
  (fun i _=>64 - (intOf i).toNat)
 case atStart=>exact⟨0,by omega,by omega,rfl,(Below.refl _ _).alloc (Nat.le_refl _) _,_,heap_alloc_new _ _,by rw[u8s_zero];simp⟩
 case round=>
  obtain⟨k,hk,hk2,rfl,hbr,cu,HCU⟩:=hrel;by_cases hlt:k<64
  ·by_cases hlt2:k<s.size
   ·have hcz:wr.cell? ⟨w.heap.size,k,none⟩=some (.int .u8 0):=by
     rw[cell_of HCU.out.1,← Array.getElem?_toList,HCU.out.2];have h1:(s.data.toList.take k).length=k:=by rw[List.length_take,Array.length_toList];exact Nat.min_eq_left hk2
     simp only[u8s,List.getElem?_map];rw[List.getElem?_append_right (by omega),h1,Nat.sub_self,List.getElem?_replicate,if_pos (by omega)];rfl
    have hfz:=frozen_of HCU.out.1 k;go_wp2;go_roundw
    case rel=>
     refine⟨k+1,by omega,by omega,by go_num,?_,_,setCell_block HCU.out.1 _ _,?_⟩
     ·exact (Chg.setCell (C:=(·=w.heap.size)) (Chg.of_below hbr _) (fun _=>rfl) _).below (Nat.le_refl _) (fun k hk=>by omega)
     ·exact sec_step hlt (by simpa using hlt2) HCU.out.2
    case measure=>simp[intOf];omega
   ·go_wp2;go_ret;have hks:k=s.data.toList.length:=by simp;omega
    refine⟨rfl,sec_done HCU.out.1 HCU.out.2 (by rw[sec,← hks,List.take_of_length_le (by omega),List.take_of_length_le (by omega)]),hbr⟩
  ·go_wp2;go_ret;have hks:k=64:=by omega
   subst hks
   refine⟨rfl,sec_done HCU.out.1 HCU.out.2 (by
    have:64≤s.data.toList.length:=by simpa using hk2
    rw[sec,Nat.sub_self,Nat.sub_eq_zero_of_le this]),hbr⟩
end Go.Proofs.YthmcbgidehjlbaaGreat.D

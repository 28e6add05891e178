/-
  slices.Clone and slices.Insert at byte slices. No condition beyond what each theorem names.
-/
import Derived.Test.YthmcbgidehjlbaaGreatRmMac
import Derived.Lib.Overlaps
import Derived.Lib.AppendZerosOnto
import Derived.Laws.Externs
namespace Go.Proofs.YthmcbgidehjlbaaGreat.Fd
open _root_.Go.Proofs.Tryz
open Go Go.RowKit K
set_option maxHeartbeats 4000000
set_option maxRecDepth 100000
theorem infoBytes:(prog.info? 42).map (fun i=>(i.zero,i.size,i.bytes))=some (some (.slice none 0 0),1,24):=by kernel_rfl
theorem cloneP_nil (w:World):Calls prog 188 #[.slice none 0 0] w fun e w'=>e=.returned (.slice none 0 0)∧w=w':=by
 have he:=Lib.run_eql_slice_nil (P:=prog) w 200 42 none 0 0 0 0 underlying200;go_enter func188,ntmps188;go_wp2;go_ret;exact⟨rfl,rfl⟩
theorem cloneP_ok {w:World}{S:Nat→Prop}{v:Value}{m:Nat}{vs:List Value}(hb:Cells w S v m 1 vs) (h1:∀ u ∈ vs,u.oneCell'=true) (hl:m≤1000000):
  Calls prog 188 #[v] w fun e w'=>∃ v',e=.returned v'∧w'.ownsRow w.heap.size 42 1 v' m vs∧Below w.heap.size w w':=by
 obtain⟨hlen,a,cap,hv,hc1,hc2,h0,h3⟩:=hb;cases a with
 | none=>
  obtain rfl:=h0 rfl;have hm:m=0:=by omega
  subst hm;have hln:vs=[]:=List.eq_nil_of_length_eq_zero (by omega);subst hln;subst hv;exact (cloneP_nil w).mono fun e w' ⟨h1,h2⟩=>⟨_,h1,World.ownsRow_nil _ _ _ _,by subst h2;exact Below.refl _ _⟩
 | some ad=>
  have hrow:=World.ownsRow_lit (base:=w.heap.size) (e:=42) (size:=1) w #[] 0 (Nat.le_refl _) (by unfold maxLen;omega) rfl;have hcl:Cells (w.alloc (.cells #[] 42)) S v m 1 vs:=Cells.keep ⟨hlen,some ad,cap,hv,hc1,hc2,h0,h3⟩ (by simp) (fun b _ hb=>Below.heap_alloc w _ b hb);subst hv;have he:=Lib.run_eql_slice_nil (P:=prog) w 200 42 (some ad) m cap 0 0 underlying200;have H:=LH hcl;have H1:=LH h1;clear hcl h3 h0 h1 hc2;go_enter func188,ntmps188
  go_wp2_with (at_builtin;(refine K.append rfl _ _ 200 rfl w.heap.size 42 (.slice none 0 0) 1 24 underlying200 infoBytes rfl (by decide) _ 0 [] rfl hrow S _ m vs rfl H.out H1.out ?m ?b (by simp) ?k))
  case m=>unfold maxLen;omega
  case b=>omega
  case k=>
   intro v' w' ho hg hn _;go_wp2;go_ret;exact⟨_,rfl,by simpa using ho,(((Below.refl _ _).alloc (Nat.le_refl _) _).grown hg (by simp) (fun k hk=>by simp[Value.ownBlock] at hk;omega))⟩
theorem ins_list {α:Type}(l:List α) (x:α) (n:Nat) (h:n+1≤l.length):(splice (splice l 1 (l.take n)) 0 [x]).take (n+1)=x::l.take n:=by
 have h1:(l.take n).length=n:=by simp;omega
 have h2:(l.take 1).length=1:=by simp;omega
 have e:(splice l 1 (l.take n)).drop 1=l.take n++l.drop (1+n):=by
  simp only[splice,h1];rw[List.drop_append_of_le_length (by omega),List.drop_of_length_le (by omega),List.nil_append]
 have e2:splice (splice l 1 (l.take n)) 0 [x]=x::(l.take n++l.drop (1+n)):=by
  rw[splice,List.take_zero,List.nil_append,List.length_singleton,Nat.zero_add,e];rfl
 rw[e2,List.take_succ_cons,List.take_append_of_le_length (by omega),List.take_of_length_le (by omega)]
theorem wpList_copyR {P:Program}{w w':World}{ops:Array Oper}{rest:List Oper}{o:Oper}{a:Act}{Q:Exit→Act→World→Prop}(hgd:o.guard=none) (d s:Operand) (t t':TypeId)
  (ho:o.op=.call { callee:=.builtin .copy,args:=#[d,s],argTypes:=#[t,t'] }) (v u:Value){v':Value}(hd:a.eval d=v) (hs:a.eval s=u)
  (hr:(Builtin.copy_ #[t,t'] o.type #[v,u]).run P w=.ok v' w') (h:wpList P ops Q rest (a.put o.dst v') w'):wpList P ops Q (o::rest) a w:=by
 refine wpList_plain hgd fun K hK=>?_
 unfold Oper.wp execOp;simp only[ho,resolve,invoke,builtin,Sem.run_bind,Sem.run_pure,Result.andThen_ok,List.map_toArray,List.map_cons,List.map_nil,hd,hs,hr];exact hK _ _ h
structure Inserted (w:World) (B:Nat) (x:Value) (vs:List Value) (e:Ending) (w':World):Prop where
 ret:∃ v,e=.returned v∧Cells w' (fun g=>B≤g) v (vs.length+1) 1 (x::vs)
 below:Below B w w'
 keep:∀ (g:Nat) (c:Array Value) (t:TypeId) (m:Nat×Nat),w.heap[g]?=some (.cells c t m)→(t≠42∨c.size=1)→w'.heap[g]?=w.heap[g]?
theorem insRoom_ok {w:World}{B g n cap vb:Nat}{cur:Array Value}{x:Value}(hB:B≤g) (hg:w.heap[g]?=some (.cells cur 42 (0,0))) (hcur:cur.size=cap) (hn:0<n) (hroom:n+1≤cap) (hmax:cap≤maxLen) (hvb:vb≠g) (hv:w.heap[vb]?=some (.cells #[x] 42 (0,0)))
  (h1:∀ u ∈ cur.toList.take n,u.oneCell'=true) (hx1:x.oneCell'=true):
  Calls prog 187 #[.slice (some ⟨g,0,none⟩) n cap,.int .i64 0,.slice (some ⟨vb,0,none⟩) 1 1] w (Inserted w B x (cur.toList.take n)):=by
 have hct:cur.toList.length=cap:=by rw[Array.length_toList,hcur]
 have hcells:∀ (w':World) (cs:Array Value) (m o:Nat),w'.heap[g]?=some (.cells cs 42 (0,0))→cs.size=cap→o+m≤cap→Cells w' (fun g'=>g'=g) (.slice (some ⟨g,o,none⟩) m (cap - o)) m 1 ((cs.toList.drop o).take m):=by
  intro w' cs m o h hs hm;refine⟨by simp;omega,_,_,rfl,by omega,by omega,fun h=>(by cases h),.inr ⟨g,o,rfl,rfl,heap_lt h,fun j u hu=>?_⟩⟩;rw[cell_of h,← hu];rw[List.getElem?_take] at hu ⊢;split at hu
  ·rename_i hj;simp[hj]
  ·cases hu
 have hov:∀ lb cb,(callFunc 195 #[.slice (some ⟨vb,0,none⟩) 1 1,.slice (some ⟨g,1,none⟩) lb cb]).run prog w=.ok (.value (.bool false)) w:=fun lb cb=>by
  rw[run_callFunc_extern func195 (by kernel_rfl) (by kernel_rfl) (by kernel_rfl) (e:=Extern.SlicesOverlaps.overlaps #[200,200] #[4]) (by kernel_rfl),
   Lib.run_overlaps_apart w 200 4 42 underlying200 1 (fun w=>run_size (P:=prog) w (by kernel_rfl)) ⟨vb,0,none⟩ ⟨g,1,none⟩ 1 1 lb cb hvb 42 42 1 cap (by simp[World.shape?,hv]) (by simp[World.shape?,hg,hcur]) (by omega) (frozen_of hv 0) (frozen_of hv 1)]
  rfl
 have hs1:(prog.info? 42).map (·.size)=some 1:=by kernel_rfl
 obtain⟨l1,hl1⟩:∃ l,l=splice cur.toList 1 (cur.toList.take n):=⟨_,rfl⟩;have hl1l:l1.length=cap:=by rw[hl1,length_splice _ _ _ (by simp;omega),hct]
 have hcp1:∀ (W:World) ty dc,W.heap[g]?=w.heap[g]?→(Builtin.copy_ #[200,200] ty #[.slice (some ⟨g,1,none⟩) n dc,.slice (some ⟨g,0,none⟩) (n+1) cap]).run prog W=.ok (.int .i64 n) (W.setRow g l1.toArray):=by
  intro W ty dc hW;have hmin:Nat.min (n+1) n=n:=Nat.min_eq_right (by omega);have hlen:(cur.toList.take n).length=Nat.min (n+1) n:=by rw[hmin];simp;omega
  have h:=run_copy_row (P:=prog) W 200 200 ty 42 g 1 n dc ⟨g,0,none⟩ (n+1) cap cur 42 (cur.toList.take n) underlying200 hs1 (hW.trans hg) hlen (fun j u hj=>by
   rw[Addr.add_lit,Nat.zero_add,cell_of (hW.trans hg)];rw[List.getElem?_take] at hj;split at hj
   ·simpa using hj
   ·cases hj) (by rw[hlen,hmin];omega) h1
  rw[h,hl1,hlen,hmin];simp[splice,show (cur.toList.take n).length=n by rw[hlen,hmin],goInt]
 have hcp2:∀ (W:World) ty,W.heap[g]?=some (.cells l1.toArray 42 (0,0))→W.heap[vb]?=w.heap[vb]?→(Builtin.copy_ #[200,200] ty #[.slice (some ⟨g,0,none⟩) (n+1) cap,.slice (some ⟨vb,0,none⟩) 1 1]).run prog W=.ok (.int .i64 1) (W.setRow g (splice l1 0 [x]).toArray):=by
  intro W ty hW hW2
  have hy:Cells W (fun _=>True) (.slice (some ⟨vb,0,none⟩) 1 1) 1 1 [x]:=by
   refine⟨rfl,_,1,rfl,Nat.le_refl _,by unfold maxLen;omega,fun h=>(by cases h),.inr ⟨vb,0,rfl,trivial,heap_lt (hW2.trans hv),fun j u hu=>?_⟩⟩;rw[cell_of (hW2.trans hv),← hu,Nat.zero_add];simp
  have h:=run_copy_cells' (P:=prog) W 200 200 ty 42 g 0 (n+1) cap l1.toArray 42 underlying200 hs1 hW _ _ 1 _ hy (fun u hu=>by simp at hu;rw[hu];exact hx1) (by rw[show Nat.min 1 (n+1)=1 from Nat.min_eq_left (by omega)];simp;omega);rw[show Nat.min 1 (n+1)=1 from Nat.min_eq_left (by omega)] at h;exact h
 obtain⟨wR,hwR⟩:∃ W,W=w.drew.setRow g l1.toArray:=⟨_,rfl⟩;have hR1:wR.heap[g]?=some (.cells l1.toArray 42 (0,0)):=by rw[hwR];exact setRow_heap w.drew g cur _ _ _ hg
 have hR2:wR.heap[vb]?=w.heap[vb]?:=by rw[hwR];exact setRow_other w.drew _ _ _ hvb
 have hRB:Below B w wR:=by
  rw[hwR];have h0:Below B w w.drew:=⟨rfl,rfl,rfl,Nat.le_refl _,fun _ _=>rfl⟩;exact below_setRow h0 hB _
 have hfin:Inserted w B x (cur.toList.take n) (.returned (.slice (some ⟨g,0,none⟩) (n+1) cap)) (wR.setRow g (splice l1 0 [x]).toArray):=by
  have h3:=setRow_heap wR g _ (splice l1 0 [x]).toArray _ _ hR1;have h4:=hcells _ _ (n+1) 0 h3 (by rw[List.size_toArray,length_splice _ _ _ (by simp;omega),hl1l]) (by omega);have e5:(splice l1 0 [x]).toArray.toList=splice l1 0 [x]:=rfl
  have e6:(splice l1 0 [x]).take (n+1)=x::cur.toList.take n:=by
   rw[hl1];exact ins_list _ _ _ (by omega)
  rw[e5,List.drop_zero,e6,Nat.sub_zero] at h4;refine⟨⟨_,rfl,?_⟩,below_setRow hRB hB _,fun b c t m hb hc=>?_⟩
  rotate_left
  ·have hne:b≠g:=by
    rintro rfl;rw[hg] at hb;injection hb with hb;injection hb with e1 e2;rcases hc with hc|hc
    ·exact hc e2.symm
    ·rw[← e1] at hc;omega
   rw[setRow_other wR _ _ _ hne,hwR];exact setRow_other w.drew _ _ _ hne
  rw[show (cur.toList.take n).length=n by simp;omega];exact h4.mono (S':=fun g'=>B≤g') (fun g' _ e=>by have e:g'=g:=e;omega)
 have hcpA:=LH (fun ty dc=>hcp1 w.drew ty dc rfl);rw[← hwR] at hcpA;have hcpB:=LH (fun ty=>hcp2 wR ty hR1 hR2);replace hfin:=LH hfin;have hz2:((0:Int) == (n:Int))=false:=by simp;omega
 unfold maxLen at hmax;clear hcells hcp1 hcp2 hwR hR1 hR2 hRB hl1 hl1l hg hv h1 hx1 hct;go_enter func187,ntmps187
 go_wp2_with (simp only[hov])
 refine RA.region (fun _ _=>True) (·=·) [1,1,1,1,1,1,1,1,4] (fun _ _ _=>True) (fun w3=>w3=w.drew) (by kernel_rfl) trivial (fun _ _ _=>trivial) (fun _ _ _ _ _=>trivial) (fun _ _ h k=>h ▸ k) rfl (by kernel_rfl) ?_;intro cx
 repeat refine RA.qq (h:=?_)
 refine RA.ai (by kernel_rfl) (by rfl) (by rfl) (by rfl) (1) (rfl) (by omega) ?_;refine RA.slo (by kernel_rfl) (by rfl) (by rfl) (by rfl) (y':=.slice (some ⟨g,1,none⟩) n (cap - 1)) (fun w3 hp=>by show (Instr.sliceAt _ _ _ _ _).run prog w3=_;go_simp;rw[if_pos (by omega),if_neg (by omega)]) ?_
 repeat refine RA.qq (h:=?_)
 refine RA.slo (by kernel_rfl) (by rfl) (by rfl) (by rfl) (y':=.slice (some ⟨g,0,none⟩) (n+1) cap) (fun w3 hp=>by show (Instr.sliceAt _ _ _ _ _).run prog w3=_;go_simp;intro h;omega) ?_;refine RA.bc (.int .i64 n) (fun w3=>w3=wR) (by kernel_rfl) (by rfl) (by kernel_rfl) (fun _ _ h k=>h ▸ k) (fun w3 hp hH=>⟨wR,by rw[hH];exact RA.ex_copy (by rfl) (by rfl) (hcpA.out _ _),trivial,rfl⟩) ?_;refine RA.RA.done rfl (fun w3 hR hF hH=>?_);clear hR hF;simp only[RA.put,List.foldr_cons,List.foldr_nil,cx,Act.put,List.setIfInBounds_toArray,List.set_cons_succ,List.set_cons_zero];rw[hH]
 go_wp2_with (refine wpList_copyR rfl (.tmp 80) (.tmp 81) 200 200 rfl _ _ rfl rfl (hcpB.out _) ?_)
 go_ret;exact hfin.out
theorem ins_list2 {α:Type}(l:List α) (x:α) (vs:List α):(splice (splice l 0 [x]) 1 vs).take (vs.length+1)=x::vs:=by
 have e1:splice l 0 [x]=x::l.drop 1:=by
  rw[splice,List.take_zero,List.nil_append,List.length_singleton,Nat.zero_add];rfl
 have e2:splice (splice l 0 [x]) 1 vs=x::(vs++(l.drop 1).drop vs.length):=by
  rw[e1,splice,List.take_succ_cons,List.take_zero,Nat.add_comm 1,List.drop_succ_cons];rfl
 rw[e2,List.take_succ_cons,List.take_append_of_le_length (Nat.le_refl _),List.take_of_length_le (Nat.le_refl _)]
theorem insGrow_ok {w:World}{B g n cap vb:Nat}{x:Value}{vs:List Value}(hB:B≤w.heap.size) (hs:Cells w (fun g'=>g'=g) (.slice (some ⟨g,0,none⟩) n cap) n 1 vs) (hn:0<n) (hn2:n≤1000) (hroom:cap<n+1) (hv:w.heap[vb]?=some (.cells #[x] 42 (0,0)))
  (h1:∀ u ∈ vs,u.oneCell'=true) (hx1:x.oneCell'=true):
  Calls prog 187 #[.slice (some ⟨g,0,none⟩) n cap,.int .i64 0,.slice (some ⟨vb,0,none⟩) 1 1] w (Inserted w B x vs):=by
 have hvl:vs.length=n:=by have:=hs.1;omega
 have hs1:(prog.info? 42).map (·.size)=some 1:=by kernel_rfl
 obtain⟨i0,hi1,hi2,hi3,hi4⟩:=info_parts infoBytes;obtain⟨N,hN⟩:∃ N,N=w.heap.size:=⟨_,rfl⟩
 have hgl:g<N:=by
  obtain⟨_,a,c,hv,_,_,_,h⟩:=hs;rcases h with h|⟨b,o,e,rfl,hb,_⟩
  ·omega
  ·omega
 have hvl2:vb<N:=by have:=heap_lt hv;omega
 obtain⟨G,hG⟩:∃ G,G=grownCap w (n+1) cap 42:=⟨_,rfl⟩;have hG1:n+1≤G:=hG ▸ grownCap_ge w (n+1) cap 42;have hG2:G≤maxLen:=hG ▸ grownCap_le_maxLen w (n+1) cap 42 (by unfold maxLen;omega);obtain⟨ROW,hROW⟩:∃ R:Array Value,R=#[]++Builtin.zeroCells (Value.slice none 0 0).cells (n+1)++Builtin.zeroCells (Value.slice none 0 0).cells (G - (n+1)):=⟨_,rfl⟩
 have hRs:ROW.size=G:=by
  rw[hROW];have e:(Value.slice none 0 0).cells.size=1:=rfl;simp only[Array.size_append,size_zeroCells,e];simp;omega
 obtain⟨W1,hW1⟩:∃ W,W=w.drew.alloc (.cells ROW 42):=⟨_,rfl⟩
 have hrz:∀ ty,(Builtin.append_ #[200,3] ty #[.slice (some ⟨g,0,none⟩) 0 cap,.int .i64 ((n:Int)+1)]).run prog w=.ok (.slice (some ⟨N,0,none⟩) (n+1) G) W1:=by
  intro ty
  have h:=Lib.run_append_grow_zeros (P:=prog) w 200 3 ty 42 i0 _ .i64 .i64 underlying200 underlying3 hi1 hi2 (some ⟨g,0,none⟩) 0 cap [] (by
   rw[hi3];exact run_firstCells_some (P:=prog) w.drew 1 0 ⟨g,0,none⟩ 0 cap [] rfl (by intro j u hu;simp at hu)) (n+1) (by omega) (by omega) (by omega) (by omega) (by rw[hi4];omega) (by rw[hi4,Nat.zero_add];exact growslice_fits (by omega) (by omega))
  rw[Nat.zero_add,← hG,← hROW,← hW1,← hN] at h;exact h
 have hA1:W1.heap[N]?=some (.cells ROW 42 (0,0)):=by rw[hW1,hN];exact heap_alloc_new w.drew _
 have hB1:Below N w W1:=by
  rw[hW1];exact⟨rfl,rfl,rfl,by simp,fun k hk=>Below.heap_alloc w.drew _ k (by show k<w.heap.size;omega)⟩
 have hv1:=(hB1.block vb hvl2).trans hv
 have hy1:Cells W1 (fun _=>True) (.slice (some ⟨vb,0,none⟩) 1 1) 1 1 [x]:=by
  refine⟨rfl,_,1,rfl,Nat.le_refl _,by unfold maxLen;omega,fun h=>(by cases h),.inr ⟨vb,0,rfl,trivial,heap_lt hv1,fun j u hu=>?_⟩⟩;rw[cell_of hv1,← hu,Nat.zero_add];simp
 have hct:ROW.toList.length=G:=by rw[Array.length_toList,hRs]
 obtain⟨l1,hl1⟩:∃ l,l=splice ROW.toList 0 [x]:=⟨_,rfl⟩;have hl1l:l1.length=G:=by rw[hl1,length_splice _ _ _ (by simp;omega),hct]
 obtain⟨W2,hW2⟩:∃ W,W=W1.setRow N l1.toArray:=⟨_,rfl⟩
 have hcpA:∀ ty dc,(Builtin.copy_ #[200,200] ty #[.slice (some ⟨N,0,none⟩) (n+1) dc,.slice (some ⟨vb,0,none⟩) 1 1]).run prog W1=.ok (.int .i64 1) W2:=by
  intro ty dc;have h:=run_copy_cells' (P:=prog) W1 200 200 ty 42 N 0 (n+1) dc ROW 42 underlying200 hs1 hA1 _ _ 1 _ hy1 (fun u hu=>by simp at hu;rw[hu];exact hx1) (by rw[show Nat.min 1 (n+1)=1 from Nat.min_eq_left (by omega)];omega);rw[show Nat.min 1 (n+1)=1 from Nat.min_eq_left (by omega),show [x].take 1=[x] from rfl,← hl1,← hW2] at h;exact h
 have hA2:W2.heap[N]?=some (.cells l1.toArray 42 (0,0)):=by rw[hW2];exact setRow_heap W1 N ROW _ _ _ hA1
 have hB2:Below N w W2:=hW2 ▸ below_setRow hB1 (Nat.le_refl _) _;obtain⟨l2,hl2⟩:∃ l,l=splice l1 1 vs:=⟨_,rfl⟩;obtain⟨W3,hW3⟩:∃ W,W=W2.drew.setRow N l2.toArray:=⟨_,rfl⟩
 have hcpB:∀ ty dc,(Builtin.copy_ #[200,200] ty #[.slice (some ⟨N,1,none⟩) n dc,.slice (some ⟨g,0,none⟩) n cap]).run prog W2.drew=.ok (.int .i64 n) W3:=by
  intro ty dc;have h:=run_copy_cells' (P:=prog) W2.drew 200 200 ty 42 N 1 n dc l1.toArray 42 underlying200 hs1 hA2 _ _ n _ (hs.keep (w':=W2.drew) (by have:=hB2.size;exact this) (fun b hb _=>hB2.block b (by have hb:b=g:=hb;omega))) h1 (by rw[show Nat.min n n=n from Nat.min_self n];simp;omega);rw[show Nat.min n n=n from Nat.min_self n,List.take_of_length_le (by omega),show l1.toArray.toList=l1 from rfl,← hl2,← hW3] at h;exact h
 have hfin:Inserted w B x vs (.returned (.slice (some ⟨N,0,none⟩) (n+1) G)) W3:=by
  have h3:W3.heap[N]?=some (.cells l2.toArray 42 (0,0)):=by rw[hW3];exact setRow_heap W2.drew N _ _ _ _ hA2
  have hl2l:l2.length=G:=by rw[hl2,length_splice _ _ _ (by omega),hl1l]
  have e6:l2.take (n+1)=x::vs:=by
   rw[hl2,hl1,← hvl];exact ins_list2 _ _ _
  have hBN:Below N w W3:=by
   rw[hW3];have h0:Below N w W2.drew:=⟨hB2.os,hB2.tape,hB2.output,hB2.size,hB2.block⟩;exact below_setRow h0 (Nat.le_refl _) _
  refine⟨⟨_,rfl,?_⟩,hBN.mono (by omega),fun b c t m hb _=>hBN.block b (by have:=heap_lt hb;omega)⟩
  ·rw[hvl];refine⟨by simp[hvl],_,G,rfl,hG1,hG2,fun h=>(by cases h),.inr ⟨N,0,rfl,by omega,heap_lt h3,fun j u hu=>?_⟩⟩;rw[Nat.zero_add,cell_of h3,← hu,← e6,List.getElem?_take];rw[← e6,List.getElem?_take] at hu;split at hu
   ·rename_i hj;simp[hj]
   ·cases hu
 replace hrz:=LH hrz;replace hcpA:=LH hcpA;replace hcpB:=LH hcpB;replace hfin:=LH hfin;have hz2:((0:Int) == (n:Int))=false:=by simp;omega
 have hz3:(cap:Int)<(n:Int)+1:=by omega
 unfold maxLen at hG2;clear hW1 hW2 hW3 hl1 hl2 hl1l hct hy1 hv1 hA1 hA2 hB1 hB2 hROW hRs hG hN hi1 hi2 hi3 hi4 hs1 hs hv h1 hx1 hvl;go_enter func187,ntmps187
 go_wp2_with (first
  | (at_builtin;refine Lib.wpList_append_run _ rfl (.tmp 34) (.tmp 39) 200 3 rfl _ _ rfl rfl _ _ (hrz.out _) ?_)
  | (refine wpList_copyR rfl (.tmp 43) (.tmp 44) 200 200 rfl _ _ rfl rfl (hcpA.out _ _) ?_))
 refine RA.region (fun _ _=>True) (·=·) [1,1,1,1,1,1,1,1,4] (fun _ _ _=>True) (fun w3=>w3=W2.drew) (by kernel_rfl) trivial (fun _ _ _=>trivial) (fun _ _ _ _ _=>trivial) (fun _ _ h k=>h ▸ k) rfl (by kernel_rfl) ?_;intro cx
 repeat refine RA.qq (h:=?_)
 refine RA.ai (by kernel_rfl) (by rfl) (by rfl) (by rfl) (1) (rfl) (by omega) ?_;refine RA.slo (by kernel_rfl) (by rfl) (by rfl) (by rfl) (y':=.slice (some ⟨N,1,none⟩) n (G - 1)) (fun w3 hp=>by show (Instr.sliceAt _ _ _ _ _).run prog w3=_;go_simp;rw[if_pos (by omega),if_neg (by omega)]) ?_
 repeat refine RA.qq (h:=?_)
 refine RA.slo (by kernel_rfl) (by rfl) (by rfl) (by rfl) (y':=.slice (some ⟨g,0,none⟩) n cap) (fun w3 hp=>by show (Instr.sliceAt _ _ _ _ _).run prog w3=_;go_simp) ?_;refine RA.bc (.int .i64 n) (fun w3=>w3=W3) (by kernel_rfl) (by rfl) (by kernel_rfl) (fun _ _ h k=>h ▸ k) (fun w3 hp hH=>⟨W3,by rw[hH];exact RA.ex_copy (by rfl) (by rfl) (hcpB.out _ _),trivial,rfl⟩) ?_;refine RA.RA.done rfl (fun w3 hR hF hH=>?_);clear hR hF;simp only[RA.put,List.foldr_cons,List.foldr_nil,cx,Act.put,List.setIfInBounds_toArray,List.set_cons_succ,List.set_cons_zero];rw[hH];go_wp2;go_ret;exact hfin.out
theorem insert_ok {w:World}{B:Nat}{sv:Value}{n vb:Nat}{x:Value}{vs:List Value}(hB:B≤w.heap.size) (hs:w.ownsRow B 42 1 sv n vs) (hn:0<n) (hn2:n≤1000) (hv:w.heap[vb]?=some (.cells #[x] 42 (0,0)))
  (h1v:∀ u ∈ vs,u.oneCell'=true) (hx1:x.oneCell'=true):
  Calls prog 187 #[sv,.int .i64 0,.slice (some ⟨vb,0,none⟩) 1 1] w (Inserted w B x vs):=by
 have hcl:=Cells.own hs;rcases hs.2 with ⟨_,h0⟩|⟨g,cap,cur,rfl,hb,hg,hc1,hc2,hc3,hc4⟩
 ·omega
 ·by_cases hroom:n+1≤cap
  ·have h:=insRoom_ok hb hg (by omega) hn hroom hc2 (by
    rintro rfl;rw[hg] at hv;injection hv with hv;injection hv with e1 _;rw[e1] at hc3;simp at hc3;omega) hv (by rw[Nat.mul_one] at hc4;rw[hc4];exact h1v) hx1
   rw[Nat.mul_one] at hc4;rw[hc4] at h;exact h
  ·exact insGrow_ok hB (hcl.mono (fun g' _ h=>by have:=h.1;simp[Value.ownBlock] at this;omega)) hn hn2 (by omega) hv h1v hx1
end Go.Proofs.YthmcbgidehjlbaaGreat.Fd

/-
  Texts of this claim, laid together by a program of mine. No condition beyond what each theorem names.
-/
import Derived.Test.YtbgfdbidbjlaaaaGreatSaModel
import Derived.Test.YtbgfdbidbjlaaaaGreatSaBasePk
/-
  The document's own cipher of chance: what stands in memory. No condition beyond what each theorem names.
-/
namespace Go.Proofs.YtbgfdbidbjlaaaaGreat.K
open _root_.Go.Proofs.Tryz
open Go Go.RowKit
theorem wpList_loadG {P:Program}{w:World}{ops:Array Oper}{rest:List Oper}{o:Oper}{a:Act}{Q:Exit→Act→World→Prop}(hgd:Region.wanted o (yielded ops a.tmps)=true) (ty:TypeId) (x:Operand) (ho:o.op=.load ty x)
  (p v:Value) (hx:a.eval x=p) (hr:(Instr.loadAt ty p).run P w=.ok v w) (h:wpList P ops Q rest (a.put o.dst v) w):wpList P ops Q (o::rest) a w:=by
 refine wpList_met hgd fun K hK=>?_
 unfold Oper.wp execOp;simp only[ho,hx,Sem.run_bind,hr,Result.andThen_ok];exact hK _ _ h
end Go.Proofs.YtbgfdbidbjlaaaaGreat.K
namespace Go.Proofs.YtbgfdbidbjlaaaaGreat.Fd
open _root_.Go.Proofs.Tryz
open Go Go.RowKit K
structure QIdeal (w:World) (F:Nat→Prop) (c tp:Nat) (bv lv pv kv:Value) (b:List UInt8) (a k:Nat) (prs:List PR) (ag:Nat):Prop where
 box:w.heap[c]?=some (.cells #[.pointer (some ⟨tp,0,none⟩),pv,kv,.int .i64 ag] 62 (0,0))
 tape:QTapeAt w F tp bv lv b a k
 row:Cells w F pv prs.length 35 (prs.flatMap prCells)
 ok:PrsOk prs
 few:prs.length≤a
 again:ag≤a
 far:¬ F c
 apart:c≠tp
section
variable {w w':World}{F G:Nat→Prop}{c tp:Nat}{bv lv pv kv:Value}{b:List UInt8}{a k:Nat}{prs:List PR}{ag:Nat}
theorem QIdeal.keep (h:QIdeal w F c tp bv lv pv kv b a k prs ag) (hs:w.heap.size≤w'.heap.size) (hk:∀ g,g=c∨g=tp∨F g→g<w.heap.size→w'.heap[g]?=w.heap[g]?):QIdeal w' F c tp bv lv pv kv b a k prs ag:=
 ⟨(hk c (.inl rfl) (heap_lt h.box)).trans h.box,h.tape.keep hs (fun g hg=>hk g (.inr hg)),Cells.keep h.row hs (fun g hg=>hk g (.inr (.inr hg))),h.ok,h.few,h.again,h.far,h.apart⟩
theorem QIdeal.chg (h:QIdeal w F c tp bv lv pv kv b a k prs ag) (hc:Chg No w w'):QIdeal w' F c tp bv lv pv kv b a k prs ag:=h.keep hc.size (fun g _ hg=>hc.block g hg id)
theorem QIdeal.mono (h:QIdeal w F c tp bv lv pv kv b a k prs ag) (hs:∀ g,g<w.heap.size→F g→G g) (hc:¬ G c) (hp:¬ G tp):QIdeal w G c tp bv lv pv kv b a k prs ag:=
 ⟨h.box,h.tape.mono hs hp,Cells.mono h.row hs,h.ok,h.few,h.again,hc,h.apart⟩
end
theorem sizePair:(prog.info? 112).map (·.size)=some 35:=by kernel_rfl
theorem load_pair {w:World}{g off:Nat}{q:PR}(hq:q.2.1.length=16∧q.2.2.length=16) (hx:∀ j v,(prCells q)[j]?=some v→w.cell? ⟨g,off+j,none⟩=some v):
  (Instr.loadAt 112 (.pointer (some ⟨g,off,none⟩))).run prog w=.ok (.agg (prCells q).toArray) w:=by
 have hl2:(loadCells ⟨g,off,none⟩ (prCells q).length).run prog w=.ok (prCells q).toArray w:=
  run_loadCells_list (P:=prog) w ⟨g,off,none⟩ (prCells q) (fun j v hv=>by rw[Addr.add_lit];exact hx j v hv)
 rw[prCells_length hq] at hl2
 have h:(loadVar 112 ⟨g,off,none⟩).run prog w=.ok (.agg (prCells q).toArray) w:=by
  have hs:=sizePair;cases hi:prog.info? 112 with
  | none=>simp[hi] at hs
  | some i=>
   have hsz:i.size=35:=by simpa [hi] using hs
   simp[loadVar,Sem.run_bind,sizeOf,typeInfo,hi,hsz,hl2]
 simp only[Instr.loadAt,Instr.sureAddr,Sem.run_bind,Sem.run_pure,Result.andThen];exact h
def PairBox (w:World) (pb:Nat) (q:PR):Prop:=w.heap[pb]?=some (.cells (prCells q).toArray 112 (0,0))
theorem pair_box (w:World) (q:PR) (hq:q.2.1.length=16∧q.2.2.length=16):
  ∃ w',(Instr.storeAt 112 (.pointer (some ⟨w.heap.size,0,none⟩)) (.agg (prCells q).toArray)).run prog (w.alloc (.cells #[.string ⟨#[]⟩,.int .i64 0,.int .i64 0,.int .u8 0,.int .u8 0,.int .u8 0,.int .u8 0,.int .u8 0,.int .u8 0,.int .u8 0,.int .u8 0,.int .u8 0,.int .u8 0,.int .u8 0,.int .u8 0,.int .u8 0,.int .u8 0,.int .u8 0,.int .u8 0,.int .u8 0,.int .u8 0,.int .u8 0,.int .u8 0,.int .u8 0,.int .u8 0,.int .u8 0,.int .u8 0,.int .u8 0,.int .u8 0,.int .u8 0,.int .u8 0,.int .u8 0,.int .u8 0,.int .u8 0,.int .u8 0] 112))=.ok () w'∧PairBox w' w.heap.size q∧Chg No w w'∧w'.heap.size=w.heap.size+1:=by
 have h0:=heap_alloc_new w (.cells #[.string ⟨#[]⟩,.int .i64 0,.int .i64 0,.int .u8 0,.int .u8 0,.int .u8 0,.int .u8 0,.int .u8 0,.int .u8 0,.int .u8 0,.int .u8 0,.int .u8 0,.int .u8 0,.int .u8 0,.int .u8 0,.int .u8 0,.int .u8 0,.int .u8 0,.int .u8 0,.int .u8 0,.int .u8 0,.int .u8 0,.int .u8 0,.int .u8 0,.int .u8 0,.int .u8 0,.int .u8 0,.int .u8 0,.int .u8 0,.int .u8 0,.int .u8 0,.int .u8 0,.int .u8 0,.int .u8 0,.int .u8 0] 112);have hst:=run_storeAt_vals (P:=prog) (off:=0) (x:=prCells q) h0 (by rw[prCells_length hq];exact sizePair) (by rw[prCells_length hq];decide) (prCells_one q);rw[splice_whole (by rw[prCells_length hq];rfl)] at hst;refine⟨_,hst,setRow_heap _ _ _ _ _ _ h0,?_,by simp⟩;have h1:Below w.heap.size w ((w.alloc (.cells #[.string ⟨#[]⟩,.int .i64 0,.int .i64 0,.int .u8 0,.int .u8 0,.int .u8 0,.int .u8 0,.int .u8 0,.int .u8 0,.int .u8 0,.int .u8 0,.int .u8 0,.int .u8 0,.int .u8 0,.int .u8 0,.int .u8 0,.int .u8 0,.int .u8 0,.int .u8 0,.int .u8 0,.int .u8 0,.int .u8 0,.int .u8 0,.int .u8 0,.int .u8 0,.int .u8 0,.int .u8 0,.int .u8 0,.int .u8 0,.int .u8 0,.int .u8 0,.int .u8 0,.int .u8 0,.int .u8 0,.int .u8 0] 112)).setRow w.heap.size (prCells q).toArray):=below_setRow ((Below.refl _ _).alloc (Nat.le_refl _) _) (Nat.le_refl _) _;exact Chg.of_below h1 _
section
variable {w:World}{pb:Nat}{q:PR}
theorem PairBox.keep {w':World}(h:PairBox w pb q) (hk:w'.heap[pb]?=w.heap[pb]?):PairBox w' pb q:=hk.trans h
theorem PairBox.c0 (h:PairBox w pb q):w.cell? ⟨pb,0,none⟩=some (.string q.1.1):=by rw[cell_of h];rfl
theorem PairBox.c1 (h:PairBox w pb q):w.cell? ⟨pb,1,none⟩=some (.int .i64 q.1.2.1):=by rw[cell_of h];rfl
theorem PairBox.c2 (h:PairBox w pb q):w.cell? ⟨pb,2,none⟩=some (.int .i64 q.1.2.2):=by rw[cell_of h];rfl
theorem pr_cell {q:PR}(hq:q.2.1.length=16∧q.2.2.length=16){j:Nat}(hj:j<16):(prCells q)[3+j]?=some (.int .u8 (q.2.1.getD j 0).toNat)∧(prCells q)[19+j]?=some (.int .u8 (q.2.2.getD j 0).toNat):=by
 have h3:([.string q.1.1,.int .i64 q.1.2.1,.int .i64 q.1.2.2]:List Value).length=3:=rfl;constructor
 ·rw[prCells,List.getElem?_append_right (by omega),h3,Nat.add_sub_cancel_left,u8s_append,List.getElem?_append_left (by rw[u8s_length];omega),u8s_get _ _ (by omega)];simp[List.getD,show j<q.2.1.length by omega]
 ·rw[prCells,List.getElem?_append_right (by omega),h3,u8s_append,List.getElem?_append_right (by rw[u8s_length];omega),u8s_length,hq.1,show 19+j - 3 - 16=j by omega,u8s_get _ _ (by omega)];simp[List.getD,show j<q.2.2.length by omega]
theorem PairBox.from (h:PairBox w pb q) (hq:q.2.1.length=16∧q.2.2.length=16):(Instr.loadAt 73 (.pointer (some ⟨pb,3,none⟩))).run prog w=.ok (.agg (u8s q.2.1).toArray) w:=
 run_loadAt_cells underlying73 (size61 hq.1) (fun j hj=>by
  rw[cell_of h];have:=(pr_cell hq (j:=j) (by omega)).1
  simpa using this)
theorem PairBox.to (h:PairBox w pb q) (hq:q.2.1.length=16∧q.2.2.length=16):(Instr.loadAt 73 (.pointer (some ⟨pb,19,none⟩))).run prog w=.ok (.agg (u8s q.2.2).toArray) w:=
 run_loadAt_cells underlying73 (size61 hq.2) (fun j hj=>by
  rw[cell_of h];have:=(pr_cell hq (j:=j) (by omega)).2
  simpa using this)
end
structure QIn (w:World) (F:Nat→Prop) (n m:Nat) (x:List UInt8) (c tp:Nat) (bv lv pv kv:Value) (b:List UInt8) (a k:Nat) (prs:List PR) (ag:Nat) (y:World):Prop where
 st:QIdeal y (fun g=>F g∧g<n∨n+2≤g∧g<m) c tp bv lv pv kv b a k prs ag
 inp:Arr y n 73 x
 res:Arr y (n+1) 73 (List.replicate 16 0)
 chg:Chg (fun g=>g=c∨g=tp) w y
 cn:c<n
 tn:tp<n
 wn:n=w.heap.size
section
variable {w y z:World}{F:Nat→Prop}{n m m':Nat}{x:List UInt8}{c tp:Nat}{bv lv pv kv:Value}{b:List UInt8}{a k:Nat}{prs:List PR}{ag:Nat}
theorem QIn.far (s:QIn w F n m x c tp bv lv pv kv b a k prs ag y) (h:Chg (fun g=>m≤g) y z) (hm:n+2≤m):QIn w F n m x c tp bv lv pv kv b a k prs ag z:=by
 have h1:=s.cn;have h2:=s.tn;have h3:=s.wn;refine⟨s.st.keep h.size (fun g hg hl=>h.block g hl (by rcases hg with e|e|e|e<;>omega)),s.inp.keep (h.block n (heap_lt s.inp) (by omega)),s.res.keep (h.block (n+1) (heap_lt s.res) (by omega)),s.chg.then h (fun i hi e=>?_),s.cn,s.tn,s.wn⟩;omega
theorem QIn.after (s:QIn w F n m x c tp bv lv pv kv b a k prs ag y) (h:Chg No y z):QIn w F n m x c tp bv lv pv kv b a k prs ag z:=
 ⟨s.st.chg h,s.inp.keep (h.block n (heap_lt s.inp) id),s.res.keep (h.block (n+1) (heap_lt s.res) id),s.chg.then h (fun _ _ e=>e.elim),s.cn,s.tn,s.wn⟩
theorem QIn.size (s:QIn w F n m x c tp bv lv pv kv b a k prs ag y):n+2≤y.heap.size:=heap_lt s.res
theorem QIn.start (h:QIdeal w F c tp bv lv pv kv b a k prs ag):let y:=(w.alloc (.cells (u8s x).toArray 73)).alloc (.cells #[.int .u8 0,.int .u8 0,.int .u8 0,.int .u8 0,.int .u8 0,.int .u8 0,.int .u8 0,.int .u8 0,.int .u8 0,.int .u8 0,.int .u8 0,.int .u8 0,.int .u8 0,.int .u8 0,.int .u8 0,.int .u8 0] 73)
  QIn w F w.heap.size (w.heap.size+2) x c tp bv lv pv kv b a k prs ag y:=by
 have HX:=box2 w 73 x (List.replicate 16 0);have hz:(u8s (List.replicate 16 0)).toArray=#[.int .u8 0,.int .u8 0,.int .u8 0,.int .u8 0,.int .u8 0,.int .u8 0,.int .u8 0,.int .u8 0,.int .u8 0,.int .u8 0,.int .u8 0,.int .u8 0,.int .u8 0,.int .u8 0,.int .u8 0,.int .u8 0]:=rfl;rw[hz] at HX;obtain⟨h1,h2,h3,h4⟩:=HX;have hc:=heap_lt h.box;have ht:=heap_lt h.tape.box;have h5:=h.mono (G:=fun g=>F g∧g<w.heap.size∨w.heap.size+2≤g∧g<w.heap.size+2) (fun g hg hF=>.inl ⟨hF,hg⟩) (fun e=>by rcases e with e|e;exact h.far e.1;omega) (fun e=>by rcases e with e|e;exact h.tape.far e.1;omega);exact⟨h5.chg (Chg.of_below h3 _),h1,h2,Chg.of_below h3 _,hc,ht,rfl⟩
theorem QIn.pair (s:QIn w F n m x c tp bv lv pv kv b a k prs ag y){j:Nat}{q:PR}(hj:prs[j]?=some q):
  ∃ g off cap,pv=.slice (some ⟨g,off,none⟩) prs.length cap∧prs.length≤cap∧cap≤maxLen∧(Instr.loadAt 112 (.pointer (some ⟨g,off+j*35,none⟩))).run prog y=.ok (.agg (prCells q).toArray) y:=by
 have hl:j<prs.length:=(List.getElem?_eq_some_iff.1 hj).1;obtain⟨g,off,cap,hv,h1,h2,_,_,hc⟩:=Cells.at s.st.row (by omega);have hm:q ∈ prs:=List.mem_of_getElem? hj;have hf:=(s.st.ok.fits q hm).2;refine⟨g,off,cap,hv,h1,h2,load_pair hf (fun i v hv=>?_)⟩
 have hi:i<35:=by
  have:=(List.getElem?_eq_some_iff.1 hv).1;rw[prCells_length hf] at this;exact this
 have h3:=prs_get (fun q hq=>(s.st.ok.fits q hq).2) hj hi;rw[Nat.add_assoc];exact hc _ v (h3.trans hv)
theorem QIn.took (s:QIn w F n m x c tp bv lv pv kv b a k prs ag y){lv':Value}{a' k':Nat}(ha:a≤a') (hT:QTapeAt z (fun g=>(F g∧g<n∨n+2≤g∧g<m)∨y.heap.size≤g) tp bv lv' b a' k') (hC:Chg (fun g=>g=tp) y z) (hm:z.heap.size≤m'):
  QIn w F n m' x c tp bv lv' pv kv b a' k' prs ag z:=by
 have h1:=s.cn;have h2:=s.tn;have h3:=s.wn;have h4:=s.size;have hbox:=(hC.block c (heap_lt s.st.box) s.st.apart).trans s.st.box;have hrow:=Cells.chg s.st.row hC (fun g _ hF e=>s.st.tape.far (e ▸ hF));refine⟨⟨hbox,hT.mono (fun g hg hF=>?_) (fun e=>?_),Cells.mono hrow (fun g hg hF=>?_),s.st.ok,Nat.le_trans s.st.few ha,Nat.le_trans s.st.again ha,fun e=>?_,s.st.apart⟩,s.inp.keep (hC.block n (heap_lt s.inp) (by omega)),s.res.keep (hC.block (n+1) (heap_lt s.res) (by omega)),s.chg.then hC (fun _ _ e=>.inr e),h1,h2,h3⟩
 ·rcases hF with (e|e)|e
  ·exact .inl e
  ·exact .inr ⟨e.1,by omega⟩
  ·exact .inr ⟨by omega,by omega⟩
 ·refine s.st.tape.far ?_;rcases e with e|e
  ·exact .inl e
  ·omega
 ·rcases hF with e|e
  ·exact .inl e
  ·exact .inr ⟨e.1,by omega⟩
 ·refine s.st.far ?_;rcases e with e|e
  ·exact .inl e
  ·omega
theorem QIn.again (s:QIn w F n m x c tp bv lv pv kv b a k prs ag y) (ha:ag+1≤a):QIn w F n m x c tp bv lv pv kv b a k prs (ag+1) (y.setCell ⟨c,3,none⟩ (.int .i64 ((ag:Int)+1))):=by
 have h1:=s.cn;have h2:=s.tn;have hk:∀ g,g≠c→(y.setCell ⟨c,3,none⟩ (.int .i64 ((ag:Int)+1))).heap[g]?=y.heap[g]?:=fun g hg=>setCell_heap_ne _ _ _ hg
 refine⟨⟨by rw[setCell_block s.st.box];rfl,s.st.tape.keep (by simp[World.setCell]) (fun g hg _=>hk g (by rcases hg with e|e;exact fun h=>s.st.apart (h.symm.trans e);exact fun h=>s.st.far (h ▸ e))),Cells.keep s.st.row (by simp[World.setCell]) (fun g hg _=>hk g (fun h=>s.st.far (h ▸ hg))),s.st.ok,s.st.few,ha,s.st.far,s.st.apart⟩,s.inp.keep (hk n (by omega)),s.res.keep (hk (n+1) (by omega)),Chg.setCell (C:=fun g=>g=c∨g=tp) (p:=⟨c,3,none⟩) s.chg (fun _=>.inl rfl) _,s.cn,s.tn,s.wn⟩
theorem QIn.pushed (s:QIn w F n m x c tp bv lv pv kv b a k prs ag y){v':Value}{P:PR}{N:Nat}(hbox:z.heap[c]?=some (.cells #[.pointer (some ⟨tp,0,none⟩),v',kv,.int .i64 ag] 62 (0,0))) (hC:Chg (fun g=>g=c) y z)
  (hrow:z.ownsRow N 112 35 v' (prs.length+1) (prs.flatMap prCells++prCells P)) (hN:n+2≤N) (hok:PrsOk (prs++[P])) (hfew:prs.length+1≤a) (hm1:m≤m') (hm:z.heap.size≤m'):
  QIn w F n m' x c tp bv lv v' kv b a k (prs++[P]) ag z:=by
 have h1:=s.cn;have h2:=s.tn;have h3:=s.wn;have hT:=s.st.tape.keep hC.size (fun g hg hl=>hC.block g hl (fun e=>by rcases hg with e2|e2;exact s.st.apart (e.symm.trans e2);exact s.st.far (e ▸ e2)));refine⟨⟨hbox,hT.mono (fun g hg hF=>?_) (fun e=>?_),?_,hok,by rw[List.length_append,List.length_singleton];exact hfew,s.st.again,fun e=>?_,s.st.apart⟩,s.inp.keep (hC.block n (heap_lt s.inp) (by omega)),s.res.keep (hC.block (n+1) (heap_lt s.res) (by omega)),s.chg.then hC (fun _ _ e=>.inl e),h1,h2,h3⟩
 ·rcases hF with e|e
  ·exact .inl e
  ·exact .inr ⟨e.1,by omega⟩
 ·refine s.st.tape.far ?_;rcases e with e|e
  ·exact .inl e
  ·omega
 ·have h9:Cells z (fun g=>v'.ownBlock=some g∧N≤g) v' (prs.length+1) 35 (prs.flatMap prCells++prCells P):=Cells.own hrow;have e1:(prs++[P]).flatMap prCells=prs.flatMap prCells++prCells P:=by simp
  rw[e1,List.length_append,List.length_singleton];exact h9.mono (fun g hg hF=>.inr ⟨by have:=hF.2;omega,by omega⟩)
 ·refine s.st.far ?_;rcases e with e|e
  ·exact .inl e
  ·omega
theorem QIn.fin {lv0 pv0:Value}{a0 k0:Nat}{prs0:List PR}{ag0:Nat}(s:QIn w F n m x c tp bv lv pv kv b a k prs ag y) (h:QIdeal w F c tp bv lv0 pv0 kv b a0 k0 prs0 ag0) (v:List UInt8):QIdeal (y.setRow (n+1) (u8s v).toArray) (fun g=>F g∨w.heap.size≤g) c tp bv lv pv kv b a k prs ag∧
  Arr (y.setRow (n+1) (u8s v).toArray) (n+1) 73 v∧Chg (fun g=>g=c∨g=tp) w (y.setRow (n+1) (u8s v).toArray):=by
 have h1:=s.cn;have h2:=s.tn;have h3:=s.wn;refine⟨?_,s.res.setRow v,s.chg.setRow (g:=n+1) (fun h=>absurd h (by omega)) _⟩;have h4:=s.st.keep (w':=y.setRow (n+1) (u8s v).toArray) (by simp) (fun g hg _=>setRow_other _ _ _ _ (by rcases hg with e|e|e|e<;>omega));refine h4.mono (fun g _ hF=>?_) (fun e=>?_) (fun e=>?_)
 ·rcases hF with e|e
  ·exact .inl e.1
  ·exact .inr (by omega)
 ·rcases e with e|e
  ·exact h.far e
  ·omega
 ·rcases e with e|e
  ·exact h.tape.far e
  ·omega
end
def ansV:Option (List UInt8)→Ending
 | some y=>.returned (.tuple #[blkV y,.int .i64 0])
 | none=>.returned (.tuple #[.agg #[.int .u8 0,.int .u8 0,.int .u8 0,.int .u8 0,.int .u8 0,.int .u8 0,.int .u8 0,.int .u8 0,.int .u8 0,.int .u8 0,.int .u8 0,.int .u8 0,.int .u8 0,.int .u8 0,.int .u8 0,.int .u8 0],.int .i64 9])
theorem run_buildPair {x y:List UInt8}(hx:x.length=16) (hy:y.length=16) (s:ByteArray) (u i:Nat) (w:World):
  (Instr.build 112 #[(0,.string s),(1,.int .i64 u),(2,.int .i64 i),(3,.agg (u8s x).toArray),(4,.agg (u8s y).toArray)]).run prog w=.ok (.agg (prCells ((s,u,i),x,y)).toArray) w:=by
 match x,hx with
 | [a0,a1,a2,a3,a4,a5,a6,a7,a8,a9,a10,a11,a12,a13,a14,a15],_=>
  match y,hy with
  | [c0,c1,c2,c3,c4,c5,c6,c7,c8,c9,c10,c11,c12,c13,c14,c15],_=>
   simp only[u8s,prCells,List.map_cons,List.map_nil,List.cons_append,List.nil_append];go_simp
theorem ex_buildPair {ρ:Operand→Value}{p0 p1 p2 p3 p4:Operand}{ds:Option Tmp}{ty:TypeId}{ps:String}{af:Array Edge}{gu:Option (Nat×Bool)}{x y:List UInt8}(hx:x.length=16) (hy:y.length=16){s:ByteArray}{u i:Nat}
  (h0:ρ p0=.string s) (h1:ρ p1=.int .i64 u) (h2:ρ p2=.int .i64 i) (h3:ρ p3=.agg (u8s x).toArray) (h4:ρ p4=.agg (u8s y).toArray) (w:World):
  (execOp ρ ⟨ds,.build 112 #[(0,p0),(1,p1),(2,p2),(3,p3),(4,p4)],ty,ps,af,gu⟩).run prog w=.ok (.value (.agg (prCells ((s,u,i),x,y)).toArray)) w:=by
 have h:=run_buildPair hx hy s u i w;unfold execOp;simp[h0,h1,h2,h3,h4,h,Result.andThen]
theorem run_litPair {q:PR}(hq:q.2.1.length=16∧q.2.2.length=16) (w:World):(Instr.buildSlice 59 1 #[(0,.agg (prCells q).toArray)]).run prog w=.ok (.slice (some ⟨w.heap.size,0,none⟩) 1 1) (w.alloc (.cells (prCells q).toArray 112)):=by
 obtain⟨⟨s,u,i⟩,x,y⟩:=q
 match x,hq.1 with
 | [a0,a1,a2,a3,a4,a5,a6,a7,a8,a9,a10,a11,a12,a13,a14,a15],_=>
  match y,hq.2 with
  | [c0,c1,c2,c3,c4,c5,c6,c7,c8,c9,c10,c11,c12,c13,c14,c15],_=>
   simp only[u8s,prCells,List.map_cons,List.map_nil,List.cons_append,List.nil_append];go_simp
theorem infoPair:(prog.info? 112).map (fun i=>(i.zero,i.size,i.bytes))=some (some (.agg #[.string ⟨#[]⟩,.int .i64 0,.int .i64 0,.int .u8 0,.int .u8 0,.int .u8 0,.int .u8 0,.int .u8 0,.int .u8 0,.int .u8 0,.int .u8 0,.int .u8 0,.int .u8 0,.int .u8 0,.int .u8 0,.int .u8 0,.int .u8 0,.int .u8 0,.int .u8 0,.int .u8 0,.int .u8 0,.int .u8 0,.int .u8 0,.int .u8 0,.int .u8 0,.int .u8 0,.int .u8 0,.int .u8 0,.int .u8 0,.int .u8 0,.int .u8 0,.int .u8 0,.int .u8 0,.int .u8 0,.int .u8 0]),35,64):=by kernel_rfl
end Go.Proofs.YtbgfdbidbjlaaaaGreat.Fd
/-
  What a cipher of chance tells for passwords, as plain lists, and how the document keeps it. No condition beyond what each theorem names.
-/
namespace Go.Proofs.YtbgfdbidbjlaaaaGreat.Fd
open _root_.Go.Proofs.Tryz
open Go Go.RowKit K
abbrev KKey:=ByteArray×ByteArray×Nat
abbrev KR:=KKey×List UInt8
def hitK (k:KKey) (q:KR):Option (List UInt8):=if q.1=k then some q.2 else none
def toldM (KD:List KR) (k:KKey):List UInt8:=(KD.findSome? (hitK k)).getD []
def setK (k:KKey) (all:List UInt8) (q:KR):KR:=if q.1=k then (q.1,all) else q
def putM (KD:List KR) (k:KKey) (all:List UInt8):List KR:=if KD.any (fun q=>decide (q.1=k)) then KD.map (setK k all) else KD++[(k,all)]
def deriveM (b:List UInt8) (a:Nat) (KD:List KR) (k:KKey) (n:Nat):Option (List UInt8)×Nat×List KR:=
 if n≤(toldM KD k).length then (some ((toldM KD k).take n),a,KD)
 else if b.length<a+(n - (toldM KD k).length) then (none,a,KD)
 else (some (toldM KD k++(b.drop a).take (n - (toldM KD k).length)),a+(n - (toldM KD k).length),putM KD k (toldM KD k++(b.drop a).take (n - (toldM KD k).length)))
structure KdOk (KD:List KR) (a:Nat):Prop where
 apart:KD.Pairwise fun q r=>q.1≠r.1
 fits:∀ q ∈ KD,q.1.1.size≤128∧q.1.2.1.size≤64∧q.1.2.2≤10000∧1≤q.2.length∧q.2.length≤256
 few:KD.length≤a
section
variable {KD:List KR}{k:KKey}{a:Nat}
theorem KdOk.nil:KdOk [] a:=⟨List.Pairwise.nil,by simp,Nat.zero_le _⟩
theorem KdOk.one (h:KdOk KD a){i j:Nat}{q r:KR}(hi:KD[i]?=some q) (hj:KD[j]?=some r) (e:q.1=r.1):i=j:=by
 have hp:=List.pairwise_iff_getElem.1 h.apart;obtain⟨h1,rfl⟩:=List.getElem?_eq_some_iff.1 hi;obtain⟨h2,rfl⟩:=List.getElem?_eq_some_iff.1 hj;rcases Nat.lt_trichotomy i j with h3|h3|h3
 ·exact absurd e (hp i j h1 h2 h3)
 ·exact h3
 ·exact absurd e.symm (hp j i h2 h1 h3)
theorem toldM_none (h:∀ q ∈ KD,q.1≠k):toldM KD k=[]:=by
 have:KD.findSome? (hitK k)=none:=List.findSome?_eq_none_iff.2 (fun q hq=>by unfold hitK;rw[if_neg (h q hq)]);rw[toldM,this];rfl
theorem toldM_some (h:KdOk KD a){q:KR}(hq:q ∈ KD) (hk:q.1=k):toldM KD k=q.2:=by
 cases hf:KD.findSome? (hitK k) with
 | none=>
  have h1:=List.findSome?_eq_none_iff.1 hf q hq;unfold hitK at h1;rw[if_pos hk] at h1;cases h1
 | some l=>
  obtain⟨r,hr,he⟩:=List.exists_of_findSome?_eq_some hf;unfold hitK at he;split at he
  ·rename_i h2;obtain⟨i,hi⟩:=List.getElem?_of_mem hq;obtain⟨j,hj⟩:=List.getElem?_of_mem hr;have h3:=h.one hi hj (hk.trans h2.symm);subst h3;rw[hi] at hj;cases hj
   rw[toldM,hf];exact (Option.some.inj he).symm
  ·cases he
theorem toldM_le (h:KdOk KD a):(toldM KD k).length≤256:=by
 by_cases hin:∃ q ∈ KD,q.1=k
 ·obtain⟨q,hq,he⟩:=hin;rw[toldM_some h hq he];exact (h.fits q hq).2.2.2.2
 ·rw[toldM_none (fun q hq e=>hin ⟨q,hq,e⟩)];simp
theorem putM_new (h:∀ q ∈ KD,q.1≠k) (all:List UInt8):putM KD k all=KD++[(k,all)]:=by
 rw[putM,if_neg];intro h1;obtain⟨q,hq,he⟩:=List.any_eq_true.1 h1;exact h q hq (of_decide_eq_true he)
theorem putM_old {q:KR}(hq:q ∈ KD) (hk:q.1=k) (all:List UInt8):putM KD k all=KD.map (setK k all):=by
 rw[putM,if_pos];exact List.any_eq_true.2 ⟨q,hq,decide_eq_true hk⟩
theorem setK_1 {all:List UInt8}{q:KR}:(setK k all q).1=q.1:=by unfold setK;split<;>rfl
theorem KdOk.put (h:KdOk KD a) (hk:k.1.size≤128∧k.2.1.size≤64∧k.2.2≤10000){all:List UInt8}(h1:1≤all.length) (h2:all.length≤256){a':Nat}(ha:a<a'):KdOk (putM KD k all) a':=by
 by_cases hin:∃ q ∈ KD,q.1=k
 ·obtain⟨q,hq,he⟩:=hin;rw[putM_old hq he];refine⟨List.pairwise_map.2 (h.apart.imp fun {r t} hrt=>by rw[setK_1,setK_1];exact hrt),fun r' hr'=>?_,by rw[List.length_map];have:=h.few;omega⟩;obtain⟨r,hr,rfl⟩:=List.mem_map.1 hr';have h5:=h.fits r hr;unfold setK;split
  ·exact⟨h5.1,h5.2.1,h5.2.2.1,h1,h2⟩
  ·exact h5
 ·have hno:∀ q ∈ KD,q.1≠k:=fun q hq e=>hin ⟨q,hq,e⟩
  rw[putM_new hno];refine⟨List.pairwise_append.2 ⟨h.apart,List.pairwise_singleton _ _,fun q hq r hr=>?_⟩,fun r hr=>?_,by rw[List.length_append,List.length_singleton];have:=h.few;omega⟩
  ·simp only[List.mem_singleton] at hr;subst hr;exact hno q hq
  ·rcases List.mem_append.1 hr with hr|hr
   ·exact h.fits r hr
   ·simp only[List.mem_singleton] at hr;subst hr;exact⟨hk.1,hk.2.1,hk.2.2,h1,h2⟩
theorem toldM_put {all:List UInt8}:toldM (putM KD k all) k=all:=by
 by_cases hin:∃ q ∈ KD,q.1=k
 ·obtain⟨q,hq,he⟩:=hin;rw[putM_old hq he,toldM];cases hf:(KD.map (setK k all)).findSome? (hitK k) with
  | none=>
   have h1:=List.findSome?_eq_none_iff.1 hf (setK k all q) (List.mem_map.2 ⟨q,hq,rfl⟩);unfold hitK at h1;rw[if_pos (setK_1.trans he)] at h1;cases h1
  | some l=>
   obtain⟨r',hr',h1⟩:=List.exists_of_findSome?_eq_some hf;obtain⟨r,_,rfl⟩:=List.mem_map.1 hr';unfold hitK at h1;rw[setK_1] at h1;split at h1
   ·rename_i h2;unfold setK at h1;rw[if_pos h2] at h1;exact (Option.some.inj h1).symm
   ·cases h1
 ·have hno:∀ q ∈ KD,q.1≠k:=fun q hq e=>hin ⟨q,hq,e⟩
  have h1:KD.findSome? (hitK k)=none:=List.findSome?_eq_none_iff.2 (fun q hq=>by unfold hitK;rw[if_neg (hno q hq)]);rw[putM_new hno,toldM,List.findSome?_append,h1];simp[hitK]
theorem KdOk.le (h:KdOk KD a){a':Nat}(ha:a≤a'):KdOk KD a':=⟨h.apart,h.fits,Nat.le_trans h.few ha⟩
end
def kCells (q:KR) (v:Value):List Value:=[.string q.1.1,.string q.1.2.1,.int .i64 q.1.2.2,v]
def tdCells:List KR→List Value→List Value
 | q::l,v::vs=>kCells q v++tdCells l vs
 | _,_=>[]
theorem tdCells_get:∀ {KD:List KR}{vs:List Value},vs.length=KD.length→∀ {j:Nat}{q:KR}{v:Value},KD[j]?=some q→vs[j]?=some v→∀ {i:Nat},i<4→(tdCells KD vs)[j*4+i]?=(kCells q v)[i]?
 | [],_,_,j,q,v,h,_,i,_=>by simp at h
 | _::_,[],h,_,_,_,_,_,_,_=>by simp at h
 | r::l,u::vs,hl,0,q,v,h,hv,i,hi=>by
  simp only[List.getElem?_cons_zero,Option.some.injEq] at h hv;subst h;subst hv;rw[tdCells,Nat.zero_mul,Nat.zero_add,List.getElem?_append_left (by simpa [kCells] using hi)]
 | r::l,u::vs,hl,j+1,q,v,h,hv,i,hi=>by
  rw[List.getElem?_cons_succ] at h hv;have h4:(kCells r u).length=4:=rfl;rw[tdCells,List.getElem?_append_right (by omega),h4,show (j+1)*4+i - 4=j*4+i by omega];exact tdCells_get (by simpa using hl) h hv hi
theorem tdCells_app:∀ {KD:List KR}{vs:List Value},vs.length=KD.length→∀ {q:KR}{v:Value},tdCells (KD++[q]) (vs++[v])=tdCells KD vs++kCells q v
 | [],[],_,q,v=>by simp[tdCells]
 | [],_::_,h,_,_=>by simp at h
 | _::_,[],h,_,_=>by simp at h
 | r::l,u::vs,h,q,v=>by
  show kCells r u++tdCells (l++[q]) (vs++[v])=kCells r u++tdCells l vs++kCells q v;rw[tdCells_app (by simpa using h),List.append_assoc]
theorem tdCells_set:∀ {KD:List KR}{vs:List Value},vs.length=KD.length→∀ {j:Nat}{q:KR}{all:List UInt8}{v:Value},KD[j]?=some q→tdCells (KD.set j (q.1,all)) (vs.set j v)=(tdCells KD vs).set (j*4+3) v
 | [],_,_,j,q,all,v,h=>by simp at h
 | _::_,[],h,_,_,_,_,_=>by simp at h
 | r::l,u::vs,hl,0,q,all,v,h=>by
  simp only[List.getElem?_cons_zero,Option.some.injEq] at h;subst h;rfl
 | r::l,u::vs,hl,j+1,q,all,v,h=>by
  rw[List.getElem?_cons_succ] at h;rw[List.set_cons_succ,List.set_cons_succ,tdCells,tdCells,tdCells_set (by simpa using hl) h];have h4:(kCells r u).length=4:=rfl;rw[List.set_append_right _ _ (by omega),h4,show (j+1)*4+3 - 4=j*4+3 by omega]
theorem putM_at {KD:List KR}{a:Nat}(h:KdOk KD a){j:Nat}{q:KR}(hj:KD[j]?=some q) (all:List UInt8):putM KD q.1 all=KD.set j (q.1,all):=by
 rw[putM_old (List.mem_of_getElem? hj) rfl];refine List.ext_getElem? fun i=>?_
 rw[List.getElem?_map,List.getElem?_set];by_cases hij:j=i
 ·subst hij;have hl:j<KD.length:=(List.getElem?_eq_some_iff.1 hj).1;rw[if_pos rfl,if_pos hl,hj];simp[setK]
 ·rw[if_neg hij];cases hi:KD[i]? with
  | none=>rfl
  | some r=>
   have hne:r.1≠q.1:=fun e=>hij (h.one hj hi e.symm)
   simp[setK,hne]
theorem td_one {KD:List KR}:∀ {vs:List Value},(∀ v ∈ vs,v.oneCell'=true)→∀ u ∈ tdCells KD vs,u.oneCell'=true:=by
 induction KD with
 | nil=>intro vs _ u hu;simp[tdCells] at hu
 | cons q l ih=>
  intro vs hvs u hu;cases vs with
  | nil=>simp[tdCells] at hu
  | cons v vs=>
   rcases List.mem_append.1 hu with h|h
   ·simp only[kCells,List.mem_cons,List.not_mem_nil,or_false] at h;rcases h with rfl|rfl|rfl|rfl
    ·rfl
    ·rfl
    ·rfl
    ·exact hvs _ (by simp)
   ·exact ih (fun v hv=>hvs v (by simp[hv])) u h
structure QKeys (w:World) (F:Nat→Prop) (kv:Value) (KD:List KR) (vs:List Value):Prop where
 len:vs.length=KD.length
 row:Cells w F kv KD.length 4 (tdCells KD vs)
 each:∀ (j:Nat) (q:KR) (v:Value),KD[j]?=some q→vs[j]?=some v→Bytes w F v q.2
section
variable {w w':World}{F G:Nat→Prop}{kv:Value}{KD:List KR}{vs:List Value}
theorem QKeys.keep (h:QKeys w F kv KD vs) (hs:w.heap.size≤w'.heap.size) (hk:∀ g,F g→g<w.heap.size→w'.heap[g]?=w.heap[g]?):QKeys w' F kv KD vs:=
 ⟨h.len,Cells.keep h.row hs hk,fun j q v hq hv=>Cells.keep (h.each j q v hq hv) hs hk⟩
theorem QKeys.chg {C:Nat→Prop}(h:QKeys w F kv KD vs) (hc:Chg C w w') (hd:∀ g,g<w.heap.size→F g→¬ C g):QKeys w' F kv KD vs:=h.keep hc.size (fun g hg hl=>hc.block g hl (hd g hl hg))
theorem QKeys.mono (h:QKeys w F kv KD vs) (hs:∀ g,g<w.heap.size→F g→G g):QKeys w G kv KD vs:=
 ⟨h.len,Cells.mono h.row hs,fun j q v hq hv=>Cells.mono (h.each j q v hq hv) hs⟩
theorem QKeys.one (h:QKeys w F kv KD vs):∀ v ∈ vs,v.oneCell'=true:=fun v hv=>by
 obtain⟨j,hj⟩:=List.getElem?_of_mem hv;have hl:j<KD.length:=by rw[← h.len];exact (List.getElem?_eq_some_iff.1 hj).1
 obtain⟨a,c,rfl,_⟩:=(h.each j KD[j] v (List.getElem?_eq_getElem hl) hj).shape;rfl
end
def DerV (w:World) (o:Option (List UInt8)) (e:Ending) (w':World):Prop:=match o with
 | none=>e=.returned (.tuple #[.slice none 0 0,.int .i64 9])
 | some x=>∃ v,e=.returned (.tuple #[v,.int .i64 0])∧w'.ownsRow w.heap.size 5 1 v x.length (u8s x)
theorem bytes_size (l:List UInt8):(⟨l.toArray⟩:ByteArray).size=l.length:=by simp[ByteArray.size]
theorem infoTold:(prog.info? 127).map (fun i=>(i.zero,i.size,i.bytes))=some (some (.agg #[.string ByteArray.empty,.string ByteArray.empty,.int .i64 0,.slice none 0 0]),4,64):=by kernel_rfl
end Go.Proofs.YtbgfdbidbjlaaaaGreat.Fd

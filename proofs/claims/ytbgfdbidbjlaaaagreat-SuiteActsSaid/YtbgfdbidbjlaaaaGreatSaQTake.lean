/-
  The document's own tape. No condition beyond what each theorem names.
-/
import Derived.Test.YtbgfdbidbjlaaaaGreatSaTagPk
import Derived.Test.YtbgfdbidbjlaaaaGreatSaTakePk
namespace Go.Proofs.YtbgfdbidbjlaaaaGreat.Fd
open _root_.Go.Proofs.Tryz
open Go Go.RowKit K
set_option maxRecDepth 100000
set_option maxHeartbeats 8000000
theorem append_new {w:World}{g:Nat}{e t:TypeId}{z:Value}{bytes sz:Nat}(ht:prog.underlying t=some (.slice e)) (hi:(prog.info? e).map (fun i=>(i.zero,i.size,i.bytes))=some (some z,sz,bytes)) (hz:z.cells.size=sz) (hs:0<sz)
  (hg:w.heap[g]?=some (.cells #[] e (0,0))){S:Nat→Prop}{y:Value}{m:Nat}{news:List Value}(hy:Cells w S y m sz news) (h1:∀ u ∈ news,u.oneCell'=true) (hm:m≤maxLen) (hb:m*bytes≤140737488355328){B:Nat}(hB:B≤g) (ty:TypeId):
  ∃ v' w',(Builtin.append_ #[t,t] ty #[.slice (some ⟨g,0,none⟩) 0 0,y]).run prog w=.ok v' w'∧w'.ownsRow B e sz v' m news∧Chg No w w':=by
 obtain⟨i,hi1,hi2,hi3,hi4⟩:=info_parts hi;have hgl:=heap_lt hg;have hown:w.ownsRow B e sz (.slice (some ⟨g,0,none⟩) 0 0) 0 []:=⟨by simp,.inr ⟨g,0,#[],rfl,hB,hg,Nat.le_refl _,by unfold maxLen;omega,by simp,by simp⟩⟩;have hy0:=hy;obtain⟨hl,a,cap,rfl,_,_,h0,h3⟩:=hy;by_cases hm0:m=0
 ·subst hm0;have hnil:news=[]:=List.eq_nil_of_length_eq_zero (by simpa using hl);subst hnil;cases a with
  | none=>
   obtain rfl:=h0 rfl;exact⟨_,w,run_append_owned_none (P:=prog) (w:=w) B t ty e i sz ht hi1 _ 0 [] hown,hown,Chg.refl _ _⟩
  | some ad=>
   have hr:=run_append_room (P:=prog) (w:=w) t ty e i ht hi1 g 0 0 #[] hg ad 0 cap [] (by simp) (by intro j u hu;simp at hu) (by simp) (by omega) (by simp);simp only[Nat.zero_mul,List.take_zero,List.nil_append,List.length_nil,Nat.add_zero,List.drop_zero] at hr;rw[setRow_self w g #[] e (0,0) hg] at hr;exact⟨_,w,hr,hown,Chg.refl _ _⟩
 ·rcases h3 with h3|⟨b,off,rfl,_,_,hc⟩
  ·omega
  ·obtain⟨v',w',hr,r1,_,_,_⟩:=run_append_cells (P:=prog) w B t ty e i z sz bytes ht hi1 hi2 hi3 hi4 hz hs _ 0 [] hown S _ m news hy0 h1 (by omega) (by rw[Nat.zero_add];exact hb) (by omega);have h63':((0+m:Nat):Int)≤9223372036854775807:=by simp only[maxLen] at hm;omega
   have hr2:=run_append_grow (P:=prog) w t ty e i z ht hi1 hi2 ⟨g,0,none⟩ 0 0 [] (by simp) (by intro j u hu;simp at hu) ⟨b,off,none⟩ m cap news (by rw[hi3];exact hl) (fun j u hu=>by rw[Addr.add_lit];exact hc j u hu) (by omega) h63' (growslice_fits (by omega) (by rw[hi4,Nat.zero_add];exact hb));rw[hr] at hr2;cases hr2
   refine⟨_,_,hr,by simpa using r1,?_⟩;exact ((Chg.refl _ _).drew).alloc _
structure QTapeAt (w:World) (F:Nat→Prop) (p:Nat) (bv lv:Value) (b:List UInt8) (a k:Nat):Prop where
 box:w.heap[p]?=some (.cells #[bv,.int .i64 a,lv] 44 (0,0))
 bytes:Bytes w F bv b
 few:b.length≤100000
 within:a≤b.length
 takes:∃ xs,Cells w F lv k 3 xs∧(∀ u ∈ xs,u.oneCell'=true)∧(0<k→∃ s,xs[0]?=some (.string s))
 count:k≤a
 far:¬ F p
theorem QTapeAt.keep {w w':World}{F:Nat→Prop}{p:Nat}{bv lv:Value}{b:List UInt8}{a k:Nat}(h:QTapeAt w F p bv lv b a k) (hs:w.heap.size≤w'.heap.size) (hk:∀ g,g=p∨F g→g<w.heap.size→w'.heap[g]?=w.heap[g]?):QTapeAt w' F p bv lv b a k:=by
 obtain⟨xs,h1,h2⟩:=h.takes;exact⟨(hk p (.inl rfl) (heap_lt h.box)).trans h.box,Cells.keep h.bytes hs (fun g hg=>hk g (.inr hg)),h.few,h.within,⟨xs,Cells.keep h1 hs (fun g hg=>hk g (.inr hg)),h2⟩,h.count,h.far⟩
theorem QTapeAt.chg {w w':World}{F:Nat→Prop}{p:Nat}{bv lv:Value}{b:List UInt8}{a k:Nat}(h:QTapeAt w F p bv lv b a k) (hc:Chg No w w'):QTapeAt w' F p bv lv b a k:=
 h.keep hc.size (fun g _ hg=>hc.block g hg id)
theorem QTapeAt.mono {w:World}{F G:Nat→Prop}{p:Nat}{bv lv:Value}{b:List UInt8}{a k:Nat}(h:QTapeAt w F p bv lv b a k) (hs:∀ g,g<w.heap.size→F g→G g) (hp:¬ G p):QTapeAt w G p bv lv b a k:=by
 obtain⟨xs,h1,h2⟩:=h.takes;exact⟨h.box,Cells.mono h.bytes hs,h.few,h.within,⟨xs,Cells.mono h1 hs,h2⟩,h.count,hp⟩
theorem qTake_short {w:World}{F:Nat→Prop}{p:Nat}{bv lv:Value}{b:List UInt8}{a k:Nat}(h:QTapeAt w F p bv lv b a k) (what:ByteArray) (n:Nat) (hn:b.length<a+n) (hn2:n≤1000000):
  Calls prog 49 #[.pointer (some ⟨p,0,none⟩),.string what,.int .i64 n] w fun e w'=>e=.returned (.tuple #[.slice none 0 0,.int .i64 9])∧Chg No w w':=by
 have hw:=h.within;have hfew:=h.few;obtain⟨ba,bc,rfl,hb1,hb2⟩:=h.bytes.shape;unfold maxLen at hb2;have c0:w.cell? ⟨p,0,none⟩=some (.slice ba b.length bc):=cell_of h.box 0;have c1:w.cell? ⟨p,1,none⟩=some (.int .i64 a):=cell_of h.box 1;have hpl:=heap_lt h.box;obtain⟨L,hL⟩:∃ L,L=b.length:=⟨_,rfl⟩;rw[← hL] at c0 hw hfew hb1 hn;have hd:(L:Int) - a<n:=by omega
 have hnn:(0:Int)≤n:=by omega
 replace hL:=LH hL;clear h;go_enter func49,ntmps49;go_wp2
 go_region
 go_wp2;go_ret2;exact⟨rfl,((Chg.refl _ _).drew)⟩
theorem qTake_ok {w:World}{F:Nat→Prop}{p:Nat}{bv lv:Value}{b:List UInt8}{a k:Nat}(h:QTapeAt w F p bv lv b a k) (what:ByteArray) (n:Nat) (hn:a+n≤b.length) (hn1:1≤n):
  Calls prog 49 #[.pointer (some ⟨p,0,none⟩),.string what,.int .i64 n] w fun e w'=>∃ v lv',e=.returned (.tuple #[v,.int .i64 0])∧w'.ownsRow w.heap.size 5 1 v n (u8s ((b.drop a).take n))∧
   QTapeAt w' (fun g=>F g∨w.heap.size≤g) p bv lv' b (a+n) (k+1)∧Chg (fun g=>g=p) w w':=by
 have hw:=h.within;have hfew:=h.few;have hcnt:=h.count;obtain⟨D,hD⟩:∃ D,D=(b.drop a).take n:=⟨_,rfl⟩;rw[← hD];replace hD:=LH hD;obtain⟨ba,bc,rfl,hb1,hb2⟩:=h.bytes.shape;obtain⟨xs,hxs,hx1,hx0⟩:=h.takes;obtain⟨la,lc,rfl,hl1,hl2⟩:=hxs.shape;unfold maxLen at hb2 hl2;have c0:w.cell? ⟨p,0,none⟩=some (.slice ba b.length bc):=cell_of h.box 0;have c1:w.cell? ⟨p,1,none⟩=some (.int .i64 a):=cell_of h.box 1;have hpl:=heap_lt h.box;obtain⟨L,hL⟩:∃ L,L=b.length:=⟨_,rfl⟩;rw[← hL] at c0 hw hfew hb1 hn;have hd:(n:Int)≤(L:Int) - a:=by omega
 have hnn:(0:Int)≤n:=by omega
 have hH:=LH h;have hxs':=LH hxs;have hx1':=LH hx1;have hx0':=LH hx0;replace hL:=LH hL;clear h hxs hx1 hx0;go_enter func49,ntmps49;go_wp2
 go_region
 go_wp2;obtain⟨w1,hw1⟩:∃ x,x=w.drew:=⟨_,rfl⟩;have hC1:Chg No w w1:=hw1 ▸ (Chg.refl _ _).drew;rw[← hw1];have h1:=hH.out.chg hC1;have d1:w1.cell? ⟨p,1,none⟩=some (.int .i64 a):=cell_of h1.box 1;have d2:w1.cell? ⟨p,2,none⟩=some (.slice la k lc):=cell_of h1.box 2;have hpl1:=heap_lt h1.box;have hdr:∀ w3,Chg No w1.drew w3→Chg No w1 w3:=fun w3 h=>⟨h.os,h.tape,h.output,h.size,h.block⟩
 have hxw:∀ w3,Chg No w1 w3→Cells w3 F (.slice la k lc) k 3 xs:=fun w3 hc=>(hxs'.out.chg hC1 (fun _ _ _=>id)).chg hc (fun _ _ _=>id)
 obtain⟨N1,hN1⟩:∃ x,x=w1.heap.size:=⟨_,rfl⟩;have hNw:w.heap.size≤N1:=hN1 ▸ hC1.size;have hpN:p<N1:=hN1 ▸ hpl1;replace hdr:=LH hdr;replace d1:=LH d1;replace d2:=LH d2;replace hxw:=LH hxw;replace h1:=LH h1;replace hC1:=LH hC1;replace hN1:=LH hN1;clear c0 c1 hd hw1;refine RA.regionT (Chg No) (Chg No) [5,2,1,1,1,1,3,1,1,1,1,1,1,1,2,6,5,5,7] [15,18] (fun i v w3=>if i=1 then (∃ g,v=.slice (some ⟨g,0,none⟩) 0 0∧N1≤g∧w3.heap[g]?=some (.cells #[] 159 (0,0))) else Cells w3 (fun g=>N1≤g) v 1 3 (takeCells (what,a,n))) (fun _=>True) (by kernel_rfl) (Chg.refl _ _) (fun _ _ h=>h) (fun _ _ _ h k=>h.trans k) (fun _ _ h k=>k) trivial (by kernel_rfl) (by kernel_rfl) ?_;intro cx;refine RA.pq (h:=?_)
 refine RA.fr (by kernel_rfl) (by rfl) (fun v a b h h2=>by
  have h2:∃ g,v=.slice (some ⟨g,0,none⟩) 0 0∧N1≤g∧a.heap[g]?=some (.cells #[] 159 (0,0)):=h2;obtain⟨g,e1,e2,e3⟩:=h2;show ∃ g,v=.slice (some ⟨g,0,none⟩) 0 0∧N1≤g∧b.heap[g]?=some (.cells #[] 159 (0,0))
  exact⟨g,e1,e2,(h.block g (heap_lt e3) id).trans e3⟩) (fun w3 hp=>⟨.slice (some ⟨w3.heap.size,0,none⟩) 0 0,w3.alloc (.cells #[] 159),by
   show (execOp _ _).run prog w3=_;go_simp,(Chg.refl _ _).alloc _,by
   show ∃ g,_∧_∧_;exact⟨_,rfl,hN1.out ▸ (hdr.out _ hp.1).size,heap_alloc_new w3 _⟩⟩) (fun x0=>?_)
 repeat refine RA.qq (h:=?_)
 refine RA.fk prog (p) (2) (h:=?_);refine RA.lk prog (.slice la k lc) (hc:=fun w3 hp=>by exact ((hdr.out _ hp.1).cell (p:=⟨p,2,none⟩) hpl1 id).trans d2.out) (h:=?_)
 refine RA.bq (fun v w3=>w3.ownsRow N1 159 3 v k xs) (fun _ _=>True) (by kernel_rfl) (by rfl) (by kernel_rfl) (fun _ _ _ h k=>owns_keep k (fun g hg=>h.block g (k.lt g hg).2 id)) (fun _ _ _ _ _=>trivial) (fun w3 hp _=>by
  have hf:∃ g,x0=.slice (some ⟨g,0,none⟩) 0 0∧N1≤g∧w3.heap[g]?=some (.cells #[] 159 (0,0)):=hp.fact 0 rfl (by kernel_rfl);obtain⟨g,rfl,e2,e3⟩:=hf;obtain⟨v',w4,r1,r2,r3⟩:=append_new (bytes:=32) underlying42 infoTake rfl (by decide) e3 (hxw.out w3 (hdr.out _ hp.1)) hx1'.out (by unfold maxLen;omega) (by omega) e2 42;exact⟨v',w4,RA.ex_append (by rfl) (by rfl) r1,r3,r2,trivial⟩) (fun x1=>?_)
 repeat refine RA.qq (h:=?_)
 refine RA.fk prog (p) (1) (h:=?_);refine RA.lk prog (.int .i64 a) (hc:=fun w3 hp=>by exact ((hdr.out _ hp.1).cell (p:=⟨p,1,none⟩) hpl1 id).trans d1.out) (h:=?_)
 repeat refine RA.qq (h:=?_)
 refine RA.vk prog (.agg #[.string what,.int .i64 a,.int .i64 n]) (h:=?_)
 refine RA.fr (by kernel_rfl) (by rfl) (fun v a' b h h2=>by
  have h2:Cells a' (fun g=>N1≤g) v 1 3 (takeCells (what,a,n)):=h2;show Cells b (fun g=>N1≤g) v 1 3 (takeCells (what,a,n))
  exact h2.chg h (fun _ _ _=>id)) (fun w3 hp=>⟨.slice (some ⟨w3.heap.size,0,none⟩) 1 1,w3.alloc (.cells #[.string what,.int .i64 a,.int .i64 n] 159),by
   show (execOp _ _).run prog w3=_;go_simp,(Chg.refl _ _).alloc _,by
   show Cells _ (fun g=>N1≤g) _ 1 3 (takeCells (what,a,n));exact (Cells.own (World.ownsRow_lit (base:=N1) (e:=159) (size:=3) w3 #[.string what,.int .i64 a,.int .i64 n] 1 (hN1.out ▸ (hdr.out _ hp.1).size) (by unfold maxLen;omega) rfl)).mono (fun _ _ h=>h.2)⟩) (fun x2=>?_)
 refine RA.bqt (fun v' w4=>(∃ g cp,v'=.slice (some ⟨g,0,none⟩) (k+1) cp)∧w4.ownsRow N1 159 3 v' (k+1) (xs++takeCells (what,a,n))∧Chg No w1 w4) (by kernel_rfl) (by rfl) (by kernel_rfl) (fun v _ _ h hk=>⟨hk.1,owns_keep hk.2.1 (fun g hg=>h.block g (hk.2.1.lt g hg).2 id),hk.2.2.trans h⟩) (fun w3 hp0 _=>by
  have hp:=hp0.first (by kernel_rfl);have f1:w3.ownsRow N1 159 3 x1 k xs:=hp.fact 1 rfl (by kernel_rfl);have f2:Cells w3 (fun g=>N1≤g) x2 1 3 (takeCells (what,a,n)):=hp.fact 0 rfl (by kernel_rfl);have hR:=hdr.out _ hp.1;obtain⟨v',w4,r1,r2,r3,r4⟩:=own_push (P:=prog) (bytes:=32) underlying42 infoTake rfl (by decide) f1 (hN1.out ▸ hR.size) (Chg.refl _ w3) f2 (by simp[takeCells,Value.oneCell']) (by unfold maxLen;omega) (by omega) 42;obtain⟨g,cp,hv,_,_⟩:=own_shape r2 (by omega);refine⟨v',w4,RA.ex_append (by rfl) (by rfl) r1,⟨g,cp,hv⟩,r2,hR.then r3 (fun g hg e=>?_)⟩;have:=(f1.lt g e).1;have:=hN1.out;omega) (fun x3=>?_)
 refine RA.pq (h:=?_);refine RA.pk prog (p) (2) (h:=?_)
 refine RA.stt (fun w5=>(∃ g cp,x3=.slice (some ⟨g,0,none⟩) (k+1) cp)∧w5.ownsRow N1 159 3 x3 (k+1) (xs++takeCells (what,a,n))∧w5.heap[p]?=some (.cells #[.slice ba b.length bc,.int .i64 a,x3] 44 (0,0))∧Chg (fun g=>g=p) w1 w5) (by rfl) (by rfl) (by kernel_rfl) (fun _ _ h hk=>⟨hk.1,owns_keep hk.2.1 (fun g hg=>h.block g (hk.2.1.lt g hg).2 id),(h.block p (heap_lt hk.2.2.1) id).trans hk.2.2.1,hk.2.2.2.then h (fun _ _ e=>e.elim)⟩) (fun w4 _ hH=>by
  obtain⟨⟨g',cp,rfl⟩,f2,f3⟩:=hH;have hbx:=(f3.block p hpl1 id).trans h1.out.box;have z0:=frozen_of hbx 2;have z1:w4.cell? ⟨p,2,none⟩=some (.slice la k lc):=cell_of hbx 2;have hgp:g'≠p:=by have:=(f2.lt g' rfl).1;omega
  refine⟨_,RA.ex_store (by rfl) (by rfl) (w':=w4.setCell ⟨p,2,none⟩ (.slice (some ⟨g',0,none⟩) (k+1) cp)) ?_,⟨g',cp,rfl⟩,owns_keep f2 (fun g hg=>setCell_heap_ne _ _ _ (by simp only[Value.ownBlock,Option.some.injEq] at hg;exact hg ▸ hgp)),by rw[setCell_block hbx];rfl,Chg.setCell (C:=fun g=>g=p) (p:=⟨p,2,none⟩) (f3.mono (fun _ _ e=>e.elim)) (fun _=>rfl) _⟩;clear hbx f2 f3;show (Instr.storeAt _ _ _).run prog w4=_;go_simp) ?_
 refine RA.RA.doneT (fun w5 hH=>?_);simp only[RA.put,List.foldr_cons,List.foldr_nil,cx,Act.put,List.setIfInBounds_toArray,List.set_cons_succ,List.set_cons_zero];obtain⟨⟨g',cp,rfl⟩,hO5,hX5,hC5⟩:=hH;have e1:w5.cell? ⟨p,1,none⟩=some (.int .i64 a):=cell_of hX5 1;have e2:=frozen_of hX5 1;have hpl5:=heap_lt hX5;obtain⟨w6,hw6⟩:∃ x,x=w5.setCell ⟨p,1,none⟩ (.int .i64 ((a:Int)+n)):=⟨_,rfl⟩
 have hC6:Chg (fun g=>g=p) w w6:=by
  rw[hw6];exact Chg.setCell (C:=fun g=>g=p) (p:=⟨p,1,none⟩) ((hC1.out.mono (fun _ _ e=>e.elim)).trans hC5) (fun _=>rfl) _
 have hgp:g'≠p:=by have:=(hO5.lt g' rfl).1;omega
 have hO6:w6.ownsRow N1 159 3 (.slice (some ⟨g',0,none⟩) (k+1) cp) (k+1) (xs++takeCells (what,a,n)):=by
  rw[hw6];exact owns_keep hO5 (fun g hg=>setCell_heap_ne _ _ _ (by simp only[Value.ownBlock,Option.some.injEq] at hg;exact hg ▸ hgp))
 have hX6:w6.heap[p]?=some (.cells #[.slice ba b.length bc,.int .i64 (a+n:Nat),.slice (some ⟨g',0,none⟩) (k+1) cp] 44 (0,0)):=by
  rw[hw6,setCell_block hX5];rfl
 have hT6:QTapeAt w6 (fun g=>F g∨w.heap.size≤g) p (.slice ba b.length bc) (.slice (some ⟨g',0,none⟩) (k+1) cp) b (a+n) (k+1):=by
  refine⟨hX6,?_,by have:=hL.out;omega,by have:=hL.out;omega,⟨xs++takeCells (what,a,n),?_,?_,fun _=>?_⟩,by omega,?_⟩
  ·exact Cells.mono (hH.out.bytes.chg hC6 (fun g _ hF e=>hH.out.far (e ▸ hF))) (fun _ _ h=>.inl h)
  ·exact (Cells.own hO6).mono (fun g _ h=>.inr (Nat.le_trans hNw h.2))
  ·intro u hu;rcases List.mem_append.1 hu with h|h
   ·exact hx1'.out u h
   ·simp only[takeCells,List.mem_cons,List.not_mem_nil,or_false] at h;rcases h with rfl|rfl|rfl<;>rfl
  ·have hxl:=hxs'.out.1;rcases Nat.eq_zero_or_pos k with hk0|hk0
   ·have hx2:xs=[]:=List.eq_nil_of_length_eq_zero (by omega);rw[hx2];exact⟨what,rfl⟩
   ·obtain⟨s0,hs0⟩:=hx0'.out hk0;exact⟨s0,by rw[List.getElem?_append_left (by omega)];exact hs0⟩
  ·rintro (h|h)
   ·exact hH.out.far h
   ·have:=heap_lt hH.out.box;omega
 have hdr6:∀ w3,Chg No w6.drew w3→Chg No w6 w3:=fun w3 h=>⟨h.os,h.tape,h.output,h.size,h.block⟩
 have g0:w6.cell? ⟨p,0,none⟩=some (.slice ba b.length bc):=cell_of hX6 0;have g1:w6.cell? ⟨p,1,none⟩=some (.int .i64 (a+n:Nat)):=cell_of hX6 1;have hpl6:=heap_lt hX6;rw[← hL.out] at g0
 have hcut:∀ w3,(Instr.sliceAt 22 (.slice ba L bc) (some (.int .i64 a)) (some (.int .i64 (a+n:Nat))) none).run prog w3=.ok (sliced ba a (a+n) bc 1) w3:=fun w3=>
  cut_at (P:=prog) (s:=1) w3 underlying22 (by kernel_rfl) ba L bc a (a+n) (by omega) (by omega)
 have hcb:∀ w3,Chg No w6 w3→Bytes w3 (fun _=>True) (sliced ba a (a+n) bc 1) ((b.drop a).take n):=fun w3 hc=>by
  have hb2:=bytes_cut (Bytes.chg hT6.bytes hc (fun _ _ _=>id)) a (a+n) (by omega) (by have:=hL.out;omega);rw[Nat.add_sub_cancel_left] at hb2;exact Cells.mono hb2 (fun _ _ _=>trivial)
 have hDl:((b.drop a).take n).length=n:=by rw[List.length_take,List.length_drop];have:=hL.out;omega
 rw[← hD.out] at hcb hDl;obtain⟨N6,hN6⟩:∃ x,x=w6.heap.size:=⟨_,rfl⟩;have hs6:w.heap.size≤N6:=hN6 ▸ hC6.size;replace hDl:=LH hDl;have hw6':=LH hw6;replace hC6:=LH hC6;replace hT6:=LH hT6;replace hdr6:=LH hdr6;replace g0:=LH g0;replace g1:=LH g1;replace hcut:=LH hcut;replace hcb:=LH hcb;replace hN6:=LH hN6;clear hO6 hX6 hO5 hX5 hC5 hw6 d1 d2 hdr;go_wp2;rw[← hw6'.out];clear e1 e2 hw6';refine RA.rt (Chg No) [3,1,1,1,1,1,1,1,1,1,1,1,1,1,1,1,6,5,5] [16] (fun _=>True) (trivial) (fun _=>Chg.refl _ _) (fun _ _ _ h k=>h.trans k) (h:=?_);intro cx
 refine RA.bq (fun v w3=>∃ g,v=.slice (some ⟨g,0,none⟩) 0 0∧N6≤g∧w3.heap[g]?=some (.cells #[] 5 (0,0))) (fun _ _=>True) (by kernel_rfl) (by rfl) (by kernel_rfl) (fun _ _ _ h k=>by obtain⟨g,h1,h2,h3⟩:=k;exact⟨g,h1,h2,(h.block g (heap_lt h3) id).trans h3⟩) (fun _ _ _ _ _=>trivial) (fun w3 hp _=>by
  refine⟨.slice (some ⟨w3.heap.size,0,none⟩) 0 0,w3.alloc (.cells #[] 5),?_,(Chg.refl _ _).alloc _,⟨_,rfl,hN6.out ▸ (hdr6.out _ hp.1).size,heap_alloc_new w3 _⟩,trivial⟩;show (execOp _ _).run prog w3=_;go_simp) (fun x0=>?_)
 repeat refine RA.qq (h:=?_)
 refine RA.fk prog (p) (0) (h:=?_);refine RA.lk prog (.slice ba L bc) (hc:=fun w3 hp=>by exact ((hdr6.out _ hp.1).cell (p:=⟨p,0,none⟩) hpl6 id).trans g0.out) (h:=?_)
 repeat refine RA.qq (h:=?_)
 refine RA.fk prog (p) (1) (h:=?_);refine RA.lk prog (.int .i64 (a+n:Nat)) (hc:=fun w3 hp=>by exact ((hdr6.out _ hp.1).cell (p:=⟨p,1,none⟩) hpl6 id).trans g1.out) (h:=?_)
 repeat refine RA.qq (h:=?_)
 refine RA.si (by kernel_rfl) (by rfl) (by rfl) (by rfl) ((a:Int)) (by omega) (by omega) ?_
 repeat refine RA.qq (h:=?_)
 refine RA.fk prog (p) (1) (h:=?_);refine RA.lk prog (.int .i64 (a+n:Nat)) (hc:=fun w3 hp=>by exact ((hdr6.out _ hp.1).cell (p:=⟨p,1,none⟩) hpl6 id).trans g1.out) (h:=?_);refine RA.slh (by kernel_rfl) (by rfl) (by rfl) (by rfl) (by rfl) (y':=sliced ba a (a+n) bc 1) (fun w3 _=>hcut.out w3) ?_
 refine RA.bqt (fun v' w4=>(∃ x y z,v'=.slice x y z)∧w4.ownsRow N6 5 1 v' n (u8s D)∧Chg No w6 w4) (by kernel_rfl) (by rfl) (by kernel_rfl) (fun _ _ _ h k=>h ▸ k) (fun w3 hp0 _=>by
  have hp:=hp0.first (by kernel_rfl);obtain⟨g,rfl,e2,e3⟩:=hp.fact 0 rfl (by kernel_rfl);have hcs:=hcb.out w3 (hdr6.out _ hp.1);have hcs2:Cells w3 (fun _=>True) (sliced ba a (a+n) bc 1) n 1 (u8s D):=by have h9:Cells w3 _ _ D.length 1 (u8s D):=hcs;rw[hDl.out] at h9;exact h9
  obtain⟨v',w4,r1,r2,r3⟩:=append_new (bytes:=1) underlying22 infoByte rfl (by decide) e3 hcs2 (u8s_one _) (by unfold maxLen;omega) (by omega) e2 22;obtain⟨x,y,hv,_,_⟩:=(Cells.own r2).shape;exact⟨v',w4,RA.ex_append (by rfl) (by rfl) r1,⟨x,n,y,hv⟩,r2,(hdr6.out _ hp.1).trans r3⟩) (fun v'=>?_)
 refine RA.pas (by rfl) (by rfl) (by rfl) ?_;refine RA.pas (by rfl) (by rfl) (by rfl) ?_;refine RA.RA.doneT (fun w7 hH=>?_);simp only[RA.put,List.foldr_cons,List.foldr_nil,cx,Act.put,List.setIfInBounds_toArray,List.set_cons_succ,List.set_cons_zero];obtain⟨⟨x,y,z,rfl⟩,hO7,hC7⟩:=hH;replace hO7:=LH hO7;replace hC7:=LH hC7;clear hcut hcb;go_wp2;go_ret2;exact⟨_,.slice (some ⟨g',0,none⟩) (k+1) cp,rfl,owns_base hO7.out hs6,hT6.out.chg hC7.out,hC6.out.then hC7.out (fun _ _ e=>e.elim)⟩
end Go.Proofs.YtbgfdbidbjlaaaaGreat.Fd

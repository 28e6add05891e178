/-
  Texts of this claim, laid together by a program of mine. No condition beyond what each theorem names.
-/
import Derived.Test.YtbgfdbidbjlaaaaGreatSaMaps
import Derived.Test.YtbgfdbidbjlaaaaGreatSaTagPk
import Derived.Test.YtbgfdbidbjlaaaaGreatSaXopenPk
/-
  tape.New, tape.Take with what a tape owns. No condition beyond what each theorem names.
-/
namespace Go.Proofs.YtbgfdbidbjlaaaaGreat.Fd
open _root_.Go.Proofs.Tryz
open Go Go.RowKit K
set_option maxRecDepth 100000
set_option maxHeartbeats 4000000
structure TapeO (w:World) (B:Nat) (p:Nat) (bv tv:Value) (b:List UInt8) (a:Nat) (ts:List (ByteArray×Nat×Nat)):Prop where
 box:w.heap[p]?=some (.cells #[bv,.int .i64 a,tv] 56 (0,0))
 base:B≤p
 bytes:w.ownsRow B 5 1 bv b.length (u8s b)
 few:b.length≤1000000
 within:a≤b.length
 takes:w.ownsRow B 159 3 tv ts.length (ts.flatMap takeCells)
 count:ts.length≤1000000
theorem own_cells {w:World}{base:Nat}{e:TypeId}{sz:Nat}{v:Value}{n:Nat}{xs:List Value}(h:w.ownsRow base e sz v n xs){g:Nat}(hg:v.ownBlock=some g):∃ cur,w.heap[g]?=some (.cells cur e (0,0)):=by
 rcases h.2 with ⟨rfl,_⟩|⟨g',cap,cur,rfl,_,h3,_⟩
 ·cases hg
 ·cases hg
  exact⟨cur,h3⟩
theorem apart_type {w:World}{base:Nat}{e:TypeId}{sz:Nat}{v:Value}{n:Nat}{xs:List Value}(h:w.ownsRow base e sz v n xs){p:Nat}{cs:Array Value}{t:TypeId}{m:Nat×Nat}(hp:w.heap[p]?=some (.cells cs t m)) (hne:e≠t):v.ownBlock≠some p:=by
 intro hg;obtain⟨cur,hc⟩:=own_cells h hg;rw[hp] at hc;simp only[Option.some.injEq,Obj.cells.injEq] at hc;exact hne hc.2.1.symm
theorem TapeO.at {w:World}{B p:Nat}{bv tv:Value}{b:List UInt8}{a:Nat}{ts:List (ByteArray×Nat×Nat)}(h:TapeO w B p bv tv b a ts):TapeAt w (fun g=>B≤g) p bv tv b a ts:=
 ⟨h.box,h.base,(Cells.own h.bytes).mono (fun _ _ h=>h.2),h.few,h.within,(Cells.own h.takes).mono (fun _ _ h=>h.2),h.count⟩
theorem TapeO.keep {w w':World}{B p:Nat}{bv tv:Value}{b:List UInt8}{a:Nat}{ts:List (ByteArray×Nat×Nat)}(h:TapeO w B p bv tv b a ts) (hk:∀ g,g=p∨bv.ownBlock=some g∨tv.ownBlock=some g→w'.heap[g]?=w.heap[g]?):TapeO w' B p bv tv b a ts:=
 ⟨(hk p (.inl rfl)).trans h.box,h.base,owns_keep h.bytes (fun g hg=>hk g (.inr (.inl hg))),h.few,h.within,owns_keep h.takes (fun g hg=>hk g (.inr (.inr hg))),h.count⟩
theorem TapeO.lt {w:World}{B p:Nat}{bv tv:Value}{b:List UInt8}{a:Nat}{ts:List (ByteArray×Nat×Nat)}(h:TapeO w B p bv tv b a ts){g:Nat}(hg:g=p∨bv.ownBlock=some g∨tv.ownBlock=some g):g<w.heap.size:=by
 rcases hg with rfl|hg|hg
 ·exact heap_lt h.box
 ·exact (h.bytes.lt g hg).2
 ·exact (h.takes.lt g hg).2
theorem TapeO.after {w w':World}{B p:Nat}{bv tv:Value}{b:List UInt8}{a:Nat}{ts:List (ByteArray×Nat×Nat)}(h:TapeO w B p bv tv b a ts) (hk:Below w.heap.size w w'):TapeO w' B p bv tv b a ts:=
 h.keep fun g hg=>hk.block g (h.lt hg)
theorem TapeO.apart {w:World}{B p:Nat}{bv tv:Value}{b:List UInt8}{a:Nat}{ts:List (ByteArray×Nat×Nat)}(h:TapeO w B p bv tv b a ts){g:Nat}{cs:Array Value}{t:TypeId}{m:Nat×Nat}(hp:w.heap[g]?=some (.cells cs t m)) (h1:t≠56) (h2:t≠159):¬ (g=p∨tv.ownBlock=some g):=by
 rintro (rfl|hg)
 ·rw[h.box] at hp;simp only[Option.some.injEq,Obj.cells.injEq] at hp;exact h1 hp.2.1.symm
 ·exact apart_type h.takes hp h2.symm hg
theorem TapeO.apartM {w:World}{B p:Nat}{bv tv:Value}{b:List UInt8}{a:Nat}{ts:List (ByteArray×Nat×Nat)}(h:TapeO w B p bv tv b a ts){g:Nat}{es:Array MapEntry}{c:Nat}(hp:w.heap[g]?=some (.map es c)):¬ (g=p∨tv.ownBlock=some g):=by
 rintro (rfl|hg)
 ·rw[h.box] at hp;cases hp
 ·obtain⟨cur,hc⟩:=own_cells h.takes hg;rw[hp] at hc;cases hc
theorem TapeO.kind {w:World}{B p:Nat}{bv tv:Value}{b:List UInt8}{a:Nat}{ts:List (ByteArray×Nat×Nat)}(h:TapeO w B p bv tv b a ts){g:Nat}(hg:g=p∨bv.ownBlock=some g∨tv.ownBlock=some g):
  ∃ cs t,w.heap[g]?=some (.cells cs t (0,0))∧(t=56∨t=5∨t=159):=by
 rcases hg with rfl|hg|hg
 ·exact⟨_,_,h.box,.inl rfl⟩
 ·obtain⟨cur,hc⟩:=own_cells h.bytes hg;exact⟨_,_,hc,.inr (.inl rfl)⟩
 ·obtain⟨cur,hc⟩:=own_cells h.takes hg;exact⟨_,_,hc,.inr (.inr rfl)⟩
theorem TapeO.far {w:World}{B p:Nat}{bv tv:Value}{b:List UInt8}{a:Nat}{ts:List (ByteArray×Nat×Nat)}(h:TapeO w B p bv tv b a ts){g:Nat}(hg:g=p∨bv.ownBlock=some g∨tv.ownBlock=some g){u:Nat}{cs:Array Value}{t:TypeId}{m:Nat×Nat}(hu:w.heap[u]?=some (.cells cs t m))
  (h1:t≠56) (h2:t≠5) (h3:t≠159):g≠u:=by
 rintro rfl;obtain⟨cs',t',h4,h5⟩:=h.kind hg;rw[hu] at h4;simp only[Option.some.injEq,Obj.cells.injEq] at h4;obtain⟨_,rfl,_⟩:=h4;rcases h5 with h5|h5|h5
 ·exact h1 h5
 ·exact h2 h5
 ·exact h3 h5
theorem TapeO.farM {w:World}{B p:Nat}{bv tv:Value}{b:List UInt8}{a:Nat}{ts:List (ByteArray×Nat×Nat)}(h:TapeO w B p bv tv b a ts){g:Nat}(hg:g=p∨bv.ownBlock=some g∨tv.ownBlock=some g){u:Nat}{es:Array MapEntry}{c:Nat}(hu:w.heap[u]?=some (.map es c)):g≠u:=by
 rintro rfl;obtain⟨cs',t',h4,h5⟩:=h.kind hg;rw[hu] at h4;cases h4
theorem infoTake:(prog.info? 159).map (fun i=>(i.zero,i.size,i.bytes))=some (some (.agg #[.string ByteArray.empty,.int .i64 0,.int .i64 0]),3,32):=by kernel_rfl
def TkC (p:Nat) (tv:Value):Nat→Prop:=fun g=>g=p∨tv.ownBlock=some g
theorem TapeO.push {w w3:World}{B p:Nat}{bv tv:Value}{b:List UInt8}{a:Nat}{ts:List (ByteArray×Nat×Nat)}(h:TapeO w B p bv tv b a ts) (hB:B≤w.heap.size) (hR:Chg No w w3) (t:ByteArray×Nat×Nat){u:Value}(hu:Cells w3 (fun _=>True) u 1 3 (takeCells t)) (hc:ts.length<1000000):
  ∃ v' w4,(Builtin.append_ #[42,42] 42 #[tv,u]).run prog w3=.ok v' w4∧w4.cell? ⟨p,2,none⟩=some tv∧w4.frozen? ⟨p,2,none⟩=false∧(∃ g cp,v'=.slice (some ⟨g,0,none⟩) (ts.length+1) cp)∧
   TapeO (w4.setCell ⟨p,2,none⟩ v') B p bv v' b a (ts++[t])∧Chg (TkC p tv) w (w4.setCell ⟨p,2,none⟩ v')∧(v'.ownBlock=tv.ownBlock∨∃ g,v'.ownBlock=some g∧w.heap.size≤g):=by
 obtain⟨v',w4,hr,r1,r2,r3⟩:=own_push (P:=prog) (bytes:=32) underlying42 infoTake rfl (by decide) h.takes hB hR hu (by simp[takeCells,Value.oneCell']) (by unfold maxLen;omega) (by omega) 42;have hpl:=heap_lt h.box;have hpk:¬ tv.ownBlock=some p:=apart_type h.takes h.box (by decide);have hbox:=(r2.block p hpl hpk).trans h.box
 have hvp:v'.ownBlock≠some p:=by
  rcases r3 with e|⟨g,e,hl⟩
  ·rw[e];exact hpk
  ·rw[e];intro e2;simp at e2;omega
 have hbk:∀ g,bv.ownBlock=some g→(w4.setCell ⟨p,2,none⟩ v').heap[g]?=w.heap[g]?:=fun g hg=>by
  have hne:g≠p:=by
   rintro rfl;exact apart_type h.bytes h.box (by decide) hg
  rw[setCell_heap_ne _ _ _ (by exact hne)];obtain⟨cur,hc⟩:=own_cells h.bytes hg;exact r2.block g (heap_lt hc) (fun e=>apart_type h.takes hc (by decide) e)
 refine⟨v',w4,hr,?_,frozen_of hbox 2,?_,⟨?_,h.base,owns_keep h.bytes hbk,h.few,h.within,?_,by simp;omega⟩,?_,r3⟩
 ·rw[cell_of hbox];rfl
 ·obtain⟨g,cp,h1,_,_⟩:=own_shape r1 (by omega);exact⟨g,cp,h1⟩
 ·rw[setCell_block hbox];rfl
 ·have e1:(ts++[t]).flatMap takeCells=ts.flatMap takeCells++takeCells t:=by simp
  rw[e1,List.length_append,List.length_singleton];exact owns_keep r1 (fun g hg=>setCell_heap_ne _ _ _ (by rintro rfl;exact hvp hg))
 ·exact (r2.mono (fun _ _ e=>.inr e)).setCell (fun _=>.inl rfl) _
theorem tapeNewO_ok {w:World}{S:Nat→Prop}{v:Value}{b:List UInt8}(hb:Bytes w S v b) (hl:b.length≤1000000):
  Calls prog 6 #[v] w fun e w'=>∃ p bv,e=.returned (.pointer (some ⟨p,0,none⟩))∧TapeO w' w.heap.size p bv (.slice none 0 0) b 0 []∧Below w.heap.size w w':=by
 have hc:=LH (clone_ok hb (by omega));go_enter func6,ntmps6
 go_wp2_with fail
 refine hc.out.mono ?_;rintro e w1 ⟨bv,rfl,ho,hbe,_⟩;have HO:=LH ho;have hbe2:=LH hbe;obtain⟨ba,cap,rfl,hc1,hc2⟩:=(Cells.own ho).shape;clear ho hbe;go_wp2;go_ret;refine⟨w1.heap.size,_,rfl,⟨heap_alloc_new w1 _,hbe2.out.size,owns_keep HO.out (fun g hg=>Below.heap_alloc _ _ _ (HO.out.lt g hg).2),hl,by omega,World.ownsRow_nil _ _ _ _,by simp⟩,hbe2.out.alloc hbe2.out.size _⟩
theorem take_short {w:World}{F:Nat→Prop}{p:Nat}{bv tv:Value}{b:List UInt8}{a:Nat}{ts:List (ByteArray×Nat×Nat)}(h:TapeAt w F p bv tv b a ts) (what:Value) (n:Nat) (hn:b.length<a+n):
  Calls prog 52 #[.pointer (some ⟨p,0,none⟩),what,.int .i64 n] w fun e w'=>e=.returned (.tuple #[.slice none 0 0,.int .i64 9])∧Chg No w w':=by
 have hw:=h.within;have hl:=left_ok h;obtain⟨d,hd⟩:∃ d,d=b.length - a:=⟨_,rfl⟩;rw[← hd] at hl;have hdn:d<n:=by omega
 replace hl:=LH hl;replace hd:=LH hd;clear hw hn h;go_enter func52,ntmps52
 go_wp2_with fail
 refine hl.out.mono ?_;rintro e w' ⟨rfl,hc⟩;replace hc:=LH hc;go_wp2;go_ret2;exact⟨rfl,hc.out⟩
theorem take_ok {w:World}{B p:Nat}{bv tv:Value}{b:List UInt8}{a:Nat}{ts:List (ByteArray×Nat×Nat)}(h:TapeO w B p bv tv b a ts) (hB:B≤w.heap.size) (what:ByteArray) (n:Nat) (hn:a+n≤b.length) (hc:ts.length<1000000):
  Calls prog 52 #[.pointer (some ⟨p,0,none⟩),.string what,.int .i64 n] w fun e w'=>∃ v tv',e=.returned (.tuple #[v,.int .i64 0])∧w'.ownsRow w.heap.size 5 1 v n (u8s ((b.drop a).take n))∧
   TapeO w' B p bv tv' b (a+n) (ts++[(what,a,n)])∧Chg (TkC p tv) w w'∧(tv'.ownBlock=tv.ownBlock∨∃ g,tv'.ownBlock=some g∧w.heap.size≤g):=by
 have hl:=left_ok h.at;have hfew:=h.few;obtain⟨d,hd⟩:∃ d,d=b.length - a:=⟨_,rfl⟩;rw[← hd] at hl;have hdn:n≤d:=by omega
 replace hl:=LH hl;replace hd:=LH hd;replace h:=LH h;go_enter func52,ntmps52
 go_wp2_with fail
 refine hl.out.mono ?_;rintro e w1 ⟨rfl,hc1⟩;have h1:=h.out.after (Chg.no hc1);have hB1:B≤w1.heap.size:=Nat.le_trans hB hc1.size;obtain⟨ta,tc,rfl,_,_⟩:=(Cells.own h1.takes).shape;obtain⟨ba,bc,rfl,hbc1,hbc2⟩:=(Cells.own h1.bytes).shape;unfold maxLen at hbc2;have hpl:=heap_lt h1.box;have c1:w1.cell? ⟨p,1,none⟩=some (.int .i64 a):=cell_of h1.box 1;have c2:w1.cell? ⟨p,2,none⟩=some (.slice ta ts.length tc):=cell_of h1.box 2;have hdr:∀ w3,Chg No w1.drew w3→Chg No w1 w3:=fun w3 h=>⟨h.os,h.tape,h.output,h.size,h.block⟩
 replace hdr:=LH hdr;replace c1:=LH c1;replace c2:=LH c2;replace h1:=LH h1;replace hc1:=LH hc1;obtain⟨tn,htn⟩:∃ l,l=ts.length:=⟨_,rfl⟩;obtain⟨bl,hbl⟩:∃ l,l=b.length:=⟨_,rfl⟩;rw[← htn] at c2;rw[← htn] at h1 h;rw[← hbl] at h1 h hbc1;clear hl;go_wp2;refine RA.rt (Chg No) [5,1,1,1,1,1,1,1,1,1,1,1,3,6,5,5,7] [13,16] (fun _=>True) (trivial) (fun _=>Chg.refl _ _) (fun _ _ _ h k=>h.trans k) (h:=?_);intro cx;refine RA.pmv (by rfl) (by rfl) (by rfl) ?_
 repeat refine RA.qq (h:=?_)
 refine RA.fk prog (p) (2) (h:=?_);refine RA.lk prog (.slice ta tn tc) (hc:=fun w3 hp=>by exact ((hdr.out _ hp.1).cell (p:=⟨p,2,none⟩) hpl id).trans c2.out) (h:=?_)
 repeat refine RA.qq (h:=?_)
 refine RA.fk prog (p) (1) (h:=?_);refine RA.lk prog (.int .i64 a) (hc:=fun w3 hp=>by exact ((hdr.out _ hp.1).cell (p:=⟨p,1,none⟩) hpl id).trans c1.out) (h:=?_)
 repeat refine RA.qq (h:=?_)
 refine RA.vk prog (.agg #[.string what,.int .i64 a,.int .i64 n]) (h:=?_)
 refine RA.bq (fun x w3=>Cells w3 (fun _=>True) x 1 3 (takeCells (what,a,n))) (fun _ _=>True) (by kernel_rfl) (by rfl) (by kernel_rfl) (fun _ _ _ h k=>k.chg h (fun _ _ _=>id)) (fun _ _ _ _ _=>trivial) (fun w3 hp _=>by
  refine⟨.slice (some ⟨w3.heap.size,0,none⟩) 1 1,w3.alloc (.cells #[.string what,.int .i64 a,.int .i64 n] 159),?_,(Chg.refl _ _).alloc _,lit_cells w3 #[.string what,.int .i64 a,.int .i64 n] 159 1 3 rfl (by unfold maxLen;omega),trivial⟩;show (execOp _ _).run prog w3=_;go_simp) (fun x=>?_)
 refine RA.bqt (fun v' w4=>w4.cell? ⟨p,2,none⟩=some (.slice ta tn tc)∧w4.frozen? ⟨p,2,none⟩=false∧(∃ g cp,v'=.slice (some ⟨g,0,none⟩) (ts.length+1) cp)∧
   TapeO (w4.setCell ⟨p,2,none⟩ v') B p (.slice ba bl bc) v' b a (ts++[(what,a,n)])∧Chg (TkC p (.slice ta tn tc)) w1 (w4.setCell ⟨p,2,none⟩ v')∧(v'.ownBlock=(Value.slice ta tn tc).ownBlock∨∃ g,v'.ownBlock=some g∧w1.heap.size≤g)) (by kernel_rfl) (by rfl) (by kernel_rfl) (fun _ _ _ h k=>h ▸ k) (fun w3 hp0 _=>by
  have hp:=hp0.first (by kernel_rfl);obtain⟨v',w4,h1,h2⟩:=h1.out.push hB1 (hdr.out _ hp.1) (what,a,n) (hp.fact 0 rfl (by kernel_rfl)) hc;exact⟨v',w4,RA.ex_append (by rfl) (by rfl) h1,h2⟩) (fun v'=>?_)
 refine RA.pq (h:=?_);refine RA.pk prog (p) (2) (h:=?_)
 refine RA.stt (fun w5=>(∃ g cp,v'=.slice (some ⟨g,0,none⟩) (ts.length+1) cp)∧TapeO w5 B p (.slice ba bl bc) v' b a (ts++[(what,a,n)])∧Chg (TkC p (.slice ta tn tc)) w1 w5∧(v'.ownBlock=(Value.slice ta tn tc).ownBlock∨∃ g,v'.ownBlock=some g∧w1.heap.size≤g)) (by rfl) (by rfl) (by kernel_rfl) (fun _ _ h k=>h ▸ k) (fun w4 _ hH=>by
  obtain⟨f1,f2,⟨g',cp,rfl⟩,f3,f4,f5⟩:=hH;refine⟨_,RA.ex_store (by rfl) (by rfl) (w':=w4.setCell ⟨p,2,none⟩ (.slice (some ⟨g',0,none⟩) (ts.length+1) cp)) ?_,⟨g',cp,rfl⟩,f3,f4,f5⟩;clear f3 f4 f5;show (Instr.storeAt _ _ _).run prog w4=_;go_simp) ?_
 refine RA.RA.doneT (fun w5 hH=>?_);simp only[RA.put,List.foldr_cons,List.foldr_nil,cx,Act.put,List.setIfInBounds_toArray,List.set_cons_succ,List.set_cons_zero];obtain⟨⟨g',cp,rfl⟩,hT5,hC5,hr5⟩:=hH;have hT:=LH hT5;have c51:w5.cell? ⟨p,1,none⟩=some (.int .i64 a):=cell_of hT5.box 1;have f51:w5.frozen? ⟨p,1,none⟩=false:=frozen_of hT5.box 1;have hpl5:=heap_lt hT5.box;obtain⟨w6,hw6⟩:∃ x,x=w5.setCell ⟨p,1,none⟩ (.int .i64 ((a:Int)+n)):=⟨_,rfl⟩
 have hT6:TapeO w6 B p (.slice ba bl bc) (.slice (some ⟨g',0,none⟩) (ts.length+1) cp) b (a+n) (ts++[(what,a,n)]):=by
  have hk:∀ g,g≠p→w6.heap[g]?=w5.heap[g]?:=fun g hg=>by rw[hw6];exact setCell_heap_ne _ _ _ hg
  refine⟨?_,hT5.base,owns_keep hT5.bytes (fun g hg=>hk g ?_),hT5.few,hn,owns_keep hT5.takes (fun g hg=>hk g ?_),hT5.count⟩
  ·rw[hw6,setCell_block hT5.box];rfl
  ·rintro rfl;exact apart_type hT5.bytes hT5.box (by decide) hg
  ·rintro rfl;exact apart_type hT5.takes hT5.box (by decide) hg
 have hC6:Chg (TkC p (.slice ta tn tc)) w1 w6:=by rw[hw6];exact hC5.setCell (fun _=>.inl rfl) _
 have hdr6:∀ w3,Chg No w6.drew w3→Chg No w6 w3:=fun w3 h=>⟨h.os,h.tape,h.output,h.size,h.block⟩
 have d0:w6.cell? ⟨p,0,none⟩=some (.slice ba bl bc):=cell_of hT6.box 0;have d1:w6.cell? ⟨p,1,none⟩=some (.int .i64 (a+n:Nat)):=cell_of hT6.box 1;have hpl6:=heap_lt hT6.box
 have hcut:∀ w3,(Instr.sliceAt 22 (.slice ba bl bc) (some (.int .i64 a)) (some (.int .i64 (a+n:Nat))) none).run prog w3=.ok (sliced ba a (a+n) bc 1) w3:=fun w3=>
  cut_at (P:=prog) (s:=1) w3 underlying22 (by kernel_rfl) ba bl bc a (a+n) (by omega) (by omega)
 have hcl:∀ w3,Chg No w6 w3→Calls prog 19 #[sliced ba a (a+n) bc 1] w3 (Cloned w3 (sliced ba a (a+n) bc 1) n 5 1 (u8s ((b.drop a).take n))):=fun w3 hc=>by
  have hb:=Bytes.chg (Cells.own hT6.bytes) hc (fun _ _ _=>id);rw[hbl] at hb;have hb2:=bytes_cut hb a (a+n) (by omega) hn;rw[Nat.add_sub_cancel_left] at hb2;have h3:=clone_ok hb2 (by rw[List.length_take,List.length_drop];omega);rw[show ((b.drop a).take n).length=n by rw[List.length_take,List.length_drop];omega] at h3;exact h3
 have hs6:w.heap.size≤w6.heap.size:=Nat.le_trans hc1.out.size hC6.size;replace c51:=LH c51;replace hw6:=LH hw6;replace hT6:=LH hT6;replace hC6:=LH hC6;replace hdr6:=LH hdr6;replace d0:=LH d0;replace d1:=LH d1;replace hcut:=LH hcut;replace hcl:=LH hcl;replace hr5:=LH hr5;clear hT5 hC5 hT c1 c2 hdr;have c51':=c51.out;go_wp2;rw[← hw6.out];clear c51' f51;refine RA.rt (Chg No) [1,1,1,1,1,1,1,1,1,1,1,1,1,1,1,3,1,1] [] (fun _=>True) trivial (fun _=>Chg.refl _ _) (fun _ _ _ h k=>h.trans k) (h:=?_);intro cx
 repeat refine RA.qq (h:=?_)
 refine RA.fk prog (p) (0) (h:=?_);refine RA.lk prog (.slice ba bl bc) (hc:=fun w3 hp=>by exact ((hdr6.out _ hp.1).cell (p:=⟨p,0,none⟩) hpl6 id).trans d0.out) (h:=?_)
 repeat refine RA.qq (h:=?_)
 refine RA.fk prog (p) (1) (h:=?_);refine RA.lk prog (.int .i64 (a+n:Nat)) (hc:=fun w3 hp=>by exact ((hdr6.out _ hp.1).cell (p:=⟨p,1,none⟩) hpl6 id).trans d1.out) (h:=?_)
 repeat refine RA.qq (h:=?_)
 refine RA.si (by kernel_rfl) (by rfl) (by rfl) (by rfl) ((a:Int)) (by omega) (by omega) ?_
 repeat refine RA.qq (h:=?_)
 refine RA.fk prog (p) (1) (h:=?_);refine RA.lk prog (.int .i64 (a+n:Nat)) (hc:=fun w3 hp=>by exact ((hdr6.out _ hp.1).cell (p:=⟨p,1,none⟩) hpl6 id).trans d1.out) (h:=?_);refine RA.slh (by kernel_rfl) (by rfl) (by rfl) (by rfl) (by rfl) (y':=sliced ba a (a+n) bc 1) (fun w3 _=>hcut.out w3) ?_
 refine RA.qc (P:=prog) [sliced ba a (a+n) bc 1] (fun v w3=>w3.ownsRow w6.heap.size 5 1 v n (u8s ((b.drop a).take n))∧∃ x y z,v=.slice x y z) (fun _ _=>True) (fun _ _=>by go_simp) (by kernel_rfl) (by rfl) (by rfl) (by kernel_rfl) (fun v a b h h2=>⟨owns_keep h2.1 (fun g hg=>h.block g (h2.1.lt g hg).2 id),h2.2⟩) (fun _ _ _ _ h=>h) rfl (fun w3 hp hH=>(hcl.out w3 (hdr6.out _ hp.1)).mono (by
  rintro e w4 ⟨v,rfl,h1,h2,_⟩;obtain⟨x,y,hv,_,_⟩:=(Cells.own h1).shape;exact⟨v,rfl,Chg.of_below h2 _,⟨owns_base h1 (hdr6.out _ hp.1).size,x,n,y,hv⟩,trivial⟩)) (fun u=>?_)
 repeat refine RA.qq (h:=?_)
 refine RA.RA.done rfl (fun w7 hR hF hH=>?_);have hf:=hF _ (List.mem_cons_self ..);obtain⟨hu,ux,uy,uz,rfl⟩:=hf;clear hF hH;simp only[RA.put,List.foldr_cons,List.foldr_nil,cx,Act.put,List.setIfInBounds_toArray,List.set_cons_succ,List.set_cons_zero];have hR7:=hdr6.out _ hR;replace hu:=LH hu;replace hR7:=LH hR7;clear hR hcut hcl d0 d1;go_wp2;go_ret2;subst hbl;subst htn;refine⟨_,_,rfl,owns_base hu.out hs6,hT6.out.after (Chg.no hR7.out),?_,?_⟩
 ·exact (((hc1.out.mono (D:=TkC p (.slice ta ts.length tc)) (fun _ _ h=>h.elim)).then hC6.out (fun _ _ h=>h))).then hR7.out (fun _ _ h=>h.elim)
 ·rcases hr5.out with e|⟨g,e,hg⟩
  ·exact .inl e
  ·exact .inr ⟨g,e,Nat.le_trans hc1.out.size hg⟩
end Go.Proofs.YtbgfdbidbjlaaaaGreat.Fd
/-
  ideal.at. No condition beyond what each theorem names.
-/
namespace Go.Proofs.YtbgfdbidbjlaaaaGreat.Fd
open _root_.Go.Proofs.Tryz
open Go Go.RowKit K
set_option maxRecDepth 100000
set_option maxHeartbeats 2000000
def putObj (w:World) (b:Nat) (o:Obj):World:={ w with heap:=w.heap.setIfInBounds b o }
theorem putObj_same {w:World}{b:Nat}{o:Obj}(h:b<w.heap.size):(putObj w b o).heap[b]?=some o:=by
 simp[putObj,h]
theorem putObj_other {w:World}{b g:Nat}{o:Obj}(h:g≠b):(putObj w b o).heap[g]?=w.heap[g]?:=by
 simp only[putObj];exact Array.getElem?_setIfInBounds_ne (Ne.symm h)
theorem putObj_size {w:World}{b:Nat}{o:Obj}:(putObj w b o).heap.size=w.heap.size:=by simp[putObj]
theorem putObj_chg {C:Nat→Prop}{a b:World}(h:Chg C a b){g:Nat}(hp:g<a.heap.size→C g) (o:Obj):Chg C a (putObj b g o):=
 ⟨h.os,h.tape,h.output,by rw[putObj_size];exact h.size,fun k hk hc=>by
  have hne:k≠g:=by
   rintro rfl;exact hc (hp hk)
  rw[putObj_other hne];exact h.block k hk hc⟩
section
variable {P:Program}
theorem wpList_look {w w':World}{ops:Array Oper}{rest:List Oper}{o:Oper}{a:Act}{Q:Exit→Act→World→Prop}(hgd:o.guard=none) (t:TypeId) (x y:Operand) (ho:o.op=.lookup t x y true)
  (p q v:Value) (hx:a.eval x=p) (hy:a.eval y=q) (hr:(Instr.lookup t p q true).run P w=.ok v w') (h:wpList P ops Q rest (a.put o.dst v) w'):wpList P ops Q (o::rest) a w:=
 wpList_plain hgd fun K hK=>by
  unfold Oper.wp execOp;simp only[ho,hx,hy,Sem.run_bind,hr,Result.andThen_ok,Sem.run_pure];exact hK _ _ h
theorem ex_put {w w':World}{o:Oper}{ρ:Operand→Value}{t:TypeId}{x y z:Operand}(ho:o.op=.mapUpdate t x y z)
  {p q v:Value}(hx:ρ x=p) (hy:ρ y=q) (hz:ρ z=v) (hr:(Instr.mapUpdate t p q v).run P w=.ok () w'):(execOp ρ o).run P w=.ok .skip w':=by
 unfold execOp;simp only[ho,hx,hy,hz,Sem.run_bind,hr,Result.andThen_ok,Sem.run_pure]
end
def MapB (w:World) (g:Nat):Option (List UInt8×List UInt8)→Prop
 | none=>w.heap[g]?=some (.map #[] 0)
 | some (x,y)=>w.heap[g]?=some (.map #[⟨blkV x,blkV y,0⟩] 1)∧x.length=16∧y.length=16
abbrev PKey:=ByteArray×Nat×Nat
def PKey.fits (k:PKey):Prop:=k.1.size≤maxLen∧k.2.1≤9223372036854775807∧k.2.2≤9223372036854775807
def pkV (k:PKey):Value:=placeV k.1 k.2.1 k.2.2
theorem pkV_inj {a b:PKey}(h:pkV a=pkV b):a=b:=by
 obtain⟨s,u,i⟩:=a;obtain⟨s',u',i'⟩:=b;simp[pkV,placeV] at h;obtain⟨h1,h2,h3⟩:=h;have e2:u=u':=by omega
 have e3:i=i':=by omega
 rw[h1,e2,e3]
structure MapP (w:World) (m:Nat) (pls:List (PKey×Nat×Nat)) (es:Array MapEntry) (clk:Nat):Prop where
 box:w.heap[m]?=some (.map es clk)
 row:es.toList.map (fun e=>(e.key,e.val))=pls.map (fun q=>(pkV q.1,.agg #[.map (some q.2.1),.map (some q.2.2)]))
 fit:∀ q ∈ pls,q.1.fits
theorem MapP.keyed {w:World}{m:Nat}{pls:List (PKey×Nat×Nat)}{es:Array MapEntry}{clk:Nat}(h:MapP w m pls es clk):∀ x ∈ es.toList,∃ l,keyOf prog 138 x.key=some l:=by
 intro x hx;have h1:(x.key,x.val) ∈ es.toList.map (fun e=>(e.key,e.val)):=List.mem_map.2 ⟨x,hx,rfl⟩;rw[h.row] at h1;obtain⟨q,hq,e⟩:=List.mem_map.1 h1;simp only[Prod.mk.injEq] at e;obtain⟨f1,f2,f3⟩:=h.fit q hq;rw[← e.1];exact key_place f1 f2 f3
theorem zero_of {P:Program}{t:TypeId}{z:Value}(h:(P.info? t).map (fun i=>i.zero)=some (some z)) (w:World):(zeroValue t).run P w=.ok z w:=by
 cases hi:P.info? t with
 | none=>simp[hi] at h
 | some i=>
  simp[hi] at h;simp[zeroValue,typeInfo,hi,h]
theorem zero_pairs (w:World):(zeroValue 98).run prog w=.ok (.agg #[.map none,.map none]) w:=by
 have h:(prog.info? 98).map (fun i=>i.zero)=some (some (.agg #[.map none,.map none])):=by kernel_rfl
 exact zero_of h w
theorem MapP.look {w:World}{m:Nat}{pls:List (PKey×Nat×Nat)}{es:Array MapEntry}{clk:Nat}(h:MapP w m pls es clk){k:PKey}(hk:k.fits):
  ((Instr.lookup 116 (.map (some m)) (pkV k) true).run prog w=.ok (.tuple #[.agg #[.map none,.map none],.bool false]) w∧∀ x ∈ es.toList,x.key≠pkV k)∨
  ∃ q ∈ pls,q.1=k∧(Instr.lookup 116 (.map (some m)) (pkV k) true).run prog w=.ok (.tuple #[.agg #[.map (some q.2.1),.map (some q.2.2)],.bool true]) w:=by
 obtain⟨kl,hkl⟩:=key_place hk.1 hk.2.1 hk.2.2;rcases run_look keyed_place underlying116 (zero_pairs w) h.box h.keyed hkl with h1|⟨j,e0,h1,h2,h3⟩
 ·exact .inl h1
 ·refine .inr ?_;have hm:(e0.key,e0.val) ∈ es.toList.map (fun e=>(e.key,e.val)):=List.mem_map.2 ⟨e0,List.mem_of_getElem? h1,rfl⟩;rw[h.row] at hm;obtain⟨q,hq,e⟩:=List.mem_map.1 hm;simp only[Prod.mk.injEq] at e;rw[h2] at e;refine⟨q,hq,pkV_inj e.1,?_⟩;rw[e.2];exact h3
theorem MapP.put {w:World}{m:Nat}{pls:List (PKey×Nat×Nat)}{es:Array MapEntry}{clk:Nat}(h:MapP w m pls es clk){k:PKey}(hk:k.fits) (hnew:∀ x ∈ es.toList,x.key≠pkV k) (f g:Nat):
  (Instr.mapUpdate 116 (.map (some m)) (pkV k) (.agg #[.map (some f),.map (some g)])).run prog w=.ok () (putObj w m (.map (es.push ⟨pkV k,.agg #[.map (some f),.map (some g)],clk⟩) (clk+1)))∧
  MapP (putObj w m (.map (es.push ⟨pkV k,.agg #[.map (some f),.map (some g)],clk⟩) (clk+1))) m (pls++[(k,f,g)]) (es.push ⟨pkV k,.agg #[.map (some f),.map (some g)],clk⟩) (clk+1):=by
 obtain⟨kl,hkl⟩:=key_place hk.1 hk.2.1 hk.2.2;refine⟨run_put keyed_place underlying116 h.box h.keyed hkl hnew,putObj_same (heap_lt h.box),by simp[h.row],?_⟩;intro q hq;rcases List.mem_append.1 hq with hq|hq
 ·exact h.fit q hq
 ·simp at hq;subst hq;exact hk
theorem sizePairs:(prog.info? 98).map (·.size)=some 2:=by kernel_rfl
theorem pairs_load {w:World}{b:Nat}{x y:Value}(h:w.heap[b]?=some (.cells #[x,y] 98 (0,0))):
  (Instr.loadAt 98 (.pointer (some ⟨b,0,none⟩))).run prog w=.ok (.agg #[x,y]) w:=by
 simp only[Instr.loadAt,Instr.sureAddr,Sem.run_bind,Sem.run_pure,Result.andThen];exact run_loadVar_row w b 98 98 _ _ _ h underlying98 rfl sizePairs
theorem pairs_store {w:World}{b:Nat}{x y:Value}{f g:Nat}(h:w.heap[b]?=some (.cells #[x,y] 98 (0,0))):
  (Instr.storeAt 98 (.pointer (some ⟨b,0,none⟩)) (.agg #[.map (some f),.map (some g)])).run prog w=.ok () (w.setRow b #[.map (some f),.map (some g)]):=by
 simp only[Instr.storeAt,Instr.sureAddr,Sem.run_bind,Sem.run_pure,Result.andThen];rw[run_storeVar_row w b 98 98 _ #[.map (some f),.map (some g)] h sizePairs rfl (by simp[Value.oneCell'])]
def idBox (t:Option Addr) (m k:Nat) (c a:Int):Obj:=.cells #[.pointer t,.map (some m),.map (some k),.int .i64 c,.int .i64 a] 119 (0,0)
theorem at_known {w:World}{p:Nat}{t:Option Addr}{m k:Nat}{c a:Int}(hb:w.heap[p]?=some (idBox t m k c a)){pls:List (PKey×Nat×Nat)}{es:Array MapEntry}{clk:Nat}(hm:MapP w m pls es clk)
  {key:ByteArray}{u i:Nat}(hk:PKey.fits (key,u,i)){f g:Nat}(hin:((key,u,i),f,g) ∈ pls) (hone:∀ q ∈ pls,q.1=(key,u,i)→q.2=(f,g)):
  Calls prog 40 #[.pointer (some ⟨p,0,none⟩),.string key,.int .i64 u,.int .i64 i] w fun e w'=>e=.returned (.agg #[.map (some f),.map (some g)])∧Chg No w w':=by
 have hbox:w.heap[p]?=some (.cells #[.pointer t,.map (some m),.map (some k),.int .i64 c,.int .i64 a] 119 (0,0)):=hb;have hpl:=heap_lt hbox;obtain⟨wA,hwA⟩:∃ x,x=w.alloc (.cells #[.map none,.map none] 98):=⟨_,rfl⟩;have hA:MapP wA m pls es clk:=⟨by rw[hwA];exact (Below.heap_alloc _ _ _ (heap_lt hm.box)).trans hm.box,hm.row,hm.fit⟩
 have cA:wA.cell? ⟨p,1,none⟩=some (.map (some m)):=by
  have h1:wA.heap[p]?=some (.cells #[.pointer t,.map (some m),.map (some k),.int .i64 c,.int .i64 a] 119 (0,0)):=by rw[hwA];exact (Below.heap_alloc _ _ _ hpl).trans hbox
  rw[cell_of h1];rfl
 have hlk:(Instr.lookup 116 (.map (some m)) (.agg #[.string key,.int .i64 u,.int .i64 i]) true).run prog wA=.ok (.tuple #[.agg #[.map (some f),.map (some g)],.bool true]) wA:=by
  rcases hA.look hk with h1|⟨q,hq,h1,h2⟩
  ·exfalso
   have hx:(pkV (key,u,i),Value.agg #[.map (some f),.map (some g)]) ∈ es.toList.map (fun e=>(e.key,e.val)):=by
    rw[hm.row];exact List.mem_map.2 ⟨_,hin,rfl⟩
   obtain⟨x,hx1,hx2⟩:=List.mem_map.1 hx;simp only[Prod.mk.injEq] at hx2;exact h1.2 x hx1 hx2.1
  ·have h3:=hone q hq h1;rw[h3] at h2;exact h2
 clear hA hm hone hin;have hwb:Chg No w wA:=by rw[hwA];exact (Chg.refl _ _).alloc _
 subst hwA;replace hlk:=LH hlk;replace hwb:=LH hwb;clear hb hbox;go_enter func40,ntmps40
 go_wp2_with (first|(refine wpList_look rfl 116 _ _ rfl _ _ _ rfl rfl hlk.out ?_))
 refine bodyPost_ret (results_cell_row results40 _ _ w.heap.size 98 _ (0,0) _ rfl ((Below.heap_alloc _ _ _ (by simp)).trans (heap_alloc_new w _)) underlying98 rfl (by kernel_rfl)) rfl ⟨rfl,((Chg.refl _ _).alloc _).alloc _⟩
theorem at_new {w:World}{p:Nat}{t:Option Addr}{m k:Nat}{c a:Int}(hb:w.heap[p]?=some (idBox t m k c a)){pls:List (PKey×Nat×Nat)}{es:Array MapEntry}{clk:Nat}(hm:MapP w m pls es clk)
  {key:ByteArray}{u i:Nat}(hk:PKey.fits (key,u,i)) (hno:∀ q ∈ pls,q.1≠(key,u,i)):
  Calls prog 40 #[.pointer (some ⟨p,0,none⟩),.string key,.int .i64 u,.int .i64 i] w fun e w'=>∃ f g es' clk',e=.returned (.agg #[.map (some f),.map (some g)])∧w.heap.size≤f∧f<g∧MapB w' f none∧MapB w' g none∧
   MapP w' m (pls++[((key,u,i),f,g)]) es' clk'∧Chg (fun b=>b=m) w w':=by
 have hbox:w.heap[p]?=some (.cells #[.pointer t,.map (some m),.map (some k),.int .i64 c,.int .i64 a] 119 (0,0)):=hb;have hpl:=heap_lt hbox;have hml:=heap_lt hm.box;obtain⟨wA,hwA⟩:∃ x,x=w.alloc (.cells #[.map none,.map none] 98):=⟨_,rfl⟩;have hA:MapP wA m pls es clk:=⟨by rw[hwA];exact (Below.heap_alloc _ _ _ hml).trans hm.box,hm.row,hm.fit⟩
 have cA:wA.cell? ⟨p,1,none⟩=some (.map (some m)):=by
  have h1:wA.heap[p]?=some (.cells #[.pointer t,.map (some m),.map (some k),.int .i64 c,.int .i64 a] 119 (0,0)):=by rw[hwA];exact (Below.heap_alloc _ _ _ hpl).trans hbox
  rw[cell_of h1];rfl
 have hlk:(Instr.lookup 116 (.map (some m)) (.agg #[.string key,.int .i64 u,.int .i64 i]) true).run prog wA=.ok (.tuple #[.agg #[.map none,.map none],.bool false]) wA:=by
  rcases hA.look hk with h1|⟨q,hq,h1,h2⟩
  ·exact h1.1
  ·exact absurd h1 (hno q hq)
 have hnew:∀ x ∈ es.toList,x.key≠pkV (key,u,i):=by
  intro x hx e;have h1:(x.key,x.val) ∈ es.toList.map (fun e=>(e.key,e.val)):=List.mem_map.2 ⟨x,hx,rfl⟩;rw[hm.row] at h1;obtain⟨q,hq,e1⟩:=List.mem_map.1 h1;simp only[Prod.mk.injEq] at e1;exact hno q hq (pkV_inj (e1.1.trans e))
 have hmm:=@run_makeMap prog;subst hwA;replace hlk:=LH hlk;replace hnew:=LH hnew;replace hm:=LH hm;clear hb hA;replace hbox:=LH hbox;go_enter func40,ntmps40
 go_wp2_with (first|(refine wpList_look rfl 116 _ _ rfl _ _ _ rfl rfl hlk.out ?_))
 clear hmm hlk cA;obtain⟨n,hn⟩:∃ n,n=w.heap.size:=⟨_,rfl⟩;obtain⟨W0,hW0⟩:∃ x,x=w.alloc (.cells #[.map none,.map none] 98):=⟨_,rfl⟩;obtain⟨W1,hW1⟩:∃ x,x=W0.alloc (.cells #[.map (some (w.heap.size+1+1)),.map (some (w.heap.size+1+1+1))] 98):=⟨_,rfl⟩;obtain⟨W2,hW2⟩:∃ x,x=W1.alloc (.map #[] 0):=⟨_,rfl⟩;obtain⟨W,hW⟩:∃ x,x=W2.alloc (.map #[] 0):=⟨_,rfl⟩;rw[← hW0,← hW1,← hW2,← hW];have s0:W0.heap.size=n+1:=by rw[hW0,hn];simp
 have s1:W1.heap.size=n+2:=by rw[hW1];simp[s0]
 have s2:W2.heap.size=n+3:=by rw[hW2];simp[s1]
 have b0:Below n w W0:=by rw[hW0,hn];exact (Below.refl _ _).alloc (Nat.le_refl _) _
 have b1:Below (n+1) W0 W1:=by rw[hW1,← s0];exact (Below.refl _ _).alloc (Nat.le_refl _) _
 have b2:Below (n+2) W1 W2:=by rw[hW2,← s1];exact (Below.refl _ _).alloc (Nat.le_refl _) _
 have b3:Below (n+3) W2 W:=by rw[hW,← s2];exact (Below.refl _ _).alloc (Nat.le_refl _) _
 have x0:W.heap[n]?=some (.cells #[.map none,.map none] 98 (0,0)):=(b3.block n (by omega)).trans ((b2.block n (by omega)).trans ((b1.block n (by omega)).trans (by rw[hW0,hn];exact heap_alloc_new w _)));have x1:W.heap[n+1]?=some (.cells #[.map (some (n+2)),.map (some (n+3))] 98 (0,0)):=(b3.block (n+1) (by omega)).trans ((b2.block (n+1) (by omega)).trans (by rw[hW1,← s0,hn];exact heap_alloc_new W0 _));have x2:W.heap[n+2]?=some (.map #[] 0):=(b3.block (n+2) (by omega)).trans (by rw[hW2,← s1];exact heap_alloc_new W1 _);have x3:W.heap[n+3]?=some (.map #[] 0):=by rw[hW,← s2];exact heap_alloc_new W2 _
 have bW:Chg No w W:=by
  have h:=((b0.trans (b1.mono (by omega))).trans (b2.mono (by omega))).trans (b3.mono (by omega));rw[hn] at h;exact Chg.of_below h _
 have c1:W.cell? ⟨p,1,none⟩=some (.map (some m)):=by
  have h1:=(bW.block p hpl id).trans hbox.out;rw[cell_of h1];rfl
 have hdr:∀ w3,Chg No W.drew w3→Chg No W w3:=fun w3 h=>⟨h.os,h.tape,h.output,h.size,h.block⟩
 have hplW:p<W.heap.size:=Nat.lt_of_lt_of_le hpl bW.size;have hnW:n+1<W.heap.size:=heap_lt x1;have y0:W.cell? ⟨n+1,0,none⟩=some (.map (some (n+2))):=by rw[cell_of x1];rfl
 have y1:W.cell? ⟨n+1,1,none⟩=some (.map (some (n+3))):=by rw[cell_of x1];rfl
 have hld:∀ w3,Chg No W w3→(Instr.loadAt 98 (.pointer (some ⟨n+1,0,none⟩))).run prog w3=.ok (.agg #[.map (some (n+2)),.map (some (n+3))]) w3:=fun w3 hc=>pairs_load ((hc.block (n+1) hnW id).trans x1)
 rw[← hn];replace x0:=LH x0;replace x1:=LH x1;replace x2:=LH x2;replace x3:=LH x3;replace hdr:=LH hdr;replace c1:=LH c1;replace hld:=LH hld;replace hn:=LH hn;replace bW:=LH bW;clear y0 y1 b0 b1 b2 b3 s0 s1 s2 hW hW2 hW1 hW0;refine RA.rt (Chg No) [1,1,1,1,1,1,1,1,1,7] [9] (fun _=>True) (trivial) (fun _=>Chg.refl _ _) (fun _ _ _ h k=>h.trans k) (h:=?_);intro cx
 repeat refine RA.qq (h:=?_)
 refine RA.fk prog (p) (1) (h:=?_);refine RA.lk prog (.map (some m)) (hc:=fun w3 hp=>by exact ((hdr.out _ hp.1).cell (p:=⟨p,1,none⟩) hplW id).trans c1.out) (h:=?_)
 repeat refine RA.qq (h:=?_)
 refine RA.vk prog (.agg #[.string key,.int .i64 u,.int .i64 i]) (h:=?_);refine RA.ld (by kernel_rfl) (by rfl) (by rfl) (y':=.agg #[.map (some (n+2)),.map (some (n+3))]) (fun w3 hp=>hld.out w3 (hdr.out _ hp.1)) ?_
 refine RA.stt (fun w5=>(∃ es' clk',MapP w5 m (pls++[((key,u,i),n+2,n+3)]) es' clk')∧Chg (fun b=>b=m) W w5) (by kernel_rfl) (by rfl) (by kernel_rfl) (fun _ _ h k=>h ▸ k) (fun w4 hp0 _=>by
  have hc:=hdr.out _ (hp0.first (by kernel_rfl)).1;have h1:MapP w4 m pls es clk:=⟨(hc.block m (Nat.lt_of_lt_of_le hml bW.out.size) id).trans ((bW.out.block m hml id).trans hm.out.box),hm.out.row,hm.out.fit⟩;obtain⟨h2,h3⟩:=h1.put hk hnew.out (n+2) (n+3);exact⟨_,ex_put rfl (RA.evo_ev (by rfl)) (RA.evo_ev (by rfl)) (RA.evo_ev (by rfl)) h2,⟨_,_,h3⟩,putObj_chg (C:=fun b=>b=m) (g:=m) (hc.mono (fun _ _ e=>e.elim)) (fun _=>rfl) _⟩) ?_
 refine RA.RA.doneT (fun w5 hH=>?_);simp only[RA.put,List.foldr_cons,List.foldr_nil,cx,Act.put,List.setIfInBounds_toArray,List.set_cons_succ,List.set_cons_zero];obtain⟨⟨es',clk',hM⟩,hC⟩:=hH;have hmn:m≠n:=by have:=hn.out;omega
 have hmn1:m≠n+1:=by have:=hn.out;omega
 have z0:w5.heap[n]?=some (.cells #[.map none,.map none] 98 (0,0)):=(hC.block n (by omega) (fun e=>hmn e.symm)).trans x0.out;have z1:w5.heap[n+1]?=some (.cells #[.map (some (n+2)),.map (some (n+3))] 98 (0,0)):=(hC.block (n+1) hnW (fun e=>hmn1 e.symm)).trans x1.out;have z2:=(hC.block (n+2) (heap_lt x2.out) (by have:=hn.out;show ¬ n+2=m;omega)).trans x2.out;have z3:=(hC.block (n+3) (heap_lt x3.out) (by have:=hn.out;show ¬ n+3=m;omega)).trans x3.out;have l1:=pairs_load z1;have l2:=pairs_store (f:=n+2) (g:=n+3) z0;obtain⟨w6,hw6⟩:∃ x,x=w5.setRow n #[.map (some (n+2)),.map (some (n+3))]:=⟨_,rfl⟩;rw[← hw6] at l2;have v0:w6.heap[n]?=some (.cells #[.map (some (n+2)),.map (some (n+3))] 98 (0,0)):=hw6 ▸ setRow_heap w5 n _ _ _ _ z0
 have v2:MapB w6 (n+2) none:=by
  show w6.heap[n+2]?=_;rw[hw6,setRow_other _ _ _ _ (by omega)];exact z2
 have v3:MapB w6 (n+3) none:=by
  show w6.heap[n+3]?=_;rw[hw6,setRow_other _ _ _ _ (by omega)];exact z3
 have vm:MapP w6 m (pls++[((key,u,i),n+2,n+3)]) es' clk':=⟨by rw[hw6,setRow_other _ _ _ _ hmn];exact hM.box,hM.row,hM.fit⟩
 have vc:Chg (fun b=>b=m) w w6:=by
  have h1:=((bW.out.mono (D:=fun b=>b=m) (fun _ _ e=>e.elim)).then hC (fun _ _ e=>e)).setRow (g:=n) (fun h=>absurd h (by have:=hn.out;omega)) #[.map (some (n+2)),.map (some (n+3))];rw[← hw6] at h1;exact h1
 replace l1:=LH l1;replace l2:=LH l2;replace v0:=LH v0;replace v2:=LH v2;replace v3:=LH v3;replace vm:=LH vm;replace vc:=LH vc;clear z0 z1 z2 z3 hM hC hw6 x0 x1 x2 x3 c1 hld hdr bW
 go_wp2_with (first|(refine wpList_load rfl 98 _ rfl _ _ rfl l1.out ?_)|(refine wpList_store rfl 98 _ _ rfl _ _ rfl rfl l2.out ?_))
 refine bodyPost_ret (results_cell_row results40 _ _ n 98 _ (0,0) _ rfl v0.out underlying98 rfl (by kernel_rfl)) rfl ⟨n+2,n+3,es',clk',rfl,by have:=hn.out;omega,by omega,v2.out,v3.out,vm.out,vc.out⟩
end Go.Proofs.YtbgfdbidbjlaaaaGreat.Fd
/-
  ideal.other, at a place that knows one pair or none. No condition beyond what each theorem names.
-/
namespace Go.Proofs.YtbgfdbidbjlaaaaGreat.Fd
open _root_.Go.Proofs.Tryz
open Go Go.RowKit K
theorem zero_block (w:World):(zeroValue 73).run prog w=.ok (.agg #[.int .u8 0,.int .u8 0,.int .u8 0,.int .u8 0,.int .u8 0,.int .u8 0,.int .u8 0,.int .u8 0,.int .u8 0,.int .u8 0,.int .u8 0,.int .u8 0,.int .u8 0,.int .u8 0,.int .u8 0,.int .u8 0]) w:=
 zero_of (by kernel_rfl) w
def mapOne (x y:List UInt8):Obj:=.map #[⟨blkV x,blkV y,0⟩] 1
theorem MapB.put {w:World}{g:Nat}(h:MapB w g none){x:List UInt8}(hx:x.length=16) (y:List UInt8) (hy:y.length=16):(Instr.mapUpdate 96 (.map (some g)) (blkV x) (blkV y)).run prog w=.ok () (putObj w g (mapOne x y))∧MapB (putObj w g (mapOne x y)) g (some (x,y)):=by
 obtain⟨kl,hkl⟩:=key_block hx;have h1:=run_put keyed_block underlying96 h (by simp) (val:=blkV y) hkl (by simp);exact⟨h1,putObj_same (heap_lt h),hx,hy⟩
theorem MapB.lt {w:World}{g:Nat}{o:Option (List UInt8×List UInt8)}(h:MapB w g o):g<w.heap.size:=by
 cases o with
 | none=>exact heap_lt h
 | some p=>exact heap_lt h.1
theorem MapB.keep {w w':World}{g:Nat}{o:Option (List UInt8×List UInt8)}(h:MapB w g o) (hk:w'.heap[g]?=w.heap[g]?):MapB w' g o:=by
 cases o with
 | none=>exact hk.trans h
 | some p=>exact⟨hk.trans h.1,h.2⟩
theorem MapB.mapped {w:World}{g:Nat}{o:Option (List UInt8×List UInt8)}(h:MapB w g o):∃ es c,w.heap[g]?=some (.map es c):=by
 cases o with
 | none=>exact⟨_,_,h⟩
 | some p=>exact⟨_,_,h.1⟩
theorem results_cell_slot {P:Program}{fn:Func}{p q:Tmp}{ty:TypeId}(h:fn.results=#[.cell p ty,.tmp q]) (tmps:Array Value) (w:World) (g:Nat) (t:TypeId) (cs:Array Value) (fr:Nat×Nat) (d:TypeDesc)
  (hp:tmps.getD p undef=.pointer (some ⟨g,0,none⟩)) (hg:w.heap[g]?=some (.cells cs t fr))
  (hu:P.underlying ty=some d) (hd:(match d with|.struct _|.array _ _=>true|_=>false)=true) (hi:(P.info? ty).map (·.size)=some cs.size):
  (results fn tmps).run P w=.ok (.tuple #[.agg cs,tmps.getD q undef]) w:=by
 have hp':tmps[p]?.getD undef=.pointer (some ⟨g,0,none⟩):=by simpa using hp
 simp[results,h,hp',asAddr,run_loadVar_row w g t ty cs fr d hg hu hd hi]
def NwC (tp:Nat) (tv:Value) (c f g:Nat):Nat→Prop:=fun q=>q=tp∨tv.ownBlock=some q∨q=c∨q=f∨q=g
end Go.Proofs.YtbgfdbidbjlaaaaGreat.Fd
/-
  A place's pairs, any number of them. No condition beyond what each theorem names.
-/
namespace Go.Proofs.YtbgfdbidbjlaaaaGreat.Fd
open _root_.Go.Proofs.Tryz
open Go Go.RowKit K
theorem u8_inj {a b:UInt8}(h:u8 a=u8 b):a=b:=by
 simp[u8] at h;exact UInt8.toNat_inj.1 (by omega)
theorem u8s_inj:∀ {a b:List UInt8},u8s a=u8s b→a=b
 | [],[],_=>rfl
 | [],_::_,h=>by simp[u8s] at h
 | _::_,[],h=>by simp[u8s] at h
 | x::a,y::b,h=>by
  simp only[u8s,List.map_cons,List.cons.injEq] at h;rw[u8_inj h.1,u8s_inj (a:=a) (b:=b) h.2]
theorem blkV_inj {a b:List UInt8}(h:blkV a=blkV b):a=b:=by
 simp only[blkV,Value.agg.injEq] at h;exact u8s_inj (by simpa using congrArg Array.toList h)
structure MapL (w:World) (g:Nat) (l:List (List UInt8×List UInt8)) (es:Array MapEntry) (clk:Nat):Prop where
 box:w.heap[g]?=some (.map es clk)
 row:es.toList.map (fun e=>(e.key,e.val))=l.map (fun p=>(blkV p.1,blkV p.2))
 fit:∀ p ∈ l,p.1.length=16∧p.2.length=16
theorem MapL.mem {w:World}{g:Nat}{l:List (List UInt8×List UInt8)}{es:Array MapEntry}{clk:Nat}(h:MapL w g l es clk){e:MapEntry}(he:e ∈ es.toList):∃ p ∈ l,e.key=blkV p.1∧e.val=blkV p.2:=by
 have h1:(e.key,e.val) ∈ es.toList.map (fun e=>(e.key,e.val)):=List.mem_map.2 ⟨e,he,rfl⟩;rw[h.row] at h1;obtain⟨p,hp,e1⟩:=List.mem_map.1 h1;simp only[Prod.mk.injEq] at e1;exact⟨p,hp,e1.1.symm,e1.2.symm⟩
theorem MapL.keyed {w:World}{g:Nat}{l:List (List UInt8×List UInt8)}{es:Array MapEntry}{clk:Nat}(h:MapL w g l es clk):∀ x ∈ es.toList,∃ k,keyOf prog 73 x.key=some k:=by
 intro x hx;obtain⟨p,hp,h1,_⟩:=h.mem hx;rw[h1];exact key_block (h.fit p hp).1
theorem MapL.look {w:World}{g:Nat}{l:List (List UInt8×List UInt8)}{es:Array MapEntry}{clk:Nat}(h:MapL w g l es clk){x:List UInt8}(hx:x.length=16):
  ((Instr.lookup 96 (.map (some g)) (blkV x) true).run prog w=.ok (.tuple #[.agg #[.int .u8 0,.int .u8 0,.int .u8 0,.int .u8 0,.int .u8 0,.int .u8 0,.int .u8 0,.int .u8 0,.int .u8 0,.int .u8 0,.int .u8 0,.int .u8 0,.int .u8 0,.int .u8 0,.int .u8 0,.int .u8 0],.bool false]) w∧∀ p ∈ l,p.1≠x)∨
  ∃ p ∈ l,p.1=x∧(Instr.lookup 96 (.map (some g)) (blkV x) true).run prog w=.ok (.tuple #[blkV p.2,.bool true]) w:=by
 obtain⟨kl,hkl⟩:=key_block hx;rcases run_look keyed_block underlying96 (zero_block w) h.box h.keyed hkl with h1|⟨j,e0,h1,h2,h3⟩
 ·refine .inl ⟨h1.1,fun p hp e=>?_⟩
  have hm:(blkV p.1,blkV p.2) ∈ es.toList.map (fun e=>(e.key,e.val)):=by
   rw[h.row];exact List.mem_map.2 ⟨p,hp,rfl⟩
  obtain⟨e0,he,e1⟩:=List.mem_map.1 hm;simp only[Prod.mk.injEq] at e1;exact h1.2 e0 he (by rw[e1.1,e])
 ·obtain⟨p,hp,p1,p2⟩:=h.mem (List.mem_of_getElem? h1);refine .inr ⟨p,hp,blkV_inj (p1.symm.trans h2),?_⟩;rw[← p2];exact h3
theorem MapL.put {w:World}{g:Nat}{l:List (List UInt8×List UInt8)}{es:Array MapEntry}{clk:Nat}(h:MapL w g l es clk){x y:List UInt8}(hx:x.length=16) (hy:y.length=16) (hnew:∀ p ∈ l,p.1≠x):
  (Instr.mapUpdate 96 (.map (some g)) (blkV x) (blkV y)).run prog w=.ok () (putObj w g (.map (es.push ⟨blkV x,blkV y,clk⟩) (clk+1)))∧
  MapL (putObj w g (.map (es.push ⟨blkV x,blkV y,clk⟩) (clk+1))) g (l++[(x,y)]) (es.push ⟨blkV x,blkV y,clk⟩) (clk+1):=by
 obtain⟨kl,hkl⟩:=key_block hx;refine⟨run_put keyed_block underlying96 h.box h.keyed hkl (fun e he e1=>?_),putObj_same (heap_lt h.box),by simp[h.row],?_⟩
 ·obtain⟨p,hp,p1,_⟩:=h.mem he;exact hnew p hp (blkV_inj (p1.symm.trans e1))
 ·intro p hp;rcases List.mem_append.1 hp with hp|hp
  ·exact h.fit p hp
  ·simp at hp;subst hp;exact⟨hx,hy⟩
theorem MapL.keep {w w':World}{g:Nat}{l:List (List UInt8×List UInt8)}{es:Array MapEntry}{clk:Nat}(h:MapL w g l es clk) (hk:w'.heap[g]?=w.heap[g]?):MapL w' g l es clk:=⟨hk.trans h.box,h.row,h.fit⟩
theorem MapL.empty {w:World}{g:Nat}(h:w.heap[g]?=some (.map #[] 0)):MapL w g [] #[] 0:=⟨h,rfl,by simp⟩
end Go.Proofs.YtbgfdbidbjlaaaaGreat.Fd
/-
  What a cipher of chance takes of its tape: the first block that is not used yet. Plain. No condition.
-/
namespace Go.Proofs.YtbgfdbidbjlaaaaGreat.Fd
open _root_.Go.Proofs.Tryz
open Go Go.RowKit K
def blk16 (b:List UInt8) (a:Nat):List UInt8:=(b.drop a).take 16
theorem blk16_length {b:List UInt8}{a:Nat}(h:a+16≤b.length):(blk16 b a).length=16:=by
 rw[blk16,List.length_take,List.length_drop];omega
def pickB (b:List UInt8) (used:List UInt8→Bool):Nat→Nat→Option (List UInt8)×Nat
 | 0,a=>(none,a)
 | f+1,a=>if b.length<a+16 then (none,a) else if used (blk16 b a) then pickB b used f (a+16) else (some (blk16 b a),a+16)
theorem pickB_short {b:List UInt8}{used:List UInt8→Bool}{f a:Nat}(h:b.length<a+16):pickB b used f a=(none,a):=by
 cases f with
 | zero=>rfl
 | succ f=>rw[pickB,if_pos h]
theorem pickB_used {b:List UInt8}{used:List UInt8→Bool}{f a:Nat}(h:a+16≤b.length) (hu:used (blk16 b a)=true):pickB b used (f+1) a=pickB b used f (a+16):=by
 rw[pickB,if_neg (by omega),if_pos hu]
theorem pickB_new {b:List UInt8}{used:List UInt8→Bool}{f a:Nat}(h:a+16≤b.length) (hu:used (blk16 b a)=false):pickB b used (f+1) a=(some (blk16 b a),a+16):=by
 rw[pickB,if_neg (by omega),if_neg (by simp[hu])]
theorem pickB_le {b:List UInt8}{used:List UInt8→Bool}:∀ {f a:Nat},a≤b.length→a≤(pickB b used f a).2∧(pickB b used f a).2≤b.length:=by
 intro f
 induction f with
 | zero=>intro a ha;exact⟨Nat.le_refl _,ha⟩
 | succ f ih=>
  intro a ha;rw[pickB];split
  ·exact⟨Nat.le_refl _,ha⟩
  ·split
   ·have:=ih (a:=a+16) (by omega);omega
   ·exact⟨by show a≤a+16;omega,by show a+16≤b.length;omega⟩
theorem pickB_some {b:List UInt8}{used:List UInt8→Bool}:∀ {f a:Nat}{y:List UInt8},(pickB b used f a).1=some y→y.length=16∧used y=false∧a+16≤(pickB b used f a).2:=by
 intro f
 induction f with
 | zero=>intro a y h;simp[pickB] at h
 | succ f ih=>
  intro a y h;rw[pickB] at h ⊢;split at h
  ·simp at h
  ·split at h
   ·have h1:=ih h;rename_i h2 h3;rw[if_neg h2,if_pos h3];exact⟨h1.1,h1.2.1,by omega⟩
   ·rename_i h2 h3;simp only[Option.some.injEq] at h;subst h;rw[if_neg h2,if_neg h3];exact⟨blk16_length (by omega),by simpa using h3,Nat.le_refl _⟩
attribute [irreducible] pickB
def MapG (w:World) (g:Nat) (l:List (List UInt8×List UInt8)):Prop:=∃ es clk,MapL w g l es clk
theorem MapG.keep {w w':World}{g:Nat}{l:List (List UInt8×List UInt8)}(h:MapG w g l) (hk:w'.heap[g]?=w.heap[g]?):MapG w' g l:=by
 obtain⟨es,c,h⟩:=h;exact⟨es,c,h.keep hk⟩
theorem MapG.mapped {w:World}{g:Nat}{l:List (List UInt8×List UInt8)}(h:MapG w g l):∃ es c,w.heap[g]?=some (.map es c):=by
 obtain⟨es,c,h⟩:=h;exact⟨es,c,h.box⟩
theorem MapG.lt {w:World}{g:Nat}{l:List (List UInt8×List UInt8)}(h:MapG w g l):g<w.heap.size:=by
 obtain⟨es,c,h⟩:=h.mapped;exact heap_lt h
theorem MapG.empty {w:World}{g:Nat}(h:w.heap[g]?=some (.map #[] 0)):MapG w g []:=⟨_,_,MapL.empty h⟩
theorem MapG.fit {w:World}{g:Nat}{l:List (List UInt8×List UInt8)}(h:MapG w g l):∀ p ∈ l,p.1.length=16∧p.2.length=16:=by
 obtain⟨es,c,h⟩:=h;exact h.fit
theorem MapG.look {w:World}{g:Nat}{l:List (List UInt8×List UInt8)}(h:MapG w g l){x:List UInt8}(hx:x.length=16):
  ((Instr.lookup 96 (.map (some g)) (blkV x) true).run prog w=.ok (.tuple #[.agg #[.int .u8 0,.int .u8 0,.int .u8 0,.int .u8 0,.int .u8 0,.int .u8 0,.int .u8 0,.int .u8 0,.int .u8 0,.int .u8 0,.int .u8 0,.int .u8 0,.int .u8 0,.int .u8 0,.int .u8 0,.int .u8 0],.bool false]) w∧∀ p ∈ l,p.1≠x)∨
  ∃ p ∈ l,p.1=x∧(Instr.lookup 96 (.map (some g)) (blkV x) true).run prog w=.ok (.tuple #[blkV p.2,.bool true]) w:=by
 obtain⟨es,c,h⟩:=h;exact h.look hx
theorem MapG.look_no {w:World}{g:Nat}{l:List (List UInt8×List UInt8)}(h:MapG w g l){x:List UInt8}(hx:x.length=16) (hn:∀ p ∈ l,p.1≠x):
  (Instr.lookup 96 (.map (some g)) (blkV x) true).run prog w=.ok (.tuple #[.agg #[.int .u8 0,.int .u8 0,.int .u8 0,.int .u8 0,.int .u8 0,.int .u8 0,.int .u8 0,.int .u8 0,.int .u8 0,.int .u8 0,.int .u8 0,.int .u8 0,.int .u8 0,.int .u8 0,.int .u8 0,.int .u8 0],.bool false]) w:=by
 rcases h.look hx with h1|⟨p,hp,h1,_⟩
 ·exact h1.1
 ·exact absurd h1 (hn p hp)
theorem MapG.look_yes {w:World}{g:Nat}{l:List (List UInt8×List UInt8)}(h:MapG w g l){x:List UInt8}(hx:x.length=16){y:List UInt8}(hm:(x,y) ∈ l) (hone:∀ p ∈ l,p.1=x→p.2=y):
  (Instr.lookup 96 (.map (some g)) (blkV x) true).run prog w=.ok (.tuple #[blkV y,.bool true]) w:=by
 rcases h.look hx with h1|⟨p,hp,h1,h2⟩
 ·exact absurd rfl (h1.2 _ hm)
 ·rw[hone p hp h1] at h2;exact h2
theorem MapG.put {w:World}{g:Nat}{l:List (List UInt8×List UInt8)}(h:MapG w g l){x y:List UInt8}(hx:x.length=16) (hy:y.length=16) (hnew:∀ p ∈ l,p.1≠x):
  ∃ o,(Instr.mapUpdate 96 (.map (some g)) (blkV x) (blkV y)).run prog w=.ok () (putObj w g o)∧MapG (putObj w g o) g (l++[(x,y)]):=by
 obtain⟨es,c,h⟩:=h;obtain⟨h1,h2⟩:=h.put hx hy hnew;exact⟨_,h1,_,_,h2⟩
end Go.Proofs.YtbgfdbidbjlaaaaGreat.Fd
/-
  ideal.Encrypt, ideal.Decrypt. No condition beyond what each theorem names.
-/
namespace Go.Proofs.YtbgfdbidbjlaaaaGreat.Fd
open _root_.Go.Proofs.Tryz
open Go Go.RowKit K
set_option maxRecDepth 100000
set_option maxHeartbeats 4000000
structure Kept (B:Nat) (w w':World):Prop where
 below:Below B w w'
 keep:∀ (g:Nat) (cs:Array Value) (t:TypeId) (m:Nat×Nat),w.heap[g]?=some (.cells cs t m)→t≠56→t≠159→t≠119→w'.heap[g]?=w.heap[g]?
theorem Kept.trans {B:Nat}{a b c:World}(h:Kept B a b) (k:Kept B b c):Kept B a c:=
 ⟨h.below.trans k.below,fun g cs t m hg h1 h2 h3=>(k.keep g cs t m ((h.keep g cs t m hg h1 h2 h3).trans hg) h1 h2 h3).trans (h.keep g cs t m hg h1 h2 h3)⟩
theorem Kept.chg {B:Nat}{a b:World}(hB:B≤a.heap.size) (h:Chg No a b):Kept B a b:=
 ⟨(Chg.no h).mono hB,fun g _ _ _ hg _ _ _=>h.block g (heap_lt hg) id⟩
abbrev Place:=PKey×Nat×Nat×Option (List UInt8×List UInt8)
def Place.ids (q:Place):PKey×Nat×Nat:=(q.1,q.2.1,q.2.2.1)
structure IdSt where
 tp:Nat
 c:Nat
 m:Nat
 k:Nat
 bv:Value
 tv:Value
 b:List UInt8
 a:Nat
 ts:List (ByteArray×Nat×Nat)
 cn:Nat
 ag:Int
 pls:List Place
structure IdealO (w:World) (B:Nat) (S:IdSt):Prop where
 tape:TapeO w B S.tp S.bv S.tv S.b S.a S.ts
 room:B≤w.heap.size
 box:w.heap[S.c]?=some (idBox (some ⟨S.tp,0,none⟩) S.m S.k S.cn S.ag)
 baseC:B≤S.c
 baseM:B≤S.m
 places:∃ es clk,MapP w S.m (S.pls.map Place.ids) es clk
 pairs:∀ q ∈ S.pls,S.m<q.2.1∧q.2.1<q.2.2.1∧MapB w q.2.1 q.2.2.2∧MapB w q.2.2.1 (q.2.2.2.map Prod.swap)
 apart:S.pls.Pairwise (fun q r=>q.2.2.1<r.2.1∧q.1≠r.1)
 cnt:S.cn≤S.pls.length
 tkn:S.ts.length≤S.pls.length
theorem IdealO.after {w w':World}{B:Nat}{S:IdSt}(h:IdealO w B S) (hb:Below w.heap.size w w'):IdealO w' B S:=by
 obtain⟨es,clk,hp⟩:=h.places
 exact⟨h.tape.after hb,Nat.le_trans h.room hb.size,(hb.block _ (heap_lt h.box)).trans h.box,h.baseC,h.baseM,⟨es,clk,(hb.block _ (heap_lt hp.box)).trans hp.box,hp.row,hp.fit⟩,
  fun q hq=>by
   obtain⟨h1,h2,h3,h4⟩:=h.pairs q hq;exact⟨h1,h2,h3.keep (hb.block _ h3.lt),h4.keep (hb.block _ h4.lt)⟩,h.apart,h.cnt,h.tkn⟩
theorem enc_walk {w:World}{c:Nat}{what:Value}{key:ByteArray}{u i:Nat}{x:List UInt8}(hx:x.length=16) (P:Nat→Nat→World→Prop) (Q:List UInt8→Int→World→Prop)
  (hat:∀ wB,wB=(w.alloc (.cells (u8s x).toArray 73)).alloc (.cells (u8s (List.replicate 16 0)).toArray 73)→Calls prog 40 #[.pointer (some ⟨c,0,none⟩),.string key,.int .i64 u,.int .i64 i] wB fun e w1=>∃ f g,e=.returned (.agg #[.map (some f),.map (some g)])∧P f g w1∧Arr w1 w.heap.size 73 x)
  (hot:∀ f g w1,P f g w1→Calls prog 41 #[.pointer (some ⟨c,0,none⟩),what,blkV x,.map (some f),.map (some g)] (w1.alloc (.cells #[.map (some f),.map (some g)] 98)) fun e w2=>∃ r er,e=.returned (.tuple #[blkV r,.int .i64 er])∧r.length=16∧Arr w2 (w.heap.size+1) 73 (List.replicate 16 0)∧Q r er w2):
  Calls prog 23 #[.pointer (some ⟨c,0,none⟩),what,.string key,.int .i64 u,.int .i64 i,blkV x] w fun e w'=>∃ r er w2,e=.returned (.tuple #[blkV r,.int .i64 er])∧Q r er w2∧Chg No w2 w2∧w'=w2.setRow (w.heap.size+1) (u8s r).toArray:=by
 have hat':=hat _ rfl;have hz:(u8s (List.replicate 16 0)).toArray=#[.int .u8 0,.int .u8 0,.int .u8 0,.int .u8 0,.int .u8 0,.int .u8 0,.int .u8 0,.int .u8 0,.int .u8 0,.int .u8 0,.int .u8 0,.int .u8 0,.int .u8 0,.int .u8 0,.int .u8 0,.int .u8 0]:=rfl;rw[hz] at hat';clear hz hat;obtain⟨V,hV⟩:∃ V,V=(u8s x).toArray:=⟨_,rfl⟩
 have hot':∀ f g w1,P f g w1→Calls prog 41 #[.pointer (some ⟨c,0,none⟩),what,.agg V,.map (some f),.map (some g)] (w1.alloc (.cells #[.map (some f),.map (some g)] 98)) fun e w2=>∃ r er,e=.returned (.tuple #[blkV r,.int .i64 er])∧r.length=16∧Arr w2 (w.heap.size+1) 73 (List.replicate 16 0)∧Q r er w2:=by
  rw[hV];exact hot
 clear hot;show Calls prog 23 #[.pointer (some ⟨c,0,none⟩),what,.string key,.int .i64 u,.int .i64 i,.agg (u8s x).toArray] w _;rw[← hV] at hat' ⊢;replace hat':=LH hat';replace hot':=LH hot';replace hV:=LH hV;go_enter func23,ntmps23
 go_wp2_with fail
 refine hat'.out.mono ?_;rintro e w1 ⟨f,g,rfl,hP,hA⟩
 have hl:(Instr.loadAt 73 (.pointer (some ⟨w.heap.size,0,none⟩))).run prog (w1.alloc (.cells #[.map (some f),.map (some g)] 98))=.ok (.agg V) (w1.alloc (.cells #[.map (some f),.map (some g)] 98)):=by
  rw[hV.out];exact run_loadAt_arr (P:=prog) (hA.keep (Below.heap_alloc _ _ _ (heap_lt hA))) underlying73 (size61 hx)
 have hc:=LH (hot'.out f g w1 hP);replace hl:=LH hl;replace hA:=LH hA;replace hP:=LH hP;clear hat' hot'
 go_wp2_with (first|(refine wpList_load rfl 73 _ rfl _ _ rfl hl.out ?_)|fail)
 refine hc.out.mono ?_;rintro e w2 ⟨r,er,rfl,hr,hZ,hQ⟩;have hs:=block_store hZ List.length_replicate r hr;obtain⟨w3,hw3⟩:∃ a,a=w2.setRow (w.heap.size+1) (u8s r).toArray:=⟨_,rfl⟩;rw[← hw3] at hs;have hZ3:Arr w3 (w.heap.size+1) 73 r:=hw3 ▸ hZ.setRow _;replace hs:=LH hs;replace hw3:=LH hw3;replace hZ3:=LH hZ3;replace hQ:=LH hQ;replace hZ:=LH hZ;clear hc hl
 go_wp2_with (first|(refine wpList_store rfl 73 _ _ rfl _ _ rfl rfl hs.out ?_))
 refine bodyPost_ret (results_cell_slot results23 _ _ (w.heap.size+1) 73 _ (0,0) _ rfl hZ3.out underlying73 rfl (by rw[size61 hr];simp[u8s_length])) rfl ⟨r,er,w2,rfl,hQ.out,Chg.refl _ _,hw3.out⟩
theorem dec_walk {w:World}{c:Nat}{what:Value}{key:ByteArray}{u i:Nat}{x:List UInt8}(hx:x.length=16) (P:Nat→Nat→World→Prop) (Q:List UInt8→Int→World→Prop)
  (hat:∀ wB,wB=(w.alloc (.cells (u8s x).toArray 73)).alloc (.cells (u8s (List.replicate 16 0)).toArray 73)→Calls prog 40 #[.pointer (some ⟨c,0,none⟩),.string key,.int .i64 u,.int .i64 i] wB fun e w1=>∃ f g,e=.returned (.agg #[.map (some f),.map (some g)])∧P f g w1∧Arr w1 w.heap.size 73 x)
  (hot:∀ f g w1,P f g w1→Calls prog 41 #[.pointer (some ⟨c,0,none⟩),what,blkV x,.map (some g),.map (some f)] (w1.alloc (.cells #[.map (some f),.map (some g)] 98)) fun e w2=>∃ r er,e=.returned (.tuple #[blkV r,.int .i64 er])∧r.length=16∧Arr w2 (w.heap.size+1) 73 (List.replicate 16 0)∧Q r er w2):
  Calls prog 28 #[.pointer (some ⟨c,0,none⟩),what,.string key,.int .i64 u,.int .i64 i,blkV x] w fun e w'=>∃ r er w2,e=.returned (.tuple #[blkV r,.int .i64 er])∧Q r er w2∧Chg No w2 w2∧w'=w2.setRow (w.heap.size+1) (u8s r).toArray:=by
 have hat':=hat _ rfl;have hz:(u8s (List.replicate 16 0)).toArray=#[.int .u8 0,.int .u8 0,.int .u8 0,.int .u8 0,.int .u8 0,.int .u8 0,.int .u8 0,.int .u8 0,.int .u8 0,.int .u8 0,.int .u8 0,.int .u8 0,.int .u8 0,.int .u8 0,.int .u8 0,.int .u8 0]:=rfl;rw[hz] at hat';clear hz hat;obtain⟨V,hV⟩:∃ V,V=(u8s x).toArray:=⟨_,rfl⟩
 have hot':∀ f g w1,P f g w1→Calls prog 41 #[.pointer (some ⟨c,0,none⟩),what,.agg V,.map (some g),.map (some f)] (w1.alloc (.cells #[.map (some f),.map (some g)] 98)) fun e w2=>∃ r er,e=.returned (.tuple #[blkV r,.int .i64 er])∧r.length=16∧Arr w2 (w.heap.size+1) 73 (List.replicate 16 0)∧Q r er w2:=by
  rw[hV];exact hot
 clear hot;show Calls prog 28 #[.pointer (some ⟨c,0,none⟩),what,.string key,.int .i64 u,.int .i64 i,.agg (u8s x).toArray] w _;rw[← hV] at hat' ⊢;replace hat':=LH hat';replace hot':=LH hot';replace hV:=LH hV;go_enter func28,ntmps28
 go_wp2_with fail
 refine hat'.out.mono ?_;rintro e w1 ⟨f,g,rfl,hP,hA⟩
 have hl:(Instr.loadAt 73 (.pointer (some ⟨w.heap.size,0,none⟩))).run prog (w1.alloc (.cells #[.map (some f),.map (some g)] 98))=.ok (.agg V) (w1.alloc (.cells #[.map (some f),.map (some g)] 98)):=by
  rw[hV.out];exact run_loadAt_arr (P:=prog) (hA.keep (Below.heap_alloc _ _ _ (heap_lt hA))) underlying73 (size61 hx)
 have hc:=LH (hot'.out f g w1 hP);replace hl:=LH hl;replace hA:=LH hA;replace hP:=LH hP;clear hat' hot'
 go_wp2_with (first|(refine wpList_load rfl 73 _ rfl _ _ rfl hl.out ?_)|fail)
 refine hc.out.mono ?_;rintro e w2 ⟨r,er,rfl,hr,hZ,hQ⟩;have hs:=block_store hZ List.length_replicate r hr;obtain⟨w3,hw3⟩:∃ a,a=w2.setRow (w.heap.size+1) (u8s r).toArray:=⟨_,rfl⟩;rw[← hw3] at hs;have hZ3:Arr w3 (w.heap.size+1) 73 r:=hw3 ▸ hZ.setRow _;replace hs:=LH hs;replace hw3:=LH hw3;replace hZ3:=LH hZ3;replace hQ:=LH hQ;replace hZ:=LH hZ;clear hc hl
 go_wp2_with (first|(refine wpList_store rfl 73 _ _ rfl _ _ rfl rfl hs.out ?_))
 refine bodyPost_ret (results_cell_slot results28 _ _ (w.heap.size+1) 73 _ (0,0) _ rfl hZ3.out underlying73 rfl (by rw[size61 hr];simp[u8s_length])) rfl ⟨r,er,w2,rfl,hQ.out,Chg.refl _ _,hw3.out⟩
end Go.Proofs.YtbgfdbidbjlaaaaGreat.Fd
/-
  ideal.Encrypt, ideal.Decrypt: what they come to. No condition beyond what each theorem names.
-/
namespace Go.Proofs.YtbgfdbidbjlaaaaGreat.Fd
open Go Go.RowKit K
theorem IdealO.keep {w w':World}{B:Nat}{S:IdSt}(h:IdealO w B S) (hs:w.heap.size≤w'.heap.size) (hm:∀ (g:Nat) (es:Array MapEntry) (c:Nat),w.heap[g]?=some (.map es c)→w'.heap[g]?=w.heap[g]?)
  (hc:∀ (g:Nat) (cs:Array Value) (t:TypeId) (m:Nat×Nat),w.heap[g]?=some (.cells cs t m)→(t=56∨t=5∨t=159)∨t=119→w'.heap[g]?=w.heap[g]?):IdealO w' B S:=by
 obtain⟨es,clk,hp⟩:=h.places;refine⟨h.tape.keep (fun g hg=>?_),Nat.le_trans h.room hs,(hc _ _ _ _ h.box (.inr rfl)).trans h.box,h.baseC,h.baseM,⟨es,clk,(hm _ _ _ hp.box).trans hp.box,hp.row,hp.fit⟩,fun q hq=>?_,h.apart,h.cnt,h.tkn⟩
 ·obtain⟨cs,t,h1,h2⟩:=h.tape.kind hg;exact hc _ _ _ _ h1 (.inl h2)
 ·obtain⟨h1,h2,h3,h4⟩:=h.pairs q hq;obtain⟨e3,c3,m3⟩:=h3.mapped;obtain⟨e4,c4,m4⟩:=h4.mapped;exact⟨h1,h2,h3.keep (hm _ _ _ m3),h4.keep (hm _ _ _ m4)⟩
theorem IdealO.put {w:World}{B:Nat}{S:IdSt}(h:IdealO w B S){u:Nat}{l:List UInt8}(hu:Arr w u 73 l) (cs:Array Value):IdealO (w.setRow u cs) B S:=by
 refine h.keep (by simp[World.setRow]) (fun g es c hg=>setRow_other _ _ _ _ ?_) (fun g cs t m hg ht=>setRow_other _ _ _ _ ?_)
 ·rintro rfl;have h1:some (Obj.map es c)=some (Obj.cells _ _ _):=hg.symm.trans hu;cases h1
 ·rintro rfl;have h1:=hg.symm.trans hu;simp only[Option.some.injEq,Obj.cells.injEq] at h1;obtain⟨_,rfl,_⟩:=h1;rcases ht with (h2|h2|h2)|h2<;>exact absurd h2 (by decide)
theorem Kept.put {B:Nat}{w w2:World}(h:Kept B w w2){u:Nat}(hu:w.heap.size≤u) (hB:B≤w.heap.size) (cs:Array Value):Kept B w (w2.setRow u cs):=
 ⟨below_setRow h.below (by omega) _,fun g cs' t m hg h1 h2 h3=>by
  rw[setRow_other _ _ _ _ (by have:=heap_lt hg;omega)];exact h.keep g cs' t m hg h1 h2 h3⟩
theorem box2B {w:World}{x:List UInt8}{wB:World}(h:wB=(w.alloc (.cells (u8s x).toArray 73)).alloc (.cells (u8s (List.replicate 16 0)).toArray 73)):
  Arr wB w.heap.size 73 x∧Arr wB (w.heap.size+1) 73 (List.replicate 16 0)∧Chg No w wB∧wB.heap.size=w.heap.size+2:=by
 obtain⟨h1,h2,h3,h4⟩:=box2 w 73 x (List.replicate 16 0);subst h;exact⟨h1,h2,Chg.of_below h3 _,h4⟩
section
variable {w:World}{B:Nat}{S:IdSt}
theorem IdealO.ids_one (h:IdealO w B S){q:Place}(hq:q ∈ S.pls):∀ r ∈ S.pls.map Place.ids,r.1=q.1→r.2=(q.2.1,q.2.2.1):=by
 intro r hr he;obtain⟨s,hs,rfl⟩:=List.mem_map.1 hr
 have:s=q:=by
  by_cases e:s=q
  ·exact e
  ·exfalso;have hp:=List.pairwise_iff_getElem.1 h.apart;obtain⟨i,hi,rfl⟩:=List.getElem_of_mem hs;obtain⟨j,hj,rfl⟩:=List.getElem_of_mem hq;rcases Nat.lt_trichotomy i j with h1|h1|h1
   ·exact (hp i j hi hj h1).2 he
   ·subst h1;exact e rfl
   ·exact (hp j i hj hi h1).2 he.symm
 subst this;rfl
structure NewAt (w:World) (B:Nat) (S:IdSt) (key:PKey) (f g:Nat) (w1:World):Prop where
 low:w.heap.size+2≤f
 fg:f<g
 mf:MapB w1 f none
 mg:MapB w1 g none
 places:∃ es clk,MapP w1 S.m ((S.pls.map Place.ids)++[(key,f,g)]) es clk
 chg:Chg (fun b=>b=S.m) w w1
 box:Arr w1 (w.heap.size+1) 73 (List.replicate 16 0)
end
end Go.Proofs.YtbgfdbidbjlaaaaGreat.Fd
/-
  suite.through. No condition beyond what each theorem names.
-/
namespace Go.Proofs.YtbgfdbidbjlaaaaGreat.RA
open _root_.Go.Proofs.Tryz
open Go Go.RowKit
section
variable {c:Cx}{Z:Act→World→Prop}{os:List Oper}{i:Nat}{K:List (Nat×Value)}{G:List (Nat×(World→Prop))}{U:List Nat}{H:World→Prop}
variable {ty:TypeId}{ps:String}{af:Array Edge}{gu:Option (Nat×Bool)}
theorem ex_callb {f:FuncId}{p:Value}{z:Operand}{xs:List Operand}{ats:Array TypeId}{ys:List Value}{ds:Option Nat}(hz:evo c K z=some (.func (.func f) #[p] #[])) (ha:xs.map (evo c K)=ys.map some) (w:World){P:Program}
  (hf:(callFunc f (p::ys).toArray).run P w=.ok (.enter f (p::ys).toArray) w):
  (execOp (ev c.a0 K) ⟨ds,.call ⟨.value z,xs.toArray,ats⟩,ty,ps,af,gu⟩).run P w=.ok (.enter f (p::ys).toArray) w:=by
 unfold execOp;simp only[resolve,invoke,evo_ev hz,List.map_toArray,map_evo ha]
 simpa [Deferred.ofValue] using hf
theorem kcb {d:Nat}{P:Program}{f:FuncId}{p:Value}{z:Operand}{xs:List Operand}{ats:Array TypeId}(ys:List Value) (y:Value) (h':World→Prop) (hf:∀ args w,(callFunc f args).run P w=.ok (.enter f args) w)
  (hk:kindOf c i=4) (hg:gd c.ops c.a0 K ⟨some d,.call ⟨.value z,xs.toArray,ats⟩,ty,ps,af,gu⟩=true) (hz:evo c K z=some (.func (.func f) #[p] #[])) (ha:xs.map (evo c K)=ys.map some) (hu:(U.all fun k=>(c.pr.getD i 0).testBit k)=true) (he:Stab c.E h') (hP:c.P=P)
  (hr:∀ w,Pre c i G w→H w→Calls P f (p::ys).toArray w fun e w'=>e=.returned y∧c.R w w'∧h' w')
  (hn:RA c Z os (i+1) ((d,y)::K) G (i::U) h'):RA c Z (⟨some d,.call ⟨.value z,xs.toArray,ats⟩,ty,ps,af,gu⟩::os) i K G U H:=
 k P y h' f (args:=(p::ys).toArray) hk hg he hu hP (fun w=>ex_callb hz ha w (hf _ w)) hr hn
theorem pas {d:Nat}{x:Operand}{y:Value}(hk:kindOf c i=5) (hg:gd c.ops c.a0 K ⟨some d,.assign x,ty,ps,af,gu⟩=true) (hx:evo c K x=some y) (h:RA c Z os (i+1) ((d,y)::K) G U H):RA c Z (⟨some d,.assign x,ty,ps,af,gu⟩::os) i K G U H:=
 pw hk hg (fun w=>by simp[execOp,evo_ev hx]) h
theorem pex {d n:Nat}{x:Operand}{y y':Value}(hk:kindOf c i=5) (hg:gd c.ops c.a0 K ⟨some d,.extract x n,ty,ps,af,gu⟩=true) (hx:evo c K x=some y) (hr:∀ w,(Instr.extract y n).run c.P w=.ok y' w) (h:RA c Z os (i+1) ((d,y')::K) G U H):RA c Z (⟨some d,.extract x n,ty,ps,af,gu⟩::os) i K G U H:=
 pw hk hg (fun w=>by simp[execOp,evo_ev hx,hr w]) h
end
end Go.Proofs.YtbgfdbidbjlaaaaGreat.RA
namespace Go.Proofs.YtbgfdbidbjlaaaaGreat.Fd
open _root_.Go.Proofs.Tryz
open Go Go.RowKit K
structure Soft (n:Nat) (a b:World):Prop where
 size:a.heap.size≤b.heap.size
 maps:∀ (g:Nat) (es:Array MapEntry) (c:Nat),a.heap[g]?=some (.map es c)→b.heap[g]?=a.heap[g]?
 cells:∀ (g:Nat) (cs:Array Value) (t:TypeId) (m:Nat×Nat),a.heap[g]?=some (.cells cs t m)→(g<n∨(t≠5∧t≠73))→b.heap[g]?=a.heap[g]?
theorem Soft.of_no {n:Nat}{a b:World}(h:Chg No a b):Soft n a b:=⟨h.size,fun g _ _ hg=>h.block g (heap_lt hg) id,fun g _ _ _ hg _=>h.block g (heap_lt hg) id⟩
theorem Soft.trans {n:Nat}{a b c:World}(h:Soft n a b) (k:Soft n b c):Soft n a c:=
 ⟨Nat.le_trans h.size k.size,fun g es cl hg=>(k.maps g es cl ((h.maps g es cl hg).trans hg)).trans (h.maps g es cl hg),fun g cs t m hg hc=>(k.cells g cs t m ((h.cells g cs t m hg hc).trans hg) hc).trans (h.cells g cs t m hg hc)⟩
theorem IdealO.soft {a b:World}{B n:Nat}{S:IdSt}(h:IdealO a B S) (hn:∀ g,S.bv.ownBlock=some g→g<n) (hs:Soft n a b):IdealO b B S:=by
 obtain⟨es,clk,hp⟩:=h.places;refine⟨h.tape.keep (fun g hg=>?_),Nat.le_trans h.room hs.size,(hs.cells _ _ _ _ h.box (.inr (by decide))).trans h.box,h.baseC,h.baseM,⟨es,clk,(hs.maps _ _ _ hp.box).trans hp.box,hp.row,hp.fit⟩,fun q hq=>?_,h.apart,h.cnt,h.tkn⟩
 ·rcases hg with rfl|hg|hg
  ·exact hs.cells _ _ _ _ h.tape.box (.inr (by decide))
  ·obtain⟨cur,hc⟩:=own_cells h.tape.bytes hg;exact hs.cells _ _ _ _ hc (.inl (hn g hg))
  ·obtain⟨cur,hc⟩:=own_cells h.tape.takes hg;exact hs.cells _ _ _ _ hc (.inr (by decide))
 ·obtain⟨h1,h2,h3,h4⟩:=h.pairs q hq;obtain⟨e3,c3,m3⟩:=h3.mapped;obtain⟨e4,c4,m4⟩:=h4.mapped;exact⟨h1,h2,h3.keep (hs.maps _ _ _ m3),h4.keep (hs.maps _ _ _ m4)⟩
def outs (r:Nat→List UInt8):Nat→List UInt8
 | 0=>[]
 | j+1=>outs r j++r j
theorem outs_zero {r:Nat→List UInt8}:outs r 0=[]:=rfl
theorem outs_succ {r:Nat→List UInt8}{j:Nat}:outs r (j+1)=outs r j++r j:=rfl
theorem outs_length {r:Nat→List UInt8}(h:∀ j,(r j).length=16):∀ j,(outs r j).length=16*j
 | 0=>rfl
 | j+1=>by rw[outs_succ,List.length_append,outs_length h j,h];omega
attribute [irreducible] outs
theorem blk_load {w5:World}{da:Option Addr}{dc:Nat}{data:List UInt8}{j:Nat}(hj:16*j+16≤data.length) (hb:Bytes w5 (fun _=>True) (.slice da data.length dc) data){dg doff:Nat}(hda:da=some ⟨dg,doff,none⟩):
  (Instr.loadAt 73 (.pointer (some ⟨dg,doff+16*j,none⟩))).run prog w5=.ok (.agg (u8s (blk data j)).toArray) w5:=by
 obtain⟨dg',doff',dc',hdv,_,_,_,hdgl,hdcell⟩:=Cells.at hb (by omega);simp only[Value.slice.injEq] at hdv;obtain⟨h1,_,_⟩:=hdv;rw[hda] at h1;simp only[Option.some.injEq,Addr.mk.injEq] at h1;obtain⟨rfl,rfl,_⟩:=h1;refine run_loadAt_cells underlying73 (size61 (blk_length hj)) (fun k hk=>?_);rw[blk_length hj] at hk;have hjd:16*j+k<data.length:=by omega
 rw[Nat.add_assoc,hdcell _ _ (u8s_get data _ hjd),blk_get hk];simp[List.getD,hjd]
end Go.Proofs.YtbgfdbidbjlaaaaGreat.Fd
/-
  suite.through, its state told behind a failure too. No condition beyond what each theorem names.
-/
namespace Go.Proofs.YtbgfdbidbjlaaaaGreat.Fd
open _root_.Go.Proofs.Tryz
open Go Go.RowKit K
set_option maxRecDepth 100000
set_option maxHeartbeats 4000000
theorem through_gen {w:World}{B:Nat}(hB:B≤w.heap.size){what:ByteArray}{ka da:Option Addr}{kc dc:Nat}{key data:List UInt8}
  (hkb:∀ w1,Kept B w w1→Bytes w1 (fun _=>True) (.slice ka key.length kc) key) (hdb:∀ w1,Kept B w w1→Bytes w1 (fun _=>True) (.slice da data.length dc) data) (unit:Nat) (hk:keyOk key.length unit) (h16:data.length % 16=0) (hmost:data.length≤4096)
  {f:FuncId}{p:Value}(hf:∀ args w,(callFunc f args).run prog w=.ok (.enter f args) w) (St:Nat→World→Prop) (r:Nat→List UInt8) (hr:∀ j,(r j).length=16) (er:Nat→Int) (her:∀ j,er j=0∨er j=9)
  (hst0:St 0 w) (hsoft:∀ j a b,St j a→Soft w.heap.size a b→St j b)
  (hstep:∀ j w1,j<data.length / 16→(∀ i,i<j→er i=0)→St j w1→Kept B w w1→Calls prog f #[p,.string what,.string ⟨key.toArray⟩,.int .i64 unit,.int .i64 j,blkV (blk data j)] w1 fun e w2=>e=.returned (.tuple #[blkV (r j),.int .i64 (er j)])∧Kept B w1 w2∧St (j+1) w2):
  Calls prog 22 #[.string what,.slice ka key.length kc,.int .i64 unit,.slice da data.length dc,.func (.func f) #[p] #[]] w fun e w'=>∃ K,K≤data.length / 16∧(∀ j,j<K→er j=0)∧Kept B w w'∧
   ((K=data.length / 16∧∃ v,e=.returned (.tuple #[v,.int .i64 0])∧w'.ownsRow w.heap.size 5 1 v (16*K) (u8s (outs r K))∧St K w')∨(K<data.length / 16∧er K=9∧e=.returned (.tuple #[.slice none 0 0,.int .i64 9])∧St (K+1) w')):=by
 obtain⟨n,hn⟩:∃ n,n=w.heap.size:=⟨_,rfl⟩;have hmay:=mayKey_ok (hkb w (Kept.chg hB (Chg.refl _ _))) unit hk da data.length dc (by omega);rw[show decide (data.length % 16=0∧data.length≤4096)=true by simp[h16,hmost]] at hmay;have hkl:key.length≤64:=by rcases hk.1 with h|h<;>omega
 obtain⟨N,hN⟩:∃ N,N=data.length / 16:=⟨_,rfl⟩;have hdl:data.length=16*N:=by omega
 have hN256:N≤256:=by omega
 obtain⟨dl,hdl'⟩:∃ dl,dl=data.length:=⟨_,rfl⟩;obtain⟨kl,hkl'⟩:∃ kl,kl=key.length:=⟨_,rfl⟩;have hu:(unit:Int)≤1099511627776:=hk.2.2;rw[← hN] at hstep ⊢;have hk1:kl≤kc:=by obtain⟨_,_,h,h1,_⟩:=(hkb w (Kept.chg hB (Chg.refl _ _))).shape;cases h;omega
 obtain⟨hd1,hd2⟩:dl≤dc∧dc≤maxLen:=by obtain⟨_,_,h,h1,h2⟩:=(hdb w (Kept.chg hB (Chg.refl _ _))).shape;cases h;exact⟨by omega,h2⟩
 unfold maxLen at hd2;rw[← hdl'] at hmay ⊢;rw[← hkl'] at hmay ⊢;have hoL:=outs_length hr;replace hmay:=LH hmay;replace hkb:=LH hkb;replace hdb:=LH hdb;replace hstep:=LH hstep;replace hsoft:=LH hsoft;replace hst0:=LH hst0;replace hr:=LH hr;replace her:=LH her;replace hk:=LH hk;replace hf:=LH hf;replace hoL:=LH hoL;have hdl2:dl=16*N:=by omega
 replace hdl:=LH hdl;replace hdl':=LH hdl';replace hkl':=LH hkl';replace hN:=LH hN;have hN':(dl:Int) / 16=N:=by omega
 replace hdl2:=LH hdl2;clear hkl;replace hn:=LH hn;go_enter func22,ntmps22
 go_wp2_with fail
 refine hmay.out.mono ?_;rintro e w1 ⟨rfl,hb1⟩;have hK1:Kept B w w1:=Kept.chg hB (Chg.of_below hb1 _);have hS1:St 0 w1:=hsoft.out 0 _ _ hst0.out (Soft.of_no (Chg.of_below hb1 _));replace hK1:=LH hK1;replace hS1:=LH hS1;clear hmay hb1 hst0;go_wp2
 go_loopw [10,23] (fun o' i' wr=>∃ j:Nat,j≤N∧i'=.int .i64 j∧Hid (wr.ownsRow w.heap.size 5 1 o' (16*j) (u8s (outs r j)))∧Hid (St j wr)∧Hid (Kept B w wr)∧Hid (∀ i,i<j→er i=0))
  (fun _ i' _=>N - (intOf i').toNat)
 case atStart=>exact⟨0,by omega,rfl,by rw[outs_zero];exact World.ownsRow_nil _ _ _ _,hS1.out,hK1.out,fun i h=>absurd h (Nat.not_lt_zero i)⟩
 case round=>
  obtain⟨j,hjN,rfl,hO,hS,hK,hE⟩:=hrel;clear hS1 hK1;by_cases hlt:j<N
  ·obtain⟨oa,oc,rfl,ho1,ho2⟩:=(Cells.own hO.out).shape;unfold maxLen at ho2;obtain⟨dg,doff,dc',hdv,-,-,-,-,-⟩:=Cells.at (hdb.out wr hK.out) (by have:=hdl.out;omega);simp only[Value.slice.injEq] at hdv;obtain⟨rfl,-,-⟩:=hdv;obtain⟨lo,hlo⟩:∃ lo,lo=16*j:=⟨_,rfl⟩;obtain⟨hi,hhi⟩:∃ hi,hi=16*j+16:=⟨_,rfl⟩;have hlo1:(j:Int)*16=lo:=by omega
   have hhi1:((j:Int)+1)*16=hi:=by omega
   have hjd:16*j+16≤data.length:=by have:=hdl.out;omega
   have hhd:hi≤dc:=by have:=hdl2.out;omega
   obtain⟨X,hX⟩:∃ X,X=(u8s (blk data j)).toArray:=⟨_,rfl⟩
   have hld:∀ w5,Kept B wr w5→(Instr.loadAt 73 (.pointer (some ⟨dg,doff+lo,none⟩))).run prog w5=.ok (.agg X) w5:=fun w5 h5=>by
    rw[hX,hlo];exact blk_load hjd (hdb.out w5 (hK.out.trans h5)) rfl
   have hcut:∀ w5,(Instr.sliceAt 22 (.slice (some ⟨dg,doff,none⟩) dl dc) (some (.int .i64 lo)) (some (.int .i64 hi)) none).run prog w5=.ok (.slice (some ⟨dg,doff+lo,none⟩) 16 (dc - lo)) w5:=fun w5=>by
    rw[cut_at (P:=prog) (s:=1) w5 underlying22 (by kernel_rfl) _ _ _ lo hi (by omega) (by omega),sliced_in _ _ _ _ _ _ (by omega),Nat.mul_one,show hi - lo=16 by omega]
   have hBr:B≤wr.heap.size:=Nat.le_trans hB hK.out.below.size;have hnr:w.heap.size≤wr.heap.size:=hK.out.below.size
   have hks:∀ w5,Kept B wr w5→Bytes w5 (fun _=>True) (.slice ka kl kc) key:=fun w5 h5=>by
    have:=hkb.out w5 (hK.out.trans h5);rw[← hkl'.out] at this;exact this
   obtain⟨R,hR⟩:∃ R,R=(u8s (r j)).toArray:=⟨_,rfl⟩;obtain⟨E,hEj⟩:∃ E,E=er j:=⟨_,rfl⟩
   have hcall:∀ w3,St j w3→Kept B wr w3→Calls prog f #[p,.string what,.string ⟨key.toArray⟩,.int .i64 unit,.int .i64 j,.agg X] w3 fun e w4=>e=.returned (.tuple #[.agg R,.int .i64 E])∧Kept B w3 w4∧St (j+1) w4:=fun w3 h3 h4=>by
    rw[hX,hR,hEj];exact hstep.out j w3 hlt hE.out h3 (hK.out.trans h4)
   have hsft:=hsoft.out;replace hX:=LH hX;replace hR:=LH hR;replace hEj:=LH hEj;replace hcall:=LH hcall;replace hld:=LH hld;replace hcut:=LH hcut;replace hks:=LH hks;replace hlo:=LH hlo;replace hhi:=LH hhi;replace hsft:=LH hsft;have hSd:St j wr.drew:=hsft.out _ _ _ hS.out (Soft.of_no ((Chg.refl _ _).drew));have hdK:∀ w3,Kept B wr.drew w3→Kept B wr w3:=fun w3 h=>(Kept.chg hBr ((Chg.refl No wr).drew)).trans h
   replace hSd:=LH hSd;replace hdK:=LH hdK;go_wp2;refine RA.regionT (Kept B) (fun a b=>B≤a.heap.size∧Chg No a b) [1,1,1,1,1,1,1,1,1,1,1,1,1,1,1,4,1,1,5,2,7,5] [20] (fun i v w3=>∃ b,v=.pointer (some ⟨b,0,none⟩)∧wr.heap.size≤b∧Arr w3 b 73 (List.replicate 16 0)) (St j) (by kernel_rfl) (Kept.chg hBr (Chg.refl _ _)) (fun _ _ h=>Kept.chg h.1 h.2) (fun _ _ _ h k=>h.trans k) (fun _ _ h k=>hsft.out _ _ _ k (Soft.of_no h.2)) hSd.out (by kernel_rfl) (by kernel_rfl) ?_;intro cx
   repeat refine RA.qq (h:=?_)
   refine RA.cv (by kernel_rfl) (by rfl) (by rfl) (y':=.string ⟨key.toArray⟩) (fun w3 hp=>by exact run_string _ _ _ _ underlying22 underlying5 underlying9 _ _ _ (hks.out w3 (hdK.out _ hp.1))) ?_
   repeat refine RA.qq (h:=?_)
   refine RA.mi (by kernel_rfl) (by rfl) (by rfl) (by rfl) ((lo:Int)) (hlo1) (by omega) ?_
   repeat refine RA.qq (h:=?_)
   refine RA.ai (by kernel_rfl) (by rfl) (by rfl) (by rfl) ((j:Int)+1) (rfl) (by omega) ?_;refine RA.mi (by kernel_rfl) (by rfl) (by rfl) (by rfl) ((hi:Int)) (hhi1) (by omega) ?_;refine RA.slh (by kernel_rfl) (by rfl) (by rfl) (by rfl) (by rfl) (y':=.slice (some ⟨dg,doff+lo,none⟩) 16 (dc - lo)) (fun w3 hp=>hcut.out w3) ?_;refine RA.vk prog (.pointer (some ⟨dg,doff+lo,none⟩)) (hr:=fun w hp=>by (try go_simp);rw[run_arrayAt];rfl) (h:=?_);refine RA.ld (by kernel_rfl) (by rfl) (by rfl) (y':=.agg X) (fun w3 hp=>hld.out w3 (hdK.out _ hp.1)) ?_
   refine RA.kcb (P:=prog) (f:=f) (p:=p) [_,_,_,_,_] (.tuple #[.agg R,.int .i64 E]) (fun w4=>St (j+1) w4) hf.out (by kernel_rfl) (by rfl) (by rfl) (by rfl) (by kernel_rfl) (fun _ _ h k=>hsft.out _ _ _ k (Soft.of_no h.2)) rfl (fun w3 hp hH=>(hcall.out w3 hH (hdK.out _ hp.1)).mono (by
    rintro e w4 ⟨rfl,h2,h3⟩;exact⟨rfl,h2,h3⟩)) ?_
   repeat refine RA.qq (h:=?_)
   refine RA.vk prog (.agg R) (h:=?_);refine RA.pex (by kernel_rfl) (by rfl) (by rfl) (y':=.int .i64 E) (fun w3=>rfl) ?_
   refine RA.fr (by kernel_rfl) (by rfl) (fun v a b h h2=>by
    obtain⟨b1,h3,h4,h5⟩:=h2
    exact⟨b1,h3,h4,h5.keep (h.keep _ _ _ _ h5 (by decide) (by decide) (by decide))⟩) (fun w3 hp=>⟨.pointer (some ⟨w3.heap.size,0,none⟩),w3.alloc (.cells (u8s (List.replicate 16 0)).toArray 73),by
     show (execOp _ _).run prog w3=_;go_simp;rfl,⟨Nat.le_trans hBr (hdK.out _ hp.1).below.size,(Chg.refl _ _).alloc _⟩,w3.heap.size,rfl,(hdK.out _ hp.1).below.size,heap_alloc_new w3 _⟩) (fun u13=>?_)
   refine RA.stt (fun w5=>∃ b,u13=.pointer (some ⟨b,0,none⟩)∧wr.heap.size≤b∧Arr w5 b 73 (r j)∧Kept B wr w5∧St (j+1) w5) (by kernel_rfl) (by rfl) (by kernel_rfl) (fun a b h k=>by
    obtain⟨b1,h1,h2,h3,h4,h5⟩:=k;exact⟨b1,h1,h2,h3.keep (h.2.block b1 (heap_lt h3) id),h4.trans (Kept.chg h.1 h.2),hsft.out _ _ _ h5 (Soft.of_no h.2)⟩) (fun w3 hp0 hH=>by
    have hp:=hp0.first (by kernel_rfl);obtain⟨b1,rfl,h4,h5⟩:=hp.fact 0 rfl (by kernel_rfl);have hst:=block_store h5 List.length_replicate (r j) (hr.out j);rw[← hR.out] at hst;refine⟨_,RA.ex_store (by rfl) (by rfl) hst,b1,rfl,h4,by rw[hR.out];exact h5.setRow _,(hdK.out _ hp.1).put h4 hBr _,hsft.out _ _ _ hH ⟨by simp[World.setRow],fun g es c hg=>setRow_other _ _ _ _ ?_,fun g cs t m hg hc=>setRow_other _ _ _ _ ?_⟩⟩
    ·rintro rfl;have h1:some (Obj.map es c)=some (Obj.cells _ _ _):=hg.symm.trans h5;cases h1
    ·rintro rfl;have h1:=hg.symm.trans h5;simp only[Option.some.injEq,Obj.cells.injEq] at h1;obtain⟨_,rfl,_⟩:=h1;rcases hc with hc|hc
     ·omega
     ·exact hc.2 rfl) ?_
   refine RA.pas (by kernel_rfl) (by rfl) (by rfl) ?_;refine RA.RA.doneT (fun w5 hH=>?_);simp only[RA.put,List.foldr_cons,List.foldr_nil,cx,Act.put,List.setIfInBounds_toArray,List.set_cons_succ,List.set_cons_zero];obtain⟨b,rfl,hbn,hA,hK5,hS5⟩:=hH;have hK6:Kept B w w5:=hK.out.trans hK5;clear hcall hld hcut hks hsft hSd hdK hstep;rcases her.out j with e0|e9
   ·have hE0:E=0:=hEj.out.trans e0;have hSj:=hS5;subst hE0
    have ho5:w5.ownsRow w.heap.size 5 1 (.slice oa (16*j) oc) (16*j) (u8s (outs r j)):=owns_keep hO.out (fun g hg=>by
     obtain⟨cur,hc⟩:=own_cells hO.out hg;exact hK5.keep g _ _ _ hc (by decide) (by decide) (by decide))
    have hu:=arr_bytes hA (by rw[hr.out];unfold maxLen;omega);rw[hr.out] at hu
    have hu2:Cells w5 (fun _=>True) (.slice (some ⟨b,0,none⟩) 16 16) 16 1 (u8s (r j)):=by
     have h:Cells w5 (fun _=>True) (.slice (some ⟨b,0,none⟩) 16 16) (r j).length 1 (u8s (r j)):=hu;rw[hr.out] at h;exact h
    obtain⟨v',w6,hrun,r1,r2,_⟩:=own_push (P:=prog) (bytes:=1) underlying22 infoByte rfl (by decide) ho5 hK6.below.size (Chg.refl _ _) hu2 (u8s_one _) (by unfold maxLen;omega) (by omega) 22;rw[← u8s_append,← outs_succ,show 16*j+16=16*(j+1) by omega] at r1;have hown:∀ g,(Value.slice oa (16*j) oc).ownBlock=some g→w.heap.size≤g∧∃ cur,w5.heap[g]?=some (.cells cur 5 (0,0)):=fun g hg=>⟨(ho5.lt g hg).1,own_cells ho5 hg⟩
    have hS6:St (j+1) w6:=hsoft.out _ _ _ hSj ⟨r2.size,fun g es c hg=>r2.block g (heap_lt hg) (fun e=>by
      obtain⟨_,cur,hc⟩:=hown g e;have h1:=hg.symm.trans hc;cases h1),fun g cs t m hg hc=>r2.block g (heap_lt hg) (fun e=>by
      obtain⟨h1,cur,h2⟩:=hown g e;rcases hc with hc|hc
      ·omega
      ·have h3:=hg.symm.trans h2;simp only[Option.some.injEq,Obj.cells.injEq] at h3;exact hc.1 h3.2.1)⟩
    have hK7:Kept B w w6:=⟨hK6.below.trans (r2.below (Nat.le_trans hB hK6.below.size) (fun g hg e=>by have:=(hown g e).1;omega)),fun g cs t m hg h1 h2 h3=>(r2.block g (Nat.lt_of_lt_of_le (heap_lt hg) hK6.below.size) (fun e=>by have:=(hown g e).1;have:=heap_lt hg;omega)).trans (hK6.keep g cs t m hg h1 h2 h3)⟩;obtain⟨g',cp,rfl,_,_⟩:=own_shape r1 (by omega);obtain⟨L,hL⟩:∃ L,L=16*(j+1):=⟨_,rfl⟩;rw[← hL] at r1 hrun;replace hL:=LH hL;replace hrun:=LH hrun;replace r1:=LH r1;replace hS6:=LH hS6;replace hK7:=LH hK7;clear ho5 hu hu2 hown r2 hS5 hSj hA hK5 hK6 hO hS
    go_wp2_with (at_builtin;(refine wpList_app rfl _ _ 22 rfl _ _ _ rfl rfl hrun.out ?_))
    go_roundw
    case rel=>exact⟨j+1,by omega,by go_num,by have h:=r1.out;rw[hL.out] at h;rw[hL.out];exact h,hS6.out,hK7.out,fun i hi=>by
     rcases Nat.lt_succ_iff_lt_or_eq.1 hi with h|h
     ·exact hE.out i h
     ·rw[h];exact e0⟩
    case measure=>simp[intOf];omega
   ·have hE9:E=9:=hEj.out.trans e9;subst hE9;replace hK6:=LH hK6;replace hS5:=LH hS5;go_wp2;go_ret2;exact⟨j,by omega,hE.out,hK6.out,.inr ⟨hlt,e9,rfl,hS5.out⟩⟩
  ·have hjN':j=N:=by omega
   subst hjN';obtain⟨oa,oc,rfl,ho1,ho2⟩:=(Cells.own hO.out).shape;go_wp2;go_ret2;exact⟨j,Nat.le_refl _,hE.out,hK.out,.inl ⟨rfl,_,rfl,hO.out,hS.out⟩⟩
end Go.Proofs.YtbgfdbidbjlaaaaGreat.Fd

/-
  Texts of this claim, laid together by a program of mine. No condition beyond what each theorem names.
-/
import Derived.Test.YthmcbgidehjlbaaGreatRmGVolAPk
/-
  volume.sector, where nothing was synced. No condition beyond what each theorem names.
-/
namespace Go.Proofs.YthmcbgidehjlbaaGreat.Fd
open _root_.Go.Proofs.Tryz
open Go Go.RowKit Go.Shelf K
set_option maxRecDepth 100000
set_option maxHeartbeats 8000000
attribute [local go_sem] Oper.semAt_some
def pendL (ks:List (Nat×List UInt8)) (p:Nat) (d:List UInt8):List UInt8:=ks.foldl (fun b k=>if k.1=p then k.2 else b) d
theorem pendL_none:∀ (ks:List (Nat×List UInt8)) (p:Nat) (d:List UInt8),(∀ k ∈ ks,k.1≠p)→pendL ks p d=d:=by
 intro ks
 induction ks with
 | nil=>intro p d _;rfl
 | cons k ks ih=>
  intro p d h;show pendL ks p (if k.1=p then k.2 else d)=d;rw[if_neg (h k (by simp)),ih p d (fun k hk=>h k (by simp[hk]))]
theorem pendL_at:∀ (ks:List (Nat×List UInt8)) (p:Nat) (d:List UInt8) (j:Nat) (k:Nat×List UInt8),ks[j]?=some k→k.1=p→(∀ i k',j<i→ks[i]?=some k'→k'.1≠p)→pendL ks p d=k.2:=by
 intro ks
 induction ks with
 | nil=>intro p d j k h;simp at h
 | cons q ks ih=>
  intro p d j k h hk hl;cases j with
  | zero=>
   simp at h;subst h;show pendL ks p (if q.1=p then q.2 else d)=q.2;rw[if_pos hk];refine pendL_none ks p _ (fun k' hk'=>?_);obtain⟨i,hi,rfl⟩:=List.getElem_of_mem hk';exact hl (i+1) _ (by omega) (by simp[hi])
  | succ j=>
   show pendL ks p _=k.2;refine ih p _ j k (by simpa using h) hk (fun i k' hi hk'=>hl (i+1) k' (by omega) (by simpa using hk'))
theorem pendL_length (ks:List (Nat×List UInt8)) (p:Nat) (d:List UInt8) (n:Nat) (hd:d.length=n) (hk:∀ k ∈ ks,k.2.length=n):(pendL ks p d).length=n:=by
 induction ks generalizing d with
 | nil=>exact hd
 | cons k ks ih=>
  refine ih _ ?_ (fun k' hk'=>hk k' (by simp[hk']));show (if k.1=p then k.2 else d).length=n;split
  ·exact hk k (by simp)
  ·exact hd
theorem back_mem {E:List KE}{q:List KR}{x:KR}(h:q++[x] <+: backL E):E[x.2]?=some x.1∧∀ i y,x.2<i→E[i]?=some y→(y,i) ∈ q:=by
 obtain⟨r,hr⟩:=h
 have e:E.zipIdx=r.reverse++[x]++q.reverse:=by
  have:=congrArg List.reverse hr;simp only[backL,List.reverse_reverse,List.reverse_append,List.reverse_cons,List.reverse_nil,List.nil_append] at this;rw[← this];simp
 have h1:E.zipIdx[r.length]?=some x:=by
  rw[e,List.append_assoc,List.getElem?_append_right (by simp)];simp
 rw[List.getElem?_zipIdx] at h1;cases hE:E[r.length]? with
 | none=>rw[hE] at h1;simp at h1
 | some z=>
  rw[hE] at h1;simp at h1;obtain rfl:=h1;refine⟨by simpa using hE,fun i y hi hy=>?_⟩;have h2:E.zipIdx[i]?=some (y,i):=by rw[List.getElem?_zipIdx,hy];simp
  simp only at hi;rw[e,List.append_assoc,List.getElem?_append_right (by simp;omega),List.getElem?_append_right (by simp;omega)] at h2;have:=List.mem_of_getElem? h2
  simpa using this
theorem rows_of {α β:Type}(ks:List α) (P:Nat→α→β→Prop) (h:∀ j k,ks[j]?=some k→∃ x,P j k x):∃ E:List β,E.length=ks.length∧∀ j k x,ks[j]?=some k→E[j]?=some x→P j k x:=by
 classical
 induction ks generalizing P with
 | nil=>exact⟨[],rfl,fun j k x hk=>by simp at hk⟩
 | cons k ks ih=>
  obtain⟨x,hx⟩:=h 0 k rfl;obtain⟨E,hl,hE⟩:=ih (fun j k x=>P (j+1) k x) (fun j k hk=>h (j+1) k (by simpa using hk));refine⟨x::E,by simp[hl],fun j k' x' hk hx'=>?_⟩;cases j with
  | zero=>simp at hk hx';subst hk;subst hx';exact hx
  | succ j=>exact hE j k' x' (by simpa using hk) (by simpa using hx')
theorem act_gen {F:Fence}{n:Nat}{P:Program}{C:Code}{Q:Exit→Act→World→Prop}{a:Act}{w:World}(h:∀ A,A=a→C.wpIn F n P Q A w):C.wpIn F n P Q a w:=h a rfl
def SecI (s p:Nat) (W4:World) (pre:List KR) (W:World):Prop:=((∀ x ∈ pre,x.1.1≠p)∧Boxed W s 3 (.int .i64 p)∧Boxed W (s+1) 42 (.slice none 0 0)∧Boxed W (s+1+1) 47 (.int .i64 0))∧Below (s+4) W4 W
def SecX (s p:Nat) (w:World) (c:Code) (pre:List KR) (W:World):Prop:=(c=.ret∧∃ q x,pre=q++[x]∧(∀ y ∈ q,y.1.1≠p)∧x.1.1=p∧Boxed W (s+1) 42 (kv x.1)∧Boxed W (s+1+1) 47 (.int .i64 0))∧Below s w W
def SecA (A:Act) (x:KR) (a':Act) (W:World):Prop:=∃ g,a'={ tmps:=((A.tmps.setIfInBounds 15 (.int .i64 x.2)).setIfInBounds 16 (.agg #[.int .i64 x.1.1,.slice (some ⟨x.1.2.1,0,none⟩) 64 x.1.2.2])).setIfInBounds 7 (.pointer (some ⟨g,0,none⟩)),defers:=[] }∧W.heap[g]?=some (.cells #[.int .i64 x.1.1,.slice (some ⟨x.1.2.1,0,none⟩) 64 x.1.2.2] 111 (0,0))
def zero64:List UInt8:=List.replicate 64 0
theorem voSector_ok {w:World}{v m:Nat}{L:List UInt8}{ks:List (Nat×List UInt8)}{lat:Bool}(h:VolAt w v m L ks lat) (p:Nat) (hp:p<50) (h0:bitB L p=false):
  Calls prog 49 #[.pointer (some ⟨v,0,none⟩),.int .i64 p] w fun e w'=>∃ g c,e=.returned (.tuple #[.slice (some ⟨g,0,none⟩) 64 c,.int .i64 0])∧Bytes w' (fun _=>True) (.slice (some ⟨g,0,none⟩) 64 c) (pendL ks p zero64)∧Below w.heap.size w w':=by
 obtain⟨pa,pc,c110,hpe⟩:=h.pend;have hfew:=h.few
 obtain⟨E,hEl,hEr⟩:=rows_of ks (fun (j:Nat) (k:Nat×List UInt8) (x:KE)=>x.1=k.1∧k.2.length=64∧(∃ pg,pa=some ⟨pg,0,none⟩∧pg<w.heap.size∧w.cell? ⟨pg,j*2,none⟩=some (.int .i64 x.1)∧w.cell? ⟨pg,j*2+1,none⟩=some (kv x))∧Bytes w (fun _=>True) (kv x) k.2) (fun j k hk=>by
  obtain⟨pg,ug,uc,h1,h2,h3,h4,h5,h6⟩:=hpe j k hk;exact⟨(k.1,ug,uc),rfl,h5,⟨pg,h1,h2,h3,h4⟩,h6⟩)
 rw[← hEl] at c110 hfew
 have hEk:∀ (j:Nat) (x:KE),E[j]?=some x→∃ k:Nat×List UInt8,ks[j]?=some k∧x.1=k.1∧k.2.length=64∧(∃ pg,pa=some ⟨pg,0,none⟩∧pg<w.heap.size∧w.cell? ⟨pg,j*2,none⟩=some (.int .i64 x.1)∧w.cell? ⟨pg,j*2+1,none⟩=some (kv x))∧Bytes w (fun _=>True) (kv x) k.2:=fun j x hx=>by
  have hj:j<ks.length:=by rw[← hEl];exact (List.getElem?_eq_some_iff.1 hx).1
  exact⟨ks[j],List.getElem?_eq_getElem hj,hEr j _ x (List.getElem?_eq_getElem hj) hx⟩
 have hkE:∀ (j:Nat) (k:Nat×List UInt8),ks[j]?=some k→∃ x:KE,E[j]?=some x∧x.1=k.1:=fun j k hk=>by
  have hj:j<E.length:=by rw[hEl];exact (List.getElem?_eq_some_iff.1 hk).1
  exact⟨E[j],List.getElem?_eq_getElem hj,(hEr j k _ hk (List.getElem?_eq_getElem hj)).1⟩
 obtain⟨ln,hln⟩:∃ n,n=E.length:=⟨_,rfl⟩;rw[← hln] at c110 hfew;replace hln:=LH hln;have HEk:=LH hEk;have HkE:=LH hkE;have hHas:=LH (fun w1 (hb:Below w.heap.size w w1)=>mkHas_ok (h.after hb).marks p hp);rw[h0] at hHas;have HC:=LH (fun w1 (hb:Below w.heap.size w w1)=>(h.after hb).cells);have hvl:=cell_lt c110;clear hpe hEr hEk hkE h hEl h0;refine (callsIn_wide (n:=3)).1 ?_;refine callsIn_of_wp_marks func49 rfl trivial ?_ rfl;simp only[ntmps49,List.size_toArray,List.length_cons,List.length_nil,Nat.reduceAdd,Nat.reduceSub,Array.replicate_succ,Array.replicate_zero,List.push_toArray,List.append_toArray,List.nil_append,List.cons_append];refine wpIn_wide.2 ?_;have b0:=((Boxed.new w 3 (.int .i64 p)).alloc (.cells #[.slice none 0 0] 42)).alloc (.cells #[.int .i64 0] 47);have b1:=(Boxed.new (w.alloc (.cells #[.int .i64 p] 3)) 42 (.slice none 0 0)).alloc (.cells #[.int .i64 0] 47);have b2:=Boxed.new ((w.alloc (.cells #[.int .i64 p] 3)).alloc (.cells #[.slice none 0 0] 42)) 47 (.int .i64 0);have hb3:Below w.heap.size w (((w.alloc (.cells #[.int .i64 p] 3)).alloc (.cells #[.slice none 0 0] 42)).alloc (.cells #[.int .i64 0] 47)):=((((Below.refl _ w).alloc (Nat.le_refl _) _).alloc (by simp) _).alloc (by simp;omega) _);simp only[World.size_alloc] at b1 b2;have hs3:(((w.alloc (.cells #[.int .i64 p] 3)).alloc (.cells #[.slice none 0 0] 42)).alloc (.cells #[.int .i64 0] 47)).heap.size=w.heap.size+3:=by simp
 have c4':=(hb3.cell (p:=⟨v,110,none⟩) hvl).trans c110;replace b0:=LH b0;replace b1:=LH b1;replace b2:=LH b2;replace hb3:=LH hb3;replace hs3:=LH hs3;replace hln:=LH hln
 go_wp2_with fail
 refine (backK_ok _ _ _ _).mono ?_;rintro e w1 ⟨rfl,rfl⟩;clear c4';replace b0:=b0.out;replace b1:=b1.out;replace b2:=b2.out;replace hb3:=hb3.out;replace hs3:=hs3.out;generalize (((w.alloc (.cells #[.int .i64 p] 3)).alloc (.cells #[.slice none 0 0] 42)).alloc (.cells #[.int .i64 0] 47))=W3 at*;have bk:=Boxed.new W3 102 (.slice pa ln pc);have hb4:Below w.heap.size w (W3.alloc (.cells #[.slice pa ln pc] 102)):=hb3.alloc (by omega) _;have b0':=b0.alloc (.cells #[.slice pa ln pc] 102);have b1':=b1.alloc (.cells #[.slice pa ln pc] 102);have b2':=b2.alloc (.cells #[.slice pa ln pc] 102);have hs4:(W3.alloc (.cells #[.slice pa ln pc] 102)).heap.size=w.heap.size+4:=by simp;omega
 have bkc:=bk.cell;have bkl:=bk.lt;rw[hs3] at bkc bkl ⊢;generalize (W3.alloc (.cells #[.slice pa ln pc] 102))=W4 at*;clear b0 b1 b2 hb3 bk
 have hst:=backK_stops .wide 2 trivial rfl (by omega) (w.heap.size+3) (w.heap.size+4) pa pc E (by rw[← hln.out];exact hfew) W4 (by omega) (by omega) (by rw[← hln.out];exact bkc) (fun j x hx=>by
  obtain⟨k,_,_,_,⟨pg,h1,h2,h3,h4⟩,_⟩:=HEk.out j x hx;exact⟨pg,h1,by omega,(hb4.cell (p:=⟨pg,j*2,none⟩) h2).trans h3,(hb4.cell (p:=⟨pg,j*2+1,none⟩) h2).trans h4⟩)
 go_wp2_with fail
 refine (wpIn_wide (n:=3)).1 ?_;refine act_gen (fun A hA=>?_)
 refine wpIn_rangeFunc_ownH (F:=.wide) (n:=3) (P:=prog) (α:=KR) rfl (by omega) (gf:=107) (lb:=#[.pointer (some ⟨w.heap.size+3,0,none⟩)]) (by rw[hA];rfl) trivial (enters_of func107 (by kernel_rfl) rfl) hst belowK_t (belowK_b (by omega)) (Below.refl _ _) (fun x=>rfl)
  (SecI w.heap.size p W4) (SecX w.heap.size p w)
  (OwnFrom.and (Own.from (fun s A B row hs hg hr=>⟨hs.1,boxed_own _ _ (fun _=>_) s A B row hs.2.1 hg hr,boxed_own _ _ (fun _=>_) s A B row hs.2.2.1 hg hr,boxed_own _ _ (fun _=>_) s A B row hs.2.2.2 hg hr⟩) _) (ownFrom_below (by omega) (by omega)))
  (fun c=>OwnFrom.and (Own.from (fun s A B row hs hg hr=>by
   obtain⟨hc,q,x,h1,h2,h3,h4,h5⟩:=hs;exact⟨hc,q,x,h1,h2,h3,boxed_own _ _ (fun _=>_) s A B row h4 hg hr,boxed_own _ _ (fun _=>_) s A B row h5 hg hr⟩) _) (ownFrom_below (Nat.le_refl _) (by omega)))
  ⟨⟨by simp,b0',b1',b2'⟩,Below.refl _ _⟩
  (SecA A)
  ?ax ?assign ?body ?done ?stop
 case ax=>
  rintro x a' _ X Y row ⟨g,e,hg⟩ hgr hr;refine⟨g,e,(hgr.block g (heap_lt hg) (fun er=>?_)).trans hg⟩;obtain⟨_,o,ho,hc⟩:=hr g er.symm;rw[hg] at ho;cases ho
  cases hc
 case assign=>
  rintro l pre ⟨⟨q,ug,uc⟩,j⟩ W K hI hK;have hW4:w.heap.size+4≤W.heap.size:=by have:=hI.2.size;omega
  have hK1:=hK _ (W.alloc (.cells #[.int .i64 q,.slice (some ⟨ug,0,none⟩) 64 uc] 111)) ((KeepsOthers.alloc W _).from _) ((Below.refl _ _).alloc hW4 _) ⟨⟨hI.1.1,hI.1.2.1.alloc _,hI.1.2.2.1.alloc _,hI.1.2.2.2.alloc _⟩,hI.2.alloc hW4 _⟩ ⟨W.heap.size,rfl,heap_alloc_new W _⟩;rw[hA] at hK1;replace hK:=LH hK1;rw[hA];unfold encK;clear hK1
  gi_wp2
  exact hK.out
 case body=>
  rintro l pre ⟨⟨q,ug,uc⟩,j⟩ a' W - - hI ⟨g,rfl,hg⟩ -;rw[hA];have hW4:w.heap.size+4≤W.heap.size:=by have:=hI.2.size;omega
  have hc0:=cell_of hg 0;have hc1:=cell_of hg 1;have z0:=hI.1.2.1.cell;have z1:=hI.1.2.2.1.cell;have f1:=hI.1.2.2.1.frozen;have z2:=hI.1.2.2.2.cell;have f2:=hI.1.2.2.2.frozen;replace hI:=LH hI
  gi_wp2
  ·rename_i hx
   have hx':q=p:=by
    have:(q:Int)=p:=by simpa using hx
    omega
   have hI:=hI.out;have e1:Boxed ((W.setCell ⟨w.heap.size+1,0,none⟩ (kv (q,ug,uc))).setCell ⟨w.heap.size+1+1,0,none⟩ (.int .i64 0)) _ _ _:=(hI.1.2.2.1.set (kv (q,ug,uc))).kept (grownBy_setCell' _ _ (.int .i64 0)) (by simp);have e2:Boxed ((W.setCell ⟨w.heap.size+1,0,none⟩ (kv (q,ug,uc))).setCell ⟨w.heap.size+1+1,0,none⟩ (.int .i64 0)) _ _ _:=(hI.1.2.2.2.kept (grownBy_setCell' _ _ (kv (q,ug,uc))) (by simp)).set (.int .i64 0);refine⟨((KeepsOthers.setCell _ _ _).trans (KeepsOthers.setCell _ _ _)).from _,⟨rfl,pre,_,rfl,hI.1.1,hx',e1,e2⟩,?_⟩;exact ((hb4.trans (hI.2.mono (by omega))).setCell (p:=⟨w.heap.size+1,0,none⟩) (by simp) _).setCell (p:=⟨w.heap.size+1+1,0,none⟩) (by simp;omega) _
  ·rename_i hx
   have hx':q≠p:=by
    have:¬ (q:Int)=p:=by simpa using hx
    omega
   have hI:=hI.out;refine⟨KeepsFrom.refl _ _,Below.refl _ _,⟨fun x hm=>?_,hI.1.2⟩,hI.2⟩;rcases List.mem_append.1 hm with h|h
   ·exact hI.1.1 x h
   ·simp at h;subst h;exact hx'
 case stop=>
  rintro D c pre W hD hpre ⟨⟨rfl,q,x,rfl,hq,hx,h1,h2⟩,hB⟩ hK;rw[hA];obtain⟨he,hlast⟩:=back_mem hpre;obtain⟨k,hk,hk1,hk2,_,hkb⟩:=HEk.out _ _ he
  have hp1:=pendL_at ks p zero64 _ k hk (by rw[← hk1];exact hx) (fun i k' hi hk' e=>by
   obtain⟨y,hy,hy1⟩:=HkE.out i k' hk';exact hq _ (hlast i y hi hy) (by rw[hy1];exact e))
  obtain⟨⟨q1,ug,uc⟩,j⟩:=x
  gi_wp2
  refine⟨by simp,.inl ⟨_,_,rfl,run_takeDeferred hK,?_⟩⟩;have hg5:=grownBy_putObj' W D (.deferred none);have hne:∀ k,k<w.heap.size+4→some k≠some D:=fun k hk e=>by simp at e;omega
  have e1:=(h1.kept hg5 (hne _ (by omega))).cell;have e2:=(h2.kept hg5 (hne _ (by omega))).cell;have hB2:Below w.heap.size w (W.putObj D (.deferred none)):=hB.trans (belowK_b (w:=w) (Nat.le_refl _) W D _ _ (by omega) hK rfl rfl);refine⟨.tuple #[.slice (some ⟨ug,0,none⟩) 64 uc,.int .i64 0],?_,ug,uc,rfl,?_,hB2⟩
  ·simp[results,f49,go_sem,e1,e2,kv]
  ·exact hkb.chg (Chg.of_below hB2 No) (fun _ _ _=>id)
 case done=>
  rintro D ys W hD rfl hI hK
  have hp0:=pendL_none ks p zero64 (fun k hk e=>by
   obtain⟨i,hi,rfl⟩:=List.getElem_of_mem hk;obtain⟨y,hy,hy1⟩:=HkE.out i _ (List.getElem?_eq_getElem hi);refine hI.1.1 (y,i) ?_ (by rw[hy1];exact e);unfold backL;rw[List.mem_reverse];refine List.mem_of_getElem? (i:=i) ?_;rw[List.getElem?_zipIdx,hy];simp)
  rw[hA];have hbW:Below w.heap.size w W:=hb4.trans (hI.2.mono (by omega));obtain⟨_,_,_,_,c7,_⟩:=HC.out W hbW;have hdr:=LH (show ∀ w3,Chg No W.drew w3→Chg No W w3 from fun w3 h=>⟨h.os,h.tape,h.output,h.size,h.block⟩);have z0:=hI.1.2.1.cell;have hc7:=LH (fun w3 (h:Chg No W.drew w3)=>(((hdr.out w3 h).cell (p:=⟨v,107,none⟩) (cell_lt c7) id).trans c7));have hc0:=LH (fun w3 (h:Chg No W.drew w3)=>(((hdr.out w3 h).cell (p:=⟨w.heap.size,0,none⟩) (cell_lt z0) id).trans z0));have hha:=LH (fun w3 (h:Chg No W.drew w3)=>hHas.out w3 (hbW.trans ((hdr.out w3 h).no.mono hbW.size)));have hI':=LH hI;have hK':=LH hK;clear c7 z0 hI hK hbW hHas HC
  go_wp2_with fail
  refine RA.rt (Chg No) [1,1,1,1,1,1,4,1] [] (fun _=>True) trivial (fun _=>Chg.refl _ _) (fun _ _ _ h k=>h.trans k) (h:=?_);intro cx
  repeat refine RA.qq (h:=?_)
  refine RA.fk prog (v) (106) (h:=?_);refine RA.fk prog (v) (107) (h:=?_);refine RA.lk prog (.pointer (some ⟨m,0,none⟩)) (hc:=fun w3 hp=>by exact hc7.out _ hp.1) (h:=?_);refine RA.lk prog (.int .i64 p) (hc:=fun w3 hp=>by exact hc0.out _ hp.1) (h:=?_);refine RA.kc (P:=prog) [.pointer (some ⟨m,0,none⟩),.int .i64 p] (.bool false) (fun _=>True) (fun _ _=>by go_simp) (by kernel_rfl) (by rfl) (by rfl) (by kernel_rfl) (fun _ _ _ h=>h) rfl (fun w3 hp hH=>(hha.out w3 hp.1).mono (by rintro e w4 ⟨rfl,rfl⟩;exact⟨rfl,Chg.refl _ _,trivial⟩)) ?_;refine RA.nt (by rfl) (by rfl) (by rfl) ?_;refine RA.RA.done rfl (fun w6 hR hF hH=>?_);clear hF hH;simp only[RA.put,List.foldr_cons,List.foldr_nil,cx,Act.put,List.setIfInBounds_toArray,List.set_cons_succ,List.set_cons_zero]
  try simp only[Bool.not_true]
  try simp only[Bool.not_false]
  have hC6:=hdr.out _ hR;have hI6:=hI'.out;have z1:=(show Boxed w6 _ _ _ from (hC6.block _ hI6.1.2.2.1.lt id).trans hI6.1.2.2.1);have z2:=(show Boxed w6 _ _ _ from (hC6.block _ hI6.1.2.2.2.lt id).trans hI6.1.2.2.2);have hK6:=(hC6.block D (heap_lt hK'.out) id).trans hK'.out;have hW6:Below w.heap.size w w6:=hb4.trans ((hI6.2.mono (by omega)).trans (hC6.no.mono (by have:=hI6.2.size;omega)));have hs6:w.heap.size+4≤w6.heap.size:=by have:=hI6.2.size;have:=hC6.size;omega
  obtain⟨n6,hn6⟩:∃ n,n=w6.heap.size:=⟨_,rfl⟩;obtain⟨w7,hw7⟩:∃ w7,w7=w6.alloc (.cells (u8s zero64).toArray 5):=⟨_,rfl⟩;have hmk:=mk_z w6 64 64 rfl (by decide);rw[← hn6] at hmk;replace hmk:(Instr.makeSlice 42 (.int .i64 64) (.int .i64 64)).run prog w6=.ok (.slice (some ⟨n6,0,none⟩) 64 64) w7:=by rw[hw7];exact hmk
  have x7:w7.heap[n6]?=some (.cells (u8s zero64).toArray 5 (0,0)):=by rw[hw7,hn6];exact heap_alloc_new w6 _
  have y1:Boxed w7 (w.heap.size+1) 42 (.slice none 0 0):=by rw[hw7];exact z1.alloc _
  have y2:Boxed w7 (w.heap.size+1+1) 47 (.int .i64 0):=by rw[hw7];exact z2.alloc _
  have hK7:w7.heap[D]?=some (.deferred (some [])):=by rw[hw7];exact (Below.heap_alloc _ _ _ (heap_lt hK6)).trans hK6
  have hW7:Below w.heap.size w w7:=by rw[hw7];exact hW6.alloc (by omega) _
  have c1:=y1.cell;have f1:=y1.frozen;have c2:=y2.cell;have f2:=y2.frozen;clear hI6 hC6 hR hI' hK' hha hc0 hc7 hdr hst hA HEk HkE;have hn6':=LH hn6;have hw7':=LH hw7;have Y:=LH (And.intro y1 (And.intro y2 (And.intro hK7 (And.intro hW7 x7))));clear hn6 hw7 y1 y2 hK7 hW7 x7 z1 z2 hK6 hW6;go_wp2;obtain⟨y1,y2,hK7,hW7,x7⟩:=Y.out;have hn6:=hn6'.out;have x1':Boxed ((w7.setCell ⟨w.heap.size+1,0,none⟩ (.slice (some ⟨n6,0,none⟩) 64 64)).setCell ⟨w.heap.size+1+1,0,none⟩ (.int .i64 0)) _ _ _:=(y1.set (.slice (some ⟨n6,0,none⟩) 64 64)).kept (grownBy_setCell' _ _ (.int .i64 0)) (by simp);have x2':Boxed ((w7.setCell ⟨w.heap.size+1,0,none⟩ (.slice (some ⟨n6,0,none⟩) 64 64)).setCell ⟨w.heap.size+1+1,0,none⟩ (.int .i64 0)) _ _ _:=(y2.kept (grownBy_setCell' _ _ (.slice (some ⟨n6,0,none⟩) 64 64)) (by simp)).set (.int .i64 0)
  have hK5:((w7.setCell ⟨w.heap.size+1,0,none⟩ (.slice (some ⟨n6,0,none⟩) 64 64)).setCell ⟨w.heap.size+1+1,0,none⟩ (.int .i64 0)).heap[D]?=some (.deferred (some [])):=by
   rw[setCell_heap_ne _ _ _ (by simp;omega),setCell_heap_ne _ _ _ (by simp;omega)];exact hK7
  have hx5:((w7.setCell ⟨w.heap.size+1,0,none⟩ (.slice (some ⟨n6,0,none⟩) 64 64)).setCell ⟨w.heap.size+1+1,0,none⟩ (.int .i64 0)).heap[n6]?=some (.cells (u8s zero64).toArray 5 (0,0)):=by
   rw[setCell_heap_ne _ _ _ (by simp;omega),setCell_heap_ne _ _ _ (by simp;omega)];exact x7
  have hw5:Below w.heap.size w ((w7.setCell ⟨w.heap.size+1,0,none⟩ (.slice (some ⟨n6,0,none⟩) 64 64)).setCell ⟨w.heap.size+1+1,0,none⟩ (.int .i64 0)):=(hW7.setCell (p:=⟨w.heap.size+1,0,none⟩) (by simp) _).setCell (p:=⟨w.heap.size+1+1,0,none⟩) (by simp;omega) _;generalize ((w7.setCell ⟨w.heap.size+1,0,none⟩ (.slice (some ⟨n6,0,none⟩) 64 64)).setCell ⟨w.heap.size+1+1,0,none⟩ (.int .i64 0))=W5 at*;refine⟨by simp,.inl ⟨_,_,rfl,run_takeDeferred hK5,?_⟩⟩;have hg5:=grownBy_putObj' W5 D (.deferred none);have hne:∀ k,k<w.heap.size+4→some k≠some D:=fun k hk e=>by simp at e;omega
  have e1:=(x1'.kept hg5 (hne _ (by omega))).cell;have e2:=(x2'.kept hg5 (hne _ (by omega))).cell
  have hDn:n6≠D:=by
   rintro rfl;rw[hK5] at hx5;cases hx5
  have e3:=(hg5.block n6 (heap_lt hx5) (by simp;exact hDn)).trans hx5;have hB2:Below w.heap.size w (W5.putObj D (.deferred none)):=hw5.trans (belowK_b (w:=w) (Nat.le_refl _) W5 D _ _ (by omega) hK5 rfl rfl);refine⟨.tuple #[.slice (some ⟨n6,0,none⟩) 64 64,.int .i64 0],?_,n6,64,rfl,?_,hB2⟩
  ·simp[results,f49,go_sem,e1,e2]
  ·rw[hp0];have ho:(W5.putObj D (.deferred none)).ownsRow 0 5 1 (.slice (some ⟨n6,0,none⟩) 64 64) 64 (u8s zero64):=⟨by decide,.inr ⟨n6,64,_,rfl,Nat.zero_le _,e3,by decide,by decide,by decide,rfl⟩⟩;show Cells _ _ _ _ _ _;exact (Cells.own ho).mono (fun _ _ _=>trivial)
end Go.Proofs.YthmcbgidehjlbaaGreat.Fd
/-
  volume.Read of what is pending. No condition beyond what each theorem names.
-/
namespace Go.Proofs.YthmcbgidehjlbaaGreat.Fd
open _root_.Go.Proofs.Tryz
open Go Go.RowKit K
set_option maxRecDepth 100000
set_option maxHeartbeats 8000000
def readL (ks:List (Nat×List UInt8)) (i:Nat):Nat→List UInt8
 | 0=>[]
 | n+1=>readL ks i n++pendL ks (i+n) zero64
theorem readL_length {ks:List (Nat×List UInt8)}(h:∀ k ∈ ks,k.2.length=64) (i:Nat):∀ n,(readL ks i n).length=n*64
 | 0=>rfl
 | n+1=>by
  rw[readL,List.length_append,readL_length h i n,pendL_length ks _ zero64 64 rfl h];omega
theorem VolAt.lens {w:World}{v m:Nat}{L:List UInt8}{ks:List (Nat×List UInt8)}{lat:Bool}(h:VolAt w v m L ks lat):∀ k ∈ ks,k.2.length=64:=fun k hk=>by
 obtain⟨pa,pc,_,hpe⟩:=h.pend;obtain⟨j,hj,rfl⟩:=List.getElem_of_mem hk;obtain⟨_,_,_,_,_,_,_,h5,_⟩:=hpe j _ (List.getElem?_eq_getElem hj);exact h5
theorem voRead_ok {w:World}{v m:Nat}{L:List UInt8}{ks:List (Nat×List UInt8)}{lat:Bool}(h:VolAt w v m L ks lat) (i n:Nat) (hin:i+n≤50) (hbit:∀ p,p<50→bitB L p=false):
  Calls prog 18 #[.pointer (some ⟨v,0,none⟩),.int .i64 i,.int .i64 n] w fun e w'=>∃ u,e=.returned (.tuple #[u,.int .i64 0])∧w'.ownsRow w.heap.size 5 1 u (n*64) (u8s (readL ks i n))∧Below w.heap.size w w':=by
 have hz1:(Value.int .u8 0).cells.size=1:=rfl;have hwi:=LH (voWithin_ok h i n hin);have hsec:=LH (fun w1 (hb:Below w.heap.size w w1) (p:Nat) (hp:p<50)=>voSector_ok (h.after hb) p hp (hbit p hp));have hlen:=LH (readL_length h.lens i);have hpl:=LH (fun p=>pendL_length ks p zero64 64 rfl h.lens);have hS:=LH (fun (j:Nat)=>(show readL ks i (j+1)=readL ks i j++pendL ks (i+j) zero64 from rfl));have h0:=LH (show readL ks i 0=[] from rfl);have hn64:¬ (64:Int)<n:=by omega
 clear h hbit;go_enter func18,ntmps18
 go_wp2_with fail
 refine hwi.out.mono ?_;rintro e w1 ⟨rfl,hb1⟩;replace hb1:=LH hb1;clear hwi;go_wp2
 go_loopg [6,25] n (fun g o ix wr=>∃ j:Nat,j+g=n∧ix=.int .i64 j∧Hid (wr.ownsRow w.heap.size 5 1 o (j*64) (u8s (readL ks i j)))∧Hid (Below w.heap.size w wr))
 case atStart=>exact⟨0,by omega,rfl,by show World.ownsRow _ _ _ _ _ _ _;rw[h0.out];exact World.ownsRow_nil _ _ _ _,hb1.out⟩
 case round=>
  obtain⟨j,hjg,rfl,HO,HB⟩:=hrel;clear hb1;by_cases hlt:j<n
  ·obtain⟨g1,rfl⟩:∃ i,gk=i+1:=⟨gk - 1,by omega⟩;have hlI:(j:Int)<n:=by omega
   obtain⟨p,hp⟩:∃ p,p=i+j:=⟨_,rfl⟩;have hs:=LH (hsec.out wr HB.out p (by omega));have hpI:(i:Int)+j=p:=by omega
   have hs1:=hS.out j;have hPl:=hpl.out p;rw[← hp] at hs1;obtain⟨PP,hPP⟩:∃ x,x=pendL ks p zero64:=⟨_,rfl⟩;rw[← hPP] at hs hs1 hPl;replace hPP:=LH hPP;replace hs1:=LH hs1;replace hPl:=LH hPl;replace hp:=LH hp
   go_wp2_with fail
   refine hs.out.mono ?_;rintro e w3 ⟨ug,uc,rfl,hub,hb3⟩;have HO3:=owns_keep HO.out (fun g hg=>hb3.block g (owns_lt HO.out g hg));have HB3:=HB.out.trans (hb3.mono HB.out.size);have HBK:=LH (fun g=>owns_ge HO3 g);have hws:=HB3.size;replace hub:=LH hub;replace HB3:=LH HB3;clear hs hb3 HO HB
   go_wp2_with (at_builtin;refine K.append ?_ (.tmp 39) (.tmp 40) 42 ?_ w.heap.size 5 (.int .u8 0) 1 1 underlying42 infoByte hz1 (by omega) _ (j*64) _ ?_ HO3 (fun _=>True) _ 64 (u8s PP) ?_ (by have h:=hub.out;unfold Bytes at h;rw[hPl.out] at h;exact h) (K.u8s_one PP) (by unfold maxLen;omega) (by omega) ?_ ?_)
   any_goals (first|rfl|omega)
   intro v3 w4 y1 y2 y3 y4;have Y1:=LH y1;have hb4:=LH ((Chg.of_below HB3.out No).grown y2 (fun g hg hl=>absurd (HBK.out g hg) (by omega))).no;clear y1 y2 y3 y4;go_wp2;go_roundg g1
   case measure=>omega
   case rel=>
    refine⟨j+1,by omega,by go_num,?_,hb4.out⟩;show World.ownsRow _ _ _ _ _ _ _;have h:=Y1.out;rw[hs1.out,u8s_append,show (j+1)*64=j*64+64 by omega];exact h
  ·obtain rfl:gk=0:=by omega
   obtain rfl:j=n:=by omega
   have hlI:¬ (j:Int)<j:=by omega
   clear hjg hlt;go_wp2;go_ret2;exact⟨_,rfl,HO.out,HB.out⟩
end Go.Proofs.YthmcbgidehjlbaaGreat.Fd

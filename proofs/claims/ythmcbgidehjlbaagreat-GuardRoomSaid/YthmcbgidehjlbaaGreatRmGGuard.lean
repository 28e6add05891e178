/-
  guard: New, Tripped, Areas, Write. No condition beyond what each theorem names.
-/
import Derived.Test.YthmcbgidehjlbaaGreatRmGSectorPk
import Derived.Test.YthmcbgidehjlbaaGreatRmGDel
namespace Go.Proofs.YthmcbgidehjlbaaGreat.Fd
open _root_.Go.Proofs.Tryz
open Go Go.RowKit Go.Shelf K
set_option maxRecDepth 100000
set_option maxHeartbeats 8000000
def GuardAt (w:World) (k v:Nat) (l:List P.Ar) (trip:Bool):Prop:=∃ g cap,w.heap[k]?=some (.cells #[.pointer (some ⟨v,0,none⟩),.slice (some ⟨g,0,none⟩) l.length cap,.bool trip] 52 (0,0))∧P.RowA w g cap l
theorem GuardAt.keep {w w':World}{k v:Nat}{l:List P.Ar}{trip:Bool}(h:GuardAt w k v l trip) (hk:∀ (g:Nat) (cs:Array Value) (t:TypeId),t=52∨t=27→w.heap[g]?=some (.cells cs t (0,0))→w'.heap[g]?=w.heap[g]?):GuardAt w' k v l trip:=by
 obtain⟨g,cap,h1,cur,h2,h3⟩:=h;exact⟨g,cap,(hk _ _ _ (.inl rfl) h1).trans h1,cur,(hk _ _ _ (.inr rfl) h2).trans h2,h3⟩
theorem GuardAt.after {w w':World}{k v:Nat}{l:List P.Ar}{trip:Bool}(h:GuardAt w k v l trip) (hb:Below w.heap.size w w'):GuardAt w' k v l trip:=h.keep (fun g _ _ _ hg=>hb.block g (heap_lt hg))
theorem guNew_ok {w:World}(v:Nat){S:Nat→Prop}{ad:Addr}{n cap:Nat}{l:List P.Ar}(hb:Cells w S (.slice (some ad) n cap) n 2 (P.arCells l)) (hl:n≤1000):
  Calls prog 10 #[.pointer (some ⟨v,0,none⟩),.slice (some ad) n cap] w fun e w'=>∃ k,e=.returned (.pointer (some ⟨k,0,none⟩))∧w.heap.size≤k∧GuardAt w' k v (l.filter P.cntB) false∧Below w.heap.size w w':=by
 have hnl:n=l.length:=by have:=hb.1;rw[P.arCells_length] at this;omega
 have hcl:=LH (P.cloneA_ok hb (by omega));replace hnl:=LH hnl;clear hb;go_enter func10,ntmps10
 go_wp2_with fail
 refine hcl.out.mono ?_;rintro e w1 ⟨g,c,rfl,hrow,hg,hb1⟩;have hde:=P.del_ok hrow (by rw[← hnl.out];omega);rw[← hnl.out] at hde;replace hde:=LH hde;replace hrow:=LH hrow;clear hcl
 go_wp2_with fail
 refine hde.out.mono ?_;rintro e w2 ⟨rfl,hr2,hc2⟩;have hb2:=hc2.below hb1.size (fun i hi e=>by omega);have hbw:=hb1.trans hb2
 have hf:GuardAt (w2.alloc (.cells #[.pointer (some ⟨v,0,none⟩),.slice (some ⟨g,0,none⟩) (l.filter P.cntB).length c,.bool false] 52)) w2.heap.size v (l.filter P.cntB) false:=⟨g,c,heap_alloc_new w2 _,by
  obtain⟨cur,h1,h2⟩:=hr2;exact⟨cur,(Below.heap_alloc _ _ _ (heap_lt h1)).trans h1,h2⟩⟩
 have hbf:=hbw.alloc hbw.size (.cells #[.pointer (some ⟨v,0,none⟩),.slice (some ⟨g,0,none⟩) (l.filter P.cntB).length c,.bool false] 52);replace hf:=LH hf;replace hbf:=LH hbf;have hkl:=LH hbw.size;clear hr2 hc2 hb2 hbw hb1 hde;go_wp2;go_ret;exact⟨_,rfl,hkl.out,hf.out,hbf.out⟩
theorem guTripped_ok {w:World}{k v:Nat}{l:List P.Ar}{trip:Bool}(h:GuardAt w k v l trip):Calls prog 21 #[.pointer (some ⟨k,0,none⟩)] w fun e w'=>e=.returned (.bool trip)∧w=w':=by
 obtain⟨g,cap,h1,_⟩:=h;have c:=cell_of h1 2;clear h1;go_enter func21,ntmps21;go_wp2;go_ret;exact⟨rfl,rfl⟩
theorem guTripped_nil (w:World):Calls prog 21 #[.pointer none] w fun e w'=>e=.returned (.bool false)∧w=w':=by
 go_enter func21,ntmps21;go_wp2;go_ret;exact⟨rfl,rfl⟩
theorem guAreas_ok {w:World}{k v:Nat}{l:List P.Ar}{trip:Bool}(h:GuardAt w k v l trip) (hl:l.length≤1000):Calls prog 33 #[.pointer (some ⟨k,0,none⟩)] w fun e w'=>∃ g c,e=.returned (.slice (some ⟨g,0,none⟩) l.length c)∧Below w.heap.size w w':=by
 obtain⟨g,cap,h1,hrow⟩:=h;have c:=cell_of h1 1;have hcl:=LH (P.cloneA_ok hrow.cells (by omega));clear h1 hrow;go_enter func33,ntmps33
 go_wp2_with fail
 refine hcl.out.mono ?_;rintro e w1 ⟨g1,c1,rfl,-,-,hb1⟩;replace hb1:=LH hb1;go_wp2;go_ret;exact⟨_,_,rfl,hb1.out⟩
theorem guAreas_nil (w:World):Calls prog 33 #[.pointer none] w fun e w'=>e=.returned (.slice none 0 0)∧w=w':=by
 go_enter func33,ntmps33;go_wp2;go_ret;exact⟨rfl,rfl⟩
theorem run_area_first (x y:Int) (w:World):(Instr.field 27 (.agg #[.int .i64 x,.int .i64 y]) 0).run prog w=.ok (.int .i64 x) w:=by
 have u3:=underlying3;have a3:=Tryz.isAgg3;have z3:=Tryz.sizeOf3;unfold Instr.field;simp only[Sem.run_bind,run_underlying underlying27,Result.andThen_ok];have h:=run_part_plain (P:=prog) (w:=w) (e:=3) (xs:=#[.int .i64 x,.int .i64 y]) (off:=0) (v:=.int .i64 x) (by kernel_rfl) rfl;exact h
theorem guWrite1_ok {w:World}{mb:Nat}{x y p n:Int}(hm:w.heap[mb]?=some (.cells #[.int .i64 p,.int .i64 n] 27 (0,0))) (hx:0≤x∧x≤1000000000∧y≤1000000000) (hp:0≤p∧p≤1000000000∧n≤1000000000):
  Calls prog 46 #[P.arV (x,y),.pointer (some ⟨mb,0,none⟩)] w fun e w2=>e=.returned (.bool (P.overB (x,y) (p,n)))∧Below w.heap.size w w2:=by
 obtain⟨o,ho⟩:∃ o,o=P.overB (x,y) (p,n):=⟨_,rfl⟩;rw[← ho];have hov:=LH (fun w1=>P.over_at (x:=x) (y:=y) (u:=p) (v:=n) (b:=o) (by omega) ho.symm w1);have c0:=cell_of hm 0;have c1:=cell_of hm 1;unfold P.arV;replace ho:=LH ho;have hbf:=LH ((Below.refl w.heap.size w).alloc (Nat.le_refl _) (.cells #[.int .i64 x,.int .i64 y] 27));have d0:=((hbf.out.cell (p:=⟨mb,0,none⟩) (heap_lt hm)).trans c0);have d1:=((hbf.out.cell (p:=⟨mb,1,none⟩) (heap_lt hm)).trans c1);clear hm hx hp c0 c1;go_enter func46,ntmps46
 go_wp2_with fail
 refine (hov.out _).mono ?_;rintro e w1 ⟨rfl,hb1⟩;have hb2:=LH (hbf.out.trans (hb1.mono hbf.out.size));clear hb1 hov hbf d0 d1;go_wp2;go_ret;exact⟨rfl,hb2.out⟩
theorem VolB.type {w:World}{v m:Nat}{L:List UInt8}{ks:List (Nat×List UInt8)}{lat:Bool}(h:VolAt w v m L ks lat){g:Nat}(hg:VolB w v g):∃ cs t,w.heap[g]?=some (.cells cs t (0,0))∧(t=104∨t=111):=by
 obtain⟨⟨cs,pv,h1,h2,h3,h4,h5,h6,h7,h8,h9,vs,h10,h11,h12⟩,_⟩:=h;rcases hg with rfl|⟨n,pc,hc⟩
 ·exact⟨_,_,h1,.inl rfl⟩
 ·have hc':=(cell_of h1 110).symm.trans hc;rw[h8] at hc';simp only[Option.some.injEq] at hc';subst hc';obtain⟨cur,hcur⟩:=own_cells' h11 (g:=g) rfl;exact⟨_,_,hcur,.inr rfl⟩
theorem VolB.back {w w1:World}{v m:Nat}{L:List UInt8}{ks:List (Nat×List UInt8)}{lat:Bool}(h:VolAt w v m L ks lat){C:Nat→Prop}(hb:Chg C w w1) (hC:¬ C v){g:Nat}(hg:VolB w1 v g):VolB w v g:=by
 obtain⟨_,_,_,_,_,c,_⟩:=h.cells;rcases hg with rfl|⟨n,pc,hc⟩
 ·exact .inl rfl
 ·exact .inr ⟨n,pc,((hb.cell (p:=⟨v,110,none⟩) (cell_lt c) hC).symm.trans hc)⟩
theorem GuardAt.volchg {w w':World}{k v m:Nat}{L:List UInt8}{ks:List (Nat×List UInt8)}{lat:Bool}{l:List P.Ar}{trip:Bool}(h:GuardAt w k v l trip) (hv:VolAt w v m L ks lat) (hc:Chg (VolB w v) w w'):GuardAt w' k v l trip:=
 h.keep (fun g cs t ht hg=>hc.block g (heap_lt hg) (fun hB=>by
  obtain⟨cs',t',hc',ht'⟩:=VolB.type hv hB;rw[hg] at hc';simp only[Option.some.injEq,Obj.cells.injEq] at hc';rcases ht with rfl|rfl<;>rcases ht' with rfl|rfl<;>exact absurd hc'.2.1 (by decide)))
theorem guWrite_ok {w:World}{k v m:Nat}{L:List UInt8}{ks:List (Nat×List UInt8)}{la:List P.Ar}(hk:GuardAt w k v la false) (h:VolAt w v m L ks false){S:Nat→Prop}{dv:Value}{l:List UInt8}(hd:Bytes w S dv l) (hS:∀ g,S g→¬ VolB w v g) (i n:Nat) (hl:l.length=n*64) (hin:i+n≤50) (h0:0<n) (hks:ks.length<64)
  (hlb:∀ a ∈ la,0≤a.1∧a.1≤1000000000∧a.2≤1000000000):
  Calls prog 17 #[.pointer (some ⟨k,0,none⟩),.int .i64 i,dv] w fun e w'=>
   (la.any (fun a=>P.overB a (60+i,n))=false∧e=.returned (.int .i64 0)∧VolAt w' v m L (ks++newL i l n) false∧GuardAt w' k v la false∧Chg (VolB w v) w w'∧∀ g,VolB w' v g→VolB w v g∨w.heap.size≤g)∨
   (la.any (fun a=>P.overB a (60+i,n))=true∧e=.returned (.int .i64 7)∧VolAt w' v m L ks true∧GuardAt w' k v la true∧Chg (fun g=>g=v∨g=k) w w'):=by
 obtain⟨da,dc,rfl,_⟩:=hd.shape;obtain⟨g,cap,hg,hrow⟩:=hk;have hkl:=heap_lt hg;have ck0:=cell_of hg 0;have ck1:=cell_of hg 1;have hmay:=LH (voMay_ok h hd i n hl hin);have hdat:=LH (fun w1 (hb:Below w.heap.size w w1)=>voData_ok (h.after hb));have hfl:=run_area_first 60 50;have hHg:=LH (fun w1 (hb:Below w.heap.size w w1)=>(hb.block k hkl).trans hg);have hHr:=LH (fun w1 (hb:Below w.heap.size w w1)=>hrow.keep (hb.block g hrow.lt));have hHv:=LH (fun w1 (hb:Below w.heap.size w w1)=>h.after hb);have hHd:=LH (fun w1 (hb:Below w.heap.size w w1)=>hd.chg (Chg.of_below hb No) (fun _ _ _=>id));have hHS:=LH (fun w1 (hb:Below w.heap.size w w1) g (hs:S g) (hB:VolB w1 v g)=>hS g hs (VolB.back h (Chg.of_below hb No) id hB));obtain⟨N,hN⟩:∃ N,N=l.length:=⟨_,rfl⟩;rw[← hN] at hmay ⊢;have e1:(N:Int) / 64=n:=by omega
 obtain⟨p,hp⟩:∃ p:Int,p=60+i:=⟨_,rfl⟩;rw[← hp];replace hp:=LH hp;replace hN:=LH hN;replace hl:=LH hl;replace hg:=LH hg;replace hrow:=LH hrow;replace h:=LH h;replace hd:=LH hd;replace hS:=LH hS;have ck0':=LH (fun w1 (hb:Below w.heap.size w w1)=>(hb.cell (p:=⟨k,0,none⟩) hkl).trans ck0);have ck1':=LH (fun w1 (hb:Below w.heap.size w w1)=>(hb.cell (p:=⟨k,1,none⟩) hkl).trans ck1);clear ck1;go_enter func17,ntmps17
 go_wp2_with fail
 refine hmay.out.mono ?_;rintro e w1 ⟨rfl,hb1⟩;have f0:=ck0'.out w1 hb1;have hd1:=LH (hdat.out w1 hb1);replace hb1:=LH hb1;clear ck0 hmay
 go_wp2_with fail
 refine hd1.out.mono ?_;rintro e w2 ⟨rfl,hb2⟩;have hbw:=hb1.out.trans (hb2.mono hb1.out.size);obtain⟨w3,hw3⟩:∃ w3,w3=w2.alloc (.cells #[.int .i64 p,.int .i64 n] 27):=⟨_,rfl⟩;have hb3:Below w.heap.size w w3:=by rw[hw3];exact hbw.alloc hbw.size _
 have x3:w3.heap[w2.heap.size]?=some (.cells #[.int .i64 p,.int .i64 n] 27 (0,0)):=by rw[hw3];exact heap_alloc_new w2 _
 have f1:=ck1'.out w3 hb3;have f0:=ck0'.out w2 hbw;have hpi:(60:Int)+i=p:=hp.out.symm;have hcon:=P.conW_ok (mb:=w2.heap.size) (q:=fun a=>P.overB a (p,n)) (hHr.out w3 hb3).cells (fun a ha w4 hb4=>guWrite1_ok ((hb4.block _ (heap_lt x3)).trans x3) (hlb a ha) (by rw[hp.out];omega));obtain⟨any,hany⟩:∃ any,any=la.any (fun a=>P.overB a (p,n)):=⟨_,rfl⟩;rw[← hany] at hcon;replace hcon:=LH hcon;replace hany:=LH hany;replace hb3:=LH hb3;replace hbw:=LH hbw;replace x3:=LH x3;have hw3':=LH hw3;subst hw3;have hfk:=LH (fun w1 (hb:Below w.heap.size w w1)=>frozen_of (hHg.out w1 hb) 2);clear hb2 hd1 hdat
 go_wp2_with fail
 refine hcon.out.mono ?_;rintro e w4 ⟨rfl,hb4⟩;have hbw4:=hb3.out.trans (hb4.mono hb3.out.size);have f0:=ck0'.out w4 hbw4;have hV4:=hHv.out w4 hbw4;have hD4:=hHd.out w4 hbw4;rw[← hN.out] at hD4;have hS4:=hHS.out w4 hbw4;have hG4:GuardAt w4 k v la false:=⟨g,cap,hHg.out w4 hbw4,hHr.out w4 hbw4⟩;cases any with
 | false=>
  have hwr:=LH (voWrite_ok hV4 (hHd.out w4 hbw4) hS4 i n hl.out hin h0 hks);rw[← hN.out] at hwr;replace hG4:=LH hG4;replace hV4:=LH hV4;replace hbw4:=LH hbw4;clear hD4 hS4 hb4 hcon hHd hHS hHr hHg hHv hfk
  go_wp2_with fail
  refine hwr.out.mono ?_;rintro e w5 ⟨rfl,hV5,hC5,hVB⟩;have hG5:=hG4.out.volchg hV4.out hC5;have hC:Chg (VolB w v) w w5:=((Chg.of_below hbw4.out (VolB w v))).trans (Chg.mono hC5 (fun g _ hg=>VolB.back h.out (Chg.of_below hbw4.out No) id hg));have hfin:∀ g,VolB w5 v g→VolB w v g∨w.heap.size≤g:=fun g hg=>(hVB g hg).elim (fun e=>.inl (VolB.back h.out (Chg.of_below hbw4.out No) id e)) (fun e=>.inr (Nat.le_trans hbw4.out.size e))
  replace hV5:=LH hV5;replace hG5:=LH hG5;replace hC:=LH hC;replace hfin:=LH hfin;clear hC5 hVB;go_wp2;go_ret;exact .inl ⟨hany.out.symm,rfl,hV5.out,hG5.out,hC.out,hfin.out⟩
 | true=>
  have hla1:=LH (voLatch_ok hV4)
  have hkv:k≠v:=by
   rintro rfl;obtain⟨⟨cs,pv,h1,_⟩,_⟩:=hV4;have h2:=hHg.out w4 hbw4;rw[h1] at h2;simp only[Option.some.injEq,Obj.cells.injEq] at h2;exact absurd h2.2.1 (by decide)
  have hgv:g≠v:=by
   rintro rfl;obtain⟨⟨cs,pv,h1,_⟩,_⟩:=hV4;obtain⟨cur,h2,_⟩:=hHr.out w4 hbw4;rw[h1] at h2;simp only[Option.some.injEq,Obj.cells.injEq] at h2;exact absurd h2.2.1 (by decide)
  replace hG4:=LH hG4;have hbw4':=LH hbw4;have hHg4:=LH (hHg.out w4 hbw4);have hHr4:=LH (hHr.out w4 hbw4);clear hD4 hS4 hb4 hcon hHd hHS hHr hHg hHv hfk hV4 hbw4
  go_wp2_with fail
  refine hla1.out.mono ?_;rintro e w5 ⟨rfl,hV5,hC5⟩;have g5:=(hC5.block k (heap_lt hHg4.out) hkv).trans hHg4.out;have hr5:=hHr4.out.keep (hC5.block g hHr4.out.lt hgv);have fz:=frozen_of g5 2;have c2:=cell_of g5 2;have g6:=setCell_block g5 2 (.bool true)
  have hG6:GuardAt (w5.setCell ⟨k,2,none⟩ (.bool true)) k v la true:=⟨g,cap,g6,by
   obtain⟨cur,h1,h2⟩:=hr5;refine⟨cur,(setCell_heap_ne _ _ _ ?_).trans h1,h2⟩;rintro rfl;rw[g5] at h1;simp only[Option.some.injEq,Obj.cells.injEq] at h1;exact absurd h1.2.1 (by decide)⟩
  have hV6:VolAt (w5.setCell ⟨k,2,none⟩ (.bool true)) v m L ks true:=hV5.keep (fun g' cs t ht hg'=>setCell_heap_ne _ _ _ (by
   rintro rfl;rw[g5] at hg';simp only[Option.some.injEq,Obj.cells.injEq] at hg';rcases ht with rfl|rfl|rfl|rfl<;>exact absurd hg'.2.1 (by decide)))
  have hC6:Chg (fun g=>g=v∨g=k) w (w5.setCell ⟨k,2,none⟩ (.bool true)):=((Chg.of_below hbw4'.out _).trans (Chg.mono hC5 (fun g _ e=>.inl e))).setCell (p:=⟨k,2,none⟩) (fun _=>.inr rfl) _;replace hV6:=LH hV6;replace hG6:=LH hG6;replace hC6:=LH hC6;clear hV5 hC5 hr5 g6 g5;go_wp2;go_ret;exact .inr ⟨hany.out.symm,rfl,hV6.out,hG6.out,hC6.out⟩
theorem guWrite_ro {w:World}{k v m:Nat}{L:List UInt8}{ks:List (Nat×List UInt8)}{la:List P.Ar}{trip:Bool}(hk:GuardAt w k v la trip) (h:VolAt w v m L ks true) (i:Int) (da:Option Addr) (dn dc:Nat):
  Calls prog 17 #[.pointer (some ⟨k,0,none⟩),.int .i64 i,.slice da dn dc] w fun e w'=>e=.returned (.int .i64 6)∧w=w':=by
 obtain⟨g,cap,hg,hrow⟩:=hk;have ck0:=cell_of hg 0;have hmay:=LH (voMay_ro h i da dn dc);clear hg hrow h;go_enter func17,ntmps17
 go_wp2_with fail
 refine hmay.out.mono ?_;rintro e w1 ⟨rfl,rfl⟩;go_wp2;go_ret;exact⟨rfl,rfl⟩
end Go.Proofs.YthmcbgidehjlbaaGreat.Fd

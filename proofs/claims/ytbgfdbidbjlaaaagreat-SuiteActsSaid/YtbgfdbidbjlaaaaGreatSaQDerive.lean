/-
  The document's own cipher of chance: what it tells for a password. No condition beyond what each theorem names.
-/
import Derived.Test.YtbgfdbidbjlaaaaGreatSaQIdealPk
import Derived.Test.YtbgfdbidbjlaaaaGreatSaQCryptHPk
import Derived.Test.YtbgfdbidbjlaaaaGreatSaQSmallPk
namespace Go.Proofs.YtbgfdbidbjlaaaaGreat.Fd
open _root_.Go.Proofs.Tryz
open Go Go.RowKit K
set_option maxRecDepth 100000
set_option maxHeartbeats 16000000
theorem cells_set {w:World}{B:Nat}{e:TypeId}{sz n cap g:Nat}{xs:List Value}(h:w.ownsRow B e sz (.slice (some ⟨g,0,none⟩) n cap) n xs){i:Nat}(v:Value):Cells (w.setCell ⟨g,i,none⟩ v) (fun q=>q=g) (.slice (some ⟨g,0,none⟩) n cap) n sz (xs.set i v):=by
 obtain⟨h1,h2⟩:=h;rcases h2 with ⟨h2,_⟩|⟨g',cap',cur,h2,h3,h4,h5,h6,h7,h8⟩
 ·cases h2
 ·cases h2
  refine⟨by rw[List.length_set];exact h1,some ⟨g,0,none⟩,cap,rfl,h5,h6,(fun e=>by cases e),.inr ⟨g,0,rfl,rfl,by simpa [World.setCell] using heap_lt h4,fun j u hu=>?_⟩⟩;rw[Nat.zero_add,cell_of (setCell_block h4 i v)];have hj:j<xs.length:=by have:=(List.getElem?_eq_some_iff.1 hu).1;simpa using this
  have hcj:cur.toList[j]?=xs[j]?:=by rw[← h8,List.getElem?_take_of_lt (by omega)]
  rw[List.getElem?_set] at hu;rw[Array.getElem?_setIfInBounds]
  have hcl:j<cur.size:=by
   have h9:=List.getElem?_eq_getElem hj;rw[h9] at hcj;have:=(List.getElem?_eq_some_iff.1 hcj).1
   simpa using this
  split at hu
  ·rename_i e1;subst e1;rw[if_pos rfl,if_pos hcl];rw[if_pos hj] at hu;exact hu
  ·rename_i e1;rw[if_neg e1,← hu,← hcj];simp
theorem QIdeal.setK {w:World}{F:Nat→Prop}{c tp:Nat}{bv lv pv kv:Value}{b:List UInt8}{a k:Nat}{prs:List PR}{ag:Nat}(h:QIdeal w F c tp bv lv pv kv b a k prs ag) (x:Value):QIdeal (w.setCell ⟨c,2,none⟩ x) F c tp bv lv pv x b a k prs ag:=by
 have hk:∀ g,g≠c→(w.setCell ⟨c,2,none⟩ x).heap[g]?=w.heap[g]?:=fun g hg=>setCell_heap_ne _ _ _ hg
 refine⟨by rw[setCell_block h.box];rfl,h.tape.keep (by simp[World.setCell]) (fun g hg _=>hk g (by rcases hg with e|e;exact fun h2=>h.apart (h2.symm.trans e);exact fun h2=>h.far (h2 ▸ e))),Cells.keep h.row (by simp[World.setCell]) (fun g hg _=>hk g (fun h2=>h.far (h2 ▸ hg))),h.ok,h.few,h.again,h.far,h.apart⟩
theorem QIdeal.took {w w':World}{F:Nat→Prop}{c tp:Nat}{bv lv pv kv:Value}{b:List UInt8}{a k:Nat}{prs:List PR}{ag:Nat}(h:QIdeal w F c tp bv lv pv kv b a k prs ag){lv':Value}{a' k':Nat}(ha:a≤a') (hT:QTapeAt w' (fun g=>F g∨w.heap.size≤g) tp bv lv' b a' k') (hC:Chg (fun g=>g=tp) w w'):
  QIdeal w' (fun g=>F g∨w.heap.size≤g) c tp bv lv' pv kv b a' k' prs ag:=by
 have hcl:=heap_lt h.box;exact⟨(hC.block c hcl h.apart).trans h.box,hT,(Cells.chg h.row hC (fun g _ hF e=>h.tape.far (e ▸ hF))).mono (fun _ _ e=>.inl e),h.ok,Nat.le_trans h.few ha,Nat.le_trans h.again ha,fun e=>by rcases e with e|e;exact h.far e;omega,h.apart⟩
theorem QIdeal.wide {w:World}{F:Nat→Prop}{c tp:Nat}{bv lv pv kv:Value}{b:List UInt8}{a k:Nat}{prs:List PR}{ag:Nat}(h:QIdeal w F c tp bv lv pv kv b a k prs ag){N:Nat}(hc:c<N) (ht:tp<N):QIdeal w (fun g=>F g∨N≤g) c tp bv lv pv kv b a k prs ag:=
 h.mono (fun _ _ e=>.inl e) (fun e=>by rcases e with e|e;exact h.far e;omega) (fun e=>by rcases e with e|e;exact h.tape.far e;omega)
section
variable {w:World}{F G:Nat→Prop}{kv kv' v4:Value}{KD:List KR}{vs:List Value}{a:Nat}{all:List UInt8}
theorem QKeys.setAt (h:QKeys w F kv KD vs) (hok:KdOk KD a){m:Nat}{q:KR}(hq:KD[m]?=some q) (hrow:Cells w G kv' KD.length 4 ((tdCells KD vs).set (m*4+3) v4)) (hv:Bytes w G v4 all) (hFG:∀ g,F g→G g):QKeys w G kv' (putM KD q.1 all) (vs.set m v4):=by
 have hml:m<KD.length:=(List.getElem?_eq_some_iff.1 hq).1;rw[putM_at hok hq];refine⟨by rw[List.length_set,List.length_set];exact h.len,by rw[List.length_set,tdCells_set h.len hq];exact hrow,fun j r v hr hv2=>?_⟩;rw[List.getElem?_set] at hr hv2;by_cases e:m=j
 ·subst e;rw[if_pos rfl,if_pos hml] at hr;rw[if_pos rfl,if_pos (by rw[h.len];exact hml)] at hv2;cases hr
  cases hv2
  exact hv
 ·rw[if_neg e] at hr hv2;exact (h.each j r v hr hv2).mono (fun g _ hg=>hFG g hg)
theorem QKeys.app (h:QKeys w F kv KD vs){k:KKey}(hno:∀ q ∈ KD,q.1≠k) (hrow:Cells w G kv' (KD.length+1) 4 (tdCells KD vs++kCells (k,all) v4)) (hv:Bytes w G v4 all) (hFG:∀ g,F g→G g):QKeys w G kv' (putM KD k all) (vs++[v4]):=by
 rw[putM_new hno];refine⟨by simp[h.len],by rw[List.length_append,List.length_singleton,tdCells_app h.len];exact hrow,fun j r v hr hv2=>?_⟩;rcases Nat.lt_trichotomy j KD.length with e|e|e
 ·rw[List.getElem?_append_left e] at hr;rw[List.getElem?_append_left (by rw[h.len];exact e)] at hv2;exact (h.each j r v hr hv2).mono (fun g _ hg=>hFG g hg)
 ·subst e;rw[List.getElem?_append_right (Nat.le_refl _),Nat.sub_self] at hr;rw[List.getElem?_append_right (by rw[h.len];exact Nat.le_refl _),h.len,Nat.sub_self] at hv2;simp only[List.getElem?_cons_zero,Option.some.injEq] at hr hv2;subst hr;subst hv2;exact hv
 ·rw[List.getElem?_append_right (by omega),List.getElem?_eq_none (by simp;omega)] at hr;cases hr
end
theorem qDerive_ok {w:World}{F S S':Nat→Prop}{c tp:Nat}{bv lv pv kv pw sv:Value}{pass salt b:List UInt8}{a k ag:Nat}{prs:List PR}{KD:List KR}{vs:List Value}(h:QIdeal w F c tp bv lv pv kv b a k prs ag) (hK:QKeys w F kv KD vs) (hok:KdOk KD a)
  (hp:Bytes w S pw pass) (hs:Bytes w S' sv salt) (hSp:∀ g,S g→g≠c∧g≠tp) (hSs:∀ g,S' g→g≠c∧g≠tp) (r n:Nat) (hm:mayB pass.length salt.length r=true) (hn:n≤256) (what:ByteArray)
  {R:Option (List UInt8)×Nat×List KR}(hR:R=deriveM b a KD (⟨pass.toArray⟩,⟨salt.toArray⟩,r) n):
  Calls prog 32 #[.pointer (some ⟨c,0,none⟩),.string what,pw,sv,.int .i64 r,.int .i64 n] w fun e w'=>DerV w R.1 e w'∧
   (∃ lv' kv' k' vs',QIdeal w' (fun g=>F g∨w.heap.size≤g) c tp bv lv' pv kv' b R.2.1 k' prs ag∧QKeys w' (fun g=>F g∨w.heap.size≤g) kv' R.2.2 vs')∧Chg (fun g=>g=c∨g=tp) w w':=by
 obtain⟨pa,pc,rfl,hpc1,hpc2⟩:=hp.shape;obtain⟨sa,sc,rfl,hsc1,hsc2⟩:=hs.shape;obtain⟨ka,kc,rfl,hkc1,hkc2⟩:=hK.row.shape;unfold maxLen at hpc2 hsc2 hkc2;have hmay:=qMay_ok pa sa pass.length pc salt.length sc (r:Int) w;rw[hm] at hmay;obtain⟨KK,hKK⟩:∃ X:KKey,X=(⟨pass.toArray⟩,⟨salt.toArray⟩,r):=⟨_,rfl⟩;rw[← hKK] at hR;have hcl:=heap_lt h.box
 have hbnd:pass.length≤128∧salt.length≤64∧1≤r∧r≤10000:=by
  simp[mayB] at hm;omega
 have c2:∀ x,Chg No w x→x.cell? ⟨c,2,none⟩=some (.slice ka KD.length kc):=fun x hx=>by
  have h1:=(hx.block c hcl id).trans h.box;rw[cell_of h1];rfl
 have hsP:∀ x,Chg No w x→(convert 22 9 (.slice pa pass.length pc)).run prog x=.ok (.string ⟨pass.toArray⟩) x:=fun x hx=>
  run_string _ _ _ _ underlying22 underlying5 underlying9 _ _ _ (hp.chg hx (fun g _ _=>id))
 have hsS:∀ x,Chg No w x→(convert 22 9 (.slice sa salt.length sc)).run prog x=.ok (.string ⟨salt.toArray⟩) x:=fun x hx=>
  run_string _ _ _ _ underlying22 underlying5 underlying9 _ _ _ (hs.chg hx (fun g _ _=>id))
 obtain⟨KN,hKN⟩:∃ X,X=KD.length:=⟨_,rfl⟩;have hKN1:KN≤100000:=by have:=hok.few;have:=h.tape.within;have:=h.tape.few;omega
 rw[← hKN] at c2 hkc1;obtain⟨PN,hPN⟩:∃ X,X=pass.length:=⟨_,rfl⟩;obtain⟨SN,hSN⟩:∃ X,X=salt.length:=⟨_,rfl⟩;rw[← hPN] at hpc1 hmay hsP;rw[← hSN] at hsc1 hmay hsS;rw[← hPN,← hSN]
 have hrow:∀ x,Chg No w x→∀ j q v,KD[j]?=some q→vs[j]?=some v→∃ g off,ka=some ⟨g,off,none⟩∧g<w.heap.size∧(∀ i,i<4→x.cell? ⟨g,off+j*4+i,none⟩=(kCells q v)[i]?):=fun x hx j q v hq hv=>by
  have hjl:j<KD.length:=(List.getElem?_eq_some_iff.1 hq).1;obtain⟨g,off,cap',hv',_,_,hFg,hgl,hcell⟩:=Cells.at hK.row (by omega);simp only[Value.slice.injEq] at hv';obtain⟨rfl,_,_⟩:=hv';refine⟨g,off,rfl,hgl,fun i hi=>?_⟩;have h1:=tdCells_get hK.len hq hv hi;have h2:i<(kCells q v).length:=hi;rw[List.getElem?_eq_getElem h2] at h1 ⊢;have h3:=hcell (j*4+i) _ h1;rw[World.cell?_of_block (w:=w) (hx.block g hgl id),Nat.add_assoc];exact h3
 have hlv:∀ j,j<KN→∃ q v,KD[j]?=some q∧vs[j]?=some v:=fun j hj=>⟨KD[j]'(by omega),vs[j]'(by rw[hK.len];omega),List.getElem?_eq_getElem _,List.getElem?_eq_getElem _⟩
 replace hmay:=LH hmay;replace h:=LH h;replace hK:=LH hK;replace hok:=LH hok;replace hp:=LH hp;replace hs:=LH hs;replace hSp:=LH hSp;replace hSs:=LH hSs;replace hR:=LH hR;replace c2:=LH c2;replace hsP:=LH hsP;replace hsS:=LH hsS;replace hrow:=LH hrow;replace hlv:=LH hlv;replace hKN:=LH hKN;replace hPN:=LH hPN;replace hSN:=LH hSN;replace hKK:=LH hKK;clear hm;go_enter func32,ntmps32
 go_wp2_with (first|(go_at_call 33;refine hmay.out.mono ?_;rintro e w' ⟨rfl,rfl⟩)|fail)
 clear hmay
 go_loopg [14,15] KN (fun g at_ i wr=>∃ (j:Nat) (z:Int),j+g=KN∧i=.int .i64 j∧at_=.int .i64 z∧Hid (Chg No w wr)∧Hid ((z=-1∧∀ q ∈ KD.take j,q.1≠KK)∨∃ (m:Nat) (q:KR),z=m∧m<KN∧KD[m]?=some q∧q.1=KK))
 case atStart=>exact⟨0,-1,by omega,rfl,rfl,Chg.refl _ _,.inl ⟨rfl,by simp⟩⟩
 case round=>
  obtain⟨j,z,hjg,rfl,rfl,hC,hz⟩:=hrel;have d2:=c2.out wr hC.out;have hclr:c<wr.heap.size:=Nat.lt_of_lt_of_le hcl hC.out.size;by_cases hlt:j<KN
  ·obtain⟨g1,rfl⟩:∃ j,gk=j+1:=⟨gk - 1,by omega⟩;obtain⟨q,v,hq,hv⟩:=hlv.out j hlt;have hdr:∀ w3,Chg No wr.drew w3→Chg No w w3:=fun w3 h=>hC.out.trans ⟨h.os,h.tape,h.output,h.size,h.block⟩
   obtain⟨g,off,rfl,hgl,_⟩:=hrow.out wr hC.out j q v hq hv
   have hrc:∀ x,Chg No w x→∀ i,i<4→x.cell? ⟨g,off+j*4+i,none⟩=(kCells q v)[i]?:=fun x hx i hi=>by
    obtain⟨g',off',e,_,h2⟩:=hrow.out x hx j q v hq hv;cases e
    exact h2 i hi
   have hgx:∀ x,Chg No w x→g<x.heap.size:=fun x hx=>Nat.lt_of_lt_of_le hgl hx.size
   have hcx:∀ x,Chg No w x→c<x.heap.size:=fun x hx=>Nat.lt_of_lt_of_le hcl hx.size
   have hr0:∀ x,Chg No w x→x.cell? ⟨g,off+j*4,none⟩=some (.string q.1.1):=fun x hx=>hrc x hx 0 (by omega)
   have hr1:∀ x,Chg No w x→x.cell? ⟨g,off+j*4+1,none⟩=some (.string q.1.2.1):=fun x hx=>hrc x hx 1 (by omega)
   have hr2:∀ x,Chg No w x→x.cell? ⟨g,off+j*4+2,none⟩=some (.int .i64 q.1.2.2):=fun x hx=>hrc x hx 2 (by omega)
   replace hr0:=LH hr0;replace hr1:=LH hr1;replace hr2:=LH hr2
   have hnz:(q.1=(⟨pass.toArray⟩,⟨salt.toArray⟩,r)→False)→Hid ((z=-1∧∀ q ∈ KD.take (j+1),q.1≠KK)∨∃ (m:Nat) (q:KR),z=m∧m<KN∧KD[m]?=some q∧q.1=KK):=fun hne=>LH (by
    rcases hz.out with ⟨h1,h2⟩|h1
    ·refine .inl ⟨h1,fun r hr=>?_⟩;rw[take_snoc hq] at hr;rcases List.mem_append.1 hr with hr|hr
     ·exact h2 r hr
     ·simp only[List.mem_singleton] at hr;subst hr;rw[hKK.out];exact hne
    ·exact .inr h1)
   replace hdr:=LH hdr;replace hrc:=LH hrc;replace hgx:=LH hgx;replace hcx:=LH hcx;replace hq:=LH hq;replace hv:=LH hv;have hqm:q ∈ KD:=List.mem_of_getElem? hq.out;replace hqm:=LH hqm;have hjx:(j:Int)<(KN:Int):=by omega
   go_wp2;by_cases he1:q.1.1=⟨pass.toArray⟩
   ·by_cases he2:q.1.2.1=⟨salt.toArray⟩
    ·by_cases he3:q.1.2.2=r
     ·skip;clear hz hnz;refine RA.rt (Chg No) [1,1,1,1,1,1,1,1,1,1,1,1,1,1,1,1,1,1,1,1,1,1,1,1,1,1,1,1,1,1,1,1,1,1,1,1] [] (fun _=>True) trivial (fun _=>Chg.refl _ _) (fun _ _ _ h k=>h.trans k) (h:=?_);intro cx
      repeat refine RA.qq (h:=?_)
      refine RA.fk prog (c) (2) (h:=?_);refine RA.lk prog (.slice (some ⟨g,off,none⟩) KN kc) (hc:=fun w3 hp=>by exact c2.out w3 (hdr.out _ hp.1)) (h:=?_)
      repeat refine RA.qq (h:=?_)
      refine RA.ik prog (g) (off+j*4) (h:=?_);refine RA.fk prog (g) (off+j*4) (h:=?_);refine RA.lk prog (.string q.1.1) (hc:=fun w3 hp=>by exact hr0.out w3 (hdr.out _ hp.1)) (h:=?_)
      repeat refine RA.qq (h:=?_)
      refine RA.cv (by kernel_rfl) (by rfl) (by rfl) (y':=.string ⟨pass.toArray⟩) (fun w3 hp=>hsP.out w3 (hdr.out _ hp.1)) ?_;refine RA.es true (by kernel_rfl) (by rfl) (by rfl) (by rfl) (by rw[he1];exact str_eq _) ?_
      repeat refine RA.qq (h:=?_)
      repeat refine RA.qq (h:=?_)
      refine RA.fk prog (c) (2) (h:=?_);refine RA.lk prog (.slice (some ⟨g,off,none⟩) KN kc) (hc:=fun w3 hp=>by exact c2.out w3 (hdr.out _ hp.1)) (h:=?_)
      repeat refine RA.qq (h:=?_)
      refine RA.ik prog (g) (off+j*4) (h:=?_);refine RA.fk prog (g) (off+j*4+1) (h:=?_);refine RA.lk prog (.string q.1.2.1) (hc:=fun w3 hp=>by exact hr1.out w3 (hdr.out _ hp.1)) (h:=?_)
      repeat refine RA.qq (h:=?_)
      refine RA.cv (by kernel_rfl) (by rfl) (by rfl) (y':=.string ⟨salt.toArray⟩) (fun w3 hp=>hsS.out w3 (hdr.out _ hp.1)) ?_;refine RA.es true (by kernel_rfl) (by rfl) (by rfl) (by rfl) (by rw[he2];exact str_eq _) ?_;refine RA.pt (by kernel_rfl) (by rfl) (by rfl) (by rfl) ?_
      repeat refine RA.qq (h:=?_)
      refine RA.fk prog (c) (2) (h:=?_);refine RA.lk prog (.slice (some ⟨g,off,none⟩) KN kc) (hc:=fun w3 hp=>by exact c2.out w3 (hdr.out _ hp.1)) (h:=?_)
      repeat refine RA.qq (h:=?_)
      refine RA.ik prog (g) (off+j*4) (h:=?_);refine RA.fk prog (g) (off+j*4+2) (h:=?_);refine RA.lk prog (.int .i64 q.1.2.2) (hc:=fun w3 hp=>by exact hr2.out w3 (hdr.out _ hp.1)) (h:=?_)
      repeat refine RA.qq (h:=?_)
      refine RA.eq true (by kernel_rfl) (by rfl) (by rfl) (by rfl) (by rw[he3];exact int_eq _) ?_;refine RA.pt (by kernel_rfl) (by rfl) (by rfl) (by rfl) ?_;refine RA.RA.done rfl (fun wS hR hF hH=>?_);clear hF hH;simp only[RA.put,List.foldr_cons,List.foldr_nil,cx,Act.put,List.setIfInBounds_toArray,List.set_cons_succ,List.set_cons_zero];have hCS:=LH (hdr.out _ hR);clear hR hrc hdr hr0 hr1 hr2;go_wp2;go_roundg g1
      case measure=>omega
      case rel=>exact⟨j+1,j,by omega,by go_num,rfl,hCS.out,.inr ⟨j,q,rfl,hlt,hq.out,by rw[hKK.out];exact Prod.ext he1 (Prod.ext he2 he3)⟩⟩
     ·skip;have hz':=hnz (fun e=>he3 (congrArg (fun x=>x.2.2) e));clear hz hnz;refine RA.rt (Chg No) [1,1,1,1,1,1,1,1,1,1,1,1,1,1,1,1,1,1,1,1,1,1,1,1,1,1,1,1,1,1,1,1,1,1,1,1] [] (fun _=>True) trivial (fun _=>Chg.refl _ _) (fun _ _ _ h k=>h.trans k) (h:=?_);intro cx
      repeat refine RA.qq (h:=?_)
      refine RA.fk prog (c) (2) (h:=?_);refine RA.lk prog (.slice (some ⟨g,off,none⟩) KN kc) (hc:=fun w3 hp=>by exact c2.out w3 (hdr.out _ hp.1)) (h:=?_)
      repeat refine RA.qq (h:=?_)
      refine RA.ik prog (g) (off+j*4) (h:=?_);refine RA.fk prog (g) (off+j*4) (h:=?_);refine RA.lk prog (.string q.1.1) (hc:=fun w3 hp=>by exact hr0.out w3 (hdr.out _ hp.1)) (h:=?_)
      repeat refine RA.qq (h:=?_)
      refine RA.cv (by kernel_rfl) (by rfl) (by rfl) (y':=.string ⟨pass.toArray⟩) (fun w3 hp=>hsP.out w3 (hdr.out _ hp.1)) ?_;refine RA.es true (by kernel_rfl) (by rfl) (by rfl) (by rfl) (by rw[he1];exact str_eq _) ?_
      repeat refine RA.qq (h:=?_)
      repeat refine RA.qq (h:=?_)
      refine RA.fk prog (c) (2) (h:=?_);refine RA.lk prog (.slice (some ⟨g,off,none⟩) KN kc) (hc:=fun w3 hp=>by exact c2.out w3 (hdr.out _ hp.1)) (h:=?_)
      repeat refine RA.qq (h:=?_)
      refine RA.ik prog (g) (off+j*4) (h:=?_);refine RA.fk prog (g) (off+j*4+1) (h:=?_);refine RA.lk prog (.string q.1.2.1) (hc:=fun w3 hp=>by exact hr1.out w3 (hdr.out _ hp.1)) (h:=?_)
      repeat refine RA.qq (h:=?_)
      refine RA.cv (by kernel_rfl) (by rfl) (by rfl) (y':=.string ⟨salt.toArray⟩) (fun w3 hp=>hsS.out w3 (hdr.out _ hp.1)) ?_;refine RA.es true (by kernel_rfl) (by rfl) (by rfl) (by rfl) (by rw[he2];exact str_eq _) ?_;refine RA.pt (by kernel_rfl) (by rfl) (by rfl) (by rfl) ?_
      repeat refine RA.qq (h:=?_)
      refine RA.fk prog (c) (2) (h:=?_);refine RA.lk prog (.slice (some ⟨g,off,none⟩) KN kc) (hc:=fun w3 hp=>by exact c2.out w3 (hdr.out _ hp.1)) (h:=?_)
      repeat refine RA.qq (h:=?_)
      refine RA.ik prog (g) (off+j*4) (h:=?_);refine RA.fk prog (g) (off+j*4+2) (h:=?_);refine RA.lk prog (.int .i64 q.1.2.2) (hc:=fun w3 hp=>by exact hr2.out w3 (hdr.out _ hp.1)) (h:=?_)
      repeat refine RA.qq (h:=?_)
      refine RA.eq false (by kernel_rfl) (by rfl) (by rfl) (by rfl) (int_ne he3) ?_;refine RA.pt (by kernel_rfl) (by rfl) (by rfl) (by rfl) ?_;refine RA.RA.done rfl (fun wS hR hF hH=>?_);clear hF hH;simp only[RA.put,List.foldr_cons,List.foldr_nil,cx,Act.put,List.setIfInBounds_toArray,List.set_cons_succ,List.set_cons_zero];have hCS:=LH (hdr.out _ hR);clear hR hrc hdr hr0 hr1 hr2;go_wp2;go_roundg g1
      case measure=>omega
      case rel=>exact⟨j+1,z,by omega,by go_num,rfl,hCS.out,hz'.out⟩
    ·skip;have hz':=hnz (fun e=>he2 (congrArg (fun x=>x.2.1) e));clear hz hnz;refine RA.rt (Chg No) [1,1,1,1,1,1,1,1,1,1,1,1,1,1,1,1,1,1,1,1,1,1,1,1,1,0,0,0,0,0,0,0,0,0,0,1] [] (fun _=>True) trivial (fun _=>Chg.refl _ _) (fun _ _ _ h k=>h.trans k) (h:=?_);intro cx
     repeat refine RA.qq (h:=?_)
     refine RA.fk prog (c) (2) (h:=?_);refine RA.lk prog (.slice (some ⟨g,off,none⟩) KN kc) (hc:=fun w3 hp=>by exact c2.out w3 (hdr.out _ hp.1)) (h:=?_)
     repeat refine RA.qq (h:=?_)
     refine RA.ik prog (g) (off+j*4) (h:=?_);refine RA.fk prog (g) (off+j*4) (h:=?_);refine RA.lk prog (.string q.1.1) (hc:=fun w3 hp=>by exact hr0.out w3 (hdr.out _ hp.1)) (h:=?_)
     repeat refine RA.qq (h:=?_)
     refine RA.cv (by kernel_rfl) (by rfl) (by rfl) (y':=.string ⟨pass.toArray⟩) (fun w3 hp=>hsP.out w3 (hdr.out _ hp.1)) ?_;refine RA.es true (by kernel_rfl) (by rfl) (by rfl) (by rfl) (by rw[he1];exact str_eq _) ?_
     repeat refine RA.qq (h:=?_)
     repeat refine RA.qq (h:=?_)
     refine RA.fk prog (c) (2) (h:=?_);refine RA.lk prog (.slice (some ⟨g,off,none⟩) KN kc) (hc:=fun w3 hp=>by exact c2.out w3 (hdr.out _ hp.1)) (h:=?_)
     repeat refine RA.qq (h:=?_)
     refine RA.ik prog (g) (off+j*4) (h:=?_);refine RA.fk prog (g) (off+j*4+1) (h:=?_);refine RA.lk prog (.string q.1.2.1) (hc:=fun w3 hp=>by exact hr1.out w3 (hdr.out _ hp.1)) (h:=?_)
     repeat refine RA.qq (h:=?_)
     refine RA.cv (by kernel_rfl) (by rfl) (by rfl) (y':=.string ⟨salt.toArray⟩) (fun w3 hp=>hsS.out w3 (hdr.out _ hp.1)) ?_;refine RA.es false (by kernel_rfl) (by rfl) (by rfl) (by rfl) (str_ne he2) ?_;refine RA.pt (by kernel_rfl) (by rfl) (by rfl) (by rfl) ?_
     repeat refine RA.qq (h:=?_)
     refine RA.n (by kernel_rfl) (by rfl) ?_;simp only[RA.add];refine RA.n (by kernel_rfl) (by rfl) ?_;simp only[RA.add];refine RA.n (by kernel_rfl) (by rfl) ?_;simp only[RA.add];refine RA.n (by kernel_rfl) (by rfl) ?_;simp only[RA.add];refine RA.n (by kernel_rfl) (by rfl) ?_;simp only[RA.add];refine RA.n (by kernel_rfl) (by rfl) ?_;simp only[RA.add];refine RA.n (by kernel_rfl) (by rfl) ?_;simp only[RA.add];refine RA.n (by kernel_rfl) (by rfl) ?_;simp only[RA.add];refine RA.n (by kernel_rfl) (by rfl) ?_;simp only[RA.add];refine RA.n (by kernel_rfl) (by rfl) ?_;simp only[RA.add];refine RA.pf (by kernel_rfl) (by rfl) (by rfl) (by rfl) ?_;refine RA.RA.done rfl (fun wS hR hF hH=>?_);clear hF hH;simp only[RA.put,List.foldr_cons,List.foldr_nil,cx,Act.put,List.setIfInBounds_toArray,List.set_cons_succ,List.set_cons_zero];have hCS:=LH (hdr.out _ hR);clear hR hrc hdr hr0 hr1 hr2;go_wp2;go_roundg g1
     case measure=>omega
     case rel=>exact⟨j+1,z,by omega,by go_num,rfl,hCS.out,hz'.out⟩
   ·skip;have hz':=hnz (fun e=>he1 (congrArg Prod.fst e));clear hz hnz;refine RA.rt (Chg No) [1,1,1,1,1,1,1,1,1,1,1,1,0,0,0,0,0,0,0,0,0,0,0,1,1,0,0,0,0,0,0,0,0,0,0,1] [] (fun _=>True) trivial (fun _=>Chg.refl _ _) (fun _ _ _ h k=>h.trans k) (h:=?_);intro cx
    repeat refine RA.qq (h:=?_)
    refine RA.fk prog (c) (2) (h:=?_);refine RA.lk prog (.slice (some ⟨g,off,none⟩) KN kc) (hc:=fun w3 hp=>by exact c2.out w3 (hdr.out _ hp.1)) (h:=?_)
    repeat refine RA.qq (h:=?_)
    refine RA.ik prog (g) (off+j*4) (h:=?_);refine RA.fk prog (g) (off+j*4) (h:=?_);refine RA.lk prog (.string q.1.1) (hc:=fun w3 hp=>by exact hr0.out w3 (hdr.out _ hp.1)) (h:=?_)
    repeat refine RA.qq (h:=?_)
    refine RA.cv (by kernel_rfl) (by rfl) (by rfl) (y':=.string ⟨pass.toArray⟩) (fun w3 hp=>hsP.out w3 (hdr.out _ hp.1)) ?_;refine RA.es false (by kernel_rfl) (by rfl) (by rfl) (by rfl) (str_ne he1) ?_
    repeat refine RA.qq (h:=?_)
    refine RA.n (by kernel_rfl) (by rfl) ?_;simp only[RA.add];refine RA.n (by kernel_rfl) (by rfl) ?_;simp only[RA.add];refine RA.n (by kernel_rfl) (by rfl) ?_;simp only[RA.add];refine RA.n (by kernel_rfl) (by rfl) ?_;simp only[RA.add];refine RA.n (by kernel_rfl) (by rfl) ?_;simp only[RA.add];refine RA.n (by kernel_rfl) (by rfl) ?_;simp only[RA.add];refine RA.n (by kernel_rfl) (by rfl) ?_;simp only[RA.add];refine RA.n (by kernel_rfl) (by rfl) ?_;simp only[RA.add];refine RA.n (by kernel_rfl) (by rfl) ?_;simp only[RA.add];refine RA.n (by kernel_rfl) (by rfl) ?_;simp only[RA.add];refine RA.n (by kernel_rfl) (by rfl) ?_;simp only[RA.add];refine RA.pf (by kernel_rfl) (by rfl) (by rfl) (by rfl) ?_
    repeat refine RA.qq (h:=?_)
    refine RA.n (by kernel_rfl) (by rfl) ?_;simp only[RA.add];refine RA.n (by kernel_rfl) (by rfl) ?_;simp only[RA.add];refine RA.n (by kernel_rfl) (by rfl) ?_;simp only[RA.add];refine RA.n (by kernel_rfl) (by rfl) ?_;simp only[RA.add];refine RA.n (by kernel_rfl) (by rfl) ?_;simp only[RA.add];refine RA.n (by kernel_rfl) (by rfl) ?_;simp only[RA.add];refine RA.n (by kernel_rfl) (by rfl) ?_;simp only[RA.add];refine RA.n (by kernel_rfl) (by rfl) ?_;simp only[RA.add];refine RA.n (by kernel_rfl) (by rfl) ?_;simp only[RA.add];refine RA.n (by kernel_rfl) (by rfl) ?_;simp only[RA.add];refine RA.pf (by kernel_rfl) (by rfl) (by rfl) (by rfl) ?_;refine RA.RA.done rfl (fun wS hR hF hH=>?_);clear hF hH;simp only[RA.put,List.foldr_cons,List.foldr_nil,cx,Act.put,List.setIfInBounds_toArray,List.set_cons_succ,List.set_cons_zero];have hCS:=LH (hdr.out _ hR);clear hR hrc hdr hr0 hr1 hr2;go_wp2;go_roundg g1
    case measure=>omega
    case rel=>exact⟨j+1,z,by omega,by go_num,rfl,hCS.out,hz'.out⟩
  ·obtain rfl:j=KN:=by omega
   have hzf:(z=-1∧∀ q ∈ KD,q.1≠KK)∨∃ (m:Nat) (q:KR),z=m∧m<j∧KD[m]?=some q∧q.1=KK:=by
    have h1:=hz.out;rw[List.take_of_length_le (by have:=hKN.out;omega)] at h1;exact h1
   have hIr:=LH (h.out.chg hC.out);rw[← hKN.out] at hIr;have hKr:=LH (hK.out.chg hC.out (fun _ _ _=>id));rw[← hKN.out] at hKr;have htpl:tp<w.heap.size:=heap_lt h.out.tape.box;obtain⟨KN,rfl⟩:∃ x,x=j:=⟨_,rfl⟩;clear hz hlt hjg;rcases hzf with ⟨rfl,hno⟩|⟨zm,q,rfl,hmK,hq,hqk⟩
   ·have hHD:Hid (([]:List UInt8)=toldM KD KK):=LH (toldM_none hno).symm;have hHLe:Hid (0=([]:List UInt8).length):=LH rfl;have hvb:Hid (Bytes wr F (.slice none 0 0) []):=LH (Cells.nil _ _ 1);have hhl:0≤0∧0≤9223372036854775807∧0≤256:=by omega
    replace hno:=LH hno;by_cases hlt:n≤0
    ·obtain rfl:n=0:=by omega
     have hn0:((0:Nat):Int)=0:=rfl;rw[hn0];go_wp2;go_ret2;rw[hR.out,deriveM,if_pos (by omega),← hHD.out];have h1:Chg No wr (wr.alloc (.cells #[] 5)):=(Chg.refl _ _).alloc _;exact⟨⟨_,rfl,World.ownsRow_made (base:=w.heap.size) (e:=5) (size:=1) wr #[] 0 hC.out.size (fits_lm (by omega)) rfl⟩,⟨lv,_,k,vs,(hIr.out.chg h1).wide hcl htpl,(hKr.out.chg h1 (fun _ _ _=>id)).mono (fun _ _ e=>.inl e)⟩,(hC.out.trans h1).mono (fun _ _ e=>e.elim)⟩
    ·have hltI:0<(n:Int):=by omega
     have hmn:Hid (n=n - 0):=LH rfl;have c0:wr.cell? ⟨c,0,none⟩=some (.pointer (some ⟨tp,0,none⟩)):=by rw[cell_of hIr.out.box];rfl
     by_cases hsh:b.length<a+n
     ·have htk:=LH (qTake_short hIr.out.tape what n hsh (by have:=hmn.out;omega))
      go_wp2_with fail
      refine htk.out.mono ?_;rintro e w2 ⟨rfl,hC2⟩;replace hC2:=LH hC2;clear htk c0;go_wp2;go_ret2;rw[hR.out,deriveM,if_neg (by rw[← hHD.out];have:=hHLe.out;omega),if_pos (by rw[← hHD.out];have:=hHLe.out;have:=hmn.out;omega)];exact⟨rfl,⟨lv,_,k,vs,(hIr.out.chg hC2.out).wide hcl htpl,(hKr.out.chg hC2.out (fun _ _ _=>id)).mono (fun _ _ e=>.inl e)⟩,(hC.out.trans hC2.out).mono (fun _ _ e=>e.elim)⟩
     ·have htk:=LH (qTake_ok hIr.out.tape what n (by omega) (by have:=hmn.out;omega))
      go_wp2_with fail
      refine htk.out.mono ?_;rintro e w2 ⟨dv,lv',rfl,hdo,hT2,hC2⟩;obtain⟨DD,hDD⟩:∃ X,X=(b.drop a).take n:=⟨_,rfl⟩;rw[← hDD] at hdo;have hDDl:DD.length=n:=by rw[hDD,List.length_take,List.length_drop];omega
      have hI2:QIdeal w2 (fun g=>(F g∨wr.heap.size≤g)∧g<w2.heap.size) c tp bv lv' pv (.slice ka KN kc) b (a+n) (k+1) prs ag:=
       (hIr.out.took (by omega) hT2 hC2).mono (fun g hg hF=>⟨hF,hg⟩) (fun e=>by
        rcases e.1 with e|e
        ·exact hIr.out.far e
        ·have:=heap_lt hIr.out.box;omega) (fun e=>by
        rcases e.1 with e|e
        ·exact hIr.out.tape.far e
        ·have:=heap_lt hIr.out.tape.box;omega)
      have hK2:QKeys w2 (fun g=>F g∧g<wr.heap.size) (.slice ka KN kc) KD vs:=(hKr.out.mono (G:=fun g=>F g∧g<wr.heap.size) (fun g hg hF=>⟨hF,hg⟩)).chg hC2 (fun g _ hF e=>hIr.out.tape.far (e ▸ hF.1));have hvb2:=Bytes.chg hvb.out hC2 (fun g _ hF e=>hIr.out.tape.far (e ▸ hF));obtain⟨dx,dy,rfl,hd1,hd2⟩:=(Cells.own hdo).shape;unfold maxLen at hd2
      have hdb2:Bytes w2 (fun _=>True) (.slice dx n dy) DD:=by
       have h1:Cells w2 (fun _=>True) (.slice dx n dy) n 1 (u8s DD):=(Cells.own hdo).mono (fun _ _ _=>trivial);show Cells w2 _ _ DD.length 1 _;rw[hDDl];exact h1
      obtain⟨v4,w4,hrun4,r4,hC4⟩:=push_fresh hdb2 (by omega);obtain⟨v4a,v4c,rfl,hv41,hv42⟩:=(Cells.own r4).shape;unfold maxLen at hv42;obtain⟨ALL,hALL⟩:∃ X,X=DD:=⟨_,rfl⟩;rw[← hALL] at r4 hv41 hrun4;obtain⟨AL,hAL⟩:∃ X,X=ALL.length:=⟨_,rfl⟩;have hALn:AL=n:=by rw[hAL,hALL,hDDl]
      rw[← hAL] at r4 hv41 hrun4;have hI4:=hI2.chg hC4;have hK4:=hK2.chg hC4 (fun _ _ _=>id)
      have hal4:Bytes w4 (fun g=>w2.heap.size≤g∧g<w4.heap.size) (.slice v4a AL v4c) ALL:=by
       show Cells w4 _ _ ALL.length 1 _;rw[← hAL];exact (Cells.own r4).mono (fun _ h1 h=>⟨h.2,h1⟩)
      obtain⟨N4,hN4⟩:∃ X,X=w4.heap.size:=⟨_,rfl⟩;have hnew4:(w4.alloc (.cells #[] 127)).heap[N4]?=some (.cells #[] 127 (0,0)):=by rw[hN4];exact heap_alloc_new w4 _
      have hCa:Chg No w4 (w4.alloc (.cells #[] 127)):=(Chg.refl _ _).alloc _;have hKl:=hKN.out
      have hrowA:Cells (w4.alloc (.cells #[] 127)) (fun g=>F g∧g<wr.heap.size) (.slice ka KN kc) KN 4 (tdCells KD vs):=by
       have h1:=Cells.chg hK4.row hCa (fun _ _ _=>id);rw[← hKl] at h1;exact h1
      obtain⟨v5,w5,hrun5,r5,c5⟩:=append_new (bytes:=64) underlying60 infoTold rfl (by decide) hnew4 hrowA (td_one hK4.one) (by unfold maxLen;omega) (by omega) (Nat.le_refl N4) 60;have hC5:Chg No w4 w5:=hCa.trans c5;obtain⟨v5a,v5c,rfl,hv51,hv52⟩:=(Cells.own r5).shape;unfold maxLen at hv52;have hI5:=hI4.chg hC5;have hK5:=hK4.chg hC5 (fun _ _ _=>id);have hal5:=Bytes.chg hal4 hC5 (fun _ _ _=>id);obtain⟨w6,hw6⟩:∃ X,X=w5.setCell ⟨c,2,none⟩ (.slice v5a KN v5c):=⟨_,rfl⟩;have hI6:QIdeal w6 _ c tp bv lv' pv (.slice v5a KN v5c) b _ _ prs ag:=hw6 ▸ hI5.setK (.slice v5a KN v5c);have hk6:∀ g,g≠c→w6.heap[g]?=w5.heap[g]?:=fun g hg=>by rw[hw6];exact setCell_heap_ne _ _ _ hg
      have hs6:w6.heap.size=w5.heap.size:=by rw[hw6];simp[World.setCell]
      have hcN:c<N4:=by have h1:=hC.out.size;have h2:=hC2.size;have h3:=hC4.size;omega
      have hw2N:w2.heap.size≤N4:=by have h3:=hC4.size;omega
      have hwrN:wr.heap.size≤w2.heap.size:=hC2.size;have hwwr:w.heap.size≤wr.heap.size:=hC.out.size;have hK6:=hK5.keep (w':=w6) (by omega) (fun g hg _=>hk6 g (fun e=>hIr.out.far (e ▸ hg.1)));have hal6:=Cells.keep hal5 (w':=w6) (by omega) (fun g hg _=>hk6 g (fun e=>by have:=hg.2;have:=hg.1;have:=hC2.size;have:=heap_lt hIr.out.box;omega));have r6:=owns_keep r5 (w':=w6) (fun g hg=>hk6 g (fun e=>by have:=(r5.lt g hg).1;omega))
      have hC6:Chg (fun g=>g=c∨g=tp) w w6:=by
       have h1:Chg (fun g=>g=c∨g=tp) w w5:=((hC.out.mono (fun _ _ e=>e.elim)).trans ((hC2.mono (fun _ _ e=>.inr e)).trans ((hC4.trans hC5).mono (fun _ _ e=>e.elim))));rw[hw6];exact h1.setCell (fun _=>.inl rfl) _
      have d2:(w4.alloc (.cells #[] 127)).cell? ⟨c,2,none⟩=some (.slice ka KN kc):=by rw[cell_of ((hCa.block c (heap_lt hI4.box) id).trans hI4.box)];rfl
      have d3:w5.cell? ⟨c,2,none⟩=some (.slice ka KN kc):=by rw[cell_of hI5.box];rfl
      have f3:w5.frozen? ⟨c,2,none⟩=false:=frozen_of hI5.box 2;have hcl4:c<w4.heap.size:=heap_lt hI4.box;have hcl5:c<w5.heap.size:=heap_lt hI5.box;have hs45:w4.heap.size≤w5.heap.size:=hC5.size;replace hrun4:=LH hrun4;rw[hN4] at hrun5;replace hrun5:=LH hrun5;skip;have hw6':=LH hw6;replace hI6:=LH hI6;replace hK6:=LH hK6;replace hal6:=LH hal6;replace r6:=LH r6;replace hC6:=LH hC6;replace hN4:=LH hN4;replace hALL:=LH hALL;replace hAL:=LH hAL;replace hALn:=LH hALn;replace hDD:=LH hDD;replace hDDl:=LH hDDl;replace hwrN:=LH hwrN;replace hw2N:=LH hw2N;replace hs6:=LH hs6;clear htk c0 hI2 hK2 hvb2 hdo hT2 hC2 hdb2 r4 hC4 hI4 hK4 hal4 hnew4 hCa hrowA c5 hC5 r5 hI5 hK5 hal5 hk6 hw6 hKl
      go_wp2_with (at_builtin;(first|(refine wpList_app rfl _ _ 22 rfl (.slice (some ⟨w2.heap.size,0,none⟩) 0 0) (.slice dx n dy) (.slice v4a AL v4c) rfl rfl hrun4.out ?_)|(refine wpList_app rfl _ _ 60 rfl (.slice (some ⟨w4.heap.size,0,none⟩) 0 0) (.slice ka KN kc) (.slice v5a KN v5c) rfl rfl hrun5.out ?_)))
      rw[← hw6'.out];have hdr:∀ w3,Chg No w6.drew w3→Chg No w6 w3:=fun w3 h=>⟨h.os,h.tape,h.output,h.size,h.block⟩
      have d6:∀ x,Chg No w6 x→x.cell? ⟨c,2,none⟩=some (.slice v5a KN v5c):=fun x hx=>by
       have h1:=(hx.block c (heap_lt hI6.out.box) id).trans hI6.out.box;rw[cell_of h1];rfl
      have hcl6:c<w6.heap.size:=heap_lt hI6.out.box
      have hsP6:∀ x,Chg No w6 x→(convert 22 9 (.slice pa PN pc)).run prog x=.ok (.string ⟨pass.toArray⟩) x:=fun x hx=>by
       rw[hPN.out];exact run_string _ _ _ _ underlying22 underlying5 underlying9 _ _ _ ((hp.out.chg hC6.out (fun g _ hg e=>by rcases e with e|e;exact (hSp.out g hg).1 e;exact (hSp.out g hg).2 e)).chg hx (fun g _ _=>id))
      have hsS6:∀ x,Chg No w6 x→(convert 22 9 (.slice sa SN sc)).run prog x=.ok (.string ⟨salt.toArray⟩) x:=fun x hx=>by
       rw[hSN.out];exact run_string _ _ _ _ underlying22 underlying5 underlying9 _ _ _ ((hs.out.chg hC6.out (fun g _ hg e=>by rcases e with e|e;exact (hSs.out g hg).1 e;exact (hSs.out g hg).2 e)).chg hx (fun g _ _=>id))
      have hN6:N4≤w6.heap.size:=by have h1:=hN4.out;have h2:=hs6.out;omega
      have hkc:kCells (KK,ALL) (.slice v4a AL v4c)=[.string ⟨pass.toArray⟩,.string ⟨salt.toArray⟩,.int .i64 r,.slice v4a AL v4c]:=by rw[hKK.out];rfl
      replace hdr:=LH hdr;replace d6:=LH d6;replace hsP6:=LH hsP6;replace hsS6:=LH hsS6;replace hkc:=LH hkc;clear d2 d3 f3;refine RA.rt (Chg No) [5,1,1,1,1,1,1,1,1,1,1,1,3,6,5,5,7] [13,16] (fun _=>True) (trivial) (fun _=>Chg.refl _ _) (fun _ _ _ h k=>h.trans k) (h:=?_);intro cx;refine RA.pmv (by rfl) (by rfl) (by rfl) ?_
      repeat refine RA.qq (h:=?_)
      refine RA.fk prog (c) (2) (h:=?_);refine RA.lk prog (.slice v5a KN v5c) (hc:=fun w3 hp=>by exact d6.out _ (hdr.out _ hp.1)) (h:=?_)
      repeat refine RA.qq (h:=?_)
      refine RA.cv (by kernel_rfl) (by rfl) (by rfl) (y':=.string ⟨pass.toArray⟩) (fun w3 hp=>hsP6.out w3 (hdr.out _ hp.1)) ?_
      repeat refine RA.qq (h:=?_)
      refine RA.cv (by kernel_rfl) (by rfl) (by rfl) (y':=.string ⟨salt.toArray⟩) (fun w3 hp=>hsS6.out w3 (hdr.out _ hp.1)) ?_
      repeat refine RA.qq (h:=?_)
      refine RA.vk prog (.agg #[.string ⟨pass.toArray⟩,.string ⟨salt.toArray⟩,.int .i64 r,.slice v4a AL v4c]) (h:=?_)
      refine RA.bq (fun x w3=>Cells w3 (fun _=>True) x 1 4 (kCells (KK,ALL) (.slice v4a AL v4c))) (fun _ _=>True) (by kernel_rfl) (by rfl) (by kernel_rfl) (fun _ _ _ h k=>k.chg h (fun _ _ _=>id)) (fun _ _ _ _ _=>trivial) (fun w3 hp _=>by
       refine⟨.slice (some ⟨w3.heap.size,0,none⟩) 1 1,w3.alloc (.cells #[.string ⟨pass.toArray⟩,.string ⟨salt.toArray⟩,.int .i64 r,.slice v4a AL v4c] 127),?_,(Chg.refl _ _).alloc _,by rw[hkc.out];exact lit_cells w3 #[.string ⟨pass.toArray⟩,.string ⟨salt.toArray⟩,.int .i64 r,.slice v4a AL v4c] 127 1 4 rfl (by unfold maxLen;omega),trivial⟩;show (execOp _ _).run prog w3=_;go_simp) (fun x=>?_)
      refine RA.bqt (fun v' w4=>(∃ g cp,v'=.slice (some ⟨g,0,none⟩) (KN+1) cp)∧w4.ownsRow N4 127 4 v' (KN+1) (tdCells KD vs++kCells (KK,ALL) (.slice v4a AL v4c))∧Chg (fun g=>N4≤g) w6 w4) (by kernel_rfl) (by rfl) (by kernel_rfl) (fun _ _ _ h k=>h ▸ k) (fun w3 hp0 _=>by
       have hp:=hp0.first (by kernel_rfl);have hR3:=hdr.out _ hp.1;have f2:Cells w3 (fun _=>True) x 1 4 (kCells (KK,ALL) (.slice v4a AL v4c)):=hp.fact 0 rfl (by kernel_rfl);obtain⟨v',w4,h1,h2,h3,_⟩:=own_push (P:=prog) (bytes:=64) underlying60 infoTold rfl (by decide) r6.out hN6 hR3 f2 (by rw[hkc.out];simp[Value.oneCell']) (by unfold maxLen;omega) (by omega) 60;obtain⟨g,cp,hv,_,_⟩:=own_shape h2 (by omega);exact⟨v',w4,RA.ex_append (by rfl) (by rfl) h1,⟨g,cp,hv⟩,h2,h3.mono (fun g _ e=>(r6.out.lt g e).1)⟩) (fun v'=>?_)
      refine RA.pq (h:=?_);refine RA.pk prog (c) (2) (h:=?_)
      refine RA.stt (fun w7=>∃ g cp,v'=.slice (some ⟨g,0,none⟩) (KN+1) cp∧w7.ownsRow N4 127 4 v' (KN+1) (tdCells KD vs++kCells (KK,ALL) (.slice v4a AL v4c))∧QIdeal w7 (fun g=>(F g∨wr.heap.size≤g)∧g<w2.heap.size) c tp bv lv' pv v' b (a+n) (k+1) prs ag∧Chg (fun g=>N4≤g∨g=c) w6 w7) (by rfl) (by rfl) (by kernel_rfl) (fun _ _ h k=>h ▸ k) (fun w4 _ hH=>by
       obtain⟨⟨g',cp,rfl⟩,f2,f3⟩:=hH;have htpN:tp<N4:=by have:=hwrN.out;have:=hw2N.out;omega
       have hI4:=hI6.out.keep f3.size (fun g hg hl=>f3.block g hl (by
        have:=hw2N.out;rcases hg with e|e|e
        ·show ¬ N4≤g;omega
        ·show ¬ N4≤g;omega
        ·have:=e.2;show ¬ N4≤g;omega))
       have z0:w4.frozen? ⟨c,2,none⟩=false:=frozen_of hI4.box 2;have z1:w4.cell? ⟨c,2,none⟩=some (.slice v5a KN v5c):=by rw[cell_of hI4.box];rfl
       have z2:c<w4.heap.size:=heap_lt hI4.box;have hgc:g'≠c:=by have:=(f2.lt g' rfl).1;omega
       refine⟨_,RA.ex_store (by rfl) (by rfl) (w':=w4.setCell ⟨c,2,none⟩ (.slice (some ⟨g',0,none⟩) (KN+1) cp)) ?_,g',cp,rfl,owns_keep f2 (fun g hg=>setCell_heap_ne _ _ _ (by simp only[Value.ownBlock,Option.some.injEq] at hg;exact hg ▸ hgc)),hI4.setK _,Chg.setCell (C:=fun g=>N4≤g∨g=c) (p:=⟨c,2,none⟩) (f3.mono (fun _ _ e=>.inl e)) (fun _=>.inr rfl) _⟩;clear hI4 f2 f3;show (Instr.storeAt _ _ _).run prog w4=_;go_simp) ?_
      refine RA.RA.doneT (fun w7 hH=>?_);simp only[RA.put,List.foldr_cons,List.foldr_nil,cx,Act.put,List.setIfInBounds_toArray,List.set_cons_succ,List.set_cons_zero];obtain⟨g9,cp9,rfl,hO7,hI7,hC67⟩:=hH
      have hK7:=hK6.out.keep hC67.size (fun g hg hl=>hC67.block g hl (by
       have:=hg.2;have:=hwrN.out;have:=hw2N.out;rintro (e|e)
       ·omega
       ·exact h.out.far (e ▸ hg.1)))
      have hal7:=Cells.keep hal6.out hC67.size (fun g hg hl=>hC67.block g hl (by
       have h1:=hg.1;have h2:=hg.2;have:=hwrN.out;have:=hN4.out;rintro (e|e)
       ·omega
       ·omega))
      have hC7:Chg (fun g=>g=c∨g=tp) w w7:=hC6.out.then hC67 (fun i hi e=>by
       have:=hwrN.out;have:=hw2N.out;rcases e with e|e
       ·omega
       ·exact .inl e)
      have hKD:QKeys w7 (fun g=>F g∨w.heap.size≤g) (.slice (some ⟨g9,0,none⟩) (KN+1) cp9) (putM KD KK ALL) (vs++[.slice v4a AL v4c]):=
       hK7.app hno.out (by rw[← hKN.out];exact (Cells.own hO7).mono (fun g _ e=>.inr (by have:=e.2;have:=hwrN.out;have:=hw2N.out;omega))) (Cells.mono hal7 (fun g _ e=>.inr (by have:=e.1;have:=hwrN.out;omega))) (fun g e=>.inl e.1)
      obtain⟨v8,w8,hrun8,r8,c8⟩:=push_fresh (m:=ALL) hal7 (by have:=hALn.out;have:=hAL.out;omega);obtain⟨v8a,v8c,rfl,_,_⟩:=(Cells.own r8).shape;rw[← hAL.out] at hrun8 r8;have hI8:QIdeal w8 (fun g=>F g∨w.heap.size≤g) c tp bv lv' pv (.slice (some ⟨g9,0,none⟩) (KN+1) cp9) b (a+n) (k+1) prs ag:=(hI7.chg c8).mono (fun g _ e=>by rcases e.1 with e|e;exact .inl e;exact .inr (by omega)) (fun e=>by rcases e with e|e;exact h.out.far e;omega) (fun e=>by rcases e with e|e;exact h.out.tape.far e;omega);have hK8:=hKD.chg c8 (fun _ _ _=>id);have hC8:Chg (fun g=>g=c∨g=tp) w w8:=hC7.then c8 (fun _ _ e=>e.elim);have hown8:=owns_base r8 hC7.size;replace hrun8:=LH hrun8;replace hI8:=LH hI8;replace hK8:=LH hK8;replace hC8:=LH hC8;replace hown8:=LH hown8;clear hI7 hK7 hal7 hC7 hKD r8 c8 hO7 hC67
      go_wp2_with (at_builtin;(refine wpList_app rfl _ _ 22 rfl (.slice (some ⟨w7.heap.size,0,none⟩) 0 0) (.slice v4a AL v4c) (.slice v8a AL v8c) rfl rfl hrun8.out ?_))
      go_ret2;have hRR:=hR.out;rw[deriveM,if_neg (by rw[← hHD.out];have:=hHLe.out;omega),if_neg (by rw[← hHD.out];have:=hHLe.out;have:=hmn.out;omega),← hHD.out,← hHLe.out,← hmn.out,← hDD.out,List.nil_append,← hALL.out] at hRR;rw[hRR];exact⟨⟨_,rfl,by rw[← hAL.out];exact hown8.out⟩,⟨lv',_,k+1,_,hI8.out,hK8.out⟩,hC8.out⟩
   ·obtain⟨q',v,hq',hv⟩:=hlv.out zm hmK;obtain rfl:q'=q:=Option.some.inj (hq'.symm.trans hq);obtain⟨g,off,rfl,hgl,hrc⟩:=hrow.out wr hC.out zm q' v hq' hv;have hr3:wr.cell? ⟨g,off+zm*4+3,none⟩=some v:=hrc 3 (by omega);have hvb1:=hKr.out.each zm q' v hq' hv;obtain⟨hx,hy,rfl,hh1,hh2⟩:=hvb1.shape;unfold maxLen at hh2;obtain⟨HD,hHDe⟩:∃ X,X=q'.2:=⟨_,rfl⟩;have hHD:Hid (HD=toldM KD KK):=LH (by rw[hHDe];exact (toldM_some hok.out (List.mem_of_getElem? hq') hqk).symm);rw[← hHDe] at hvb1 hh1 hr3;obtain⟨HL,hHL⟩:∃ X,X=HD.length:=⟨_,rfl⟩;have hHLe:Hid (HL=HD.length):=LH hHL;have hHD256:HD.length≤256:=by rw[hHD.out];exact toldM_le hok.out
    rw[← hHL] at hvb1 hh1 hr3 hHD256;have hhl:HL≤hy∧hy≤9223372036854775807∧HL≤256:=by omega
    have hvb:Hid (Bytes wr F (.slice hx HL hy) HD):=LH hvb1;have hglr:g<wr.heap.size:=Nat.lt_of_lt_of_le hgl hC.out.size;have hzI:(zm:Int)<(KN:Int):=by omega
    clear hvb1 hrc hHL hh1 hh2 hHD256;replace hHDe:=LH hHDe;replace hq:=LH hq;replace hq':=LH hq';replace hv:=LH hv;replace hqk:=LH hqk;by_cases hlt:n≤HL
    ·have hltI:(n:Int)≤(HL:Int):=by omega
     have hs0:sliced hx 0 n hy 1=.slice hx n hy:=by cases hx<;>simp[Go.sliced,Addr.add]
     have hcut:∀ x,(Instr.sliceAt 22 (.slice hx HL hy) none (some (.int .i64 n)) none).run prog x=.ok (.slice hx n hy) x:=fun x=>by
      rw[cut_hi (P:=prog) (s:=1) x underlying22 (by kernel_rfl) _ _ _ n (by omega),hs0]
     have hcb:Bytes wr F (.slice hx n hy) (List.take n HD):=by
      have h1:=hvb.out;rw[show (.slice hx HL hy:Value)=.slice hx (HD).length hy by rw[← hHLe.out]] at h1;have h2:=bytes_cut h1 0 n (by omega) (by have:=hHLe.out;omega);rw[List.drop_zero,Nat.sub_zero,hs0] at h2;exact h2
     obtain⟨v1,w2,hrun1,r1,c1⟩:=push_fresh hcb (by rw[List.length_take];omega);obtain⟨v1a,v1c,rfl,_,_⟩:=(Cells.own r1).shape;obtain⟨TN,hTN⟩:∃ X,X=(List.take n HD).length:=⟨_,rfl⟩;rw[← hTN] at hrun1 r1;replace hrun1:=LH hrun1;replace r1:=LH r1;replace c1:=LH c1;replace hTN:=LH hTN;clear hs0 hcb
     go_wp2_with (at_builtin;(refine wpList_app rfl _ _ 22 rfl (.slice (some ⟨wr.heap.size,0,none⟩) 0 0) (.slice hx n hy) (.slice v1a TN v1c) rfl rfl hrun1.out ?_))
     go_ret2;rw[hR.out,deriveM,if_pos (by rw[← hHD.out];have:=hHLe.out;omega),← hHD.out];have h1:=owns_base r1.out hC.out.size;refine⟨⟨_,rfl,?_⟩,⟨lv,_,k,vs,(hIr.out.chg c1.out).wide hcl htpl,(hKr.out.chg c1.out (fun _ _ _=>id)).mono (fun _ _ e=>.inl e)⟩,(hC.out.trans c1.out).mono (fun _ _ e=>e.elim)⟩;rw[← hTN.out];exact h1
    ·have hltI:(HL:Int)<(n:Int):=by omega
     obtain⟨m,hmn⟩:∃ m,m=n - HL:=⟨_,rfl⟩;have hmI:(n:Int) - (HL:Int)=(m:Int):=by omega
     replace hmn:=LH hmn;have c0:wr.cell? ⟨c,0,none⟩=some (.pointer (some ⟨tp,0,none⟩)):=by rw[cell_of hIr.out.box];rfl
     by_cases hsh:b.length<a+m
     ·have htk:=LH (qTake_short hIr.out.tape what m hsh (by have:=hmn.out;omega))
      go_wp2_with fail
      refine htk.out.mono ?_;rintro e w2 ⟨rfl,hC2⟩;replace hC2:=LH hC2;clear htk c0;go_wp2;go_ret2;rw[hR.out,deriveM,if_neg (by rw[← hHD.out];have:=hHLe.out;omega),if_pos (by rw[← hHD.out];have:=hHLe.out;have:=hmn.out;omega)];exact⟨rfl,⟨lv,_,k,vs,(hIr.out.chg hC2.out).wide hcl htpl,(hKr.out.chg hC2.out (fun _ _ _=>id)).mono (fun _ _ e=>.inl e)⟩,(hC.out.trans hC2.out).mono (fun _ _ e=>e.elim)⟩
     ·have htk:=LH (qTake_ok hIr.out.tape what m (by omega) (by have:=hmn.out;omega))
      go_wp2_with fail
      refine htk.out.mono ?_;rintro e w2 ⟨dv,lv',rfl,hdo,hT2,hC2⟩;obtain⟨DD,hDD⟩:∃ X,X=(b.drop a).take m:=⟨_,rfl⟩;rw[← hDD] at hdo;have hDDl:DD.length=m:=by rw[hDD,List.length_take,List.length_drop];omega
      have hI2:QIdeal w2 (fun g=>(F g∨wr.heap.size≤g)∧g<w2.heap.size) c tp bv lv' pv (.slice (some ⟨g,off,none⟩) KN kc) b (a+m) (k+1) prs ag:=
       (hIr.out.took (by omega) hT2 hC2).mono (fun g hg hF=>⟨hF,hg⟩) (fun e=>by
        rcases e.1 with e|e
        ·exact hIr.out.far e
        ·have:=heap_lt hIr.out.box;omega) (fun e=>by
        rcases e.1 with e|e
        ·exact hIr.out.tape.far e
        ·have:=heap_lt hIr.out.tape.box;omega)
      have hK2:QKeys w2 (fun g=>F g∧g<wr.heap.size) (.slice (some ⟨g,off,none⟩) KN kc) KD vs:=(hKr.out.mono (G:=fun g=>F g∧g<wr.heap.size) (fun g hg hF=>⟨hF,hg⟩)).chg hC2 (fun g _ hF e=>hIr.out.tape.far (e ▸ hF.1));have hvb2:=Bytes.chg hvb.out hC2 (fun g _ hF e=>hIr.out.tape.far (e ▸ hF));obtain⟨dx,dy,rfl,hd1,hd2⟩:=(Cells.own hdo).shape;unfold maxLen at hd2;obtain⟨v3,w3,hrun3,r3,c3⟩:=push_fresh hvb2 (by have:=hHLe.out;omega)
      have hdb3:Bytes w3 (fun _=>True) (.slice dx m dy) DD:=by
       have h1:Cells w2 (fun _=>True) (.slice dx m dy) m 1 (u8s DD):=(Cells.own hdo).mono (fun _ _ _=>trivial);have h2:=Cells.chg h1 c3 (fun _ _ _=>id);show Cells w3 _ _ DD.length 1 _;rw[hDDl];exact h2
      obtain⟨v4,w4,hrun4,r4,c4⟩:=push_more r3 c3.size hdb3 (by have:=hHLe.out;have:=hmn.out;omega);have hC4:Chg No w2 w4:=c3.then c4 (fun i hi e=>by have:=own_ge r3 e;omega);obtain⟨v3a,v3c,rfl,_,_⟩:=(Cells.own r3).shape;obtain⟨v4a,v4c,rfl,hv41,hv42⟩:=(Cells.own r4).shape;unfold maxLen at hv42;obtain⟨ALL,hALL⟩:∃ X,X=HD++DD:=⟨_,rfl⟩;rw[← hALL] at r4 hv41 hrun4;obtain⟨AL,hAL⟩:∃ X,X=ALL.length:=⟨_,rfl⟩;have hALn:AL=n:=by rw[hAL,hALL,List.length_append,hDDl];have:=hHLe.out;have:=hmn.out;omega
      rw[← hAL] at r4 hv41 hrun4;obtain⟨HN,hHN⟩:∃ X,X=List.length HD:=⟨_,rfl⟩;rw[← hHN] at hrun3 hrun4;have hI4:=hI2.chg hC4;have hK4:=hK2.chg hC4 (fun _ _ _=>id)
      have hal4:Bytes w4 (fun g=>w2.heap.size≤g∧g<w4.heap.size) (.slice v4a AL v4c) ALL:=by
       show Cells w4 _ _ ALL.length 1 _;rw[← hAL];exact (Cells.own r4).mono (fun _ h1 h=>⟨h.2,h1⟩)
      obtain⟨N4,hN4⟩:∃ X,X=w4.heap.size:=⟨_,rfl⟩;have hnew4:(w4.alloc (.cells #[] 127)).heap[N4]?=some (.cells #[] 127 (0,0)):=by rw[hN4];exact heap_alloc_new w4 _
      have hCa:Chg No w4 (w4.alloc (.cells #[] 127)):=(Chg.refl _ _).alloc _;have hKl:=hKN.out
      have hrowA:Cells (w4.alloc (.cells #[] 127)) (fun g=>F g∧g<wr.heap.size) (.slice (some ⟨g,off,none⟩) KN kc) KN 4 (tdCells KD vs):=by
       have h1:=Cells.chg hK4.row hCa (fun _ _ _=>id);rw[← hKl] at h1;exact h1
      obtain⟨v5,w5,hrun5,r5,c5⟩:=append_new (bytes:=64) underlying60 infoTold rfl (by decide) hnew4 hrowA (td_one hK4.one) (by unfold maxLen;omega) (by omega) (Nat.le_refl N4) 60;have hC5:Chg No w4 w5:=hCa.trans c5;obtain⟨g5,v5c,rfl,hv51,hv52⟩:=own_shape r5 (by omega);unfold maxLen at hv52;have hI5:=hI4.chg hC5;have hK5:=hK4.chg hC5 (fun _ _ _=>id);have hal5:=Bytes.chg hal4 hC5 (fun _ _ _=>id);obtain⟨w6,hw6⟩:∃ X,X=w5.setCell ⟨c,2,none⟩ (.slice (some ⟨g5,0,none⟩) KN v5c):=⟨_,rfl⟩;have hI6:QIdeal w6 _ c tp bv lv' pv (.slice (some ⟨g5,0,none⟩) KN v5c) b _ _ prs ag:=hw6 ▸ hI5.setK (.slice (some ⟨g5,0,none⟩) KN v5c);have hk6:∀ g,g≠c→w6.heap[g]?=w5.heap[g]?:=fun g hg=>by rw[hw6];exact setCell_heap_ne _ _ _ hg
      have hs6:w6.heap.size=w5.heap.size:=by rw[hw6];simp[World.setCell]
      have hcN:c<N4:=by have h1:=hC.out.size;have h2:=hC2.size;have h3:=hC4.size;omega
      have hw2N:w2.heap.size≤N4:=by have h3:=hC4.size;omega
      have hwrN:wr.heap.size≤w2.heap.size:=hC2.size;have hwwr:w.heap.size≤wr.heap.size:=hC.out.size;have hK6:=hK5.keep (w':=w6) (by omega) (fun g hg _=>hk6 g (fun e=>hIr.out.far (e ▸ hg.1)));have hal6:=Cells.keep hal5 (w':=w6) (by omega) (fun g hg _=>hk6 g (fun e=>by have:=hg.2;have:=hg.1;have:=hC2.size;have:=heap_lt hIr.out.box;omega));have r6:=owns_keep r5 (w':=w6) (fun g hg=>hk6 g (fun e=>by have:=(r5.lt g hg).1;omega))
      have hC6:Chg (fun g=>g=c∨g=tp) w w6:=by
       have h1:Chg (fun g=>g=c∨g=tp) w w5:=((hC.out.mono (fun _ _ e=>e.elim)).trans ((hC2.mono (fun _ _ e=>.inr e)).trans ((hC4.trans hC5).mono (fun _ _ e=>e.elim))));rw[hw6];exact h1.setCell (fun _=>.inl rfl) _
      have d2:(w4.alloc (.cells #[] 127)).cell? ⟨c,2,none⟩=some (.slice (some ⟨g,off,none⟩) KN kc):=by rw[cell_of ((hCa.block c (heap_lt hI4.box) id).trans hI4.box)];rfl
      have d3:w5.cell? ⟨c,2,none⟩=some (.slice (some ⟨g,off,none⟩) KN kc):=by rw[cell_of hI5.box];rfl
      have f3:w5.frozen? ⟨c,2,none⟩=false:=frozen_of hI5.box 2;have hcl4:c<w4.heap.size:=heap_lt hI4.box;have hcl5:c<w5.heap.size:=heap_lt hI5.box;have hs45:w4.heap.size≤w5.heap.size:=hC5.size;replace hrun3:=LH hrun3;replace hrun4:=LH hrun4;rw[hN4] at hrun5;replace hrun5:=LH hrun5;have hmKl:zm<KN:=hmK;have hg5:N4≤g5:=(r6.lt g5 rfl).1;obtain⟨cur,hcur⟩:=own_cells r6 (g:=g5) rfl
      have e7:∃ x,w6.cell? ⟨g5,zm*4+3,none⟩=some x:=by
       obtain⟨g',off',cap',hve,_,_,_,_,hcell⟩:=Cells.at (Cells.own r6) (by omega);cases hve
       have h1:=hcell (zm*4+3) _ (tdCells_get hK.out.len hq'.out hv.out (i:=3) (by omega));rw[Nat.zero_add] at h1;exact⟨_,h1⟩
      obtain⟨x7,e7⟩:=e7;have f7:w6.frozen? ⟨g5,zm*4+3,none⟩=false:=frozen_of hcur _;have d7:w6.cell? ⟨c,2,none⟩=some (.slice (some ⟨g5,0,none⟩) KN v5c):=by rw[cell_of hI6.box];rfl
      have hcl6:c<w6.heap.size:=heap_lt hI6.box;have hgl6:g5<w6.heap.size:=heap_lt hcur;obtain⟨w7,hw7⟩:∃ X,X=w6.setCell ⟨g5,zm*4+3,none⟩ (.slice v4a AL v4c):=⟨_,rfl⟩;have hk7:∀ g,g≠g5→w7.heap[g]?=w6.heap[g]?:=fun g hg=>by rw[hw7];exact setCell_heap_ne _ _ _ hg
      have hs7:w7.heap.size=w6.heap.size:=by rw[hw7];simp[World.setCell]
      have htpN:tp<N4:=by omega
      have hI7:=hI6.keep (w':=w7) (by omega) (fun g hg _=>hk7 g (by rcases hg with e|e|e;omega;omega;have:=e.2;omega));have hK7:=hK6.keep (w':=w7) (by omega) (fun g hg _=>hk7 g (by have:=hg.2;omega));have hal7:=Cells.keep hal6 (w':=w7) (by omega) (fun g hg _=>hk7 g (by have:=hg.2;omega));have hrow7:=cells_set r6 (i:=zm*4+3) (.slice v4a AL v4c);rw[← hw7] at hrow7
      have hC7:Chg (fun g=>g=c∨g=tp) w w7:=by
       rw[hw7];exact hC6.setCell (fun h=>absurd h (by show ¬ g5<_;omega)) _
      obtain⟨v8,w8,hrun8,r8,c8⟩:=push_fresh (m:=ALL) hal7 (by omega);obtain⟨v8a,v8c,rfl,_,_⟩:=(Cells.own r8).shape;rw[← hAL] at hrun8 r8;rw[show w7.heap.size=w5.heap.size from by omega] at hrun8
      have hKD:QKeys w7 (fun g=>F g∨w.heap.size≤g) (.slice (some ⟨g5,0,none⟩) KN v5c) (putM KD q'.1 ALL) (vs.set zm (.slice v4a AL v4c)):=
       hK7.setAt hok.out hq'.out (by rw[← hKl];exact hrow7.mono (fun g _ e=>by have e:g=g5:=e;exact .inr (by omega))) (Cells.mono hal7 (fun g _ e=>.inr (by have:=e.1;omega))) (fun g e=>.inl e.1)
      have hI8:QIdeal w8 (fun g=>F g∨w.heap.size≤g) c tp bv lv' pv (.slice (some ⟨g5,0,none⟩) KN v5c) b (a+m) (k+1) prs ag:=(hI7.chg c8).mono (fun g _ e=>by rcases e.1 with e|e;exact .inl e;exact .inr (by omega)) (fun e=>by rcases e with e|e;exact h.out.far e;omega) (fun e=>by rcases e with e|e;exact h.out.tape.far e;omega);have hK8:=hKD.chg c8 (fun _ _ _=>id);have hC8:Chg (fun g=>g=c∨g=tp) w w8:=hC7.then c8 (fun _ _ e=>e.elim);have hown8:=owns_base r8 hC7.size;have hdvI:(0:Int)≤(zm:Int):=by omega
      subst hw7;subst hw6;replace hrun8:=LH hrun8;replace hI8:=LH hI8;replace hK8:=LH hK8;replace hC8:=LH hC8;replace hown8:=LH hown8;clear hI7 hK7 hal7 hrow7 hC7 hKD hk7 hs7 r8 c8 hcur;skip;replace hI6:=LH hI6;replace hK6:=LH hK6;replace hal6:=LH hal6;replace r6:=LH r6;replace hC6:=LH hC6;replace hN4:=LH hN4;replace hALL:=LH hALL;replace hAL:=LH hAL;replace hALn:=LH hALn;replace hDD:=LH hDD;replace hDDl:=LH hDDl;replace hHN:=LH hHN;replace hwrN:=LH hwrN;replace hw2N:=LH hw2N;replace hs6:=LH hs6;clear htk c0 hI2 hK2 hvb2 hdo hT2 hC2 hdb3 r3 c3 c4 r4 hC4 hI4 hK4 hal4 hnew4 hCa hrowA c5 hC5 r5 hI5 hK5 hal5 hk6 hKl
      go_wp2_with (at_builtin;(first|(refine wpList_app rfl _ _ 22 rfl (.slice (some ⟨w2.heap.size,0,none⟩) 0 0) (.slice hx HL hy) (.slice v3a HN v3c) rfl rfl hrun3.out ?_)|(refine wpList_app rfl _ _ 22 rfl (.slice v3a HN v3c) (.slice dx m dy) (.slice v4a AL v4c) rfl rfl hrun4.out ?_)|(refine wpList_app rfl _ _ 60 rfl (.slice (some ⟨w4.heap.size,0,none⟩) 0 0) (.slice (some ⟨g,off,none⟩) KN kc) (.slice (some ⟨g5,0,none⟩) KN v5c) rfl rfl hrun5.out ?_)|(refine wpList_app rfl _ _ 22 rfl (.slice (some ⟨w5.heap.size,0,none⟩) 0 0) (.slice v4a AL v4c) (.slice v8a AL v8c) rfl rfl hrun8.out ?_)))
      go_ret2;have hRR:=hR.out;rw[deriveM,if_neg (by rw[← hHD.out];have:=hHLe.out;omega),if_neg (by rw[← hHD.out];have:=hHLe.out;have:=hmn.out;omega),← hHD.out,← hHLe.out,← hmn.out,← hDD.out,← hALL.out] at hRR;rw[hRR];have h9:=hK8.out;rw[hqk.out] at h9;exact⟨⟨_,rfl,by rw[← hAL.out];exact hown8.out⟩,⟨lv',_,k+1,_,hI8.out,h9⟩,hC8.out⟩
end Go.Proofs.YtbgfdbidbjlaaaaGreat.Fd

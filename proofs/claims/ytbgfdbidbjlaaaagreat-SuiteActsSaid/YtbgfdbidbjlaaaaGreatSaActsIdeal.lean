/-
  SuiteActs: the state of the ideal kind. No condition beyond what each theorem names.
-/
import Derived.Test.YtbgfdbidbjlaaaaGreatSaActsLawPk
import Derived.Test.YtbgfdbidbjlaaaaGreatSaSuG
import Derived.Test.YtbgfdbidbjlaaaaGreatSaQDerive
namespace Go.Proofs.YtbgfdbidbjlaaaaGreat.Fd
open _root_.Go.Proofs.Tryz
open Go Go.RowKit K
theorem cells_of_cell {w:World}{g i:Nat}{u:Value}(h:w.cell? ⟨g,i,none⟩=some u):∃ cs t m,w.heap[g]?=some (.cells cs t m):=by
 cases hg:w.heap[g]? with
 | none=>simp[World.cell?,hg] at h
 | some o=>
  cases o with
  | cells cs t m=>exact⟨cs,t,m,rfl⟩
  | _=>simp[World.cell?,hg] at h
def SolidAt (w:World) (F:Nat→Prop) (g:Nat):Prop:=F g∧∃ cs t m,w.heap[g]?=some (.cells cs t m)
theorem Cells.solid {w:World}{S:Nat→Prop}{v:Value}{n sz:Nat}{xs:List Value}(h:Cells w S v n sz xs) (hs:0<sz):Cells w (SolidAt w S) v n sz xs:=by
 obtain⟨h1,a,cap,h2,h3,h4,h5,h6⟩:=h;refine⟨h1,a,cap,h2,h3,h4,h5,?_⟩;rcases h6 with h6|⟨g,off,e1,e2,e3,e4⟩
 ·exact .inl h6
 ·rcases Nat.eq_zero_or_pos n with hn|hn
  ·exact .inl hn
  ·refine .inr ⟨g,off,e1,⟨e2,?_⟩,e3,e4⟩;have hx:0<xs.length:=by rw[h1];exact Nat.mul_pos hn hs
   exact cells_of_cell (e4 0 _ (List.getElem?_eq_getElem hx))
theorem QIdeal.solid {w:World}{F:Nat→Prop}{c tp:Nat}{bv lv pv kv:Value}{b:List UInt8}{a k:Nat}{prs:List PR}{ag:Nat}(h:QIdeal w F c tp bv lv pv kv b a k prs ag):QIdeal w (SolidAt w F) c tp bv lv pv kv b a k prs ag:=by
 obtain⟨xs,x1,x2,x3⟩:=h.tape.takes;exact⟨h.box,⟨h.tape.box,Cells.solid h.tape.bytes (by omega),h.tape.few,h.tape.within,⟨xs,Cells.solid x1 (by omega),x2,x3⟩,h.tape.count,fun e=>h.tape.far e.1⟩,Cells.solid h.row (by omega),h.ok,h.few,h.again,fun e=>h.far e.1,h.apart⟩
theorem QKeys.solid {w:World}{F:Nat→Prop}{kv:Value}{KD:List KR}{vs:List Value}(h:QKeys w F kv KD vs):QKeys w (SolidAt w F) kv KD vs:=
 ⟨h.len,Cells.solid h.row (by omega),fun j q v hq hv=>Cells.solid (h.each j q v hq hv) (by omega)⟩
def DocG (F:Nat→Prop) (c tp m hp xp g:Nat):Prop:=g=c∨g=tp∨g=m∨g=hp∨g=xp∨F g
structure IdX (w0:World) (b:List UInt8) (p s m:Nat) (S:IdG) (aP:Nat) (prsP:List PR) (l:List KT) (F:Nat→Prop) (n0 hp xp tp c:Nat) (bq lv pv kv:Value) (k ag:Nat) (vs:List Value) (aD:Nat) (prsD:List PR) (KD:List KR) (w:World):Prop where
 st:IdealG w w0.heap.size S aP prsP
 keys:KeysG w w0.heap.size S.k l
 suite:SuiteAt w s (some ⟨S.c,0,none⟩) (some ⟨S.tp,0,none⟩)
 tpe:S.tp=p
 be:S.b=b
 doc:QSuiteAt w n0 m hp xp tp (.pointer (some ⟨c,0,none⟩))
 qid:QIdeal w F c tp bq lv pv kv b aD k prsD ag
 qk:QKeys w F kv KD vs
 high:w0.heap.size≤c∧w0.heap.size≤tp
 solid:∀ g,DocG F c tp m hp xp g→(∃ cs t mm,w.heap[g]?=some (.cells cs t mm))∧¬ OwnG S g
 low:Below w0.heap.size w0 w
section
variable {w0 w w1 w2:World}{b:List UInt8}{p s m:Nat}{S S':IdG}{aP aP':Nat}{prsP prsP':List PR}{l l':List KT}{F:Nat→Prop}{n0 hp xp tp c:Nat}{bq lv pv kv:Value}{k ag:Nat}{vs:List Value}{aD:Nat}{prsD:List PR}{KD:List KR}
theorem IdX.own_cells (h:IdX w0 b p s m S aP prsP l F n0 hp xp tp c bq lv pv kv k ag vs aD prsD KD w){g:Nat}(hg:DocG F c tp m hp xp g):g<w.heap.size:=by
 obtain⟨⟨cs,t,mm,h1⟩,_⟩:=h.solid g hg;exact heap_lt h1
theorem IdX.prog (h:IdX w0 b p s m S aP prsP l F n0 hp xp tp c bq lv pv kv k ag vs aD prsD KD w) (h1:IdealG w1 w0.heap.size S' aP' prsP') (h2:KeysG w1 w0.heap.size S.k l') (hsame:SameG S S') (hown:∀ g,OwnG S' g→OwnG S g∨w.heap.size≤g) (hkept:Kept w0.heap.size w w1)
  (hD:∀ g,DocG F c tp m hp xp g→w1.heap[g]?=w.heap[g]?):IdX w0 b p s m S' aP' prsP' l' F n0 hp xp tp c bq lv pv kv k ag vs aD prsD KD w1:=by
 have hsz:=hkept.below.size;refine⟨h1,by rw[hsame.k];exact h2,?_,hsame.tp.trans h.tpe,hsame.b.trans h.be,h.doc.keep (fun g hg=>hD g ?_),h.qid.keep hsz (fun g hg _=>hD g ?_),h.qk.keep hsz (fun g hg _=>hD g (.inr (.inr (.inr (.inr (.inr hg)))))),h.high,fun g hg=>?_,h.low.trans hkept.below⟩
 ·rw[hsame.c,hsame.tp];exact (hkept.keep _ _ _ _ h.suite (by decide) (by decide) (by decide)).trans h.suite
 ·rcases hg with e|e|e
  ·exact .inr (.inr (.inl e))
  ·exact .inr (.inr (.inr (.inl e)))
  ·exact .inr (.inr (.inr (.inr (.inl e))))
 ·rcases hg with e|e|e
  ·exact .inl e
  ·exact .inr (.inl e)
  ·exact .inr (.inr (.inr (.inr (.inr e))))
 ·obtain⟨⟨cs,t,mm,h3⟩,h4⟩:=h.solid g hg;refine⟨⟨cs,t,mm,(hD g hg).trans h3⟩,fun e=>?_⟩;rcases hown g e with e|e
  ·exact h4 e
  ·have:=heap_lt h3;omega
theorem IdX.docs (h:IdX w0 b p s m S aP prsP l F n0 hp xp tp c bq lv pv kv k ag vs aD prsD KD w){lv' pv' kv':Value}{k' ag':Nat}{vs':List Value}{aD':Nat}{prsD':List PR}{KD':List KR}
  (hq:QIdeal w2 (fun g=>F g∨w.heap.size≤g) c tp bq lv' pv' kv' b aD' k' prsD' ag') (hk:QKeys w2 (fun g=>F g∨w.heap.size≤g) kv' KD' vs') (hC:Chg (fun g=>g=c∨g=tp) w w2):
  IdX w0 b p s m S aP prsP l (SolidAt w2 (fun g=>F g∨w.heap.size≤g)) n0 hp xp tp c bq lv' pv' kv' k' ag' vs' aD' prsD' KD' w2:=by
 have hcb:=h.qid.box;have htb:=h.qid.tape.box
 have hcell:∀ (g:Nat) (cs:Array Value) (t:TypeId) (mm:Nat×Nat),w.heap[g]?=some (.cells cs t mm)→t≠62→t≠44→w2.heap[g]?=w.heap[g]?:=fun g cs t mm hg h1 h2=>hC.block g (heap_lt hg) (by
  rintro (e|e)
  ·subst e;have h3:=hg.symm.trans hcb;simp only[Option.some.injEq,Obj.cells.injEq] at h3;exact h1 h3.2.1
  ·subst e;have h3:=hg.symm.trans htb;simp only[Option.some.injEq,Obj.cells.injEq] at h3;exact h2 h3.2.1)
 have hmap:∀ (g:Nat) (es:Array MapEntry) (ck:Nat),w.heap[g]?=some (.map es ck)→w2.heap[g]?=w.heap[g]?:=fun g es ck hg=>hC.block g (heap_lt hg) (by
  rintro (e|e)
  ·subst e;have h3:=hg.symm.trans hcb;cases h3
  ·subst e;have h3:=hg.symm.trans htb;cases h3)
 refine⟨h.st.keep hC.size hmap (fun g cs t mm hg ht=>hcell g cs t mm hg ?_ ?_),h.keys.keep (fun es ck hg=>hmap _ es ck hg) (fun g cs mm hg=>hcell g cs _ mm hg (by decide) (by decide)),(hcell _ _ _ _ h.suite (by decide) (by decide)).trans h.suite,h.tpe,h.be,h.doc.keep (fun g hg=>?_),hq.solid,hk.solid,h.high,fun g hg=>?_,?_⟩
 ·rcases ht with (rfl|rfl|rfl)|rfl<;>decide
 ·rcases ht with (rfl|rfl|rfl)|rfl<;>decide
 ·rcases hg with rfl|rfl|rfl
  ·exact hcell _ _ _ _ h.doc.box (by decide) (by decide)
  ·exact hcell _ _ _ _ h.doc.hash (by decide) (by decide)
  ·exact hcell _ _ _ _ h.doc.tab (by decide) (by decide)
 ·have hold:∀ g,DocG F c tp m hp xp g→¬ (g=c∨g=tp)→(∃ cs t mm,w2.heap[g]?=some (.cells cs t mm))∧¬ OwnG S g:=fun g hg hne=>by
   obtain⟨⟨cs,t,mm,h1⟩,h2⟩:=h.solid g hg;exact⟨⟨cs,t,mm,(hC.block g (heap_lt h1) hne).trans h1⟩,h2⟩
  by_cases e1:g=c
  ·subst e1;exact⟨⟨_,_,_,hq.box⟩,(h.solid g (.inl rfl)).2⟩
  ·by_cases e2:g=tp
   ·subst e2;exact⟨⟨_,_,_,hq.tape.box⟩,(h.solid g (.inr (.inl rfl))).2⟩
   ·have hne:¬ (g=c∨g=tp):=fun e=>by rcases e with e|e;exact e1 e;exact e2 e
    rcases hg with e|e|e|e|e|e
    ·exact absurd e e1
    ·exact absurd e e2
    ·exact hold g (.inr (.inr (.inl e))) hne
    ·exact hold g (.inr (.inr (.inr (.inl e)))) hne
    ·exact hold g (.inr (.inr (.inr (.inr (.inl e))))) hne
    ·refine⟨e.2,fun e3=>?_⟩;rcases e.1 with e4|e4
     ·exact (h.solid g (.inr (.inr (.inr (.inr (.inr e4)))))).2 e3
     ·have:=h.st.own_lt e3;omega
 ·have hh:=h.high;exact⟨hC.os.trans h.low.os,hC.tape.trans h.low.tape,hC.output.trans h.low.output,Nat.le_trans h.low.size hC.size,fun g hg=>(hC.block g (Nat.lt_of_lt_of_le hg h.low.size) (by rintro (e|e)<;>omega)).trans (h.low.block g hg)⟩
end
theorem cryptM_le {b:List UInt8}{a:Nat}{prs:List PR}{k:PKey}{x:List UInt8}{back:Bool}(ha:a≤b.length):a≤(cryptM b a prs k x back).2.1∧(cryptM b a prs k x back).2.1≤b.length:=by
 cases hl:lookM prs k x back with
 | some z=>rw[cryptM_had hl];exact⟨Nat.le_refl _,ha⟩
 | none=>
  have h1:=pickB_le (used:=usedM prs k back) (f:=b.length) ha;obtain⟨z,a'',hz⟩:∃ z a'',pickB b (usedM prs k back) b.length a=(z,a''):=⟨_,_,rfl⟩;rw[hz] at h1;cases z with
  | none=>rw[cryptM_miss hl hz];exact h1
  | some z=>rw[cryptM_hit hl hz];exact h1
theorem sweep_le {b:List UInt8}{K:ByteArray}{u:Nat}{back:Bool}{data:List UInt8}{a:Nat}{prs:List PR}(ha:a≤b.length):∀ j,a≤(sweepM b K u back data a prs j).2.1∧(sweepM b K u back data a prs j).2.1≤b.length:=by
 intro j
 induction j with
 | zero=>exact⟨Nat.le_refl _,ha⟩
 | succ j ih=>
  obtain⟨z,a',prs',hz⟩:∃ z a' prs',sweepM b K u back data a prs j=(z,a',prs'):=⟨_,_,_,rfl⟩;cases z with
  | none=>rw[sweepM_stuck hz (j+1) (by omega)];rw[hz] at ih;exact ih
  | some z=>
   rw[sweep_some hz];rw[hz] at ih;have h1:=cryptM_le (b:=b) (a:=a') (prs:=prs') (k:=(K,u,j)) (x:=blk data j) (back:=back) ih.2;have h2:(stepM b K u back data a prs j).2.1=(cryptM b a' prs' (K,u,j) (blk data j) back).2.1:=by unfold stepM;rw[hz]
   show a≤(stepM b K u back data a prs j).2.1∧(stepM b K u back data a prs j).2.1≤b.length;rw[h2];exact⟨Nat.le_trans ih.1 h1.1,h1.2⟩
theorem deriveM_ok {b:List UInt8}{a:Nat}{KD:List KR}{k:KKey}{n:Nat}(h:KdOk KD a) (hk:k.1.size≤128∧k.2.1.size≤64∧k.2.2≤10000) (hn:n≤256):KdOk (deriveM b a KD k n).2.2 (deriveM b a KD k n).2.1:=by
 unfold deriveM;split
 ·exact h
 ·split
  ·exact h
  ·rename_i h1 h2;dsimp only
   have h3:(toldM KD k++(b.drop a).take (n - (toldM KD k).length)).length=n:=by
    rw[List.length_append,List.length_take,List.length_drop];omega
   exact h.put hk (by omega) (by omega) (by omega)
def IdealI (w0:World) (b:List UInt8) (p s m:Nat) (w:World):Prop:=
 ∃ S a prs l F n0 hp xp tp c bq lv pv kv k ag vs,KdOk (toldT l) a∧IdX w0 b p s m S a prs l F n0 hp xp tp c bq lv pv kv k ag vs a prs (toldT l) w
theorem KpA.kept {B:Nat}{w w':World}(h:Kept B w w'):KpA w w':=⟨h.below.size,fun g cs m hg=>h.keep g cs _ m hg (by decide) (by decide) (by decide)⟩
theorem IdealI.no {w0 w w':World}{b:List UInt8}{p s m:Nat}(h:IdealI w0 b p s m w) (hc:Chg No w w'):IdealI w0 b p s m w':=by
 obtain⟨S,a,prs,l,F,n0,hp,xp,tp,c,bq,lv,pv,kv,k,ag,vs,h1,h2⟩:=h;refine⟨S,a,prs,l,F,n0,hp,xp,tp,c,bq,lv,pv,kv,k,ag,vs,h1,h2.prog (h2.st.chg hc) (h2.keys.chg hc id (fun _ _ _ _=>id)) (SameG.refl S) (fun g e=>.inl e) (Kept.chg h2.st.room hc) (fun g hg=>hc.block g (h2.own_cells hg) id)⟩
theorem swept_bytes {w w':World}{o:Option (List UInt8)}{e:Ending}(h:SweptV w o e w'):∃ xa xn xc X,∃ E:Int,e=.returned (.tuple #[.slice xa xn xc,.int .i64 E])∧X=o.getD []∧E=(if o.isSome then 0 else 9)∧Bytes w' (fun g=>w.heap.size≤g) (.slice xa xn xc) X:=by
 cases o with
 | none=>exact⟨none,0,0,[],9,h,rfl,rfl,Cells.nil _ _ 1⟩
 | some x=>
  obtain⟨v,rfl,h1⟩:=h;obtain⟨a,c,rfl,_⟩:=(Cells.own h1).shape;exact⟨a,_,c,x,0,rfl,rfl,rfl,own_bytes h1⟩
theorem derv_bytes {w w':World}{o:Option (List UInt8)}{e:Ending}(h:DerV w o e w'):∃ xa xn xc X,∃ E:Int,e=.returned (.tuple #[.slice xa xn xc,.int .i64 E])∧X=o.getD []∧E=(if o.isSome then 0 else 9)∧Bytes w' (fun g=>w.heap.size≤g) (.slice xa xn xc) X:=by
 cases o with
 | none=>exact⟨none,0,0,[],9,h,rfl,rfl,Cells.nil _ _ 1⟩
 | some x=>
  obtain⟨v,rfl,h1⟩:=h;obtain⟨a,c,rfl,_⟩:=(Cells.own h1).shape;exact⟨a,_,c,x,0,rfl,rfl,rfl,own_bytes h1⟩
section
variable {w0 w:World}{b:List UInt8}{p s m:Nat}
theorem IdealI.crypt (back:Bool) (h:IdealI w0 b p s m w){x:ActD}{kv dv:Value}(hf:fewP x) (hu:-9223372036854775808≤x.unit∧x.unit≤9223372036854775807) (hk:Bytes w0 (fun _=>True) kv x.key) (hd:Bytes w0 (fun _=>True) dv x.data):
  Alike (if back then 11 else 9) #[.pointer (some ⟨s,0,none⟩),.string x.what,kv,.int .i64 x.unit,dv] 10 #[.pointer (some ⟨m,0,none⟩),.string x.what,kv,.int .i64 x.unit,dv,.bool back] (IdealI w0 b p s m) w:=by
 obtain⟨S,a,prs,l,F,n0,hp,xp,tp,c,bq,lv,pv,kvq,k,ag,vs,hok,hX⟩:=h;have hkw:=fun w1 (h1:Below w0.heap.size w0 w1)=>bytes_in hk h1
 have hdw:=fun w1 (h1:Below w0.heap.size w0 w1)=>bytes_in hd h1
 obtain⟨ka,kc,rfl,_,_⟩:=hk.shape;obtain⟨da,dc,rfl,_,_⟩:=hd.shape;by_cases hsok:sectOk x
 ·obtain⟨u,hu2⟩:∃ u:Nat,x.unit=u:=⟨x.unit.toNat,by have:=hsok.1.2.1;omega⟩;have hko:=hsok.1;rw[hu2] at hko ⊢;obtain⟨R,hR⟩:∃ R,R=sweepM b ⟨x.key.toArray⟩ u back x.data a prs (x.data.length / 16):=⟨_,rfl⟩;have hkfree:=hX.st.k_free;obtain⟨es,ck,hkm⟩:=hX.st.keys
  have h1:=cryptSuG hX.st hX.suite back (what:=x.what) (ka:=ka) (da:=da) (kc:=kc) (dc:=dc) (fun w1 h1=>(hkw w1 (hX.low.trans h1.below)).mono (fun _ _ _=>trivial)) (fun w1 h1=>(hdw w1 (hX.low.trans h1.below)).mono (fun _ _ _=>trivial)) u hko hsok.2.1 hsok.2.2
   (D:=fun g=>DocG F c tp m hp xp g∨g=S.k) (fun g hg=>by
    rcases hg with hg|hg
    ·exact⟨.inl (hX.solid g hg).1,(hX.solid g hg).2⟩
    ·subst hg;exact⟨.inr ⟨es,ck,hkm⟩,hkfree⟩) (fun g hg=>(hX.st.tape.bytes.lt g hg).2) (R:=R) (by rw[hX.be];exact hR)
  refine h1.mono ?_;rintro e w1 ⟨hsw,S',i1,i2,i3,i4,i5⟩;obtain⟨xa,xn,xc,X,E,rfl,hXe,hEe,hxb⟩:=swept_bytes hsw;have hX1:=hX.prog i1 (hX.keys.keep (fun es ck _=>i5 _ (.inr rfl)) (fun g cs mm hg=>i3.keep g cs _ mm hg (by decide) (by decide) (by decide))) i2 i4 i3 (fun g hg=>i5 g (.inl hg));refine⟨xa,xn,xc,E,rfl,KpA.kept i3,?_⟩;refine (qSuCrypt_ideal hX1.doc hX1.qid (hkw w1 hX1.low) u hko (hdw w1 hX1.low) hsok.2.1 hsok.2.2 ?_ ?_ ?_ x.what back hR).mono ?_
  ·refine⟨fun e=>?_,fun e=>?_⟩
   ·have h3:=hX1.doc.box;rw[e,hX1.qid.box] at h3;simp only[Option.some.injEq,Obj.cells.injEq] at h3;exact absurd h3.2.1 (by decide)
   ·have h3:=hX1.doc.box;rw[e,hX1.qid.tape.box] at h3;simp only[Option.some.injEq,Obj.cells.injEq] at h3;exact absurd h3.2.1 (by decide)
  ·intro g hg;have hh:=hX1.high;have hg:g<w0.heap.size:=hg;exact⟨by omega,by omega⟩
  ·intro g hg;have hh:=hX1.high;have hg:g<w0.heap.size:=hg;exact⟨by omega,by omega⟩
  ·rintro e2 w2 ⟨hsw2,⟨lv',pv',k',ag',hq⟩,hC⟩;obtain⟨ya,yn,yc,Y,E2,rfl,hYe,hE2e,hyb⟩:=swept_bytes hsw2;have hEE:E2=E:=hE2e.trans hEe.symm;have hYY:Y=X:=hYe.trans hXe.symm;subst hEE;subst hYY;have hk2:QKeys w2 (fun g=>F g∨w1.heap.size≤g) kvq (toldT l) vs:=(hX1.qk.chg hC (fun g _ hF e=>by rcases e with e|e;exact hX1.qid.far (e ▸ hF);exact hX1.qid.tape.far (e ▸ hF))).mono (fun _ _ e=>.inl e);have hX2:=hX1.docs hq hk2 hC;have hcl:=heap_lt hX.qid.box;have htl:=heap_lt hX.qid.tape.box;refine⟨ya,yn,yc,Y,rfl,(Bytes.chg hxb hC (fun g _ hg e=>by rcases e with e|e<;>omega)).mono (fun _ _ _=>trivial),hyb.mono (fun _ _ _=>trivial),S',R.2.1,R.2.2,l,_,n0,hp,xp,tp,c,bq,lv',pv',kvq,k',ag',vs,hok.le ?_,hX2⟩;have h4:=sweep_le (b:=b) (K:=⟨x.key.toArray⟩) (u:=u) (back:=back) (data:=x.data) (a:=a) (prs:=prs) (by have:=hX.st.tape.within;rw[hX.be] at this;exact this) (x.data.length / 16);rw[hR];exact h4.1
 ·have hm:=may_no (hkw w hX.low) (hdw w hX.low) hf hu hsok
  have hsecond:∀ w1,Below w.heap.size w w1→Calls prog 10 #[.pointer (some ⟨m,0,none⟩),.string x.what,.slice ka x.key.length kc,.int .i64 x.unit,.slice da x.data.length dc,.bool back] w1 fun e2 w2=>∃ ya yn yc X,e2=.returned (.tuple #[.slice ya yn yc,.int .i64 1])∧Bytes w2 (fun _=>True) (.slice none 0 0) X∧Bytes w2 (fun _=>True) (.slice ya yn yc) X∧IdealI w0 b p s m w2:=fun w1 h1=>by
   refine (qSuCrypt_bad (by have:=hf.2.2.1;omega) (crypt_no hsok)).mono ?_;rintro e2 w2 ⟨rfl,rfl⟩;exact⟨_,_,_,[],rfl,nil_bytes _,nil_bytes _,IdealI.no ⟨S,a,prs,l,F,n0,hp,xp,tp,c,bq,lv,pv,kvq,k,ag,vs,hok,hX⟩ (Chg.of_below h1 _)⟩
  cases back with
  | false=>
   refine seal_ideal hX.suite _ _ _ _ _ ((suThroughBad_ok _ _ _ _ _ hm).mono ?_);rintro e w1 ⟨rfl,h2⟩;exact⟨_,_,_,_,rfl,_,_,_,_,rfl,KpA.of h2,hsecond w1 h2⟩
  | true=>
   refine open_ideal hX.suite _ _ _ _ _ ((suThroughBad_ok _ _ _ _ _ hm).mono ?_);rintro e w1 ⟨rfl,h2⟩;exact⟨_,_,_,_,rfl,_,_,_,_,rfl,KpA.of h2,hsecond w1 h2⟩
theorem IdealI.derive (h:IdealI w0 b p s m w){x:ActD}{kv dv:Value}(hf:fewP x) (hk:Bytes w0 (fun _=>True) kv x.key) (hd:Bytes w0 (fun _=>True) dv x.data):
  Alike 12 #[.pointer (some ⟨s,0,none⟩),.string x.what,kv,dv,.int .i64 x.unit,.int .i64 x.num] 13 #[.pointer (some ⟨m,0,none⟩),.string x.what,kv,dv,.int .i64 x.unit,.int .i64 x.num] (IdealI w0 b p s m) w:=by
 have hI:=h;obtain⟨S,a,prs,l,F,n0,hp,xp,tp,c,bq,lv,pv,kvq,k,ag,vs,hok,hX⟩:=h;have hkw:=fun w1 (h1:Below w0.heap.size w0 w1)=>bytes_in hk h1
 have hdw:=fun w1 (h1:Below w0.heap.size w0 w1)=>bytes_in hd h1
 have hwl:x.what.size≤1000:=by have:=hf.1;omega
 by_cases haok:askOk x.key.length x.data.length x.unit x.num
 ·have hb:x.key.length≤128∧x.data.length≤64∧1≤x.unit∧x.unit≤10000:=by
   have h1:=haok.1;simp[mayB] at h1;omega
  obtain⟨u,hu2⟩:∃ u:Nat,x.unit=u:=⟨x.unit.toNat,by omega⟩;obtain⟨n,hn2⟩:∃ n:Nat,x.num=n:=⟨x.num.toNat,by have:=haok.2.1;omega⟩;have hm:=haok.1;have hn256:n≤256:=by have:=haok.2.2;omega
  rw[hu2] at hm ⊢;rw[hn2];obtain⟨R,hR⟩:∃ R,R=deriveM b a (toldT l) (⟨x.key.toArray⟩,⟨x.data.toArray⟩,u) n:=⟨_,rfl⟩;have h1:=deriveSuG hX.st hX.keys hok hX.suite (hkw w hX.low) (hdw w hX.low) u n hm hn256 x.what hwl (R:=R) (by rw[hX.be];exact hR);refine h1.mono ?_;rintro e w1 ⟨hdv,S',l',i1,i2,i3,i4⟩;obtain⟨xa,xn,xc,X,E,rfl,hXe,hEe,hxb⟩:=derv_bytes hdv;obtain⟨es,ck,hkm⟩:=hX.st.keys
  have hX1:=hX.prog i1 i2 i4.same i4.own i4.kept (fun g hg=>by
   obtain⟨⟨cs,t,mm,h3⟩,h4⟩:=hX.solid g hg;refine i4.chg.block g (heap_lt h3) (fun e=>?_);rcases e with e|e
   ·exact h4 e
   ·subst e;rw[hkm] at h3;cases h3)
  refine⟨xa,xn,xc,E,rfl,KpA.kept i4.kept,?_⟩;have hcl:=heap_lt hX.qid.box;have htl:=heap_lt hX.qid.tape.box;refine qSuDerive_ideal hX1.doc x.what hwl _ _ _ _ _ ((qDerive_ok hX1.qid hX1.qk hok (hkw w1 hX1.low) (hdw w1 hX1.low) (fun g hg=>?_) (fun g hg=>?_) u n hm hn256 _ hR).mono ?_)
  ·have hh:=hX1.high;have hg:g<w0.heap.size:=hg;exact⟨by omega,by omega⟩
  ·have hh:=hX1.high;have hg:g<w0.heap.size:=hg;exact⟨by omega,by omega⟩
  ·rintro e2 w2 ⟨hdv2,⟨lv',kv',k',vs',hq,hqk⟩,hC⟩;obtain⟨ya,yn,yc,Y,E2,rfl,hYe,hE2e,hyb⟩:=derv_bytes hdv2;have hEE:E2=E:=hE2e.trans hEe.symm;have hYY:Y=X:=hYe.trans hXe.symm;subst hEE;subst hYY;rw[← i3] at hqk;have hX2:=hX1.docs hq hqk hC;refine⟨ya,yn,yc,E2,rfl,ya,yn,yc,Y,rfl,(Bytes.chg hxb hC (fun g _ hg e=>by rcases e with e|e<;>omega)).mono (fun _ _ _=>trivial),hyb.mono (fun _ _ _=>trivial),S',R.2.1,prs,l',_,n0,hp,xp,tp,c,bq,lv',pv,kv',k',ag,vs',?_,hX2⟩;rw[i3,hR];exact deriveM_ok hok ⟨by rw[bytes_size];exact hb.1,by rw[bytes_size];exact hb.2.1,by show u≤_;omega⟩ hn256
 ·have hno:=idKey_no (c:=.pointer (some ⟨S.c,0,none⟩)) (what:=.string (x.what++⟨#[32,107,101,121]⟩)) (hkw w hX.low) (hdw w hX.low) haok;obtain⟨ka,kc,rfl,_,_⟩:=hk.shape;obtain⟨da,dc,rfl,_,_⟩:=hd.shape;refine derive_ideal hX.suite x.what hwl _ _ _ _ _ (hno.mono ?_);rintro e w1 ⟨rfl,h2⟩;refine⟨_,_,_,_,rfl,none,0,0,1,rfl,KpA.of h2,?_⟩;have hI1:=hI.no (Chg.of_below h2 _);obtain⟨S,a,prs,l,F,n0,hp,xp,tp,c,bq,lv,pv,kvq,k,ag,vs,hok,hX⟩:=hI1;refine qSuDerive_ideal hX.doc x.what hwl _ _ _ _ _ ((qDerive_bad haok).mono ?_);rintro e2 w2 ⟨rfl,rfl⟩;exact⟨_,_,_,_,rfl,_,_,_,[],rfl,nil_bytes _,nil_bytes _,S,a,prs,l,F,n0,hp,xp,tp,c,bq,lv,pv,kvq,k,ag,vs,hok,hX⟩
theorem idealLaw:LawSt w0 b.length true p s m (IdealI w0 b p s m) where
 no:=fun w w' h hc=>h.no hc
 below:=fun w h=>by
  obtain⟨S,a,prs,l,F,n0,hp,xp,tp,c,bq,lv,pv,kv,k,ag,vs,h1,h2⟩:=h;exact h2.low
 sealed:=fun w x kv dv h hf hu hk hd=>h.crypt false hf hu hk hd
 opened:=fun w x kv dv h hf hu hk hd=>h.crypt true hf hu hk hd
 derived:=fun w x kv dv h hf hk hd=>h.derive hf hk hd
 left:=fun w h=>by
  obtain⟨S,a,prs,l,F,n0,hp,xp,tp,c,bq,lv,pv,kv,k,ag,vs,h1,h2⟩:=h;have hw:=h2.qid.tape.within;refine⟨a,tp,hw,heap_lt h2.doc.box,heap_lt h2.qid.tape.box,fun w3 hc=>⟨?_,?_,?_⟩⟩
  ·have h3:=left_ok (h2.st.chg hc).tape.at;rw[h2.tpe,h2.be] at h3;exact h3
  ·rw[cell_of ((hc.block m (heap_lt h2.doc.box) id).trans h2.doc.box)];rfl
  ·rw[cell_of ((hc.block tp (heap_lt h2.qid.tape.box) id).trans h2.qid.tape.box)];rfl
 isIdeal:=fun w h=>by
  obtain⟨S,a,prs,l,F,n0,hp,xp,tp,c,bq,lv,pv,kv,k,ag,vs,h1,h2⟩:=h;exact isIdeal_ok h2.suite
end
theorem ideal_set {w:World}{Sx:Nat→Prop}{b:List UInt8}{ba:Option Addr}{bc:Nat}(hb:Bytes w Sx (.slice ba b.length bc) b) (hl:b.length≤3000):
  Calls prog 6 #[.slice ba b.length bc] w fun e w1=>∃ p,e=.returned (.pointer (some ⟨p,0,none⟩))∧Calls prog 7 #[.pointer (some ⟨p,0,none⟩),.bool true] w1 fun e w2=>∃ s,e=.returned (.pointer (some ⟨s,0,none⟩))∧
   Calls prog 8 #[.slice ba b.length bc,.bool true] w2 fun e w3=>∃ m I,e=.returned (.pointer (some ⟨m,0,none⟩))∧LawSt w b.length true p s m I∧I w3:=by
 refine (tapeNewO_ok hb (by omega)).mono ?_;rintro e w1 ⟨p,bv,rfl,hT,hb1⟩;refine⟨p,rfl,made_id _ _ _ ((suIdeal_ok (some ⟨p,0,none⟩) w1).mono ?_)⟩;rintro e w2 ⟨s,c,m,k,rfl,j1,j2,j3,j4,hs,hI,hb2⟩;refine⟨_,rfl,s,rfl,?_⟩;have hlow:Below w.heap.size w w2:=hb1.trans (hb2.mono hb1.size);have hbw:Bytes w2 (fun g=>g<w.heap.size) (.slice ba b.length bc) b:=Cells.keep (Cells.mono hb (fun g hg _=>hg)) hlow.size (fun g hg _=>hlow.block g hg);have hbase:=hb1.size;obtain⟨S,hS⟩:∃ S:IdG,S=⟨p,c,m,k,bv,.slice none 0 0,b,[],0,0,[]⟩:=⟨_,rfl⟩
 have hG2:IdealG w2 w.heap.size S 0 []:=by
  rw[hS];refine⟨hT.after hb2,hlow.size,hI.box,by show w.heap.size≤c;omega,by show w.heap.size≤m;omega,j2,heap_lt hI.keys,⟨_,_,hI.keys⟩,⟨_,_,hI.places,rfl,by simp⟩,by simp,List.Pairwise.nil,by simp,fun _ _=>rfl,PrsOk.nil,Nat.le_refl _,Nat.le_refl _,Nat.le_refl _,by show b.length≤_;omega⟩
 have hK2:KeysG w2 w.heap.size S.k []:=by
  rw[hS];exact⟨⟨_,_,hI.keys,rfl⟩,by simp⟩
 have hs2:SuiteAt w2 s (some ⟨S.c,0,none⟩) (some ⟨S.tp,0,none⟩):=by rw[hS];exact hs
 have hSp:S.tp=p:=by rw[hS]
 have hSb:S.b=b:=by rw[hS]
 refine (qNewIdeal_ok hbw (by omega) (fun g hg=>Nat.lt_of_lt_of_le hg hlow.size)).mono ?_;rintro e w3 ⟨mq,hp,xp,tp,cq,rfl,hq,hid,hcq,hb3⟩;have hC3:Chg No w2 w3:=Chg.of_below hb3 _;have hqs:=hid.solid;have hlq:=hq.low;have hls:=hlow.size;refine⟨mq,IdealI w b p s mq,rfl,idealLaw,S,0,[],[],_,_,hp,xp,tp,cq,_,_,_,_,0,0,[],KdOk.nil,hG2.chg hC3,hK2.chg hC3 id (fun _ _ _ _=>id),(hb3.block s (heap_lt hs2)).trans hs2,hSp,hSb,hq,hqs,⟨rfl,Cells.nil _ _ 4,fun j q v hj _=>by simp[toldT] at hj⟩,⟨by omega,by omega⟩,fun g hg=>?_,hlow.trans (hb3.mono hlow.size)⟩;have hnew:∀ g,w2.heap.size≤g→¬ OwnG S g:=fun g hg e=>by have:=hG2.own_lt e;omega
 rcases hg with e|e|e|e|e|e
 ·subst e;exact⟨⟨_,_,_,hid.box⟩,hnew _ hcq⟩
 ·subst e;exact⟨⟨_,_,_,hid.tape.box⟩,hnew _ (by omega)⟩
 ·subst e;exact⟨⟨_,_,_,hq.box⟩,hnew _ (by omega)⟩
 ·subst e;exact⟨⟨_,_,_,hq.hash⟩,hnew _ (by omega)⟩
 ·subst e;exact⟨⟨_,_,_,hq.tab⟩,hnew _ (by omega)⟩
 ·refine⟨e.2,fun e2=>?_⟩;have h1:g<w.heap.size:=e.1;have:=hG2.own_base e2;omega
theorem acts_ok (ideal:Bool){w:World}{S:Nat→Prop}{bv:Value}{b:List UInt8}(hb:Bytes w S bv b){a:Option Addr}{cap:Nat}{L:List ActD}(hL:ActsAt w a cap L):
  Calls prog 3 #[.bool ideal,bv,.slice a L.length cap] w fun e w'=>e=.returned (.bool true)∧Below w.heap.size w w':=by
 obtain⟨ba,bc,rfl,_,_⟩:=hb.shape;cases ideal with
 | false=>exact acts_gen hb hL false (fun hl=>real_set hb hl)
 | true=>exact acts_gen hb hL true (fun hl=>ideal_set hb hl)
end Go.Proofs.YtbgfdbidbjlaaaaGreat.Fd

/-
  suite.Seal, Open, Derive of the ideal kind, over plain lists. No condition beyond what each theorem names.
-/
import Derived.Test.YtbgfdbidbjlaaaaGreatSaTakePk
import Derived.Test.YtbgfdbidbjlaaaaGreatSaIdKeyN
import Derived.Test.YtbgfdbidbjlaaaaGreatSaQSuCryptPk
namespace Go.Proofs.YtbgfdbidbjlaaaaGreat.Fd
open _root_.Go.Proofs.Tryz
open Go Go.RowKit K
theorem cryptM_ok {b:List UInt8}{a:Nat}{prs:List PR}(hp:PrsOk prs){k:PKey}(hk:k.fits){x:List UInt8}(hx:x.length=16) (back:Bool):PrsOk (cryptM b a prs k x back).2.2:=by
 cases hl:lookM prs k x back with
 | some z=>rw[cryptM_had hl];exact hp
 | none=>
  obtain⟨z,a'',hz⟩:∃ z a'',pickB b (usedM prs k back) b.length a=(z,a''):=⟨_,_,rfl⟩;cases z with
  | none=>rw[cryptM_miss hl hz];exact hp
  | some z=>
   rw[cryptM_hit hl hz];obtain⟨h1,h2,_⟩:=pickB_some (congrArg Prod.fst hz);exact hp.new hk hx h1 hl h2
section
variable (b:List UInt8) (K:ByteArray) (u:Nat) (back:Bool) (data:List UInt8) (a:Nat) (prs:List PR)
def stepM (j:Nat):Option (List UInt8)×Nat×List PR:=cryptM b (sweepM b K u back data a prs j).2.1 (sweepM b K u back data a prs j).2.2 (K,u,j) (blk data j) back
def stepR (j:Nat):List UInt8:=match (stepM b K u back data a prs j).1 with
 | some y=>if y.length=16 then y else List.replicate 16 0
 | none=>List.replicate 16 0
def stepE (j:Nat):Int:=match (stepM b K u back data a prs j).1 with
 | some _=>0
 | none=>9
variable {b K u back data a prs}
theorem stepR_length (j:Nat):(stepR b K u back data a prs j).length=16:=by
 unfold stepR;split
 ·split
  ·assumption
  ·rfl
 ·rfl
theorem stepE_or (j:Nat):stepE b K u back data a prs j=0∨stepE b K u back data a prs j=9:=by
 unfold stepE;split
 ·exact .inl rfl
 ·exact .inr rfl
theorem sweep_some {j:Nat}{out:List UInt8}{r:Nat×List PR}(h:sweepM b K u back data a prs j=(some out,r)):sweepM b K u back data a prs (j+1)=((stepM b K u back data a prs j).1.map (out++·),(stepM b K u back data a prs j).2):=by
 obtain⟨a',prs'⟩:=r;unfold stepM;rw[h];dsimp only;obtain⟨y,r',hy⟩:∃ y r',cryptM b a' prs' (K,u,j) (blk data j) back=(y,r'):=⟨_,_,rfl⟩;rw[hy];cases y with
 | none=>exact sweepM_stop h hy
 | some y=>exact sweepM_next h hy
theorem sweep_facts (hp:PrsOk prs) (hK:K.size≤maxLen) (hu:u≤9223372036854775807) (hd:data.length≤4096):∀ j,16*j≤data.length→PrsOk (sweepM b K u back data a prs j).2.2∧((∀ i,i<j→stepE b K u back data a prs i=0)→(sweepM b K u back data a prs j).1=some (outs (stepR b K u back data a prs) j)):=by
 intro j
 induction j with
 | zero=>intro _;exact⟨hp,fun _=>by rw[outs_zero];rfl⟩
 | succ j ih=>
  intro hj;obtain⟨h1,h2⟩:=ih (by omega);have hfit:PKey.fits (K,u,j):=⟨hK,hu,by show j≤_;omega⟩;have hbl:(blk data j).length=16:=blk_length (by omega);obtain⟨z,a',prs',hz⟩:∃ z a' prs',sweepM b K u back data a prs j=(z,a',prs'):=⟨_,_,_,rfl⟩;cases z with
  | none=>
   rw[sweepM_stuck hz (j+1) (by omega)];rw[hz] at h1 h2;refine⟨h1,fun h3=>?_⟩;exact absurd (h2 (fun i hi=>h3 i (by omega))) (by simp)
  | some z=>
   rw[sweep_some hz];rw[hz] at h1 h2
   have h4:PrsOk (stepM b K u back data a prs j).2.2:=by
    unfold stepM;rw[hz];exact cryptM_ok h1 hfit hbl back
   refine⟨h4,fun h3=>?_⟩;have h5:=h2 (fun i hi=>h3 i (by omega));have h6:=h3 j (by omega);simp only[Option.some.injEq] at h5;subst h5
   have h7:∃ y,(stepM b K u back data a prs j).1=some y:=by
    cases hs:(stepM b K u back data a prs j).1 with
    | some y=>exact⟨y,rfl⟩
    | none=>
     unfold stepE at h6;rw[hs] at h6;cases h6
   obtain⟨y,hy⟩:=h7
   have hyl:y.length=16:=by
    have h8:cryptM b a' prs' (K,u,j) (blk data j) back=(some y,(stepM b K u back data a prs j).2):=by
     have h9:stepM b K u back data a prs j=cryptM b a' prs' (K,u,j) (blk data j) back:=by unfold stepM;rw[hz]
     rw[← h9];exact Prod.ext hy rfl
    exact cryptM_len h1 h8
   have hr:stepR b K u back data a prs j=y:=by
    unfold stepR;rw[hy];dsimp only;rw[if_pos hyl]
   rw[hy,outs_succ,hr];rfl
end
theorem IdealG.soft {x y:World}{B n a:Nat}{S:IdG}{prs:List PR}(h:IdealG x B S a prs) (hn:∀ g,S.bv.ownBlock=some g→g<n) (hs:Soft n x y):IdealG y B S a prs:=by
 obtain⟨es,clk,hp⟩:=h.places;obtain⟨es2,clk2,hk⟩:=h.keys;refine⟨h.tape.keep (fun g hg=>?_),Nat.le_trans h.room hs.size,(hs.cells _ _ _ _ h.box (.inr (by decide))).trans h.box,h.baseC,h.baseM,h.mlk,Nat.lt_of_lt_of_le h.kl hs.size,⟨es2,clk2,(hs.maps _ _ _ hk).trans hk⟩,⟨es,clk,(hs.maps _ _ _ hp.box).trans hp.box,hp.row,hp.fit⟩,fun q hq=>?_,h.apart,h.same,h.void,h.ok,h.tsn,h.cnn,h.agn,h.short⟩
 ·rcases hg with rfl|hg|hg
  ·exact hs.cells _ _ _ _ h.tape.box (.inr (by decide))
  ·obtain⟨cur,hc⟩:=own_cells h.tape.bytes hg;exact hs.cells _ _ _ _ hc (.inl (hn g hg))
  ·obtain⟨cur,hc⟩:=own_cells h.tape.takes hg;exact hs.cells _ _ _ _ hc (.inr (by decide))
 ·obtain⟨h1,h2,h3,h4⟩:=h.pairs q hq;obtain⟨e3,c3,m3⟩:=h3.mapped;obtain⟨e4,c4,m4⟩:=h4.mapped;exact⟨h1,h2,h3.keep (hs.maps _ _ _ m3),h4.keep (hs.maps _ _ _ m4)⟩
def StG (w:World) (B:Nat) (S:IdG) (D:Nat→Prop) (K:ByteArray) (unit:Nat) (back:Bool) (data:List UInt8) (a:Nat) (prs:List PR) (j:Nat) (w1:World):Prop:=
 ∃ S1,IdealG w1 B S1 (sweepM S.b K unit back data a prs j).2.1 (sweepM S.b K unit back data a prs j).2.2∧SameG S S1∧(∀ g,OwnG S1 g→OwnG S g∨w.heap.size≤g)∧∀ g,D g→w1.heap[g]?=w.heap[g]?
theorem StG.soft {w:World}{B:Nat}{S:IdG}{D:Nat→Prop}{K:ByteArray}{unit:Nat}{back:Bool}{data:List UInt8}{a:Nat}{prs:List PR}(hD:∀ g,D g→(∃ cs t m,w.heap[g]?=some (.cells cs t m))∨∃ es c,w.heap[g]?=some (.map es c)) (hbv:∀ g,S.bv.ownBlock=some g→g<w.heap.size){j:Nat}{x y:World}(h1:StG w B S D K unit back data a prs j x) (h2:Soft w.heap.size x y):StG w B S D K unit back data a prs j y:=by
 obtain⟨S1,i1,i2,i3,i4⟩:=h1;refine⟨S1,i1.soft (fun g hg=>hbv g (by rw[← i2.bv];exact hg)) h2,i2,i3,fun g hg=>?_⟩;rcases hD g hg with ⟨cs,t,m,h3⟩|⟨es,c,h3⟩
 ·have h4:=(i4 g hg).trans h3;exact ((h2.cells g cs t m h4 (.inl (heap_lt h3))).trans h4).trans h3.symm
 ·have h4:=(i4 g hg).trans h3;exact ((h2.maps g es c h4).trans h4).trans h3.symm
theorem two_swept {w w':World}{o:Option (List UInt8)}{e:Ending}(h:SweptV w o e w'):∃ a n c er,e=.returned (.tuple #[.slice a n c,.int .i64 er]):=by
 cases o with
 | none=>exact⟨_,_,_,_,h⟩
 | some x=>
  obtain⟨v,rfl,h1⟩:=h;obtain⟨a,c,rfl,_⟩:=(Cells.own h1).shape;exact⟨_,_,_,_,rfl⟩
theorem cryptSuG {w:World}{B a s:Nat}{S:IdG}{prs:List PR}(h:IdealG w B S a prs) (hs:SuiteAt w s (some ⟨S.c,0,none⟩) (some ⟨S.tp,0,none⟩)) (back:Bool){what:ByteArray}{ka da:Option Addr}{kc dc:Nat}{key data:List UInt8}
  (hkb:∀ w1,Kept B w w1→Bytes w1 (fun _=>True) (.slice ka key.length kc) key) (hdb:∀ w1,Kept B w w1→Bytes w1 (fun _=>True) (.slice da data.length dc) data) (unit:Nat) (hk:keyOk key.length unit) (h16:data.length % 16=0) (hmost:data.length≤4096)
  {D:Nat→Prop}(hD:∀ g,D g→((∃ cs t m,w.heap[g]?=some (.cells cs t m))∨∃ es c,w.heap[g]?=some (.map es c))∧¬ OwnG S g) (hbv:∀ g,S.bv.ownBlock=some g→g<w.heap.size)
  {R:Option (List UInt8)×Nat×List PR}(hR:R=sweepM S.b ⟨key.toArray⟩ unit back data a prs (data.length / 16)):
  Calls prog (if back then 11 else 9) #[.pointer (some ⟨s,0,none⟩),.string what,.slice ka key.length kc,.int .i64 unit,.slice da data.length dc] w fun e w'=>SweptV w R.1 e w'∧
   ∃ S',IdealG w' B S' R.2.1 R.2.2∧SameG S S'∧Kept B w w'∧(∀ g,OwnG S' g→OwnG S g∨w.heap.size≤g)∧∀ g,D g→w'.heap[g]?=w.heap[g]?:=by
 obtain⟨K,hK⟩:∃ K:ByteArray,K=⟨key.toArray⟩:=⟨_,rfl⟩;have hKs:K.size≤maxLen:=by rw[hK,bytes_size];have:=hk.1;unfold maxLen;omega
 have hul:unit≤9223372036854775807:=by have:=hk.2.2;omega
 rw[← hK] at hR;obtain⟨N,hN⟩:∃ N,N=data.length / 16:=⟨_,rfl⟩;have hNl:data.length=16*N:=by omega
 have hfacts:=sweep_facts (b:=S.b) (K:=K) (u:=unit) (back:=back) (data:=data) (a:=a) (prs:=prs) h.ok hKs hul hmost;have hst0:StG w B S D K unit back data a prs 0 w:=⟨S,h,SameG.refl S,fun _ e=>.inl e,fun _ _=>rfl⟩
 have key1:∀ (f:FuncId),f=(if back then 28 else 23)→Calls prog 22 #[.string what,.slice ka key.length kc,.int .i64 unit,.slice da data.length dc,.func (.func f) #[.pointer (some ⟨S.c,0,none⟩)] #[]] w fun e w'=>SweptV w R.1 e w'∧
   ∃ S',IdealG w' B S' R.2.1 R.2.2∧SameG S S'∧Kept B w w'∧(∀ g,OwnG S' g→OwnG S g∨w.heap.size≤g)∧∀ g,D g→w'.heap[g]?=w.heap[g]?:=fun f hf=>by
  refine (through_gen h.room hkb hdb unit hk h16 hmost (f:=f) (p:=.pointer (some ⟨S.c,0,none⟩)) (by subst hf;cases back<;>exact fun _ _=>by go_simp) (StG w B S D K unit back data a prs) (stepR S.b K unit back data a prs) stepR_length (stepE S.b K unit back data a prs) stepE_or hst0 (fun j x y h1 h2=>h1.soft (fun g hg=>(hD g hg).1) hbv h2) (fun j w1 hj hE hst hkept=>?_)).mono ?_
  ·obtain⟨S1,i1,i2,i3,i4⟩:=hst;rw[← hN] at hj;obtain⟨h1,h2⟩:=hfacts j (by omega);have h3:=h2 hE;obtain⟨a',prs',hz⟩:∃ a' prs',sweepM S.b K unit back data a prs j=(some (outs (stepR S.b K unit back data a prs) j),a',prs'):=⟨_,_,Prod.ext h3 rfl⟩;have hfit:PKey.fits (K,unit,j):=⟨hKs,hul,by show j≤_;omega⟩;have hbl:(blk data j).length=16:=blk_length (by omega);have hst2:=sweep_some hz;have hsm:stepM S.b K unit back data a prs j=cryptM S.b a' prs' (K,unit,j) (blk data j) back:=by unfold stepM;rw[hz]
   rw[hz] at i1;have hc:=cryptG_ok i1 hfit hbl what back (R:=stepM S.b K unit back data a prs j) (by rw[hsm,i2.b]);rw[i2.c,← hK] at*;subst hf;refine hc.mono ?_;rintro e w2 ⟨rfl,S2,k1,k2⟩;refine⟨?_,k2.kept,S2,?_,i2.trans k2.same,fun g hg=>?_,fun g hg=>?_⟩
   ·unfold stepR stepE;cases hs1:(stepM S.b K unit back data a prs j).1 with
    | none=>rfl
    | some y=>
     have hyl:y.length=16:=cryptM_len (by have:=h1;rw[hz] at this;exact this) (hsm.symm.trans (Prod.ext hs1 rfl));dsimp only;rw[if_pos hyl];rfl
   ·rw[hst2];exact k1
   ·rcases k2.own g hg with e|e
    ·exact i3 g e
    ·exact .inr (Nat.le_trans hkept.below.size e)
   ·obtain⟨h5,h6⟩:=hD g hg
    have h7:g<w.heap.size:=by
     rcases h5 with ⟨cs,t,m,h5⟩|⟨es,c,h5⟩
     ·exact heap_lt h5
     ·exact heap_lt h5
    exact (k2.chg.block g (Nat.lt_of_lt_of_le h7 hkept.below.size) (fun e=>by
     rcases i3 g e with e|e
     ·exact h6 e
     ·omega)).trans (i4 g hg)
  ·rintro e w' ⟨Kn,hKn,hE,hkept,hcase⟩;rw[← hN] at hKn hcase;have hRe:R=sweepM S.b K unit back data a prs N:=by rw[hR,hN]
   rcases hcase with ⟨rfl,v,rfl,ho,S1,i1,i2,i3,i4⟩|⟨hlt,hE9,rfl,S1,i1,i2,i3,i4⟩
   ·obtain⟨h1,h2⟩:=hfacts Kn (by omega);have h3:=h2 hE;rw[← hRe] at i1 h3;refine⟨?_,S1,i1,i2,hkept,i3,i4⟩;rw[h3];refine⟨v,rfl,?_⟩;rw[outs_length stepR_length];exact ho
   ·obtain⟨h1,h2⟩:=hfacts Kn (by omega);have h3:=h2 hE;obtain⟨a',prs',hz⟩:∃ a' prs',sweepM S.b K unit back data a prs Kn=(some (outs (stepR S.b K unit back data a prs) Kn),a',prs'):=⟨_,_,Prod.ext h3 rfl⟩;have h4:=sweep_some hz
    have h5:(stepM S.b K unit back data a prs Kn).1=none:=by
     unfold stepE at hE9;cases hs1:(stepM S.b K unit back data a prs Kn).1 with
     | none=>rfl
     | some y=>rw[hs1] at hE9;cases hE9
    rw[h5] at h4;have h6:=sweepM_stuck h4 N (by omega);have h7:R=sweepM S.b K unit back data a prs (Kn+1):=by rw[hRe,h6,h4];rfl
    rw[← h7] at i1;refine⟨?_,S1,i1,i2,hkept,i3,i4⟩;rw[hRe,h6];exact rfl
 cases back with
 | false=>exact seal_ideal hs (.string what) _ _ unit _ ((key1 23 rfl).mono fun e w' hh=>by
   obtain⟨x,n,c,er,he⟩:=two_swept hh.1;exact⟨x,n,c,er,he,hh⟩)
 | true=>exact open_ideal hs (.string what) _ _ unit _ ((key1 28 rfl).mono fun e w' hh=>by
   obtain⟨x,n,c,er,he⟩:=two_swept hh.1;exact⟨x,n,c,er,he,hh⟩)
theorem deriveSuG {w:World}{B a s:Nat}{S:IdG}{prs:List PR}{l:List KT}(h:IdealG w B S a prs) (hK:KeysG w B S.k l) (hok:KdOk (toldT l) a) (hs:SuiteAt w s (some ⟨S.c,0,none⟩) (some ⟨S.tp,0,none⟩)){P P':Nat→Prop}{pw sv:Value}{pass salt:List UInt8}(hp:Bytes w P pw pass) (hsb:Bytes w P' sv salt)
  (r n:Nat) (hm:mayB pass.length salt.length r=true) (hn:n≤256) (what:ByteArray) (hw:what.size≤1000){R:Option (List UInt8)×Nat×List KR}(hR:R=deriveM S.b a (toldT l) (⟨pass.toArray⟩,⟨salt.toArray⟩,r) n):
  Calls prog 12 #[.pointer (some ⟨s,0,none⟩),.string what,pw,sv,.int .i64 r,.int .i64 n] w fun e w'=>DerV w R.1 e w'∧∃ S' l',IdealG w' B S' R.2.1 prs∧KeysG w' B S.k l'∧toldT l'=R.2.2∧GoesK B w w' S S':=by
 refine derive_ideal hs what hw pw sv r n _ ((idKeyG_ok h hK hok hp hsb r n hm hn _ hR).mono fun e w' hh=>?_)
 obtain⟨x,m,c,er,he⟩:∃ a n c er,e=.returned (.tuple #[.slice a n c,.int .i64 er]):=by
  have h1:=hh.1;cases hR1:R.1 with
  | none=>rw[hR1] at h1;exact⟨_,_,_,_,h1⟩
  | some x=>
   rw[hR1] at h1;obtain⟨v,rfl,h2⟩:=h1;obtain⟨a,c,rfl,_⟩:=(Cells.own h2).shape;exact⟨_,_,_,_,rfl⟩
 exact⟨x,m,c,er,he,hh⟩
end Go.Proofs.YtbgfdbidbjlaaaaGreat.Fd

/-
  Texts of this claim, laid together by a program of mine. No condition beyond what each theorem names.
-/
import Derived.Test.YtbgfdbidbjlaaaaGreatSaIns
import Derived.Test.YtbgfdbidbjlaaaaGreatSaXopenPk
import Derived.Test.YtbgfdbidbjlaaaaGreatSaSmallPk
import Derived.Test.YtbgfdbidbjlaaaaGreatSaTapeBPk
/-
  mac.Tag. No condition beyond what each theorem names.
-/
namespace Go.Proofs.YtbgfdbidbjlaaaaGreat.Fd
open _root_.Go.Proofs.Tryz
open Go Go.RowKit K
set_option maxRecDepth 100000
set_option maxHeartbeats 4000000
def tagL (key:List UInt8) (parts:List (List UInt8)):List UInt8:=sha [padK key 92 64,sha (padK key 54 64::parts)]
theorem tagL_length {key:List UInt8}{parts:List (List UInt8)}:(tagL key parts).length=32:=sha_length
theorem tagL_eq {key:List UInt8}{parts:List (List UInt8)}:tagL key parts=sha [padK key 92 64,sha (padK key 54 64::parts)]:=rfl
attribute [irreducible] tagL
structure Kp (n:Nat) (a b:World):Prop where
 below:Below n a b
 keep:∀ (g:Nat) (c:Array Value) (t:TypeId) (m:Nat×Nat),a.heap[g]?=some (.cells c t m)→(t≠22∨c.size=1)→b.heap[g]?=a.heap[g]?
theorem Kp.refl (n:Nat) (a:World):Kp n a a:=⟨Below.refl _ _,fun _ _ _ _ _ _=>rfl⟩
theorem Kp.trans {n:Nat}{a b c:World}(h:Kp n a b) (k:Kp n b c):Kp n a c:=
 ⟨h.below.trans k.below,fun g cs t m hg hc=>(k.keep g cs t m ((h.keep g cs t m hg hc).trans hg) hc).trans (h.keep g cs t m hg hc)⟩
theorem Kp.chg {n:Nat}{a b:World}(hn:n≤a.heap.size) (h:Chg No a b):Kp n a b:=
 ⟨(Chg.no h).mono hn,fun g _ _ _ hg _=>h.block g (heap_lt hg) id⟩
theorem sizeHash:(prog.info? 124).map (·.size)=some 32:=by kernel_rfl
theorem hash_store {w:World}{b:Nat}{l:List UInt8}(h:Arr w b 124 (List.replicate 32 0)) (hl:l.length=32):
  (Instr.storeAt 124 (.pointer (some ⟨b,0,none⟩)) (.agg (u8s l).toArray)).run prog w=.ok () (w.setRow b (u8s l).toArray):=by
 simp only[Instr.storeAt,Instr.sureAddr,Sem.run_bind,Sem.run_pure,Result.andThen];rw[run_storeVar_row w b 124 124 _ _ h (by rw[sizeHash];simp[u8s_length,hl]) (by simp[u8s_length,hl]) (u8s_all l)]
theorem owns_base {w:World}{base base':Nat}{e:TypeId}{size:Nat}{v:Value}{k:Nat}{xs:List Value}(h:w.ownsRow base e size v k xs) (hb:base'≤base):w.ownsRow base' e size v k xs:=by
 refine⟨h.1,?_⟩;rcases h.2 with h|⟨g,cap,cur,h1,h2,h3⟩
 ·exact .inl h
 ·exact .inr ⟨g,cap,cur,h1,Nat.le_trans hb h2,h3⟩
theorem parts_one {w:World}{S:Nat→Prop}{vs:List Value}{parts:List (List UInt8)}(h:∀ j v,vs[j]?=some v→Bytes w S v (parts.getD j [])):∀ u ∈ vs,u.oneCell'=true:=by
 intro u hu;obtain⟨j,hj⟩:=List.getElem?_of_mem hu;obtain⟨a,c,rfl,_⟩:=(h j u hj).shape;rfl
theorem PartsAt.cons {w:World}{S:Nat→Prop}{pv x:Value}{part:List UInt8}{vs:List Value}{parts:List (List UInt8)}(hc:Cells w S pv (vs.length+1) 1 (x::vs)) (hl:vs.length=parts.length) (hx:Bytes w S x part) (h:∀ j v,vs[j]?=some v→Bytes w S v (parts.getD j [])):PartsAt w S pv (part::parts):=by
 refine⟨x::vs,by rw[List.length_cons,← hl];exact hc,fun j v hv=>?_⟩;cases j with
 | zero=>simp at hv;subst hv;simpa using hx
 | succ j=>simp at hv;simpa using h j v hv
theorem tag_ok {w:World}{F:Nat→Prop}{p s:Nat}{iv ov:Value}{key:List UInt8}(hk:KeyedAt w F p s iv ov key){S:Nat→Prop}{pv:Value}{parts:List (List UInt8)}(hp:PartsAt w S pv parts) (h0:0<parts.length) (hfew:parts.length≤7) (hlen:∀ x ∈ parts,x.length≤100000):
  Calls prog 74 #[.pointer (some ⟨p,0,none⟩),pv] w fun e w'=>e=.returned (.agg (u8s (tagL key parts)).toArray)∧Below w.heap.size w w':=by
 obtain⟨n,hn⟩:∃ n,n=w.heap.size:=⟨_,rfl⟩;have HN:=LH hn;obtain⟨IN,hIN⟩:∃ l,l=padK key 54 64:=⟨_,rfl⟩;obtain⟨OUT,hOUT⟩:∃ l,l=padK key 92 64:=⟨_,rfl⟩;have hINl:IN.length=64:=by rw[hIN,padK_length]
 have hOUTl:OUT.length=64:=by rw[hOUT,padK_length]
 obtain⟨h,hh⟩:∃ l,l=sha (IN::parts):=⟨_,rfl⟩;have hhl:h.length=32:=hh ▸ sha_length;obtain⟨T,hT⟩:∃ l,l=sha [OUT,h]:=⟨_,rfl⟩;have hTl:T.length=32:=hT ▸ sha_length;have hres:T=tagL key parts:=by rw[hT,hh,hIN,hOUT,tagL_eq]
 have hin:=hk.inn;have hout:=hk.out;rw[← hIN] at hin;rw[← hOUT] at hout;have hpl:=heap_lt hk.box;have hsum:=hk.sum;have hsl:=heap_lt hsum;obtain⟨ia,ic,rfl,hi1,hi2⟩:=hin.shape;obtain⟨oa,oc,rfl,ho1,ho2⟩:=hout.shape;have g0:=cell_of hk.box 0;have g1:=cell_of hk.box 1;have g2:=cell_of hk.box 2;have c0:w.cell? ⟨p,0,none⟩=some (.pointer (some ⟨s,0,none⟩)):=g0;have c1:w.cell? ⟨p,1,none⟩=some (.slice ia IN.length ic):=g1;have c2:w.cell? ⟨p,2,none⟩=some (.slice oa OUT.length oc):=g2;clear g0 g1 g2;rw[hINl] at c1 hi1;rw[hOUTl] at c2 ho1;unfold maxLen at hi2 ho2;obtain⟨vs,hv1,hv2⟩:=hp.row;have hvl:vs.length=parts.length:=by have:=hv1.1;omega
 have hone:=parts_one hv2;rw[← hvl] at hv1 hfew h0;obtain⟨pa,pc,rfl,hp1,hp2⟩:=hv1.shape;unfold maxLen at hp2;obtain⟨m,hm⟩:∃ m,m=vs.length:=⟨_,rfl⟩
 have hlenI:∀ x ∈ IN::parts,x.length≤100000:=by
  intro x hx;rcases List.mem_cons.1 hx with rfl|hx
  ·omega
  ·exact hlen x hx
 have hlenO:∀ x ∈ [OUT,h],x.length≤100000:=by
  intro x hx;simp at hx;rcases hx with rfl|rfl<;>omega
 have hcl:∀ w3,Below n w w3→n≤w3.heap.size→Calls prog 83 #[.slice pa m pc] w3 fun e w'=>∃ v',e=.returned v'∧w'.ownsRow w3.heap.size 22 1 v' m vs∧Below w3.heap.size w3 w':=fun w3 h3 hs=>by
  have h:=hv1.keep (w':=w3) (HN.out ▸ hs) (fun b _ hb=>h3.block b (by have:=HN.out;omega));rw[hm];exact cloneP_ok h hone (by omega)
 have hsm:∀ w3,Below n w w3→n≤w3.heap.size→∀ (S':Nat→Prop) v,PartsAt w3 S' v (IN::parts)→Calls prog 73 #[.pointer (some ⟨s,0,none⟩),v] w3 fun e w'=>e=.returned (.agg (u8s h).toArray)∧Below w3.heap.size w3 w':=fun w3 h3 _ S' v hv=>by
  rw[hh];exact shaSum_ok (hsum.keep (h3.block s (by have:=HN.out;omega))) hv (by simp;omega) hlenI
 have hso:∀ w3,Below n w w3→n≤w3.heap.size→∀ (S':Nat→Prop) v,PartsAt w3 S' v [OUT,h]→Calls prog 73 #[.pointer (some ⟨s,0,none⟩),v] w3 fun e w'=>e=.returned (.agg (u8s T).toArray)∧Below w3.heap.size w3 w':=fun w3 h3 _ S' v hv=>by
  rw[hT];exact shaSum_ok (hsum.keep (h3.block s (by have:=HN.out;omega))) hv (by simp) hlenO
 have hbI:∀ w3,Below n w w3→n≤w3.heap.size→Bytes w3 (fun _=>True) (.slice ia 64 ic) IN:=fun w3 h3 hs=>by
  have h:=(hin.keep (w':=w3) (HN.out ▸ hs) (fun b _ hb=>h3.block b (by have:=HN.out;omega))).mono (S':=fun _=>True) (fun _ _ _=>trivial);show Cells _ _ _ IN.length 1 _;have e:Cells w3 (fun _=>True) (.slice ia IN.length ic) IN.length 1 (u8s IN):=h;rw[hINl] at e ⊢;exact e
 have hbO:∀ w3,Below n w w3→n≤w3.heap.size→Bytes w3 (fun _=>True) (.slice oa 64 oc) OUT:=fun w3 h3 hs=>by
  have h:=(hout.keep (w':=w3) (HN.out ▸ hs) (fun b _ hb=>h3.block b (by have:=HN.out;omega))).mono (S':=fun _=>True) (fun _ _ _=>trivial);show Cells _ _ _ OUT.length 1 _;have e:Cells w3 (fun _=>True) (.slice oa OUT.length oc) OUT.length 1 (u8s OUT):=h;rw[hOUTl] at e ⊢;exact e
 have hbP:∀ w3,Below n w w3→n≤w3.heap.size→∀ j v,vs[j]?=some v→Bytes w3 (fun _=>True) v (parts.getD j []):=fun w3 h3 hs j v hv=>
  (Cells.keep (hv2 j v hv) (HN.out ▸ hs) (fun b _ hb=>h3.block b (by have:=HN.out;omega))).mono (S':=fun _=>True) (fun _ _ _=>trivial)
 have hkc:∀ (w3:World) j x,Below n w w3→w.cell? ⟨p,j,none⟩=some x→w3.cell? ⟨p,j,none⟩=some x:=fun w3 j x h3 hc=>by
  rw[World.cell?_of_block (w:=w) (h3.block p (by have:=HN.out;omega))];exact hc
 have hszH:(prog.info? 124).map (·.size)=some 32:=by kernel_rfl
 replace hcl:=LH hcl;replace hsm:=LH hsm;replace hso:=LH hso;replace hbI:=LH hbI;replace hbO:=LH hbO;replace hbP:=LH hbP;replace hkc:=LH hkc;replace c0:=LH c0;replace c1:=LH c1;replace c2:=LH c2;replace hone:=LH hone;replace hres:=LH hres;clear hsum hin hout hk hp hv1 hv2 hlen hlenI hlenO hT hh hIN hOUT;rw[← hm] at hfew h0 hp1 ⊢;replace hm:=LH hm;obtain⟨wA,hwA⟩:∃ x,x=w.alloc (.cells (u8s (List.replicate 32 0)).toArray 124):=⟨_,rfl⟩;have sA:wA.heap.size=n+1:=by rw[hwA,hn];simp
 have bA:Below n w wA:=by rw[hwA,hn];exact (Below.refl _ _).alloc (Nat.le_refl _) _
 have xA:Arr wA n 124 (List.replicate 32 0):=by rw[hwA,hn];exact heap_alloc_new w _
 obtain⟨wD,hwD⟩:∃ x,x=wA.drew:=⟨_,rfl⟩;have sD:wD.heap.size=n+1:=by rw[hwD];exact sA
 have bD:Below n w wD:=by rw[hwD];exact⟨bA.os,bA.tape,bA.output,bA.size,bA.block⟩
 have xD:Arr wD n 124 (List.replicate 32 0):=by rw[hwD];exact xA
 have hR:∀ w3,Kp n wD w3→Below n w w3∧n≤w3.heap.size:=fun w3 h3=>⟨bD.trans h3.below,by have:=h3.below.size;omega⟩
 have hSz:∀ w3,Kp n wD w3→n<w3.heap.size:=fun w3 h3=>by have:=h3.below.size;omega
 have hfin:∀ w3,Kp n wD w3→Arr w3 n 124 (List.replicate 32 0):=fun w3 h3=>xD.keep (h3.keep n _ _ _ xD (.inl (by decide)))
 subst hwD;subst hwA;replace hR:=LH hR;replace hfin:=LH hfin;replace hSz:=LH hSz;replace xA:=LH xA;clear xD bA;go_enter func74,ntmps74
 go_wp2_with fail
 rw[← hn];refine RA.regionT (Kp n) (fun a b=>n≤a.heap.size∧Chg No a b) [1,1,1,1,1,3,1,1,1,1,2,3,4,2,7] [14] (fun i v w3=>if i=10 then ∃ b,v=.slice (some ⟨b,0,none⟩) 1 1∧n≤b∧w3.heap[b]?=some (.cells #[.slice ia 64 ic] 22 (0,0)) else ∃ b,v=.pointer (some ⟨b,0,none⟩)∧n<b∧Arr w3 b 124 (List.replicate 32 0)) (fun _=>True) (by kernel_rfl) (Kp.refl _ _) (fun _ _ h=>Kp.chg h.1 h.2) (fun _ _ _ h k=>h.trans k) (fun _ _ _ k=>k) trivial (by kernel_rfl) (by kernel_rfl) ?_;intro cx
 repeat refine RA.qq (h:=?_)
 refine RA.fk prog (p) (0) (h:=?_);refine RA.lk prog (.pointer (some ⟨s,0,none⟩)) (hc:=fun w3 hp=>by exact hkc.out _ 0 _ (hR.out _ hp.1).1 c0.out) (h:=?_)
 repeat refine RA.qq (h:=?_)
 refine RA.qc (P:=prog) [.slice pa m pc] (fun _ _=>True) (fun v w3=>w3.ownsRow n 22 1 v m vs) (fun _ _=>by go_simp) (by kernel_rfl) (by rfl) (by rfl) (by kernel_rfl) (fun _ _ _ _ _=>trivial) (fun v a b h h2=>owns_keep h2 (fun g hg=>h.2.block g (h2.lt g hg).2 id)) rfl (fun w3 hp _=>(hcl.out w3 (hR.out _ hp.1).1 (hR.out _ hp.1).2).mono (by
  rintro e w4 ⟨v',rfl,h1,h2⟩;exact⟨v',rfl,Kp.chg (hR.out _ hp.1).2 (Chg.of_below h2 _),trivial,owns_base h1 (hR.out _ hp.1).2⟩)) (fun u5=>?_)
 repeat refine RA.qq (h:=?_)
 refine RA.fk prog (p) (1) (h:=?_);refine RA.lk prog (.slice ia 64 ic) (hc:=fun w3 hp=>by exact hkc.out _ 1 _ (hR.out _ hp.1).1 c1.out) (h:=?_)
 refine RA.fr (by kernel_rfl) (by rfl) (fun v a b h h2=>by
  obtain⟨b1,h3,h4,h5⟩:=h2
  exact⟨b1,h3,h4,(h.keep b1 _ _ _ h5 (.inr rfl)).trans h5⟩) (fun w3 hp=>⟨.slice (some ⟨w3.heap.size,0,none⟩) 1 1,w3.alloc (.cells #[.slice ia 64 ic] 22),by
   show (execOp _ _).run prog w3=_;go_simp,⟨(hR.out _ hp.1).2,(Chg.refl _ _).alloc _⟩,w3.heap.size,rfl,(hR.out _ hp.1).2,heap_alloc_new w3 _⟩) (fun u10=>?_)
 refine RA.qc (P:=prog) [u5,.int .i64 0,u10] (fun _ _=>True) (fun v w3=>PartsAt w3 (fun _=>True) v (IN::parts)) (fun _ _=>by go_simp) (by kernel_rfl) (by rfl) (by rfl) (by kernel_rfl) (fun _ _ _ _ _=>trivial) (fun v a b h h2=>h2.keep h.2.size (fun g _ hg=>h.2.block g hg id)) rfl (fun w3 hp hH=>by
  obtain⟨b,rfl,hb1,hb2⟩:=hp.fact 0 rfl (by kernel_rfl);refine (insert_ok (hR.out _ hp.1).2 hH h0 (by omega) hb2 hone.out rfl).mono ?_;rintro e w4 ⟨⟨v,rfl,h1⟩,h2,h3⟩;have hk4:=hR.out _ (hp.1.trans ⟨h2,h3⟩);exact⟨v,rfl,⟨h2,h3⟩,trivial,PartsAt.cons (h1.mono (fun _ _ _=>trivial)) hvl (hbI.out _ hk4.1 hk4.2) (hbP.out _ hk4.1 hk4.2)⟩) (fun u11=>?_)
 refine RA.kc (P:=prog) [.pointer (some ⟨s,0,none⟩),u11] (.agg (u8s h).toArray) (fun _=>True) (fun _ _=>by go_simp) (by kernel_rfl) (by rfl) (by rfl) (by kernel_rfl) (fun _ _ _ h=>h) rfl (fun w3 hp hH=>(hsm.out w3 (hR.out _ hp.1).1 (hR.out _ hp.1).2 _ _ hH).mono (by
  rintro e w4 ⟨rfl,h2⟩;exact⟨rfl,Kp.chg (hR.out _ hp.1).2 (Chg.of_below h2 _),trivial⟩)) ?_
 refine RA.fr (by kernel_rfl) (by rfl) (fun v a b h h2=>by
  obtain⟨b1,h3,h4,h5⟩:=h2
  exact⟨b1,h3,h4,(h.keep b1 _ _ _ h5 (.inl (by decide))).trans h5⟩) (fun w3 hp=>⟨.pointer (some ⟨w3.heap.size,0,none⟩),w3.alloc (.cells (u8s (List.replicate 32 0)).toArray 124),by
   show (execOp _ _).run prog w3=_;go_simp;rfl,⟨(hR.out _ hp.1).2,(Chg.refl _ _).alloc _⟩,w3.heap.size,rfl,hSz.out _ hp.1,heap_alloc_new w3 _⟩) (fun u13=>?_)
 refine RA.stt (fun w4=>∃ b,u13=.pointer (some ⟨b,0,none⟩)∧n<b∧Arr w4 b 124 h∧Below n w w4∧n≤w4.heap.size∧Arr w4 n 124 (List.replicate 32 0)) (by kernel_rfl) (by rfl) (by kernel_rfl) (fun a b h k=>by
  obtain⟨b1,h1,h2,h3,h4,h5,h6⟩:=k;exact⟨b1,h1,h2,h3.keep (h.2.block b1 (heap_lt h3) id),h4.trans ((Chg.no h.2).mono h5),Nat.le_trans h5 h.2.size,h6.keep (h.2.block n (heap_lt h6) id)⟩) (fun w3 hp0 _=>by
  have hp:=hp0.first (by kernel_rfl);obtain⟨b1,rfl,h4,h5⟩:=hp.fact 0 rfl (by kernel_rfl);have hk3:=hR.out _ hp.1;have hst:=hash_store h5 hhl;refine⟨w3.setRow b1 (u8s h).toArray,RA.ex_store (by rfl) (by rfl) hst,b1,rfl,h4,h5.setRow _,below_setRow hk3.1 (by omega) _,by simpa [World.setRow] using hk3.2,(hfin.out _ hp.1).keep (setRow_other _ _ _ _ (by omega))⟩) ?_
 refine RA.RA.doneT (fun w4 hH=>?_);simp only[RA.put,List.foldr_cons,List.foldr_nil,cx,Act.put,List.setIfInBounds_toArray,List.set_cons_succ,List.set_cons_zero];obtain⟨b,rfl,hb1,hb2,hb3,hb4,hb5⟩:=hH;have hbl:=heap_lt hb2;replace hb2:=LH hb2;replace hb3:=LH hb3;replace hb5:=LH hb5;clear hSz hfin hR hsm hcl hbI hbP;go_wp2
 have hd4:∀ w3,Chg No w4.drew w3→Below n w w3∧n≤w3.heap.size∧Arr w3 b 124 h∧Arr w3 n 124 (List.replicate 32 0):=fun w3 k=>by
  have k':Chg No w4 w3:=⟨k.os,k.tape,k.output,k.size,k.block⟩;exact⟨hb3.out.trans ((Chg.no k').mono hb4),Nat.le_trans hb4 k.size,hb2.out.keep (k'.block b hbl id),hb5.out.keep (k'.block n (heap_lt hb5.out) id)⟩
 replace hd4:=LH hd4;refine RA.rt (Chg No) [1,1,1,1,1,1,1,1,1,3,4,7] [11] (fun _=>True) (trivial) (fun _=>Chg.refl _ _) (fun _ _ _ h k=>h.trans k) (h:=?_);intro cx
 repeat refine RA.qq (h:=?_)
 refine RA.fk prog (p) (0) (h:=?_);refine RA.lk prog (.pointer (some ⟨s,0,none⟩)) (hc:=fun w3 hp=>by exact hkc.out _ 0 _ (hd4.out _ hp.1).1 c0.out) (h:=?_)
 repeat refine RA.qq (h:=?_)
 refine RA.fk prog (p) (2) (h:=?_);refine RA.lk prog (.slice oa 64 oc) (hc:=fun w3 hp=>by exact hkc.out _ 2 _ (hd4.out _ hp.1).1 c2.out) (h:=?_);refine RA.sal (by kernel_rfl) (by rfl) (by rfl) (y':=.slice (some ⟨b,0,none⟩) 32 32) (fun w3 hp=>by show (Instr.sliceAt _ _ _ _ _).run prog w3=_;go_simp) ?_
 refine RA.bq (fun v w3=>PartsAt w3 (fun _=>True) v [OUT,h]) (fun _ _=>True) (by kernel_rfl) (by rfl) (by kernel_rfl) (fun v a b h h2=>h2.keep h.size (fun g _ hg=>h.block g hg id)) (fun _ _ _ _ _=>trivial) (fun w3 hp _=>by
  obtain⟨k1,k2,k3,k4⟩:=hd4.out _ hp.1;have hc:=lit_cells w3 #[.slice oa 64 oc,.slice (some ⟨b,0,none⟩) 32 32] 22 2 1 rfl (by unfold maxLen;omega);have k5:Chg No w3 (w3.alloc (.cells #[.slice oa 64 oc,.slice (some ⟨b,0,none⟩) 32 32] 22)):=(Chg.refl _ _).alloc _;have o1:=hbO.out _ (k1.trans ((Chg.no k5).mono k2)) (Nat.le_trans k2 k5.size);have o2:=arr_bytes (k3.keep (k5.block b (heap_lt k3) id)) (by rw[hhl];unfold maxLen;omega);rw[hhl] at o2;refine⟨.slice (some ⟨w3.heap.size,0,none⟩) 2 2,_,?_,k5,PartsAt.cons (vs:=[.slice (some ⟨b,0,none⟩) 32 32]) hc rfl o1 (fun j v hv=>?_),trivial⟩
  ·clear hc k5 o1 o2;show (execOp _ _).run prog w3=_;go_simp
  ·cases j with
   | zero=>simp at hv;subst hv;exact o2
   | succ j=>simp at hv) (fun u9=>?_)
 refine RA.kc (P:=prog) [.pointer (some ⟨s,0,none⟩),u9] (.agg (u8s T).toArray) (fun _=>True) (fun _ _=>by go_simp) (by kernel_rfl) (by rfl) (by rfl) (by kernel_rfl) (fun _ _ _ h=>h) rfl (fun w3 hp hH=>(hso.out w3 (hd4.out _ hp.1).1 (hd4.out _ hp.1).2.1 _ _ (hp.fact 0 rfl (by kernel_rfl))).mono (by rintro e w5 ⟨rfl,h2⟩;exact⟨rfl,Chg.of_below h2 _,trivial⟩)) ?_
 refine RA.stt (fun w5=>Arr w5 n 124 T∧Below n w w5) (by kernel_rfl) (by rfl) (by kernel_rfl) (fun _ _ h k=>h ▸ k) (fun w3 hp0 _=>by
  obtain⟨k1,k2,k3,k4⟩:=hd4.out _ (hp0.first (by kernel_rfl)).1;exact⟨_,RA.ex_store (by rfl) (by rfl) (hash_store k4 hTl),k4.setRow _,below_setRow k1 (Nat.le_refl _) _⟩) ?_
 refine RA.RA.doneT (fun w5 hH=>?_);simp only[RA.put,List.foldr_cons,List.foldr_nil,cx,Act.put,List.setIfInBounds_toArray,List.set_cons_succ,List.set_cons_zero];obtain⟨HA,hbr⟩:=hH;replace hbr:=LH hbr;have hsz:(prog.info? 124).map (·.size)=some T.length:=by rw[hTl];kernel_rfl
 have hld:=LH (run_loadAt_arr (P:=prog) HA underlying124 hsz);have hst:=LH (run_storeAt_arr (P:=prog) HA hsz);replace hsz:=LH hsz;replace HA:=LH HA
 go_wp2_with (first|(refine wpList_load rfl 124 _ rfl _ _ rfl hld.out ?_)|(refine wpList_store rfl 124 _ _ rfl _ _ rfl rfl hst.out ?_))
 refine bodyPost_ret (results_cell_row results74 _ _ n 124 _ (0,0) _ rfl HA.out underlying124 rfl (by rw[hsz.out];simp[u8s_length])) rfl ⟨by rw[hres.out],HN.out ▸ hbr.out⟩
end Go.Proofs.YtbgfdbidbjlaaaaGreat.Fd
/-
  stretch.block. No condition beyond what each theorem names.
-/
namespace Go.Proofs.YtbgfdbidbjlaaaaGreat.Fd
open _root_.Go.Proofs.Tryz
open Go Go.RowKit K
set_option maxRecDepth 100000
set_option maxHeartbeats 4000000
def be4 (i:Nat):List UInt8:=[byte (i / 16777216 % 256),byte (i / 65536 % 256),byte (i / 256 % 256),byte (i % 256)]
theorem be4_length {i:Nat}:(be4 i).length=4:=rfl
def blkU (key salt:List UInt8) (i:Nat):Nat→List UInt8
 | 0=>tagL key [salt,be4 i]
 | k+1=>tagL key [blkU key salt i k]
theorem blkU_zero {key salt:List UInt8}{i:Nat}:blkU key salt i 0=tagL key [salt,be4 i]:=rfl
theorem blkU_succ {key salt:List UInt8}{i k:Nat}:blkU key salt i (k+1)=tagL key [blkU key salt i k]:=rfl
theorem blkU_length {key salt:List UInt8}{i k:Nat}:(blkU key salt i k).length=32:=by
 cases k<;>exact tagL_length
def xorH (a b:List UInt8):Nat→List UInt8
 | 0=>a
 | k+1=>(xorH a b k).set k (byte ((a.getD k 0).toNat ^^^ (b.getD k 0).toNat))
theorem xorH_zero {a b:List UInt8}:xorH a b 0=a:=rfl
theorem xorH_succ {a b:List UInt8}{k:Nat}:xorH a b (k+1)=(xorH a b k).set k (byte ((a.getD k 0).toNat ^^^ (b.getD k 0).toNat)):=rfl
theorem xorH_length {a b:List UInt8}{k:Nat}:(xorH a b k).length=a.length:=by
 induction k with
 | zero=>rfl
 | succ k ih=>rw[xorH_succ,List.length_set,ih]
theorem xorH_get {a b:List UInt8}{k j:Nat}(h:k≤j):(xorH a b k).getD j 0=a.getD j 0:=by
 induction k with
 | zero=>rfl
 | succ k ih=>
  rw[xorH_succ,List.getD_eq_getElem?_getD,List.getElem?_set_ne (by omega),← List.getD_eq_getElem?_getD];exact ih (by omega)
def blkT (key salt:List UInt8) (i:Nat):Nat→List UInt8
 | 0=>blkU key salt i 0
 | k+1=>xorH (blkT key salt i k) (blkU key salt i (k+1)) 32
theorem blkT_zero {key salt:List UInt8}{i:Nat}:blkT key salt i 0=blkU key salt i 0:=rfl
theorem blkT_succ {key salt:List UInt8}{i k:Nat}:blkT key salt i (k+1)=xorH (blkT key salt i k) (blkU key salt i (k+1)) 32:=rfl
theorem blkT_length {key salt:List UInt8}{i k:Nat}:(blkT key salt i k).length=32:=by
 induction k with
 | zero=>exact blkU_length
 | succ k ih=>rw[blkT_succ,xorH_length,ih]
attribute [irreducible] xorH blkU blkT
structure BlkSt (w:World) (n g h:Nat) (U T:List UInt8) (x:World):Prop where
 below:Below n w x
 size:n≤x.heap.size
 ng:n<g
 gh:g<h
 out:Arr x n 124 (List.replicate 32 0)
 u:Arr x g 124 U
 t:Arr x h 124 T
theorem BlkSt.after {w:World}{n g h:Nat}{U T:List UInt8}{x y:World}(s:BlkSt w n g h U T x) (hb:Below x.heap.size x y):BlkSt w n g h U T y:=
 ⟨s.below.trans (hb.mono s.size),Nat.le_trans s.size hb.size,s.ng,s.gh,s.out.keep (hb.block n (heap_lt s.out)),s.u.keep (hb.block g (heap_lt s.u)),s.t.keep (hb.block h (heap_lt s.t))⟩
theorem BlkSt.putU {w:World}{n g h:Nat}{U T:List UInt8}{x:World}(s:BlkSt w n g h U T x) (V:List UInt8):BlkSt w n g h V T (x.setRow g (u8s V).toArray):=
 ⟨below_setRow s.below (by have:=s.ng;omega) _,by simpa [World.setRow] using s.size,s.ng,s.gh,s.out.keep (setRow_other _ _ _ _ (by have:=s.ng;omega)),s.u.setRow _,s.t.keep (setRow_other _ _ _ _ (by have:=s.gh;omega))⟩
theorem BlkSt.putT {w:World}{n g h:Nat}{U T:List UInt8}{x:World}(s:BlkSt w n g h U T x) (j:Nat) (c:UInt8):BlkSt w n g h U (T.set j c) (x.setCell ⟨h,j,none⟩ (.int .u8 c.toNat)):=
 ⟨s.below.setCell (p:=⟨h,j,none⟩) (by have:=s.ng;have:=s.gh;simp;omega) _,by simpa using s.size,s.ng,s.gh,s.out.keep (setCell_heap_ne _ _ _ (by have:=s.ng;have:=s.gh;simp;omega)),s.u.keep (setCell_heap_ne _ _ _ (by have:=s.gh;simp;omega)),s.t.set j c⟩
theorem hash_store' {w:World}{b:Nat}{o l:List UInt8}(h:Arr w b 124 o) (ho:o.length=32) (hl:l.length=32):
  (Instr.storeAt 124 (.pointer (some ⟨b,0,none⟩)) (.agg (u8s l).toArray)).run prog w=.ok () (w.setRow b (u8s l).toArray):=by
 simp only[Instr.storeAt,Instr.sureAddr,Sem.run_bind,Sem.run_pure,Result.andThen];rw[run_storeVar_row w b 124 124 _ _ h (by rw[sizeHash];simp[u8s_length,hl]) (by simp[u8s_length,hl,ho]) (u8s_all l)]
theorem hash_load {w:World}{b:Nat}{l:List UInt8}(h:Arr w b 124 l) (hl:l.length=32):
  (Instr.loadAt 124 (.pointer (some ⟨b,0,none⟩))).run prog w=.ok (.agg (u8s l).toArray) w:=
 run_loadAt_arr (P:=prog) h underlying124 (by rw[sizeHash,hl])
theorem block_ok {w:World}{F:Nat→Prop}{p s:Nat}{iv ov:Value}{key:List UInt8}(hk:KeyedAt w F p s iv ov key){S:Nat→Prop}{sv:Value}{salt:List UInt8}(hs:Bytes w S sv salt) (hsl:salt.length≤100000) (N i:Nat) (hN:N≤1000000000) (hN1:1≤N) (hi:i≤1000000):
  Calls prog 55 #[.pointer (some ⟨p,0,none⟩),sv,.int .i64 N,.int .i64 i] w fun e w'=>e=.returned (.agg (u8s (blkT key salt i (N - 1))).toArray)∧Below w.heap.size w w':=by
 obtain⟨n,hn⟩:∃ n,n=w.heap.size:=⟨_,rfl⟩;have HN:=LH hn;obtain⟨C0,hC0⟩:∃ c,c=byte (i / 16777216 % 256):=⟨_,rfl⟩;obtain⟨C1,hC1⟩:∃ c,c=byte (i / 65536 % 256):=⟨_,rfl⟩;obtain⟨C2,hC2⟩:∃ c,c=byte (i / 256 % 256):=⟨_,rfl⟩;obtain⟨C3,hC3⟩:∃ c,c=byte (i % 256):=⟨_,rfl⟩;have x0:(i:Int) / 16777216=(C0.toNat:Int):=by rw[hC0,byte_toNat (by omega)];omega
 have x1:(i:Int) / 65536=(C1.toNat:Int):=by rw[hC1,byte_toNat (by omega)];omega
 have x2:(i:Int) / 256 % 256=C2.toNat:=by rw[hC2,byte_toNat (by omega)];simp
 have x3:(i:Int) % 256=C3.toNat:=by rw[hC3,byte_toNat (by omega)];simp
 have hbe:be4 i=[C0,C1,C2,C3]:=by rw[be4,← hC0,← hC1,← hC2,← hC3]
 obtain⟨sa,sc,rfl,hs1,hs2⟩:=hs.shape;unfold maxLen at hs2;obtain⟨U0,hU0⟩:∃ u,u=blkU key salt i 0:=⟨_,rfl⟩;have hU0l:U0.length=32:=hU0 ▸ blkU_length
 have htag:∀ (w3:World) (S':Nat→Prop) (pv:Value) (parts:List (List UInt8)),Below n w w3→n≤w3.heap.size→PartsAt w3 S' pv parts→0<parts.length→parts.length≤7→(∀ x ∈ parts,x.length≤100000)→
   Calls prog 74 #[.pointer (some ⟨p,0,none⟩),pv] w3 fun e w'=>e=.returned (.agg (u8s (tagL key parts)).toArray)∧Below w3.heap.size w3 w':=fun w3 S' pv parts h3 h4 h5 h6 h7 h8=>
  tag_ok (hk.keep (HN.out ▸ h4) (fun b _ hb=>h3.block b (by have:=HN.out;omega))) h5 h6 h7 h8
 have hsb:∀ w3,Below n w w3→n≤w3.heap.size→Bytes w3 (fun _=>True) (.slice sa salt.length sc) salt:=fun w3 h3 h4=>
  (hs.keep (w':=w3) (HN.out ▸ h4) (fun b _ hb=>h3.block b (by have:=HN.out;omega))).mono (S':=fun _=>True) (fun _ _ _=>trivial)
 obtain⟨sl,hsl'⟩:∃ l,l=salt.length:=⟨_,rfl⟩;rw[← hsl'] at hs1 hsb hsl ⊢;obtain⟨wA,hwA⟩:∃ x,x=w.alloc (.cells (u8s (List.replicate 32 0)).toArray 124):=⟨_,rfl⟩;obtain⟨wB,hwB⟩:∃ x,x=wA.alloc (.cells #[.int .u8 C0.toNat,.int .u8 C1.toNat,.int .u8 C2.toNat,.int .u8 C3.toNat] 5):=⟨_,rfl⟩;obtain⟨wC,hwC⟩:∃ x,x=wB.alloc (.cells #[.slice sa sl sc,.slice (some ⟨n+1,0,none⟩) 4 4] 22):=⟨_,rfl⟩;have sA:wA.heap.size=n+1:=by rw[hwA,hn];simp
 have sB:wB.heap.size=n+2:=by rw[hwB];simp[sA]
 have sC:wC.heap.size=n+3:=by rw[hwC];simp[sB]
 have bA:Below n w wA:=by rw[hwA,hn];exact (Below.refl _ _).alloc (Nat.le_refl _) _
 have bB:Below (n+1) wA wB:=by rw[hwB,← sA];exact (Below.refl _ _).alloc (Nat.le_refl _) _
 have bC:Below (n+2) wB wC:=by rw[hwC,← sB];exact (Below.refl _ _).alloc (Nat.le_refl _) _
 have xA:Arr wA n 124 (List.replicate 32 0):=by rw[hwA,hn];exact heap_alloc_new w _
 have xC:Arr wC n 124 (List.replicate 32 0):=(xA.keep (bB.block n (by omega))).keep (bC.block n (by omega));have xB:Arr wB (n+1) 5 [C0,C1,C2,C3]:=by rw[hwB,← sA];exact heap_alloc_new wA _
 have bW:Below n w wC:=(bA.trans (bB.mono (by omega))).trans (bC.mono (by omega))
 have hpart:PartsAt wC (fun _=>True) (.slice (some ⟨n+2,0,none⟩) 2 2) [salt,be4 i]:=by
  have hc:=lit_cells wB #[.slice sa sl sc,.slice (some ⟨n+1,0,none⟩) 4 4] 22 2 1 rfl (by unfold maxLen;omega);rw[← hwC,sB] at hc;have o2:=arr_bytes (xB.keep (bC.block (n+1) (by omega))) (by simp[maxLen]);refine PartsAt.cons (vs:=[.slice (some ⟨n+1,0,none⟩) 4 4]) hc rfl (hsb _ bW (by omega)) (fun j v hv=>?_);cases j with
  | zero=>simp at hv;subst hv;rw[hbe];exact o2
  | succ j=>simp at hv
 have hcall1:=htag wC _ _ _ bW (by omega) hpart (by simp) (by simp) (by intro x hx;simp at hx;rcases hx with rfl|rfl;exact hsl' ▸ hsl;rw[be4_length];omega);rw[← blkU_zero,← hU0] at hcall1;replace hcall1:=LH hcall1;replace htag:=LH htag;replace xC:=LH xC;replace bW:=LH bW;replace hU0:=LH hU0;have sB':=sB;have sA':=sA;replace hsl':=LH hsl';clear hsb hpart xB xA bA bB bC hk hs hbe hC0 hC1 hC2 hC3 sB sA;subst hwA;subst hwB;subst hwC;go_enter func55,ntmps55
 go_wp2_with fail
 rw[← hn];simp only[x2,x3];refine hcall1.out.mono ?_;rintro e w1 ⟨rfl,hb1⟩;obtain⟨g,hg⟩:∃ g,g=w1.heap.size:=⟨_,rfl⟩;have hgn:n<g:=by have:=hb1.size;omega
 have y1:Arr w1 n 124 (List.replicate 32 0):=xC.out.keep (hb1.block n (by omega));have bW1:Below n w w1:=bW.out.trans (hb1.mono (by omega));obtain⟨W2,hW2⟩:∃ x,x=w1.alloc (.cells (u8s (List.replicate 32 0)).toArray 124):=⟨_,rfl⟩;have s2:W2.heap.size=g+1:=by rw[hW2,hg];simp
 have b2:Below g w1 W2:=by rw[hW2,hg];exact (Below.refl _ _).alloc (Nat.le_refl _) _
 have a2:Arr W2 g 124 (List.replicate 32 0):=by rw[hW2,hg];exact heap_alloc_new w1 _
 have t2:=hash_store a2 hU0l;obtain⟨W3,hW3⟩:∃ x,x=W2.setRow g (u8s U0).toArray:=⟨_,rfl⟩;rw[← hW3] at t2;have a3:Arr W3 g 124 U0:=hW3 ▸ a2.setRow _;have s3:W3.heap.size=g+1:=by rw[hW3];simpa [World.setRow] using s2
 have b3:Below g w1 W3:=hW3 ▸ below_setRow b2 (Nat.le_refl _) _;have t3:=hash_load a3 hU0l;obtain⟨W4,hW4⟩:∃ x,x=W3.alloc (.cells (u8s (List.replicate 32 0)).toArray 124):=⟨_,rfl⟩;have b4:Below (g+1) W3 W4:=by rw[hW4,← s3];exact (Below.refl _ _).alloc (Nat.le_refl _) _
 have a4:Arr W4 (g+1) 124 (List.replicate 32 0):=by rw[hW4,← s3];exact heap_alloc_new W3 _
 have s4:W4.heap.size=g+2:=by rw[hW4];simp[s3]
 have t4:=hash_store a4 hU0l;obtain⟨W5,hW5⟩:∃ x,x=W4.setRow (g+1) (u8s U0).toArray:=⟨_,rfl⟩;rw[← hW5] at t4;have b5:Below (g+1) W3 W5:=hW5 ▸ below_setRow b4 (Nat.le_refl _) _
 have hSt:BlkSt w n g (g+1) U0 U0 W5:=by
  refine⟨bW1.trans ((b3.trans (b5.mono (by omega))).mono (by omega)),?_,hgn,by omega,?_,a3.keep (b5.block g (by omega)),hW5 ▸ a4.setRow _⟩
  ·rw[hW5];simp[World.setRow,s4];omega
  ·exact (y1.keep (b3.block n (by omega))).keep (b5.block n (by omega))
 have hs4':W3.heap.size=g+1:=s3;subst hW2;subst hW4;rw[hg] at t2 t3;replace hW3:=LH hW3;replace hW5:=LH hW5;replace hg:=LH hg;replace t2:=LH t2;replace t3:=LH t3;replace t4:=LH t4;replace hSt:=LH hSt;clear b5 s4 a4 b4 b3 s3 a3 a2 b2 s2 y1 bW1 hb1 xC bW hcall1
 go_wp2_with (first|(refine wpList_store rfl 124 _ _ rfl _ _ rfl rfl t2.out ?_)|(refine wpList_store rfl 124 _ _ rfl _ _ rfl rfl t4.out ?_)|(refine wpList_load rfl 124 _ rfl _ _ rfl t3.out ?_))
 try rw[← HN.out]
 try rw[← hg.out]
 clear t2 t3 t4 hW3 hW5 hs4' sB' sC hn;obtain⟨M,hM⟩:∃ m,m=N - 1:=⟨_,rfl⟩;have hNM:(N:Int) - 1=M:=by omega
 simp only[hNM];replace hM:=LH hM;rw[hU0.out] at hSt;clear hU0
 go_loopw [31] (fun i' wr=>∃ k:Nat,k≤M∧i'=.int .i64 k∧Hid (BlkSt w n g (g+1) (blkU key salt i k) (blkT key salt i k) wr))
  (fun i' _=>M - (intOf i').toNat)
 case atStart=>exact⟨0,by omega,rfl,by rw[blkT_zero];exact hSt.out⟩
 case round=>
  clear hSt;obtain⟨k,hk,rfl,hSt⟩:=hrel;by_cases hlt:k<M
  ·obtain⟨U,hU⟩:∃ u,u=blkU key salt i k:=⟨_,rfl⟩;obtain⟨T,hT⟩:∃ u,u=blkT key salt i k:=⟨_,rfl⟩;obtain⟨V,hV⟩:∃ u,u=blkU key salt i (k+1):=⟨_,rfl⟩;have hUl:U.length=32:=hU ▸ blkU_length;have hTl:T.length=32:=hT ▸ blkT_length;have hVl:V.length=32:=hV ▸ blkU_length;have hT1:blkT key salt i (k+1)=xorH T V 32:=by rw[blkT_succ,← hT,← hV]
   rw[← hU,← hT] at hSt;have hsr:=hSt.out.size;have hx:Chg No wr (wr.alloc (.cells #[.slice (some ⟨g,0,none⟩) 32 32] 22)):=(Chg.refl _ _).alloc _;have hS2:=hSt.out.after (Chg.no hx)
   have hpart:PartsAt (wr.alloc (.cells #[.slice (some ⟨g,0,none⟩) 32 32] 22)) (fun _=>True) (.slice (some ⟨wr.heap.size,0,none⟩) 1 1) [U]:=by
    have hc:=lit_cells wr #[.slice (some ⟨g,0,none⟩) 32 32] 22 1 1 rfl (by unfold maxLen;omega);have o2:=arr_bytes hS2.u (by rw[hUl];unfold maxLen;omega);rw[hUl] at o2;exact PartsAt.cons (vs:=[]) hc rfl o2 (fun j v hv=>by simp at hv)
   have hcall:=htag.out _ _ _ _ hS2.below hS2.size hpart (by simp) (by simp) (by intro x hx;simp at hx;rw[hx,hUl];omega);rw[hU,← blkU_succ,← hV] at hcall;replace hcall:=LH hcall;replace hS2:=LH hS2;replace hU:=LH hU;replace hT:=LH hT;replace hV:=LH hV;replace hT1:=LH hT1;clear hpart hx hSt
   go_wp2_with fail
   refine hcall.out.mono ?_;rintro e w3 ⟨rfl,hb3⟩;have hS3:=hS2.out.after hb3;have hst:=LH (hash_store' hS3.u hUl hVl);replace hS3:=LH (hS3.putU V);clear hS2 hcall hb3
   go_wp2_with (first|(refine wpList_store rfl 124 _ _ rfl _ _ rfl rfl hst.out ?_))
   clear hst
   go_loopw [37] (fun j' wr=>∃ j:Nat,j≤32∧j'=.int .i64 j∧Hid (BlkSt w n g (g+1) V (xorH T V j) wr))
    (fun j' _=>32 - (intOf j').toNat)
   case atStart=>exact⟨0,by omega,rfl,by rw[xorH_zero];exact hS3.out⟩
   case round=>
    clear hS3;obtain⟨j,hj,rfl,hSt⟩:=hrel;by_cases hlt2:j<32
    ·have hdr:∀ w3,Chg No wr.drew w3→Chg No wr w3:=fun w3 h=>⟨h.os,h.tape,h.output,h.size,h.block⟩
     obtain⟨a,ha⟩:∃ a,a=(T.getD j 0).toNat:=⟨_,rfl⟩;obtain⟨b,hb⟩:∃ a,a=(V.getD j 0).toNat:=⟨_,rfl⟩;have hal:a<256:=ha ▸ UInt8.toNat_lt _;have hbl:b<256:=hb ▸ UInt8.toNat_lt _;obtain⟨c,hc⟩:∃ c,c=byte (a ^^^ b):=⟨_,rfl⟩
     have xx:bits .xor .u8 (a:Int) (b:Int)=(c.toNat:Int):=by
      have h:=u8_xor_nat a b hal hbl;rw[hc,byte_toNat (xor8 hal hbl)];exact h
     have c1:=hSt.out.t.cell j (by rw[xorH_length,hTl];exact hlt2);rw[xorH_get (Nat.le_refl j),← ha] at c1;have c2:=hSt.out.u.cell j (by rw[hVl];exact hlt2);rw[← hb] at c2;have l1:=heap_lt hSt.out.t;have l2:=heap_lt hSt.out.u;have hnx:xorH T V (j+1)=(xorH T V j).set j c:=by rw[xorH_succ,hc,ha,hb]
     replace c1:=LH c1;replace c2:=LH c2;replace hnx:=LH hnx;replace hdr:=LH hdr;replace hc:=LH hc;replace ha:=LH ha;replace hb:=LH hb;go_wp2;refine RA.rt (Chg No) [1,1,1,1,1,1,1,1,7] [8] (fun _=>True) (trivial) (fun _=>Chg.refl _ _) (fun _ _ _ h k=>h.trans k) (h:=?_);intro cx
     repeat refine RA.qq (h:=?_)
     refine RA.ik prog (g+1) (j) (h:=?_);refine RA.lk prog (.int .u8 a) (hc:=fun w3 hp=>by exact ((hdr.out _ hp.1).cell (p:=⟨g+1,j,none⟩) l1 id).trans c1.out) (h:=?_)
     repeat refine RA.qq (h:=?_)
     refine RA.ik prog (g) (j) (h:=?_);refine RA.lk prog (.int .u8 b) (hc:=fun w3 hp=>by exact ((hdr.out _ hp.1).cell (p:=⟨g,j,none⟩) l2 id).trans c2.out) (h:=?_);refine RA.vk prog (.int .u8 c.toNat) (h:=?_);refine RA.ik prog (g+1) (j) (h:=?_)
     refine RA.stt (fun w4=>BlkSt w n g (g+1) V (xorH T V (j+1)) w4) (by kernel_rfl) (by rfl) (by kernel_rfl) (fun _ _ h k=>h ▸ k) (fun w3 hp0 _=>by
      have hR:=hdr.out _ (hp0.first (by kernel_rfl)).1;have hS4:=hSt.out.after (Chg.no hR);have c3:=(hR.cell (p:=⟨g+1,j,none⟩) l1 id).trans c1.out;have f3:=hS4.t.frozen j;refine⟨w3.setCell ⟨g+1,j,none⟩ (.int .u8 c.toNat),RA.ex_store (by rfl) (by rfl) ?_,hnx.out ▸ hS4.putT j c⟩;clear hS4;show (Instr.storeAt _ _ _).run prog w3=_;go_simp) ?_
     refine RA.RA.doneT (fun w4 hH=>?_);simp only[RA.put,List.foldr_cons,List.foldr_nil,cx,Act.put,List.setIfInBounds_toArray,List.set_cons_succ,List.set_cons_zero];replace hH:=LH hH;clear hSt;go_wp2;go_roundw
     case rel=>exact⟨j+1,by omega,by go_num,hH.out⟩
     case measure=>simp[intOf];omega
    ·have hj32:j=32:=by omega
     rw[hj32,← hT1.out,hV.out] at hSt;clear hj32;go_wp2;go_roundw
     case rel=>exact⟨k+1,by omega,by go_num,hSt.out⟩
     case measure=>simp[intOf];omega
  ·have hkM:k=M:=by omega
   rw[hkM] at hSt;clear hkM;have hld:=LH (hash_load hSt.out.t blkT_length);have hst:=LH (hash_store hSt.out.out (blkT_length (key:=key) (salt:=salt) (i:=i) (k:=M)));have hS4:=LH (hSt.out.out.setRow (blkT key salt i M));have hB4:=LH (below_setRow hSt.out.below (Nat.le_refl n) (u8s (blkT key salt i M)).toArray);obtain⟨w6,hw6⟩:∃ x,x=wr.setRow n (u8s (blkT key salt i M)).toArray:=⟨_,rfl⟩;rw[← hw6] at hst hS4 hB4;clear hSt hw6
   go_wp2_with (first|(refine wpList_load rfl 124 _ rfl _ _ rfl hld.out ?_)|(refine wpList_store rfl 124 _ _ rfl _ _ rfl rfl hst.out ?_))
   refine bodyPost_ret (results_cell_row results55 _ _ n 124 _ (0,0) _ rfl hS4.out underlying124 rfl (by rw[sizeHash];simp[u8s_length,blkT_length])) rfl ⟨by rw[hM.out],HN.out ▸ hB4.out⟩
end Go.Proofs.YtbgfdbidbjlaaaaGreat.Fd
/-
  stretch.Key. No condition beyond what each theorem names.
-/
namespace Go.Proofs.YtbgfdbidbjlaaaaGreat.Fd
open _root_.Go.Proofs.Tryz
open Go Go.RowKit K
set_option maxHeartbeats 2000000
def outB (pass salt:List UInt8) (r:Nat):Nat→List UInt8
 | 0=>[]
 | k+1=>outB pass salt r k++blkT pass salt (k+1) (r - 1)
theorem outB_zero {pass salt:List UInt8}{r:Nat}:outB pass salt r 0=[]:=rfl
theorem outB_succ {pass salt:List UInt8}{r k:Nat}:outB pass salt r (k+1)=outB pass salt r k++blkT pass salt (k+1) (r - 1):=rfl
theorem outB_length {pass salt:List UInt8}{r k:Nat}:(outB pass salt r k).length=32*k:=by
 induction k with
 | zero=>rfl
 | succ k ih=>rw[outB_succ,List.length_append,ih,blkT_length];omega
def keyL (pass salt:List UInt8) (r n:Nat):List UInt8:=(outB pass salt r ((n+31) / 32)).take n
theorem keyL_length {pass salt:List UInt8}{r n:Nat}:(keyL pass salt r n).length=n:=by
 rw[keyL,List.length_take,outB_length];omega
theorem keyL_eq {pass salt:List UInt8}{r n:Nat}:keyL pass salt r n=(outB pass salt r ((n+31) / 32)).take n:=rfl
attribute [irreducible] outB keyL
theorem key_bad (a b:Option Addr) (n cap m cap':Nat) (r len:Int) (h:mayB n m r=false∨len<0∨256<len) (w:World):
  Calls prog 31 #[.slice a n cap,.slice b m cap',.int .i64 r,.int .i64 len] w fun e w'=>e=.returned (.tuple #[.slice none 0 0,.int .i64 1])∧w=w':=by
 obtain⟨q,hq⟩:∃ q,q=mayB n m r:=⟨_,rfl⟩;have M:=LH (hq ▸ may_ok a b n cap m cap' r w);rw[← hq] at h;clear hq;cases q with
 | false=>
  clear h;go_enter func31,ntmps31
  go_wp2_with (go_at_call 53;refine M.out.mono ?_;rintro e w' ⟨rfl,rfl⟩)
  all_goals go_ret2
  all_goals exact⟨rfl,rfl⟩
 | true=>
  by_cases h1:len<0
  ·clear h;go_enter func31,ntmps31
   go_wp2_with (go_at_call 53;refine M.out.mono ?_;rintro e w' ⟨rfl,rfl⟩)
   all_goals go_ret2
   all_goals exact⟨rfl,rfl⟩
  ·have h2:256<len:=by simpa [h1] using h
   clear h;go_enter func31,ntmps31
   go_wp2_with (go_at_call 53;refine M.out.mono ?_;rintro e w' ⟨rfl,rfl⟩)
   all_goals go_ret2
   all_goals exact⟨rfl,rfl⟩
end Go.Proofs.YtbgfdbidbjlaaaaGreat.Fd
/-
  Bytes behind bytes: append to nothing, to a row of the call's own. No condition: a tool for the other texts.
-/
namespace Go.Proofs.YtbgfdbidbjlaaaaGreat.Fd
open _root_.Go.Proofs.Tryz
open Go Go.RowKit K
theorem fits_lm {a:Nat}(h:a≤1000000):a≤maxLen:=by unfold maxLen;omega
theorem push_more {x:World}{n:Nat}{v:Value}{l:List UInt8}(ho:x.ownsRow n 5 1 v l.length (u8s l)) (hn:n≤x.heap.size){S:Nat→Prop}{u:Value}{m:List UInt8}(hu:Bytes x S u m) (hl:l.length+m.length≤1000000):
  ∃ v' w',(Builtin.append_ #[22,22] 22 #[v,u]).run prog x=.ok v' w'∧w'.ownsRow n 5 1 v' (l++m).length (u8s (l++m))∧Chg (fun g=>v.ownBlock=some g) x w':=by
 obtain⟨v',w',h1,h2,h3,_⟩:=own_push (P:=prog) (bytes:=1) underlying22 infoByte rfl (by decide) ho hn (Chg.refl _ _) hu (u8s_one _) (fits_lm hl) (by omega) 22;exact⟨v',w',h1,by rw[List.length_append,u8s_append];exact h2,h3⟩
theorem push_fresh {x:World}{S:Nat→Prop}{u:Value}{m:List UInt8}(hu:Bytes x S u m) (hl:m.length≤1000000):
  ∃ v' w',(Builtin.append_ #[22,22] 22 #[.slice (some ⟨x.heap.size,0,none⟩) 0 0,u]).run prog (x.alloc (.cells #[] 5))=.ok v' w'∧w'.ownsRow x.heap.size 5 1 v' m.length (u8s m)∧Chg No x w':=by
 have ho:=World.ownsRow_made (base:=x.heap.size) (e:=5) (size:=1) x #[] 0 (Nat.le_refl _) (fits_lm (by omega)) rfl;have hu2:Bytes (x.alloc (.cells #[] 5)) S u m:=hu.keep (by simp) (fun b _ hb=>Below.heap_alloc _ _ _ hb);obtain⟨v',w',h1,h2,h3⟩:=push_more (l:=[]) ho (by simp) hu2 (by simpa using hl);refine⟨v',w',h1,by simpa using h2,((Chg.refl No x).alloc _).then h3 (fun g hg h=>?_)⟩;simp[Value.ownBlock] at h;omega
theorem arr_owns {w:World}{b n:Nat}{l:List UInt8}(h:Arr w b 5 l) (hn:n≤b) (hl:l.length≤1000000):w.ownsRow n 5 1 (.slice (some ⟨b,0,none⟩) l.length l.length) l.length (u8s l):=
 ⟨by simp[u8s_length],.inr ⟨b,l.length,(u8s l).toArray,rfl,hn,h,Nat.le_refl _,fits_lm hl,by simp[u8s_length],by simp[List.take_of_length_le,u8s_length]⟩⟩
theorem own_bytes {w:World}{n:Nat}{v:Value}{l:List UInt8}(h:w.ownsRow n 5 1 v l.length (u8s l)):Bytes w (fun g=>n≤g) v l:=(Cells.own h).mono (fun _ _ h=>h.2)
theorem own_ge {w:World}{n:Nat}{v:Value}{k:Nat}{xs:List Value}(h:w.ownsRow n 5 1 v k xs){g:Nat}(hg:v.ownBlock=some g):n≤g:=(h.lt g hg).1
end Go.Proofs.YtbgfdbidbjlaaaaGreat.Fd
/-
  mac.New of keys of more than 64 bytes. No condition beyond what each theorem names.
-/
namespace Go.Proofs.YtbgfdbidbjlaaaaGreat.Fd
open _root_.Go.Proofs.Tryz
open Go Go.RowKit K
set_option maxRecDepth 100000
set_option maxHeartbeats 8000000
theorem macNew_long {w:World}{S:Nat→Prop}{kv:Value}{K0:List UInt8}(hb:Bytes w S kv K0) (hl0:64<K0.length) (hl1:K0.length≤100000):
  Calls prog 54 #[kv] w fun e w'=>∃ p s iv ov,e=.returned (.pointer (some ⟨p,0,none⟩))∧KeyedAt w' (fun g=>w.heap.size≤g) p s iv ov (sha [K0])∧Below w.heap.size w w':=by
 obtain⟨n,hn⟩:∃ n,n=w.heap.size:=⟨_,rfl⟩;have HN:=LH hn;obtain⟨K,hK⟩:∃ K,K=sha [K0]:=⟨_,rfl⟩;have hKl:K.length=32:=hK ▸ sha_length;obtain⟨K0L,hK0L⟩:∃ L,L=K0.length:=⟨_,rfl⟩
 have hbs:∀ w3,Below n w w3→Bytes w3 (fun _=>True) kv K0:=fun w3 h3=>
  (Cells.keep hb (by have:=h3.size;omega) (fun g _ hg=>h3.block g (by omega))).mono (fun _ _ _=>trivial)
 obtain⟨ka0,kcap0,rfl,hk1,hk2⟩:=hb.shape;unfold maxLen at hk2;have hbs':=LH hbs;rw[← hK0L] at hl0 hl1 hk1 ⊢;have hsn:=LH (shNew_ok w);replace hK0L:=LH hK0L;rw[← hK];replace hK:=LH hK;clear hb hn hbs;go_enter func54,ntmps54
 go_wp2_with fail
 refine hsn.out.mono ?_;rintro e w1 ⟨s,rfl,hs,hS,hb1⟩;obtain⟨p,hp⟩:∃ p,p=w1.heap.size:=⟨_,rfl⟩;obtain⟨wX,hwX⟩:∃ x,x=w1.alloc (.cells #[.pointer (some ⟨s,0,none⟩),.slice none 0 0,.slice none 0 0] 164):=⟨_,rfl⟩;obtain⟨wY,hwY⟩:∃ x,x=wX.alloc (.cells #[.slice ka0 K0L kcap0] 22):=⟨_,rfl⟩;have hns:n≤s:=HN.out ▸ hs;have hsl:=heap_lt hS;have hb1n:Below n w w1:=HN.out ▸ hb1;have hnp:n≤p:=by have:=hb1.size;have:=HN.out;omega
 have sX:wX.heap.size=p+1:=by rw[hwX,hp];simp
 have bX:Below p w1 wX:=by rw[hwX,hp];exact (Below.refl _ _).alloc (Nat.le_refl _) _
 have bY:Below (p+1) wX wY:=by rw[hwY,← sX];exact (Below.refl _ _).alloc (Nat.le_refl _) _
 have xp:wY.heap[p]?=some (.cells #[.pointer (some ⟨s,0,none⟩),.slice none 0 0,.slice none 0 0] 164 (0,0)):=(bY.block p (by omega)).trans (by rw[hwX,hp];exact heap_alloc_new w1 _);have b1Y:Below p w1 wY:=bX.trans (bY.mono (by omega));have hSY:SummerAt wY s:=hS.keep (b1Y.block s (by omega));have hnY:Below n w wY:=hb1n.trans (b1Y.mono hnp)
 have hpart:PartsAt wY (fun _=>True) (.slice (some ⟨wX.heap.size,0,none⟩) 1 1) [K0]:=by
  have hc:=lit_cells wX #[.slice ka0 K0L kcap0] 22 1 1 rfl (by unfold maxLen;omega);rw[← hwY] at hc;have hk:=hbs'.out wY hnY;rw[← hK0L.out] at hk;exact PartsAt.cons (vs:=[]) hc rfl hk (fun j v hv=>by simp at hv)
 have hcall:=shaSum_ok hSY hpart (by simp) (by intro x hx;simp at hx;rw[hx,← hK0L.out];omega);rw[← hK.out] at hcall;have c0:wY.cell? ⟨p,0,none⟩=some (.pointer (some ⟨s,0,none⟩)):=by rw[cell_of xp];rfl
 have cX:wX.cell? ⟨p,0,none⟩=some (.pointer (some ⟨s,0,none⟩)):=by
  have h:=(heap_alloc_new w1 (.cells #[.pointer (some ⟨s,0,none⟩),.slice none 0 0,.slice none 0 0] 164));rw[← hwX,← hp] at h;rw[cell_of h];rfl
 rw[sX] at hcall;have hpw:=hp;subst hwY;subst hwX;subst hp;replace hcall:=LH hcall;replace hSY:=LH hSY;replace hnY:=LH hnY;replace xp:=LH xp;replace bY:=LH bY;clear c0 hS hb1 hb1n bX b1Y hpart hpw
 go_wp2_with fail
 refine hcall.out.mono ?_;rintro e w2 ⟨rfl,hb2⟩;obtain⟨p,hp⟩:∃ p,p=w1.heap.size:=⟨_,rfl⟩;rw[← hp] at xp hnp sX ⊢;obtain⟨wY,hwY⟩:∃ y,y=(w1.alloc (.cells #[.pointer (some ⟨s,0,none⟩),.slice none 0 0,.slice none 0 0] 164)).alloc (.cells #[.slice ka0 K0L kcap0] 22):=⟨_,rfl⟩;rw[← hwY] at hb2 xp hSY hnY;have sY:wY.heap.size=p+2:=by rw[hwY,hp];simp
 obtain⟨q,hq⟩:∃ q,q=w2.heap.size:=⟨_,rfl⟩;have hpq:p+2≤q:=by have:=hb2.size;omega
 obtain⟨W3,hW3⟩:∃ x,x=w2.alloc (.cells (u8s (List.replicate 32 0)).toArray 124):=⟨_,rfl⟩;have b3:Below q w2 W3:=by rw[hW3,hq];exact (Below.refl _ _).alloc (Nat.le_refl _) _
 have a3:Arr W3 q 124 (List.replicate 32 0):=by rw[hW3,hq];exact heap_alloc_new w2 _
 have s3:W3.heap.size=q+1:=by rw[hW3,hq];simp
 have t3:=hash_store a3 hKl;obtain⟨wB,hwB⟩:∃ x,x=W3.setRow q (u8s K).toArray:=⟨_,rfl⟩;rw[← hwB] at t3;have a4:Arr wB q 124 K:=hwB ▸ a3.setRow _;have b4:Below q w2 wB:=hwB ▸ below_setRow b3 (Nat.le_refl _) _;obtain⟨B,hB⟩:∃ B,B=wB.heap.size:=⟨_,rfl⟩;have hBq:B=q+1:=by rw[hB,hwB];simpa [World.setRow] using s3
 have hpB:p<B:=by omega
 have bYB:Below (p+2) wY wB:=by
  have h:=hb2.trans (b4.mono (by omega));rw[sY] at h;exact h
 have hSt:KdSt w n wB B p s (.slice none 0 0) (.slice none 0 0) (.slice none 0 0) (.slice none 0 0) (padK K 54 0) (padK K 92 0) wB:=by
  rw[padK_zero,padK_zero];exact⟨hnY.out.trans (bYB.mono (by omega)),fun _ _ _=>rfl,Nat.le_of_eq hB,hnp,hpB,by omega,by omega,(bYB.block p (by omega)).trans xp.out,hSY.out.keep (bYB.block s (by omega)),World.ownsRow_nil _ _ _ _,World.ownsRow_nil _ _ _ _,by simp[Value.ownBlock]⟩
 obtain⟨kb,hkb⟩:∃ kb,kb=q:=⟨_,rfl⟩;obtain⟨ko,hko⟩:∃ ko,ko=0:=⟨_,rfl⟩;obtain⟨ka,hka0⟩:∃ ka:Option Addr,ka=some ⟨q,0,none⟩:=⟨_,rfl⟩;have hkB:kb<B:=by omega
 have hkp:kb≠p:=by omega
 have hka:0<32→ka=some ⟨kb,ko,none⟩:=fun _=>by rw[hka0,hkb,hko]
 have hkc:∀ j,j<32→wB.cell? ⟨kb,ko+j,none⟩=some (.int .u8 (K.getD j 0).toNat):=fun j hj=>by
  rw[hkb,hko,Nat.zero_add];exact a4.cell j (by omega)
 have hKL:32=K.length:=hKl.symm;replace hkc:=LH hkc;replace hSt:=LH hSt;replace hka:=LH hka;subst hW3;replace t3:=LH t3;replace hwB:=LH hwB;have hB':=LH hB;replace hKL:=LH hKL;have hp':=LH hp;have hq':=LH hq;have hka0':=LH hka0;rw[hq] at t3;clear hB hp hq hka0 hkb hko a4 b4 bYB a3 b3 s3 hcall hb2 xp bY hSY hnY hwY sY hKl
 go_wp2_with (refine wpList_store rfl 124 _ _ rfl _ _ rfl rfl t3.out ?_)
 try rw[← hq'.out]
 rw[← hka0'.out];clear t3
 go_loopw [21] (fun i wr=>∃ k:Nat,k≤64∧i=.int .i64 k∧∃ iv ov,Hid (KdSt w n wB B p s iv ov iv ov (padK K 54 k) (padK K 92 k) wr))
  (fun i _=>64 - (intOf i).toNat)
 case atStart=>exact⟨0,by omega,rfl,_,_,hSt.out⟩
 case round=>
  clear hSt;obtain⟨k,hk,rfl,iv,ov,hSt⟩:=hrel;have hdr:∀ w3,Chg No wr.drew w3→Chg No wr w3:=fun w3 h=>⟨h.os,h.tape,h.output,h.size,h.block⟩
  by_cases hlt:k<64
  ·obtain⟨cc,hcc⟩:∃ c,c=(K.getD k 0).toNat:=⟨_,rfl⟩;have hcl:cc<256:=hcc ▸ UInt8.toNat_lt _;obtain⟨c1,hc1⟩:∃ c,c=byte (cc ^^^ 54):=⟨_,rfl⟩;obtain⟨c2,hc2⟩:∃ c,c=byte (cc ^^^ 92):=⟨_,rfl⟩
   have x1:bits .xor .u8 (cc:Int) 54=(c1.toNat:Int):=by
    have h:=u8_xor_nat cc 54 hcl (by omega);rw[hc1,byte_toNat (xor8 hcl (by omega))];exact h
   have x2:bits .xor .u8 (cc:Int) 92=(c2.toNat:Int):=by
    have h:=u8_xor_nat cc 92 hcl (by omega);rw[hc2,byte_toNat (xor8 hcl (by omega))];exact h
   have hn1:padK K 54 (k+1)=padK K 54 k++[c1]:=by rw[padK_succ,← hcc,hc1]
   have hn2:padK K 92 (k+1)=padK K 92 k++[c2]:=by rw[padK_succ,← hcc,hc2]
   obtain⟨I,hI⟩:∃ I,I=padK K 54 k:=⟨_,rfl⟩;obtain⟨O,hO⟩:∃ O,O=padK K 92 k:=⟨_,rfl⟩;have hIl:I.length≤1000:=by rw[hI,padK_length];omega
   have hOl:O.length≤1000:=by rw[hO,padK_length];omega
   rw[← hI] at hSt hn1;rw[← hO] at hSt hn2;have hbox:=hSt.out.box;have hplr:=heap_lt hbox;have g1:=cell_of hbox 1;have g2:=cell_of hbox 2;have ci:wr.cell? ⟨p,1,none⟩=some iv:=g1;have co:wr.cell? ⟨p,2,none⟩=some ov:=g2;have hsz:=hSt.out.size;have hpB:=hSt.out.pB;have hfi:∀ g,iv.ownBlock=some g→B≤g∧g<wr.heap.size:=fun g hg=>hSt.out.ra.lt g hg
   have hfo:∀ g,ov.ownBlock=some g→B≤g∧g<wr.heap.size:=fun g hg=>hSt.out.rb.lt g hg
   have hkey:k<32→wr.cell? ⟨kb,ko+k,none⟩=some (.int .u8 cc):=fun h=>by
    have h5:=hkc.out k h;rw[← hcc,← World.cell?_of_block (w:=wB) (hSt.out.since kb hkB hkp)] at h5;exact h5
   clear g1 g2 hI hO hbox;replace hn1:=LH hn1;replace hn2:=LH hn2;replace hfi:=LH hfi;replace hfo:=LH hfo;replace ci:=LH ci;replace co:=LH co;replace hc1:=LH hc1;replace hc2:=LH hc2;replace hdr:=LH hdr;by_cases hkl:k<32
   ·have hck:=hkey hkl;clear hkey;have hke:=hka.out (by omega);subst hke;replace hcc:=LH hcc;go_wp2;refine RA.regionT (Chg (fun g=>iv.ownBlock=some g∨ov.ownBlock=some g)) (Chg No) [5,5,1,1,1,1,1,1,2,3,1,1,1,1,1,1,2,3,5,5,7,5,5,7] [20,23] (fun i v w3=>Cells w3 (fun g=>wr.heap.size≤g) v 1 1 [.int .u8 (if i=8 then c1 else c2).toNat]) (fun w3=>KdSt w n wB B p s iv ov iv ov I O w3) (by kernel_rfl) (Chg.refl _ _) (fun _ _ h=>h.mono (fun _ _ e=>e.elim)) (fun _ _ _ h k=>h.trans k) (fun _ _ h k=>k.after (Chg.no h)) (hSt.out.after ⟨rfl,rfl,rfl,Nat.le_refl _,fun _ _=>rfl⟩) (by kernel_rfl) (by kernel_rfl) ?_;intro cx;have hdr2:∀ w3,Chg (fun g=>iv.ownBlock=some g∨ov.ownBlock=some g) wr.drew w3→Chg (fun g=>iv.ownBlock=some g∨ov.ownBlock=some g) wr w3:=fun w3 h=>⟨h.os,h.tape,h.output,h.size,h.block⟩
    have hnp:¬ (iv.ownBlock=some p∨ov.ownBlock=some p):=fun h=>by
     rcases h with h|h
     ·have:=(hfi.out p h).1;omega
     ·have:=(hfo.out p h).1;omega
    refine RA.pq (h:=?_);refine RA.pq (h:=?_)
    repeat refine RA.qq (h:=?_)
    refine RA.fk prog (p) (1) (h:=?_);refine RA.lk prog (iv) (hc:=fun w3 hp=>by exact ((hdr2 _ hp.1).cell (p:=⟨p,1,none⟩) hplr hnp).trans ci.out) (h:=?_)
    repeat refine RA.qq (h:=?_)
    refine RA.vk prog (.int .u8 c1.toNat) (h:=?_)
    refine RA.fr (by kernel_rfl) (by rfl) (fun v a b h h2=>h2.chg h (fun g hg hS hC=>by rcases hC with e|e;exact absurd (hfi.out g e).2 (by omega);exact absurd (hfo.out g e).2 (by omega))) (fun w3 hp=>⟨.slice (some ⟨w3.heap.size,0,none⟩) 1 1,w3.alloc (.cells #[.int .u8 c1.toNat] 5),by
     show (execOp _ _).run prog w3=_;go_simp,(Chg.refl _ _).alloc _,(Cells.own (World.ownsRow_lit (base:=wr.heap.size) (e:=5) (size:=1) w3 #[.int .u8 c1.toNat] 1 (hdr2 _ hp.1).size (by unfold maxLen;omega) rfl)).mono (fun _ _ h=>h.2)⟩) (fun xc1=>?_)
    refine RA.bq (fun _ _=>True) (fun u w4=>KdSt w n wB B p s iv ov u ov (I++[c1]) O w4) (by kernel_rfl) (by rfl) (by kernel_rfl) (fun _ _ _ _ _=>trivial) (fun _ _ _ h k=>k.after (Chg.no h)) (fun w3 hp hH=>by
     obtain⟨u,w4,h1,h2,h3⟩:=hH.swap_a c1 (hp.fact 0 rfl (by kernel_rfl)) hIl;exact⟨u,w4,RA.ex_append (by rfl) (by rfl) h1,h3.mono (fun _ _ e=>.inl e),trivial,h2⟩) (fun u9=>?_)
    repeat refine RA.qq (h:=?_)
    refine RA.fk prog (p) (2) (h:=?_);refine RA.lk prog (ov) (hc:=fun w3 hp=>by exact ((hdr2 _ hp.1).cell (p:=⟨p,2,none⟩) hplr hnp).trans co.out) (h:=?_)
    repeat refine RA.qq (h:=?_)
    refine RA.vk prog (.int .u8 c2.toNat) (h:=?_)
    refine RA.fr (by kernel_rfl) (by rfl) (fun v a b h h2=>h2.chg h (fun g hg hS hC=>by rcases hC with e|e;exact absurd (hfi.out g e).2 (by omega);exact absurd (hfo.out g e).2 (by omega))) (fun w3 hp=>⟨.slice (some ⟨w3.heap.size,0,none⟩) 1 1,w3.alloc (.cells #[.int .u8 c2.toNat] 5),by
     show (execOp _ _).run prog w3=_;go_simp,(Chg.refl _ _).alloc _,(Cells.own (World.ownsRow_lit (base:=wr.heap.size) (e:=5) (size:=1) w3 #[.int .u8 c2.toNat] 1 (hdr2 _ hp.1).size (by unfold maxLen;omega) rfl)).mono (fun _ _ h=>h.2)⟩) (fun xc2=>?_)
    refine RA.bq (fun _ _=>True) (fun u w4=>KdSt w n wB B p s iv ov u9 u (I++[c1]) (O++[c2]) w4) (by kernel_rfl) (by rfl) (by kernel_rfl) (fun _ _ _ _ _=>trivial) (fun _ _ _ h k=>k.after (Chg.no h)) (fun w3 hp hH=>by
     obtain⟨u,w4,h1,h2,h3⟩:=hH.swap_b c2 (hp.fact 0 rfl (by kernel_rfl)) hOl;exact⟨u,w4,RA.ex_append (by rfl) (by rfl) h1,h3.mono (fun _ _ e=>.inr e),trivial,h2⟩) (fun u17=>?_)
    refine RA.pq (h:=?_);refine RA.pk prog (p) (1) (h:=?_)
    refine RA.stt (fun w4=>KdSt w n wB B p s u9 ov u9 u17 (I++[c1]) (O++[c2]) w4) (by rfl) (by rfl) (by kernel_rfl) (fun _ _ h k=>k.after (Chg.no h)) (fun w3 hp0 hH=>by
     have hpt:=hH.put 1 u9 u9 ov rfl;obtain⟨g',cp,rfl,_,_⟩:=own_shape hH.ra (by simp);have fz:=frozen_of hH.box 1;have cz0:=cell_of hH.box 1;have cz:w3.cell? ⟨p,1,none⟩=some iv:=cz0;refine⟨_,RA.ex_store (by rfl) (by rfl) (w':=w3.setCell ⟨p,1,none⟩ (.slice (some ⟨g',0,none⟩) (I++[c1]).length cp)) ?_,hpt⟩;clear hpt cz0;show (Instr.storeAt _ _ _).run prog w3=_;go_simp) ?_
    refine RA.pq (h:=?_);refine RA.pk prog (p) (2) (h:=?_)
    refine RA.stt (fun w4=>KdSt w n wB B p s u9 u17 u9 u17 (I++[c1]) (O++[c2]) w4) (by rfl) (by rfl) (by kernel_rfl) (fun _ _ h k=>k.after (Chg.no h)) (fun w3 hp0 hH=>by
     have hpt:=hH.put 2 u17 u9 u17 rfl;obtain⟨g',cp,rfl,_,_⟩:=own_shape hH.rb (by simp);have fz:=frozen_of hH.box 2;have cz0:=cell_of hH.box 2;have cz:w3.cell? ⟨p,2,none⟩=some ov:=cz0;refine⟨_,RA.ex_store (by rfl) (by rfl) (w':=w3.setCell ⟨p,2,none⟩ (.slice (some ⟨g',0,none⟩) (O++[c2]).length cp)) ?_,hpt⟩;clear hpt cz0;show (Instr.storeAt _ _ _).run prog w3=_;go_simp) ?_
    refine RA.RA.doneT (fun w5 hH=>?_);simp only[RA.put,List.foldr_cons,List.foldr_nil,cx,Act.put,List.setIfInBounds_toArray,List.set_cons_succ,List.set_cons_zero];replace hH:=LH hH;go_wp2;go_roundw
    case rel=>
     refine⟨k+1,by omega,by go_num,u9,u17,?_⟩;show KdSt _ _ _ _ _ _ _ _ _ _ _ _ _;rw[hn1.out,hn2.out];exact hH.out
    case measure=>simp[intOf];omega
   ·have hc0:cc=0:=by
     rw[hcc];simp[List.getD,List.getElem?_eq_none (show K.length≤k by have:=hKL.out;omega)]
    subst hc0;clear hkey;replace x1:bits .xor .u8 0 54=(c1.toNat:Int):=x1;replace x2:bits .xor .u8 0 92=(c2.toNat:Int):=x2;replace hcc:=LH hcc;go_wp2;refine RA.regionT (Chg (fun g=>iv.ownBlock=some g∨ov.ownBlock=some g)) (Chg No) [5,5,1,1,1,1,1,1,2,3,1,1,1,1,1,1,2,3,5,5,7,5,5,7] [20,23] (fun i v w3=>Cells w3 (fun g=>wr.heap.size≤g) v 1 1 [.int .u8 (if i=8 then c1 else c2).toNat]) (fun w3=>KdSt w n wB B p s iv ov iv ov I O w3) (by kernel_rfl) (Chg.refl _ _) (fun _ _ h=>h.mono (fun _ _ e=>e.elim)) (fun _ _ _ h k=>h.trans k) (fun _ _ h k=>k.after (Chg.no h)) (hSt.out.after ⟨rfl,rfl,rfl,Nat.le_refl _,fun _ _=>rfl⟩) (by kernel_rfl) (by kernel_rfl) ?_;intro cx;have hdr2:∀ w3,Chg (fun g=>iv.ownBlock=some g∨ov.ownBlock=some g) wr.drew w3→Chg (fun g=>iv.ownBlock=some g∨ov.ownBlock=some g) wr w3:=fun w3 h=>⟨h.os,h.tape,h.output,h.size,h.block⟩
    have hnp:¬ (iv.ownBlock=some p∨ov.ownBlock=some p):=fun h=>by
     rcases h with h|h
     ·have:=(hfi.out p h).1;omega
     ·have:=(hfo.out p h).1;omega
    refine RA.pq (h:=?_);refine RA.pq (h:=?_)
    repeat refine RA.qq (h:=?_)
    refine RA.fk prog (p) (1) (h:=?_);refine RA.lk prog (iv) (hc:=fun w3 hp=>by exact ((hdr2 _ hp.1).cell (p:=⟨p,1,none⟩) hplr hnp).trans ci.out) (h:=?_)
    repeat refine RA.qq (h:=?_)
    refine RA.vk prog (.int .u8 c1.toNat) (h:=?_)
    refine RA.fr (by kernel_rfl) (by rfl) (fun v a b h h2=>h2.chg h (fun g hg hS hC=>by rcases hC with e|e;exact absurd (hfi.out g e).2 (by omega);exact absurd (hfo.out g e).2 (by omega))) (fun w3 hp=>⟨.slice (some ⟨w3.heap.size,0,none⟩) 1 1,w3.alloc (.cells #[.int .u8 c1.toNat] 5),by
     show (execOp _ _).run prog w3=_;go_simp,(Chg.refl _ _).alloc _,(Cells.own (World.ownsRow_lit (base:=wr.heap.size) (e:=5) (size:=1) w3 #[.int .u8 c1.toNat] 1 (hdr2 _ hp.1).size (by unfold maxLen;omega) rfl)).mono (fun _ _ h=>h.2)⟩) (fun xc1=>?_)
    refine RA.bq (fun _ _=>True) (fun u w4=>KdSt w n wB B p s iv ov u ov (I++[c1]) O w4) (by kernel_rfl) (by rfl) (by kernel_rfl) (fun _ _ _ _ _=>trivial) (fun _ _ _ h k=>k.after (Chg.no h)) (fun w3 hp hH=>by
     obtain⟨u,w4,h1,h2,h3⟩:=hH.swap_a c1 (hp.fact 0 rfl (by kernel_rfl)) hIl;exact⟨u,w4,RA.ex_append (by rfl) (by rfl) h1,h3.mono (fun _ _ e=>.inl e),trivial,h2⟩) (fun u9=>?_)
    repeat refine RA.qq (h:=?_)
    refine RA.fk prog (p) (2) (h:=?_);refine RA.lk prog (ov) (hc:=fun w3 hp=>by exact ((hdr2 _ hp.1).cell (p:=⟨p,2,none⟩) hplr hnp).trans co.out) (h:=?_)
    repeat refine RA.qq (h:=?_)
    refine RA.vk prog (.int .u8 c2.toNat) (h:=?_)
    refine RA.fr (by kernel_rfl) (by rfl) (fun v a b h h2=>h2.chg h (fun g hg hS hC=>by rcases hC with e|e;exact absurd (hfi.out g e).2 (by omega);exact absurd (hfo.out g e).2 (by omega))) (fun w3 hp=>⟨.slice (some ⟨w3.heap.size,0,none⟩) 1 1,w3.alloc (.cells #[.int .u8 c2.toNat] 5),by
     show (execOp _ _).run prog w3=_;go_simp,(Chg.refl _ _).alloc _,(Cells.own (World.ownsRow_lit (base:=wr.heap.size) (e:=5) (size:=1) w3 #[.int .u8 c2.toNat] 1 (hdr2 _ hp.1).size (by unfold maxLen;omega) rfl)).mono (fun _ _ h=>h.2)⟩) (fun xc2=>?_)
    refine RA.bq (fun _ _=>True) (fun u w4=>KdSt w n wB B p s iv ov u9 u (I++[c1]) (O++[c2]) w4) (by kernel_rfl) (by rfl) (by kernel_rfl) (fun _ _ _ _ _=>trivial) (fun _ _ _ h k=>k.after (Chg.no h)) (fun w3 hp hH=>by
     obtain⟨u,w4,h1,h2,h3⟩:=hH.swap_b c2 (hp.fact 0 rfl (by kernel_rfl)) hOl;exact⟨u,w4,RA.ex_append (by rfl) (by rfl) h1,h3.mono (fun _ _ e=>.inr e),trivial,h2⟩) (fun u17=>?_)
    refine RA.pq (h:=?_);refine RA.pk prog (p) (1) (h:=?_)
    refine RA.stt (fun w4=>KdSt w n wB B p s u9 ov u9 u17 (I++[c1]) (O++[c2]) w4) (by rfl) (by rfl) (by kernel_rfl) (fun _ _ h k=>k.after (Chg.no h)) (fun w3 hp0 hH=>by
     have hpt:=hH.put 1 u9 u9 ov rfl;obtain⟨g',cp,rfl,_,_⟩:=own_shape hH.ra (by simp);have fz:=frozen_of hH.box 1;have cz0:=cell_of hH.box 1;have cz:w3.cell? ⟨p,1,none⟩=some iv:=cz0;refine⟨_,RA.ex_store (by rfl) (by rfl) (w':=w3.setCell ⟨p,1,none⟩ (.slice (some ⟨g',0,none⟩) (I++[c1]).length cp)) ?_,hpt⟩;clear hpt cz0;show (Instr.storeAt _ _ _).run prog w3=_;go_simp) ?_
    refine RA.pq (h:=?_);refine RA.pk prog (p) (2) (h:=?_)
    refine RA.stt (fun w4=>KdSt w n wB B p s u9 u17 u9 u17 (I++[c1]) (O++[c2]) w4) (by rfl) (by rfl) (by kernel_rfl) (fun _ _ h k=>k.after (Chg.no h)) (fun w3 hp0 hH=>by
     have hpt:=hH.put 2 u17 u9 u17 rfl;obtain⟨g',cp,rfl,_,_⟩:=own_shape hH.rb (by simp);have fz:=frozen_of hH.box 2;have cz0:=cell_of hH.box 2;have cz:w3.cell? ⟨p,2,none⟩=some ov:=cz0;refine⟨_,RA.ex_store (by rfl) (by rfl) (w':=w3.setCell ⟨p,2,none⟩ (.slice (some ⟨g',0,none⟩) (O++[c2]).length cp)) ?_,hpt⟩;clear hpt cz0;show (Instr.storeAt _ _ _).run prog w3=_;go_simp) ?_
    refine RA.RA.doneT (fun w5 hH=>?_);simp only[RA.put,List.foldr_cons,List.foldr_nil,cx,Act.put,List.setIfInBounds_toArray,List.set_cons_succ,List.set_cons_zero];replace hH:=LH hH;go_wp2;go_roundw
    case rel=>
     refine⟨k+1,by omega,by go_num,u9,u17,?_⟩;show KdSt _ _ _ _ _ _ _ _ _ _ _ _ _;rw[hn1.out,hn2.out];exact hH.out
    case measure=>simp[intOf];omega
  ·have hk6:k=64:=by omega
   rw[hk6] at hSt;clear hk6 hdr;go_wp2;go_ret;have h:=hSt.out;exact⟨p,s,iv,ov,rfl,⟨HN.out ▸ h.hp,h.box,HN.out ▸ hns,h.sum,(show Bytes _ _ _ _ from (by have e:=Cells.own h.ra;exact e)).mono (fun g _ hg=>by have:=hg.2;have:=HN.out;omega),(show Bytes _ _ _ _ from (by have e:=Cells.own h.rb;exact e)).mono (fun g _ hg=>by have:=hg.2;have:=HN.out;omega)⟩,HN.out ▸ h.below⟩
end Go.Proofs.YtbgfdbidbjlaaaaGreat.Fd

/-
  mac.Tag. No condition beyond what each theorem names.
-/
import Derived.Test.YthmcbgidehjlbaaGreatRmIns
import Derived.Test.YthmcbgidehjlbaaGreatRmXenc
namespace Go.Proofs.YthmcbgidehjlbaaGreat.Fd
open _root_.Go.Proofs.Tryz
open Go Go.RowKit K
set_option maxRecDepth 100000
set_option maxHeartbeats 4000000
def tagL (key:List UInt8) (parts:List (List UInt8)):List UInt8:=sha [padK key 92 64,sha (padK key 54 64::parts)]
theorem tagL_length {key:List UInt8}{parts:List (List UInt8)}:(tagL key parts).length=32:=sha_length
theorem tagL_eq {key:List UInt8}{parts:List (List UInt8)}:tagL key parts=sha [padK key 92 64,sha (padK key 54 64::parts)]:=rfl
attribute [irreducible] tagL
structure Kp (n:Nat) (a b:World):Prop where
 below:Below n a b
 keep:∀ (g:Nat) (c:Array Value) (t:TypeId) (m:Nat×Nat),a.heap[g]?=some (.cells c t m)→(t≠42∨c.size=1)→b.heap[g]?=a.heap[g]?
theorem Kp.refl (n:Nat) (a:World):Kp n a a:=⟨Below.refl _ _,fun _ _ _ _ _ _=>rfl⟩
theorem Kp.trans {n:Nat}{a b c:World}(h:Kp n a b) (k:Kp n b c):Kp n a c:=
 ⟨h.below.trans k.below,fun g cs t m hg hc=>(k.keep g cs t m ((h.keep g cs t m hg hc).trans hg) hc).trans (h.keep g cs t m hg hc)⟩
theorem Kp.chg {n:Nat}{a b:World}(hn:n≤a.heap.size) (h:Chg No a b):Kp n a b:=
 ⟨(Chg.no h).mono hn,fun g _ _ _ hg _=>h.block g (heap_lt hg) id⟩
theorem sizeHash:(prog.info? 209).map (·.size)=some 32:=by kernel_rfl
theorem hash_store {w:World}{b:Nat}{l:List UInt8}(h:Arr w b 209 (List.replicate 32 0)) (hl:l.length=32):
  (Instr.storeAt 209 (.pointer (some ⟨b,0,none⟩)) (.agg (u8s l).toArray)).run prog w=.ok () (w.setRow b (u8s l).toArray):=by
 simp only[Instr.storeAt,Instr.sureAddr,Sem.run_bind,Sem.run_pure,Result.andThen];rw[run_storeVar_row w b 209 209 _ _ h (by rw[sizeHash];simp[u8s_length,hl]) (by simp[u8s_length,hl]) (u8s_all l)]
theorem owns_base {w:World}{base base':Nat}{e:TypeId}{size:Nat}{v:Value}{k:Nat}{xs:List Value}(h:w.ownsRow base e size v k xs) (hb:base'≤base):w.ownsRow base' e size v k xs:=by
 refine⟨h.1,?_⟩;rcases h.2 with h|⟨g,cap,cur,h1,h2,h3⟩
 ·exact .inl h
 ·exact .inr ⟨g,cap,cur,h1,Nat.le_trans hb h2,h3⟩
theorem parts_one {w:World}{S:Nat→Prop}{vs:List Value}{parts:List (List UInt8)}(h:∀ j v,vs[j]?=some v→Bytes w S v (parts.getD j [])):∀ u ∈ vs,u.oneCell'=true:=by
 intro u hu;obtain⟨j,hj⟩:=List.getElem?_of_mem hu;obtain⟨a,c,rfl,_⟩:=(h j u hj).shape;rfl
theorem PartsAt.cons {w:World}{S:Nat→Prop}{pv x:Value}{part:List UInt8}{vs:List Value}{parts:List (List UInt8)}(hc:Cells w S pv (vs.length+1) 1 (x::vs)) (hl:vs.length=parts.length) (hx:Bytes w S x part) (h:∀ j v,vs[j]?=some v→Bytes w S v (parts.getD j [])):PartsAt w S pv (part::parts):=by
 refine⟨x::vs,by rw[List.length_cons,← hl];exact hc,fun j v hv=>?_⟩;cases j with
 | zero=>simp at hv;subst hv;simpa using hx
 | succ j=>simp at hv;simpa using h j v hv
theorem tag_ok {w:World}{F:Nat→Prop}{p s:Nat}{iv ov:Value}{key:List UInt8}(hk:KeyedAt w F p s iv ov key){S:Nat→Prop}{pv:Value}{parts:List (List UInt8)}(hp:PartsAt w S pv parts) (h0:0<parts.length) (hfew:parts.length≤7) (hlen:∀ x ∈ parts,x.length≤100000):
  Calls prog 176 #[.pointer (some ⟨p,0,none⟩),pv] w fun e w'=>e=.returned (.agg (u8s (tagL key parts)).toArray)∧Below w.heap.size w w':=by
 obtain⟨n,hn⟩:∃ n,n=w.heap.size:=⟨_,rfl⟩;have HN:=LH hn;obtain⟨IN,hIN⟩:∃ l,l=padK key 54 64:=⟨_,rfl⟩;obtain⟨OUT,hOUT⟩:∃ l,l=padK key 92 64:=⟨_,rfl⟩;have hINl:IN.length=64:=by rw[hIN,padK_length]
 have hOUTl:OUT.length=64:=by rw[hOUT,padK_length]
 obtain⟨h,hh⟩:∃ l,l=sha (IN::parts):=⟨_,rfl⟩;have hhl:h.length=32:=hh ▸ sha_length;obtain⟨T,hT⟩:∃ l,l=sha [OUT,h]:=⟨_,rfl⟩;have hTl:T.length=32:=hT ▸ sha_length;have hres:T=tagL key parts:=by rw[hT,hh,hIN,hOUT,tagL_eq]
 have hin:=hk.inn;have hout:=hk.out;rw[← hIN] at hin;rw[← hOUT] at hout;have hpl:=heap_lt hk.box;have hsum:=hk.sum;have hsl:=heap_lt hsum;obtain⟨ia,ic,rfl,hi1,hi2⟩:=hin.shape;obtain⟨oa,oc,rfl,ho1,ho2⟩:=hout.shape;have g0:=cell_of hk.box 0;have g1:=cell_of hk.box 1;have g2:=cell_of hk.box 2;have c0:w.cell? ⟨p,0,none⟩=some (.pointer (some ⟨s,0,none⟩)):=g0;have c1:w.cell? ⟨p,1,none⟩=some (.slice ia IN.length ic):=g1;have c2:w.cell? ⟨p,2,none⟩=some (.slice oa OUT.length oc):=g2;clear g0 g1 g2;rw[hINl] at c1 hi1;rw[hOUTl] at c2 ho1;unfold maxLen at hi2 ho2;obtain⟨vs,hv1,hv2⟩:=hp.row;have hvl:vs.length=parts.length:=by have:=hv1.1;omega
 have hone:=parts_one hv2;rw[← hvl] at hv1 hfew h0;obtain⟨pa,pc,rfl,hp1,hp2⟩:=hv1.shape;unfold maxLen at hp2;obtain⟨m,hm⟩:∃ m,m=vs.length:=⟨_,rfl⟩
 have hlenI:∀ x ∈ IN::parts,x.length≤100000:=by
  intro x hx;rcases List.mem_cons.1 hx with rfl|hx
  ·omega
  ·exact hlen x hx
 have hlenO:∀ x ∈ [OUT,h],x.length≤100000:=by
  intro x hx;simp at hx;rcases hx with rfl|rfl<;>omega
 have hcl:∀ w3,Below n w w3→n≤w3.heap.size→Calls prog 188 #[.slice pa m pc] w3 fun e w'=>∃ v',e=.returned v'∧w'.ownsRow w3.heap.size 42 1 v' m vs∧Below w3.heap.size w3 w':=fun w3 h3 hs=>by
  have h:=hv1.keep (w':=w3) (HN.out ▸ hs) (fun b _ hb=>h3.block b (by have:=HN.out;omega));rw[hm];exact cloneP_ok h hone (by omega)
 have hsm:∀ w3,Below n w w3→n≤w3.heap.size→∀ (S':Nat→Prop) v,PartsAt w3 S' v (IN::parts)→Calls prog 186 #[.pointer (some ⟨s,0,none⟩),v] w3 fun e w'=>e=.returned (.agg (u8s h).toArray)∧Below w3.heap.size w3 w':=fun w3 h3 _ S' v hv=>by
  rw[hh];exact shaSum_ok (hsum.keep (h3.block s (by have:=HN.out;omega))) hv (by simp;omega) hlenI
 have hso:∀ w3,Below n w w3→n≤w3.heap.size→∀ (S':Nat→Prop) v,PartsAt w3 S' v [OUT,h]→Calls prog 186 #[.pointer (some ⟨s,0,none⟩),v] w3 fun e w'=>e=.returned (.agg (u8s T).toArray)∧Below w3.heap.size w3 w':=fun w3 h3 _ S' v hv=>by
  rw[hT];exact shaSum_ok (hsum.keep (h3.block s (by have:=HN.out;omega))) hv (by simp) hlenO
 have hbI:∀ w3,Below n w w3→n≤w3.heap.size→Bytes w3 (fun _=>True) (.slice ia 64 ic) IN:=fun w3 h3 hs=>by
  have h:=(hin.keep (w':=w3) (HN.out ▸ hs) (fun b _ hb=>h3.block b (by have:=HN.out;omega))).mono (S':=fun _=>True) (fun _ _ _=>trivial);show Cells _ _ _ IN.length 1 _;have e:Cells w3 (fun _=>True) (.slice ia IN.length ic) IN.length 1 (u8s IN):=h;rw[hINl] at e ⊢;exact e
 have hbO:∀ w3,Below n w w3→n≤w3.heap.size→Bytes w3 (fun _=>True) (.slice oa 64 oc) OUT:=fun w3 h3 hs=>by
  have h:=(hout.keep (w':=w3) (HN.out ▸ hs) (fun b _ hb=>h3.block b (by have:=HN.out;omega))).mono (S':=fun _=>True) (fun _ _ _=>trivial);show Cells _ _ _ OUT.length 1 _;have e:Cells w3 (fun _=>True) (.slice oa OUT.length oc) OUT.length 1 (u8s OUT):=h;rw[hOUTl] at e ⊢;exact e
 have hbP:∀ w3,Below n w w3→n≤w3.heap.size→∀ j v,vs[j]?=some v→Bytes w3 (fun _=>True) v (parts.getD j []):=fun w3 h3 hs j v hv=>
  (Cells.keep (hv2 j v hv) (HN.out ▸ hs) (fun b _ hb=>h3.block b (by have:=HN.out;omega))).mono (S':=fun _=>True) (fun _ _ _=>trivial)
 have hkc:∀ (w3:World) j x,Below n w w3→w.cell? ⟨p,j,none⟩=some x→w3.cell? ⟨p,j,none⟩=some x:=fun w3 j x h3 hc=>by
  rw[World.cell?_of_block (w:=w) (h3.block p (by have:=HN.out;omega))];exact hc
 have hszH:(prog.info? 209).map (·.size)=some 32:=by kernel_rfl
 replace hcl:=LH hcl;replace hsm:=LH hsm;replace hso:=LH hso;replace hbI:=LH hbI;replace hbO:=LH hbO;replace hbP:=LH hbP;replace hkc:=LH hkc;replace c0:=LH c0;replace c1:=LH c1;replace c2:=LH c2;replace hone:=LH hone;replace hres:=LH hres;clear hsum hin hout hk hp hv1 hv2 hlen hlenI hlenO hT hh hIN hOUT;rw[← hm] at hfew h0 hp1 ⊢;replace hm:=LH hm;obtain⟨wA,hwA⟩:∃ x,x=w.alloc (.cells (u8s (List.replicate 32 0)).toArray 209):=⟨_,rfl⟩;have sA:wA.heap.size=n+1:=by rw[hwA,hn];simp
 have bA:Below n w wA:=by rw[hwA,hn];exact (Below.refl _ _).alloc (Nat.le_refl _) _
 have xA:Arr wA n 209 (List.replicate 32 0):=by rw[hwA,hn];exact heap_alloc_new w _
 obtain⟨wD,hwD⟩:∃ x,x=wA.drew:=⟨_,rfl⟩;have sD:wD.heap.size=n+1:=by rw[hwD];exact sA
 have bD:Below n w wD:=by rw[hwD];exact⟨bA.os,bA.tape,bA.output,bA.size,bA.block⟩
 have xD:Arr wD n 209 (List.replicate 32 0):=by rw[hwD];exact xA
 have hR:∀ w3,Kp n wD w3→Below n w w3∧n≤w3.heap.size:=fun w3 h3=>⟨bD.trans h3.below,by have:=h3.below.size;omega⟩
 have hSz:∀ w3,Kp n wD w3→n<w3.heap.size:=fun w3 h3=>by have:=h3.below.size;omega
 have hfin:∀ w3,Kp n wD w3→Arr w3 n 209 (List.replicate 32 0):=fun w3 h3=>xD.keep (h3.keep n _ _ _ xD (.inl (by decide)))
 subst hwD;subst hwA;replace hR:=LH hR;replace hfin:=LH hfin;replace hSz:=LH hSz;replace xA:=LH xA;clear xD bA;go_enter func176,ntmps176
 go_wp2_with fail
 rw[← hn];refine RA.regionT (Kp n) (fun a b=>n≤a.heap.size∧Chg No a b) [1,1,1,1,1,3,1,1,1,1,2,3,4,2,7] [14] (fun i v w3=>if i=10 then ∃ b,v=.slice (some ⟨b,0,none⟩) 1 1∧n≤b∧w3.heap[b]?=some (.cells #[.slice ia 64 ic] 42 (0,0)) else ∃ b,v=.pointer (some ⟨b,0,none⟩)∧n<b∧Arr w3 b 209 (List.replicate 32 0)) (fun _=>True) (by kernel_rfl) (Kp.refl _ _) (fun _ _ h=>Kp.chg h.1 h.2) (fun _ _ _ h k=>h.trans k) (fun _ _ _ k=>k) trivial (by kernel_rfl) (by kernel_rfl) ?_;intro cx
 repeat refine RA.qq (h:=?_)
 refine RA.fk prog (p) (0) (h:=?_);refine RA.lk prog (.pointer (some ⟨s,0,none⟩)) (hc:=fun w3 hp=>by exact hkc.out _ 0 _ (hR.out _ hp.1).1 c0.out) (h:=?_)
 repeat refine RA.qq (h:=?_)
 refine RA.qc (P:=prog) [.slice pa m pc] (fun _ _=>True) (fun v w3=>w3.ownsRow n 42 1 v m vs) (fun _ _=>by go_simp) (by kernel_rfl) (by rfl) (by rfl) (by kernel_rfl) (fun _ _ _ _ _=>trivial) (fun v a b h h2=>owns_keep h2 (fun g hg=>h.2.block g (h2.lt g hg).2 id)) rfl (fun w3 hp _=>(hcl.out w3 (hR.out _ hp.1).1 (hR.out _ hp.1).2).mono (by
  rintro e w4 ⟨v',rfl,h1,h2⟩;exact⟨v',rfl,Kp.chg (hR.out _ hp.1).2 (Chg.of_below h2 _),trivial,owns_base h1 (hR.out _ hp.1).2⟩)) (fun u5=>?_)
 repeat refine RA.qq (h:=?_)
 refine RA.fk prog (p) (1) (h:=?_);refine RA.lk prog (.slice ia 64 ic) (hc:=fun w3 hp=>by exact hkc.out _ 1 _ (hR.out _ hp.1).1 c1.out) (h:=?_)
 refine RA.fr (by kernel_rfl) (by rfl) (fun v a b h h2=>by
  obtain⟨b1,h3,h4,h5⟩:=h2
  exact⟨b1,h3,h4,(h.keep b1 _ _ _ h5 (.inr rfl)).trans h5⟩) (fun w3 hp=>⟨.slice (some ⟨w3.heap.size,0,none⟩) 1 1,w3.alloc (.cells #[.slice ia 64 ic] 42),by
   show (execOp _ _).run prog w3=_;go_simp,⟨(hR.out _ hp.1).2,(Chg.refl _ _).alloc _⟩,w3.heap.size,rfl,(hR.out _ hp.1).2,heap_alloc_new w3 _⟩) (fun u10=>?_)
 refine RA.qc (P:=prog) [u5,.int .i64 0,u10] (fun _ _=>True) (fun v w3=>PartsAt w3 (fun _=>True) v (IN::parts)) (fun _ _=>by go_simp) (by kernel_rfl) (by rfl) (by rfl) (by kernel_rfl) (fun _ _ _ _ _=>trivial) (fun v a b h h2=>h2.keep h.2.size (fun g _ hg=>h.2.block g hg id)) rfl (fun w3 hp hH=>by
  obtain⟨b,rfl,hb1,hb2⟩:=hp.fact 0 rfl (by kernel_rfl);refine (insert_ok (hR.out _ hp.1).2 hH h0 (by omega) hb2 hone.out rfl).mono ?_;rintro e w4 ⟨⟨v,rfl,h1⟩,h2,h3⟩;have hk4:=hR.out _ (hp.1.trans ⟨h2,h3⟩);exact⟨v,rfl,⟨h2,h3⟩,trivial,PartsAt.cons (h1.mono (fun _ _ _=>trivial)) hvl (hbI.out _ hk4.1 hk4.2) (hbP.out _ hk4.1 hk4.2)⟩) (fun u11=>?_)
 refine RA.kc (P:=prog) [.pointer (some ⟨s,0,none⟩),u11] (.agg (u8s h).toArray) (fun _=>True) (fun _ _=>by go_simp) (by kernel_rfl) (by rfl) (by rfl) (by kernel_rfl) (fun _ _ _ h=>h) rfl (fun w3 hp hH=>(hsm.out w3 (hR.out _ hp.1).1 (hR.out _ hp.1).2 _ _ hH).mono (by
  rintro e w4 ⟨rfl,h2⟩;exact⟨rfl,Kp.chg (hR.out _ hp.1).2 (Chg.of_below h2 _),trivial⟩)) ?_
 refine RA.fr (by kernel_rfl) (by rfl) (fun v a b h h2=>by
  obtain⟨b1,h3,h4,h5⟩:=h2
  exact⟨b1,h3,h4,(h.keep b1 _ _ _ h5 (.inl (by decide))).trans h5⟩) (fun w3 hp=>⟨.pointer (some ⟨w3.heap.size,0,none⟩),w3.alloc (.cells (u8s (List.replicate 32 0)).toArray 209),by
   show (execOp _ _).run prog w3=_;go_simp;rfl,⟨(hR.out _ hp.1).2,(Chg.refl _ _).alloc _⟩,w3.heap.size,rfl,hSz.out _ hp.1,heap_alloc_new w3 _⟩) (fun u13=>?_)
 refine RA.stt (fun w4=>∃ b,u13=.pointer (some ⟨b,0,none⟩)∧n<b∧Arr w4 b 209 h∧Below n w w4∧n≤w4.heap.size∧Arr w4 n 209 (List.replicate 32 0)) (by kernel_rfl) (by rfl) (by kernel_rfl) (fun a b h k=>by
  obtain⟨b1,h1,h2,h3,h4,h5,h6⟩:=k;exact⟨b1,h1,h2,h3.keep (h.2.block b1 (heap_lt h3) id),h4.trans ((Chg.no h.2).mono h5),Nat.le_trans h5 h.2.size,h6.keep (h.2.block n (heap_lt h6) id)⟩) (fun w3 hp0 _=>by
  have hp:=hp0.first (by kernel_rfl);obtain⟨b1,rfl,h4,h5⟩:=hp.fact 0 rfl (by kernel_rfl);have hk3:=hR.out _ hp.1;have hst:=hash_store h5 hhl;refine⟨w3.setRow b1 (u8s h).toArray,RA.ex_store (by rfl) (by rfl) hst,b1,rfl,h4,h5.setRow _,below_setRow hk3.1 (by omega) _,by simpa [World.setRow] using hk3.2,(hfin.out _ hp.1).keep (setRow_other _ _ _ _ (by omega))⟩) ?_
 refine RA.RA.doneT (fun w4 hH=>?_);simp only[RA.put,List.foldr_cons,List.foldr_nil,cx,Act.put,List.setIfInBounds_toArray,List.set_cons_succ,List.set_cons_zero];obtain⟨b,rfl,hb1,hb2,hb3,hb4,hb5⟩:=hH;have hbl:=heap_lt hb2;replace hb2:=LH hb2;replace hb3:=LH hb3;replace hb5:=LH hb5;clear hSz hfin hR hsm hcl hbI hbP;go_wp2
 have hd4:∀ w3,Chg No w4.drew w3→Below n w w3∧n≤w3.heap.size∧Arr w3 b 209 h∧Arr w3 n 209 (List.replicate 32 0):=fun w3 k=>by
  have k':Chg No w4 w3:=⟨k.os,k.tape,k.output,k.size,k.block⟩;exact⟨hb3.out.trans ((Chg.no k').mono hb4),Nat.le_trans hb4 k.size,hb2.out.keep (k'.block b hbl id),hb5.out.keep (k'.block n (heap_lt hb5.out) id)⟩
 replace hd4:=LH hd4;refine RA.rt (Chg No) [1,1,1,1,1,1,1,1,1,3,4,7] [11] (fun _=>True) (trivial) (fun _=>Chg.refl _ _) (fun _ _ _ h k=>h.trans k) (h:=?_);intro cx
 repeat refine RA.qq (h:=?_)
 refine RA.fk prog (p) (0) (h:=?_);refine RA.lk prog (.pointer (some ⟨s,0,none⟩)) (hc:=fun w3 hp=>by exact hkc.out _ 0 _ (hd4.out _ hp.1).1 c0.out) (h:=?_)
 repeat refine RA.qq (h:=?_)
 refine RA.fk prog (p) (2) (h:=?_);refine RA.lk prog (.slice oa 64 oc) (hc:=fun w3 hp=>by exact hkc.out _ 2 _ (hd4.out _ hp.1).1 c2.out) (h:=?_);refine RA.sal (by kernel_rfl) (by rfl) (by rfl) (y':=.slice (some ⟨b,0,none⟩) 32 32) (fun w3 hp=>by show (Instr.sliceAt _ _ _ _ _).run prog w3=_;go_simp) ?_
 refine RA.bq (fun v w3=>PartsAt w3 (fun _=>True) v [OUT,h]) (fun _ _=>True) (by kernel_rfl) (by rfl) (by kernel_rfl) (fun v a b h h2=>h2.keep h.size (fun g _ hg=>h.block g hg id)) (fun _ _ _ _ _=>trivial) (fun w3 hp _=>by
  obtain⟨k1,k2,k3,k4⟩:=hd4.out _ hp.1;have hc:=lit_cells w3 #[.slice oa 64 oc,.slice (some ⟨b,0,none⟩) 32 32] 42 2 1 rfl (by unfold maxLen;omega);have k5:Chg No w3 (w3.alloc (.cells #[.slice oa 64 oc,.slice (some ⟨b,0,none⟩) 32 32] 42)):=(Chg.refl _ _).alloc _;have o1:=hbO.out _ (k1.trans ((Chg.no k5).mono k2)) (Nat.le_trans k2 k5.size);have o2:=arr_bytes (k3.keep (k5.block b (heap_lt k3) id)) (by rw[hhl];unfold maxLen;omega);rw[hhl] at o2;refine⟨.slice (some ⟨w3.heap.size,0,none⟩) 2 2,_,?_,k5,PartsAt.cons (vs:=[.slice (some ⟨b,0,none⟩) 32 32]) hc rfl o1 (fun j v hv=>?_),trivial⟩
  ·clear hc k5 o1 o2;show (execOp _ _).run prog w3=_;go_simp
  ·cases j with
   | zero=>simp at hv;subst hv;exact o2
   | succ j=>simp at hv) (fun u9=>?_)
 refine RA.kc (P:=prog) [.pointer (some ⟨s,0,none⟩),u9] (.agg (u8s T).toArray) (fun _=>True) (fun _ _=>by go_simp) (by kernel_rfl) (by rfl) (by rfl) (by kernel_rfl) (fun _ _ _ h=>h) rfl (fun w3 hp hH=>(hso.out w3 (hd4.out _ hp.1).1 (hd4.out _ hp.1).2.1 _ _ (hp.fact 0 rfl (by kernel_rfl))).mono (by rintro e w5 ⟨rfl,h2⟩;exact⟨rfl,Chg.of_below h2 _,trivial⟩)) ?_
 refine RA.stt (fun w5=>Arr w5 n 209 T∧Below n w w5) (by kernel_rfl) (by rfl) (by kernel_rfl) (fun _ _ h k=>h ▸ k) (fun w3 hp0 _=>by
  obtain⟨k1,k2,k3,k4⟩:=hd4.out _ (hp0.first (by kernel_rfl)).1;exact⟨_,RA.ex_store (by rfl) (by rfl) (hash_store k4 hTl),k4.setRow _,below_setRow k1 (Nat.le_refl _) _⟩) ?_
 refine RA.RA.doneT (fun w5 hH=>?_);simp only[RA.put,List.foldr_cons,List.foldr_nil,cx,Act.put,List.setIfInBounds_toArray,List.set_cons_succ,List.set_cons_zero];obtain⟨HA,hbr⟩:=hH;replace hbr:=LH hbr;have hsz:(prog.info? 209).map (·.size)=some T.length:=by rw[hTl];kernel_rfl
 have hld:=LH (run_loadAt_arr (P:=prog) HA underlying209 hsz);have hst:=LH (run_storeAt_arr (P:=prog) HA hsz);replace hsz:=LH hsz;replace HA:=LH HA
 go_wp2_with (first|(refine wpList_load rfl 209 _ rfl _ _ rfl hld.out ?_)|(refine wpList_store rfl 209 _ _ rfl _ _ rfl rfl hst.out ?_))
 refine bodyPost_ret (results_cell_row results176 _ _ n 209 _ (0,0) _ rfl HA.out underlying209 rfl (by rw[hsz.out];simp[u8s_length])) rfl ⟨by rw[hres.out],HN.out ▸ hbr.out⟩
end Go.Proofs.YthmcbgidehjlbaaGreat.Fd

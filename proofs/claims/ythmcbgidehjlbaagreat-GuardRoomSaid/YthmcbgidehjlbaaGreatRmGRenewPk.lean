/-
  Texts of this claim, laid together by a program of mine. No condition beyond what each theorem names.
-/
import Derived.Test.YthmcbgidehjlbaaGreatRmGNode
/-
  hashtree.Tree.renew: a node's tag is made. No condition beyond what each theorem names.
-/
namespace Go.Proofs.YthmcbgidehjlbaaGreat.Fd
open _root_.Go.Proofs.Tryz
open Go Go.RowKit K
set_option maxRecDepth 100000
set_option maxHeartbeats 8000000
def RB (b:Nat) (w w':World):Prop:=(∃ n,Bk w b n)∧(∃ n,Bk w' b n)∧BkG No b w w'
theorem RB.trans {b:Nat}{x y z:World}(h:RB b x y) (k:RB b y z):RB b x z:=⟨h.1,k.2.1,h.2.2.trans k.2.2⟩
theorem TreeAt.rb {w w':World}{t b:Nat}{gs:Nat→Nat}{key:List UInt8}{Ls:List (List UInt8)}(h:TreeAt w t b gs key Ls) (hr:RB b w w'):TreeAt w' t b gs key Ls:=by
 obtain⟨⟨n,hB⟩,_,hG⟩:=hr;exact h.bk hB hG
theorem TreeAt.set {w:World}{t b:Nat}{gs:Nat→Nat}{key:List UInt8}{Ls:List (List UInt8)}(h:TreeAt w t b gs key Ls){k:Nat}{L L':List UInt8}(hk:Ls[k]?=some L) (hl:L'.length=L.length):TreeAt (w.setRow (gs k) (u8s L').toArray) t b gs key (Ls.set k L'):=by
 obtain⟨kv,lv,mv,h1,h2,h3,h4,h5⟩:=h;have hkl:k<Ls.length:=(List.getElem?_eq_some_iff.1 hk).1;obtain⟨hA,hAl⟩:=h4 k L hk
 have ho:∀ {g:Nat}{cs:Array Value}{ty:TypeId},w.heap[g]?=some (.cells cs ty (0,0))→ty≠179→(w.setRow (gs k) (u8s L').toArray).heap[g]?=w.heap[g]?:=fun {g cs ty} hg hne=>setRow_other _ _ _ _ (by
  rintro rfl;have e:=hA.symm.trans hg;simp only[Option.some.injEq,Obj.cells.injEq] at e;exact hne e.2.1.symm)
 refine⟨kv,lv,mv,(ho h1 (by decide)).trans h1,owns_keep h2 (fun g hg=>?_),?_,fun j M hM=>?_,fun i j hi hj=>?_⟩
 ·obtain⟨cur,hc⟩:=own_cells' h2 hg;exact ho hc (by decide)
 ·rw[List.length_set];refine owns_keep h3 (fun g hg=>?_);obtain⟨cur,hc⟩:=own_cells' h3 hg;exact ho hc (by decide)
 ·by_cases hjk:j=k
  ·subst hjk;rw[List.getElem?_set_self hkl] at hM;obtain rfl:=Option.some.inj hM;exact⟨hA.setRow L',by rw[hl];exact hAl⟩
  ·rw[List.getElem?_set_ne (Ne.symm hjk)] at hM;obtain⟨hB,hBl⟩:=h4 j M hM;have hjl:j<Ls.length:=(List.getElem?_eq_some_iff.1 hM).1;exact⟨hB.keep (setRow_other _ _ _ _ (fun e=>hjk (h5 j k hjl hkl e))),hBl⟩
 ·rw[List.length_set] at hi hj;exact h5 i j hi hj
theorem splice_len {α:Type}{l x:List α}{o:Nat}(h:o+x.length≤l.length):(splice l o x).length=l.length:=by
 simp[splice];omega
theorem framed_len {parts:List (List UInt8)}(hl:∀ x ∈ parts,x.length≤1000) (hp:parts.length≤10):(framedL parts).length≤100000:=by
 have h:∀ ps:List (List UInt8),(∀ x ∈ ps,x.length≤1000)→(framedL ps).length≤ps.length*1004:=by
  intro ps
  induction ps with
  | nil=>intro _;simp[framedL]
  | cons p ps ih=>
   intro h;have h1:=h p (List.mem_cons_self ..);have h2:=ih (fun x hx=>h x (List.mem_cons_of_mem _ hx));have e:framedL (p::ps)=(len4 p.length++p)++framedL ps:=by simp[framedL]
   rw[e,List.length_append,List.length_append,List.length_cons];have h3:(len4 p.length).length=4:=rfl;omega
 have:=h parts hl;omega
theorem htRenew_ok {w:World}{t b n:Nat}{gs:Nat→Nat}{key:List UInt8}{Ls:List (List UInt8)}(h:TreeAt w t b gs key Ls) (hB:Bk w b n) (hn:n<1000000) (l i:Nat) (hl:l<3) (hi:i<wid50 (l+1:Nat)) (hL:l+1<Ls.length):
  Calls prog 99 #[.pointer (some ⟨t,0,none⟩),.agg #[.int .i64 (l+1:Nat),.int .i64 i]] w fun e w'=>e=.returned (.tuple #[])∧∃ L',L'.length=wid50 (l+1:Nat)*16∧TreeAt w' t b gs key (Ls.set (l+1) L')∧Bk w' b (n+1)∧BkG (fun g=>g=gs (l+1)) b w w':=by
 obtain⟨q,hq⟩:∃ q,q=w.heap.size:=⟨_,rfl⟩;obtain⟨m,hm⟩:∃ m,m=l+1:=⟨_,rfl⟩;obtain⟨w1,hw1⟩:∃ w1,w1=w.alloc (.cells #[.int .i64 m,.int .i64 i] 193):=⟨_,rfl⟩;have b1:Below w.heap.size w w1:=by rw[hw1];exact (Below.refl _ _).alloc (Nat.le_refl _) _
 have x1:w1.heap[q]?=some (.cells #[.int .i64 m,.int .i64 i] 193 (0,0)):=by rw[hw1,hq];exact heap_alloc_new w _
 have T1:=h.after b1;have hB1:=hB.after b1;obtain⟨W,hW⟩:∃ W,W=wid50 (l+1:Nat):=⟨_,rfl⟩;have hiW:i<W:=by rw[hW];exact hi
 have hm12:l+1≤1000:=by omega
 have hi12:i≤1000:=by have:=wid50_le (l+1:Nat);omega
 have HK:=fun w3 (hr:RB b w1 w3)=>htKids_ok (T1.rb hr) l i hl hi (by omega)
 have HP:=fun (w3:World) (S:Nat→Prop) (bv:Value) (c:Nat) (bl:List UInt8)=>htNodeParts_ok (w:=w3) (S:=S) (bv:=bv) (c:=c) (bl:=bl) (l+1) i hm12 hi12
 rw[← hm] at HK HP hL ⊢;rw[← hm] at hW;replace HK:=LH HK;replace HP:=LH HP;have hxq:∀ w3,RB b w1 w3→w3.heap[q]?=some (.cells #[.int .i64 m,.int .i64 i] 193 (0,0)):=fun w3 hr=>hr.2.2.at hB1 x1 id (by decide) (by decide)
 have hld:∀ w3,RB b w1 w3→(Instr.loadAt 193 (.pointer (some ⟨q,0,none⟩))).run prog w3=.ok (.agg #[.int .i64 m,.int .i64 i]) w3:=fun w3 hr=>load_struct (P:=prog) (w:=w3) (g:=q) (off:=0) (ty:=193) (x:=[.int .i64 m,.int .i64 i]) underlying193 (by kernel_rfl) (fun j v hv=>by
  rw[Nat.zero_add,cell_of (hxq w3 hr)]
  simpa using hv)
 have T1':=T1;obtain⟨kv,lv,mv,t1,t2,t3,t4,t5⟩:=T1';obtain⟨lg,cap,rfl,hc5,hc6⟩:=own_shape t3 (by omega);obtain⟨lcur,hlg⟩:=own_cells' t3 (g:=lg) rfl;obtain⟨LM,hLM,hLMa,hLMl⟩:=T1.level hL;rw[← hW] at hLMl;obtain⟨N,hN⟩:∃ N,N=Ls.length:=⟨_,rfl⟩;rw[← hN] at hL hc5 t1 t3
 have hgm:w1.cell? ⟨lg,m,none⟩=some (.slice (some ⟨gs m,0,none⟩) W W):=by
  obtain⟨g',off,c',hv,_,_,_,_,hcl⟩:=Cells.at (Cells.own t3) (by omega);simp only[Value.slice.injEq,Option.some.injEq,Addr.mk.injEq] at hv;obtain⟨⟨rfl,rfl,_⟩,_,_⟩:=hv;have h8:=hcl m _ (lvs_get hL);rw[Nat.zero_add,← hW] at h8;exact h8
 have hkl:key.length=32:=by have:=t2.1;rw[u8s_length] at this;omega
 have hxt:∀ w3,RB b w1 w3→w3.heap[t]?=some (.cells #[.pointer (some ⟨b,0,none⟩),kv,.slice (some ⟨lg,0,none⟩) N cap,mv] 189 (0,0)):=fun w3 hr=>hr.2.2.at hB1 t1 id (by decide) (by decide)
 have hxl:∀ w3,RB b w1 w3→w3.cell? ⟨lg,m,none⟩=some (.slice (some ⟨gs m,0,none⟩) W W):=fun w3 hr=>(World.cell?_of_block (w:=w1) ((hr.2.2.at hB1 hlg id (by decide) (by decide)).trans hlg.symm)).trans hgm
 have hkey:∀ w3,RB b w1 w3→Bytes w3 (fun _=>True) kv key:=fun w3 hr=>by
  have h8:=(Cells.own (hr.2.2.own hB1 t2 (fun _ _=>id) (by decide) (by decide))).mono (S':=fun _=>True) (fun _ _ _=>trivial);rw[← hkl] at h8;exact h8
 have hBd:Bk w1.drew b n:=hB1.keep (fun _ _ _=>rfl);have hR0:RB b w1.drew w1.drew:=⟨⟨n,hBd⟩,⟨n,hBd⟩,BkG.refl⟩;have hdr:∀ w3,RB b w1.drew w3→RB b w1 w3:=fun w3 h=>⟨⟨n,hB1⟩,h.2.1,⟨h.2.2.os,h.2.2.tape,h.2.2.output,h.2.2.size,h.2.2.block⟩⟩
 have hmN:(m:Int)<N:=by omega
 have hiWI:(i:Int)<W:=by omega
 replace hBd:=LH hBd;replace hdr:=LH hdr;replace hR0:=LH hR0;replace hkey:=LH hkey;replace hxl:=LH hxl;replace hxt:=LH hxt;replace hld:=LH hld;replace hxq:=LH hxq;replace hN:=LH hN;replace hW:=LH hW;replace hm:=LH hm;replace hB1:=LH hB1;replace b1:=LH b1;replace T1:=LH T1;replace hLM:=LH hLM;replace hLMl:=LH hLMl;clear t1 t2 t3 t4 t5 hlg hLMa hgm x1 h hB;go_enter func99,ntmps99;go_wp2;rw[← hw1,← hq];replace hq:=LH hq;replace hw1:=LH hw1;refine RA.regionT (RB b) (fun _ _=>False) [1,1,1,1,1,1,1,1,1,1,1,1,1,1,1,1,1,1,1,1,1,3,3,3,3,1,7] [26] (fun _ _ _=>True) (fun w3=>Bk w3 b n) (by kernel_rfl) hR0.out (fun _ _ h=>h.elim) (fun _ _ _ h k=>h.trans k) (fun _ _ h=>h.elim) hBd.out (by kernel_rfl) (by kernel_rfl) ?_;intro cx
 repeat refine RA.qq (h:=?_)
 refine RA.fk prog (t) (2) (h:=?_);refine RA.lk prog (.slice (some ⟨lg,0,none⟩) N cap) (hc:=fun w3 hp=>by exact cell_of (hxt.out _ (hdr.out _ hp.1)) 2) (h:=?_);refine RA.fk prog (q) (0) (h:=?_);refine RA.lk prog (.int .i64 m) (hc:=fun w3 hp=>by exact cell_of (hxq.out _ (hdr.out _ hp.1)) 0) (h:=?_);refine RA.ik prog (lg) (m) (h:=?_);refine RA.lk prog (.slice (some ⟨gs m,0,none⟩) W W) (hc:=fun w3 hp=>by exact hxl.out _ (hdr.out _ hp.1)) (h:=?_);refine RA.fk prog (q) (1) (h:=?_);refine RA.lk prog (.int .i64 i) (hc:=fun w3 hp=>by exact cell_of (hxq.out _ (hdr.out _ hp.1)) 1) (h:=?_)
 repeat refine RA.qq (h:=?_)
 refine RA.fk prog (t) (0) (h:=?_);refine RA.lk prog (.pointer (some ⟨b,0,none⟩)) (hc:=fun w3 hp=>by exact cell_of (hxt.out _ (hdr.out _ hp.1)) 0) (h:=?_)
 repeat refine RA.qq (h:=?_)
 refine RA.fk prog (t) (1) (h:=?_)
 refine RA.ld (by kernel_rfl) (by rfl) (by rfl) (y':=kv) (fun w3 hp=>by
  obtain⟨ka,kc,hk,_⟩:=(hkey.out _ (hdr.out _ hp.1)).shape;have hc:=cell_of (hxt.out _ (hdr.out _ hp.1)) 1;subst hk;show (Instr.loadAt _ _).run prog w3=_;go_simp) ?_
 refine RA.ld (by kernel_rfl) (by rfl) (by rfl) (y':=.agg #[.int .i64 m,.int .i64 i]) (fun w3 hp=>hld.out w3 (hdr.out _ hp.1)) ?_
 repeat refine RA.qq (h:=?_)
 refine RA.ld (by kernel_rfl) (by rfl) (by rfl) (y':=.agg #[.int .i64 m,.int .i64 i]) (fun w3 hp=>hld.out w3 (hdr.out _ hp.1)) ?_
 refine RA.qc (P:=prog) [.pointer (some ⟨t,0,none⟩),.agg #[.int .i64 m,.int .i64 i]] (fun _ _=>True) (fun v w3=>Bk w3 b n∧∃ c:Nat,∃ bl:List UInt8,c≤4∧bl.length=c*16∧w3.ownsRow w1.heap.size 179 16 v c (u8s bl)) (fun _ _=>by go_simp) (by kernel_rfl) (by rfl) (by rfl) (by kernel_rfl) (fun _ _ _ _ _=>trivial) (fun _ _ _ h=>h.elim) rfl (fun w3 hp hH=>by
  have hr:=hdr.out _ hp.1;refine (HK.out w3 hr).mono ?_;rintro e w4 ⟨v,rfl,c,bl,k1,k2,k3,k4⟩;exact⟨v,rfl,⟨⟨n,hH⟩,⟨n,hH.after k4⟩,BkG.of_below k4⟩,trivial,hH.after k4,c,bl,k1,k2,owns_base k3 hr.2.2.size⟩) (fun u1=>?_)
 refine RA.qc (P:=prog) [.agg #[.int .i64 m,.int .i64 i],u1] (fun _ _=>True) (fun v w3=>Bk w3 b n∧∃ bl:List UInt8,bl.length≤64∧PartsAt w3 (fun _=>True) v [[110,111,100,101],numL m,numL i,bl]) (fun _ _=>by go_simp) (by kernel_rfl) (by rfl) (by rfl) (by kernel_rfl) (fun _ _ _ _ _=>trivial) (fun _ _ _ h=>h.elim) rfl (fun w3 hp hH=>by
  obtain⟨hH1,c,bl,k1,k2,k3⟩:=hH;refine (HP.out w3 _ _ c bl (Cells.own k3) k2 k1).mono ?_;rintro e w4 ⟨v,rfl,k4,k5⟩;exact⟨v,rfl,⟨⟨n,hH1⟩,⟨n,hH1.after k5⟩,BkG.of_below k5⟩,trivial,hH1.after k5,bl,by omega,k4⟩) (fun u2=>?_)
 refine RA.qc (P:=prog) [.pointer (some ⟨b,0,none⟩),kv,u2] (fun v _=>∃ T:List UInt8,T.length=32∧v=.agg (u8s T).toArray) (fun _ w3=>Bk w3 b (n+1)) (fun _ _=>by go_simp) (by kernel_rfl) (by rfl) (by rfl) (by kernel_rfl) (fun _ _ _ _ h=>h) (fun _ _ _ h=>h.elim) rfl (fun w3 hp hH=>by
  obtain⟨hH1,bl,k1,k2⟩:=hH
  have hlen:∀ x ∈ [[110,111,100,101],numL m,numL i,bl],x.length≤1000:=by
   intro x hx;simp only[List.mem_cons,List.not_mem_nil,or_false] at hx;rcases hx with rfl|rfl|rfl|rfl
   ·simp
   ·rw[numL_length];omega
   ·rw[numL_length];omega
   ·omega
  refine (clMake_ok hH1 hn (hkey.out _ (hdr.out _ hp.1)) (by omega) k2 (by simp) (fun x hx=>by have:=hlen x hx;omega) (framed_len hlen (by simp))).mono ?_;rintro e w4 ⟨rfl,k4,k5⟩;exact⟨_,rfl,⟨⟨n,hH1⟩,⟨n+1,k4⟩,k5⟩,⟨_,tagL_length,rfl⟩,k4⟩) (fun u3=>?_)
 refine RA.qc (P:=prog) [u3] (fun v _=>∃ T:List UInt8,T.length=16∧v=.agg (u8s T).toArray) (fun _ w3=>Bk w3 b (n+1)) (fun _ _=>by go_simp) (by kernel_rfl) (by rfl) (by rfl) (by kernel_rfl) (fun _ _ _ _ h=>h) (fun _ _ _ h=>h.elim) rfl (fun w3 hp hH=>by
  obtain⟨T,hT,rfl⟩:=hp.fact 0 rfl (by kernel_rfl);refine (maShort_ok hT w3).mono ?_;rintro e w4 ⟨rfl,k4⟩;exact⟨_,rfl,⟨⟨_,hH⟩,⟨_,hH.after k4⟩,BkG.of_below k4⟩,⟨_,by rw[List.length_take];omega,rfl⟩,hH.after k4⟩) (fun u4=>?_)
 refine RA.ik prog (gs m) (i*16) (h:=?_)
 refine RA.stt (fun w5=>∃ L':List UInt8,L'.length=W*16∧TreeAt w5 t b gs key (Ls.set m L')∧Bk w5 b (n+1)∧BkG (fun g=>g=gs m) b w1 w5) (by kernel_rfl) (by rfl) (by kernel_rfl) (fun _ _ h=>h.elim) (fun w4 hp0 hH=>by
  have hp:=hp0.first (by kernel_rfl);obtain⟨T,hT,rfl⟩:=hp.fact 0 rfl (by kernel_rfl);have hr:=hdr.out _ hp.1;have T4:=T1.out.rb hr;obtain⟨L4,hL4,hA4,_⟩:=T4.level (k:=m) (by rw[← hN.out];exact hL);obtain rfl:LM=L4:=by rw[hLM.out] at hL4;exact Option.some.inj hL4
  have hLl:=hLMl.out;have hfit:i*16+T.length≤LM.length:=by omega
  have hsl:(splice LM (i*16) T).length=LM.length:=splice_len hfit;refine⟨w4.setRow (gs m) (u8s (splice LM (i*16) T)).toArray,RA.ex_store (by rfl) (by rfl) (run_storeAt_at hA4 (size61 hT) hfit),splice LM (i*16) T,by rw[hsl,hLl],T4.set hLM.out hsl,?_,?_⟩
  ·exact hH.keep (fun g hg hl=>setRow_other _ _ _ _ (fun e=>BkT.type hH hA4 (by decide) (by decide) (e ▸ hg)))
  ·exact Chg.setRow (g:=gs m) (C:=fun g=>g=gs m∨BkT w1 b g) (hr.2.2.mono (fun _ _ h=>h.elim)) (fun _=>.inl rfl) _) ?_
 refine RA.RA.doneT (fun w5 hH=>?_);simp only[RA.put,List.foldr_cons,List.foldr_nil,cx,Act.put,List.setIfInBounds_toArray,List.set_cons_succ,List.set_cons_zero];obtain⟨L',y1,y2,y3,y4⟩:=hH;have hfin:BkG (fun g=>g=gs m) b w w5:=(BkG.of_below b1.out).trans y4;replace y2:=LH y2;replace y3:=LH y3;replace hfin:=LH hfin;clear y4;go_wp2;go_end0;exact⟨rfl,L',by rw[y1,hW.out],y2.out,y3.out,hfin.out⟩
end Go.Proofs.YthmcbgidehjlbaaGreat.Fd
/-
  hashtree.Tree.Leaf, Root. No condition beyond what each theorem names.
-/
namespace Go.Proofs.YthmcbgidehjlbaaGreat.Fd
open _root_.Go.Proofs.Tryz
open Go Go.RowKit K
set_option maxRecDepth 100000
set_option maxHeartbeats 4000000
theorem htLeaf_ok {w:World}{t b:Nat}{gs:Nat→Nat}{key:List UInt8}{Ls:List (List UInt8)}(h:TreeAt w t b gs key Ls) (h0:0<Ls.length) (i:Nat) (hi:i≤1000):
  Calls prog 110 #[.pointer (some ⟨t,0,none⟩),.int .i64 i] w fun e w'=>e=.returned (.agg (u8s (nodeL (Ls.getD 0 []) i)).toArray)∧Below w.heap.size w w':=by
 obtain⟨n,hn⟩:∃ n,n=w.heap.size:=⟨_,rfl⟩;have HN:=LH hn;obtain⟨wA,hwA⟩:∃ x,x=w.alloc (.cells #[.int .u8 0,.int .u8 0,.int .u8 0,.int .u8 0,.int .u8 0,.int .u8 0,.int .u8 0,.int .u8 0,.int .u8 0,.int .u8 0,.int .u8 0,.int .u8 0,.int .u8 0,.int .u8 0,.int .u8 0,.int .u8 0] 179):=⟨_,rfl⟩;have bA:Below w.heap.size w wA:=by rw[hwA];exact (Below.refl _ _).alloc (Nat.le_refl _) _
 have xA:Arr wA n 179 (List.replicate 16 0):=by rw[hwA,hn];exact heap_alloc_new w _
 have hN:=LH (htNode_ok (h.after bA) 0 i hi h0);obtain⟨T,hT⟩:∃ T,T=nodeL (Ls.getD 0 []) i:=⟨_,rfl⟩;have hTl:T.length=16:=hT ▸ nodeL_length;rw[← hT] at hN ⊢;replace bA:=LH bA;replace xA:=LH xA;replace hT:=LH hT;have hwA':=LH hwA;subst hwA;clear hn h;go_enter func110,ntmps110
 go_wp2_with fail
 rw[← HN.out];refine hN.out.mono ?_;rintro e w2 ⟨rfl,hb2⟩;have x2:Arr w2 n 179 (List.replicate 16 0):=xA.out.keep (hb2.block n (heap_lt xA.out));have b2:Below w.heap.size w w2:=bA.out.trans (hb2.mono bA.out.size);have hst:=LH (block_store x2 List.length_replicate T hTl);have hfin:Arr (w2.setRow n (u8s T).toArray) n 179 T:=x2.setRow T;have hbf:Below w.heap.size w (w2.setRow n (u8s T).toArray):=below_setRow b2 (by rw[HN.out];omega) _;replace hfin:=LH hfin;replace hbf:=LH hbf;clear bA xA hb2 x2 b2
 go_wp2_with (first|(refine wpList_store rfl 179 _ _ rfl _ _ rfl rfl hst.out ?_)|fail)
 refine bodyPost_ret (results_cell_row results110 _ _ n 179 _ (0,0) _ rfl hfin.out underlying179 rfl (by rw[size61 hTl];simp[u8s_length])) rfl ⟨rfl,hbf.out⟩
theorem htRoot_ok {w:World}{t b:Nat}{gs:Nat→Nat}{key:List UInt8}{Ls:List (List UInt8)}(h:TreeAt w t b gs key Ls) (h0:Ls.length=4):
  Calls prog 122 #[.pointer (some ⟨t,0,none⟩)] w fun e w'=>e=.returned (.agg (u8s (nodeL (Ls.getD 3 []) 0)).toArray)∧Below w.heap.size w w':=by
 obtain⟨n,hn⟩:∃ n,n=w.heap.size:=⟨_,rfl⟩;have HN:=LH hn;obtain⟨wA,hwA⟩:∃ x,x=w.alloc (.cells #[.int .u8 0,.int .u8 0,.int .u8 0,.int .u8 0,.int .u8 0,.int .u8 0,.int .u8 0,.int .u8 0,.int .u8 0,.int .u8 0,.int .u8 0,.int .u8 0,.int .u8 0,.int .u8 0,.int .u8 0,.int .u8 0] 179):=⟨_,rfl⟩;have bA:Below w.heap.size w wA:=by rw[hwA];exact (Below.refl _ _).alloc (Nat.le_refl _) _
 have xA:Arr wA n 179 (List.replicate 16 0):=by rw[hwA,hn];exact heap_alloc_new w _
 have TA:=LH (h.after bA);have hS:=LH (htSize_ok TA.out (by omega));have hL:=LH (levels50 wA);obtain⟨T,hT⟩:∃ T,T=nodeL (Ls.getD 3 []) 0:=⟨_,rfl⟩;have hTl:T.length=16:=hT ▸ nodeL_length;rw[← hT];replace bA:=LH bA;replace xA:=LH xA;replace hT:=LH hT;replace h0:=LH h0;have hwA':=LH hwA;subst hwA;clear hn h;go_enter func122,ntmps122
 go_wp2_with (first|(go_at_call 132;refine hS.out.mono ?_;rintro e w' ⟨rfl,rfl⟩)|fail)
 rw[← HN.out];refine hL.out.mono ?_;rintro e w1 ⟨rfl,hb1⟩;have hN:=LH (htNode_ok (TA.out.after hb1) 3 0 (by omega) (by rw[h0.out];omega));have x1:Arr w1 n 179 (List.replicate 16 0):=xA.out.keep (hb1.block n (heap_lt xA.out));have b1:Below w.heap.size w w1:=bA.out.trans (hb1.mono bA.out.size);rw[← hT.out] at hN;replace x1:=LH x1;replace b1:=LH b1;clear hb1 hS hL xA bA TA
 go_wp2_with fail
 refine hN.out.mono ?_;rintro e w2 ⟨rfl,hb2⟩;have x2:Arr w2 n 179 (List.replicate 16 0):=x1.out.keep (hb2.block n (heap_lt x1.out));have b2:Below w.heap.size w w2:=b1.out.trans (hb2.mono b1.out.size);have hst:=LH (block_store x2 List.length_replicate T hTl);have hfin:Arr (w2.setRow n (u8s T).toArray) n 179 T:=x2.setRow T;have hbf:Below w.heap.size w (w2.setRow n (u8s T).toArray):=below_setRow b2 (by rw[HN.out];omega) _;replace hfin:=LH hfin;replace hbf:=LH hbf;clear b1 x1 hb2 x2 b2
 go_wp2_with (first|(refine wpList_store rfl 179 _ _ rfl _ _ rfl rfl hst.out ?_)|fail)
 refine bodyPost_ret (results_cell_row results122 _ _ n 179 _ (0,0) _ rfl hfin.out underlying179 rfl (by rw[size61 hTl];simp[u8s_length])) rfl ⟨rfl,hbf.out⟩
end Go.Proofs.YthmcbgidehjlbaaGreat.Fd
/-
  hashtree.New: a tree's levels, one by one. No condition beyond what each theorem names.
-/
namespace Go.Proofs.YthmcbgidehjlbaaGreat.K
open _root_.Go.Proofs.Tryz
open Go Go.RowKit
section
variable {P:Program}
theorem own_push2 {n:Nat}{e t:TypeId}{z:Value}{bytes sz:Nat}(ht:P.underlying t=some (.slice e)) (hi:(P.info? e).map (fun i=>(i.zero,i.size,i.bytes))=some (some z,sz,bytes)) (hz:z.cells.size=sz) (hs:0<sz)
  {x w3:World}{kv:Value}{m:Nat}{vs:List Value}(ho:x.ownsRow n e sz kv m vs) (hn:n≤x.heap.size) (hR:Chg No x w3){S:Nat→Prop}{u:Value}{k:Nat}{news:List Value}(hu:Cells w3 S u k sz news)
  (h1:∀ v ∈ news,v.oneCell'=true) (hm:m+k≤maxLen) (hb:(m+k)*bytes≤140737488355328) (ty:TypeId):
  ∃ v' w4,(Builtin.append_ #[t,t] ty #[kv,u]).run P w3=.ok v' w4∧w4.ownsRow n e sz v' (m+k) (vs++news)∧Chg (fun g=>kv.ownBlock=some g) w3 w4∧(v'.ownBlock=kv.ownBlock∨∃ g,v'.ownBlock=some g∧w3.heap.size≤g):=by
 obtain⟨i,hi1,hi2,hi3,hi4⟩:=info_parts hi;have ho3:=owns_keep ho (fun g hg=>hR.block g (ho.lt g hg).2 id);obtain⟨v',w4,hr,r1,r2,_,r4⟩:=run_append_cells (P:=P) w3 n t ty e i z sz bytes ht hi1 hi2 hi3 hi4 hz hs kv m vs ho3 S u k news hu h1 hm hb (Nat.le_trans hn hR.size);exact⟨v',w4,hr,r1,(Chg.refl _ w3).grown r2 (fun _ h _=>h),r4⟩
end
end Go.Proofs.YthmcbgidehjlbaaGreat.K
namespace Go.Proofs.YthmcbgidehjlbaaGreat.Fd
open _root_.Go.Proofs.Tryz
open Go Go.RowKit K
theorem mk_blocks (w:World) (n:Nat) (hn:n≤1000000):(Instr.makeSlice 190 (.int .i64 n) (.int .i64 n)).run prog w=.ok (.slice (some ⟨w.heap.size,0,none⟩) n n) (w.alloc (.cells (u8s (List.replicate (n*16) 0)).toArray 179)):=by
 obtain⟨i,hi1,hi2,hi3,hi4⟩:=info_parts infoBlock;have h:=run_make (P:=prog) w 190 179 i _ underlying190 hi1 hi2 .i64 .i64 (n:Int) (n:Int) (by omega) (Int.le_refl _) (by rw[hi4];omega) (by omega)
 have e:madeCells (Value.agg #[.int .u8 0,.int .u8 0,.int .u8 0,.int .u8 0,.int .u8 0,.int .u8 0,.int .u8 0,.int .u8 0,.int .u8 0,.int .u8 0,.int .u8 0,.int .u8 0,.int .u8 0,.int .u8 0,.int .u8 0,.int .u8 0]).cells (n*16)=(u8s (List.replicate (n*16) 0)).toArray:=by
  apply Array.ext
  ·simp[size_madeCells,u8s_length]
  ·intro j h1 h2;have hj:j % 16<16:=Nat.mod_lt _ (by omega)
   have hz:∀ k,k<16→(Value.agg #[.int .u8 0,.int .u8 0,.int .u8 0,.int .u8 0,.int .u8 0,.int .u8 0,.int .u8 0,.int .u8 0,.int .u8 0,.int .u8 0,.int .u8 0,.int .u8 0,.int .u8 0,.int .u8 0,.int .u8 0,.int .u8 0]).cells[k]! = .int .u8 0:=by
    intro k hk;obtain rfl|rfl|rfl|rfl|rfl|rfl|rfl|rfl|rfl|rfl|rfl|rfl|rfl|rfl|rfl|rfl:k=0∨k=1∨k=2∨k=3∨k=4∨k=5∨k=6∨k=7∨k=8∨k=9∨k=10∨k=11∨k=12∨k=13∨k=14∨k=15:=by omega
    all_goals rfl
   simp only[madeCells,Array.getElem_map,Array.getElem_range];rw[show (Value.agg #[.int .u8 0,.int .u8 0,.int .u8 0,.int .u8 0,.int .u8 0,.int .u8 0,.int .u8 0,.int .u8 0,.int .u8 0,.int .u8 0,.int .u8 0,.int .u8 0,.int .u8 0,.int .u8 0,.int .u8 0,.int .u8 0]).cells.size=16 from rfl,hz _ hj];simp[u8s,u8]
 rw[hi3] at h;simp only[Int.toNat_natCast] at h;rw[e] at h;exact h
structure TreeB (w:World) (t b:Nat) (key:List UInt8) (kv mv lv:Value) (gs:Nat→Nat) (k n1:Nat):Prop where
 krow:w.ownsRow 0 5 1 kv 32 (u8s key)
 box:w.heap[t]?=some (.cells #[.pointer (some ⟨b,0,none⟩),kv,lv,mv] 189 (0,0))
 row:w.ownsRow n1 190 1 lv k (lvs gs k)
 lev:∀ j,j<k→Arr w (gs j) 179 (List.replicate (wid50 j*16) 0)∧n1≤gs j
 inj:∀ i j,i<k→j<k→gs i=gs j→i=j
theorem TreeB.push {w:World}{t b:Nat}{key:List UInt8}{kv mv lv:Value}{gs:Nat→Nat}{k n1:Nat}(h:TreeB w t b key kv mv lv gs k n1) (hn1:n1≤w.heap.size) (ht:n1≤t){w3:World}(hR:Chg No w w3){g:Nat}(hg:w.heap.size≤g)
  (hA:Arr w3 g 179 (List.replicate (wid50 k*16) 0)){x:Value}(hx:Cells w3 (fun _=>True) x 1 1 [.slice (some ⟨g,0,none⟩) (wid50 k) (wid50 k)]) (hk:k<4):
  ∃ v' w4,(Builtin.append_ #[187,187] 187 #[lv,x]).run prog w3=.ok v' w4∧w4.cell? ⟨t,2,none⟩=some lv∧w4.frozen? ⟨t,2,none⟩=false∧(∃ g' cp,v'=.slice (some ⟨g',0,none⟩) (k+1) cp)∧
   (∃ gs',TreeB (w4.setCell ⟨t,2,none⟩ v') t b key kv mv v' gs' (k+1) n1)∧Below n1 w (w4.setCell ⟨t,2,none⟩ v'):=by
 obtain⟨v',w4,hr,r1,r2,r3⟩:=own_push2 (P:=prog) (bytes:=24) (t:=187) underlying187 infoBlocks rfl (by decide) h.row hn1 hR hx (by simp[Value.oneCell']) (by unfold maxLen;omega) (by omega) 187
 have hown:∀ {p:Nat}{cs:Array Value}{ty:TypeId},w3.heap[p]?=some (.cells cs ty (0,0))→190≠ty→w4.heap[p]?=some (.cells cs ty (0,0)):=fun {p cs ty} hp hne=>by
  have ho3:=owns_keep h.row (fun g hg=>hR.block g (h.row.lt g hg).2 id);rw[r2.block p (heap_lt hp) (apartT ho3 hp hne)];exact hp
 have hb3:=(hR.block t (heap_lt h.box) id).trans h.box;have hb4:=hown hb3 (by decide)
 have hvt:v'.ownBlock≠some t:=by
  intro e;obtain⟨cur,hc⟩:=own_cells' r1 e;rw[hb4] at hc;simp only[Option.some.injEq,Obj.cells.injEq] at hc;exact absurd hc.2.1 (by decide)
 have hbf:Below n1 w w4:=(hR.no.mono hn1).trans (r2.below (Nat.le_trans hn1 hR.size) (fun i hi e=>by have:=owns_ge h.row i e;omega));obtain⟨gs',hgs⟩:∃ gs':Nat→Nat,gs'=fun j=>if j=k then g else gs j:=⟨_,rfl⟩
 have hgk:gs' k=g:=by rw[hgs];simp
 have hgj:∀ j,j<k→gs' j=gs j:=fun j hj=>by rw[hgs];simp[show j≠k by omega]
 have hlv:lvs gs' (k+1)=lvs gs k++[.slice (some ⟨g,0,none⟩) (wid50 k) (wid50 k)]:=by
  rw[lvs_succ,hgk,show lvs gs' k=lvs gs k from List.map_congr_left (fun j hj=>by rw[hgj j (by simpa using hj)])]
 have hset:∀ {p:Nat}{cs:Array Value},w4.heap[p]?=some (.cells cs 179 (0,0))→(w4.setCell ⟨t,2,none⟩ v').heap[p]?=some (.cells cs 179 (0,0)):=fun {p cs} hp=>by
  rw[setCell_heap_ne _ _ _ (by
   rintro rfl;rw[hb4] at hp;simp only[Option.some.injEq,Obj.cells.injEq] at hp;exact absurd hp.2.1 (by decide))]
  exact hp
 refine⟨v',w4,hr,by rw[cell_of hb4];rfl,frozen_of hb4 2,?_,⟨gs',⟨?_,?_,?_,fun j hj=>?_,fun i j hi hj e=>?_⟩⟩,hbf.setCell ht _⟩
 ·obtain⟨g',cp,e,_⟩:=own_shape r1 (by omega);exact⟨g',cp,e⟩
 ·refine owns_keep h.krow (fun p hp=>?_);obtain⟨cur,hc⟩:=own_cells' h.krow hp;have h4:=hown ((hR.block p (heap_lt hc) id).trans hc) (by decide)
  rw[setCell_heap_ne _ _ _ (by
   rintro rfl;rw[hb4] at h4;simp only[Option.some.injEq,Obj.cells.injEq] at h4;exact absurd h4.2.1 (by decide)),h4,hc]
 ·rw[setCell_block hb4];rfl
 ·rw[hlv];exact owns_keep r1 (fun p hp=>setCell_heap_ne _ _ _ (by rintro rfl;exact hvt hp))
 ·by_cases hjk:j=k
  ·subst hjk;rw[hgk];exact⟨hset (hown hA (by decide)),Nat.le_trans hn1 hg⟩
  ·rw[hgj j (by omega)];obtain⟨h1,h2⟩:=h.lev j (by omega);exact⟨hset (hown ((hR.block _ (heap_lt h1) id).trans h1) (by decide)),h2⟩
 ·by_cases hik:i=k<;>by_cases hjk:j=k
  ·omega
  ·subst hik;rw[hgk,hgj j (by omega)] at e;have:=heap_lt (h.lev j (by omega)).1;omega
  ·subst hjk;rw[hgk,hgj i (by omega)] at e;have:=heap_lt (h.lev i (by omega)).1;omega
  ·rw[hgj i (by omega),hgj j (by omega)] at e;exact h.inj i j (by omega) (by omega) e
end Go.Proofs.YthmcbgidehjlbaaGreat.Fd
/-
  hashtree.New, of 50 leaves. No condition beyond what each theorem names.
-/
namespace Go.Proofs.YthmcbgidehjlbaaGreat.RA
open _root_.Go.Proofs.Tryz
open Go
set_option maxRecDepth 100000
set_option maxHeartbeats 8000000
theorem ex_make {c:Cx}{K:List (Nat×Value)}{P:Program}{t:TypeId}{x x':Operand}{y y' z:Value}{ds:Option Nat}{ty:TypeId}{ps:String}{af:Array Edge}{gu:Option (Nat×Bool)}{w w':World}
  (hx:evo c K x=some y) (hx':evo c K x'=some y') (hr:(Instr.makeSlice t y y').run P w=.ok z w'):
  (execOp (ev c.a0 K) ⟨ds,.makeSlice t x x',ty,ps,af,gu⟩).run P w=.ok (.value z) w':=by
 simp[execOp,evo_ev hx,evo_ev hx',hr,Result.andThen]
end Go.Proofs.YthmcbgidehjlbaaGreat.RA
namespace Go.Proofs.YthmcbgidehjlbaaGreat.Fd
open _root_.Go.Proofs.Tryz
open Go Go.RowKit K
set_option maxRecDepth 100000
set_option maxHeartbeats 8000000
theorem TreeB.after {w w':World}{t b:Nat}{key:List UInt8}{kv mv lv:Value}{gs:Nat→Nat}{k n1:Nat}(h:TreeB w t b key kv mv lv gs k n1) (hb:Below w.heap.size w w'):TreeB w' t b key kv mv lv gs k n1:=
 ⟨owns_keep h.krow (fun g hg=>hb.block g (owns_lt h.krow g hg)),(hb.block t (heap_lt h.box)).trans h.box,owns_keep h.row (fun g hg=>hb.block g (owns_lt h.row g hg)),fun j hj=>⟨(h.lev j hj).1.keep (hb.block _ (heap_lt (h.lev j hj).1)),(h.lev j hj).2⟩,h.inj⟩
def zeroT (n:Nat):List (List UInt8):=(List.range n).map fun (k:Nat)=>List.replicate (wid50 k*16) 0
theorem htNew_ok {w:World}{b n:Nat}{S:Nat→Prop}{kv:Value}{key:List UInt8}(hB:Bk w b n) (hn:n≤1000) (hk:Bytes w S kv key) (hkl:key.length=32):
  Calls prog 61 #[.int .i64 50,kv,.pointer (some ⟨b,0,none⟩)] w fun e w'=>∃ t,e=.returned (.tuple #[.pointer (some ⟨t,0,none⟩),.int .i64 0])∧w.heap.size≤t∧BkG No b w w'∧(∃ n',n'≤n+300∧Bk w' b n')∧∃ gs Ls,TreeAt w' t b gs key Ls∧Ls.length=4:=by
 obtain⟨ka,kc,rfl,hkc1,hkc2⟩:=hk.shape;obtain⟨KL,hKL⟩:∃ k,k=key.length:=⟨_,rfl⟩;have hKL32:KL=32:=by rw[hKL];exact hkl
 rw[← hKL];subst hKL32;have hL0:=LH (levels50 w);have hmm:=@run_makeMap prog;have hB0:=LH hB;have hk0:=LH hk;replace hKL:=LH hKL;clear hB hk;go_enter func61,ntmps61
 go_wp2_with fail
 refine hL0.out.mono ?_;rintro e w1 ⟨rfl,hb1⟩;have hcl:=LH (clone_ok (Cells.keep hk0.out hb1.size (fun g _ hg=>hb1.block g hg):Bytes w1 S _ key) (by omega));rw[← hKL.out] at hcl;replace hb1:=LH hb1;clear hL0
 go_wp2_with fail
 refine hcl.out.mono ?_;rintro e w2 ⟨v,rfl,hv,hb2,-⟩;obtain⟨kg,kcp,rfl,_⟩:=own_shape hv (by omega);replace hv:=LH hv;replace hb2:=LH hb2;clear hcl
 go_wp2_with fail
 obtain⟨w3,hw3⟩:∃ w3,w3=(w2.alloc (.map #[] 0)).alloc (.cells #[.pointer (some ⟨b,0,none⟩),.slice (some ⟨kg,0,none⟩) 32 kcp,.slice none 0 0,.map (some w2.heap.size)] 189):=⟨_,rfl⟩;obtain⟨t,ht⟩:∃ t,t=w2.heap.size+1:=⟨_,rfl⟩;obtain⟨mv,hmv⟩:∃ mv,mv=Value.map (some w2.heap.size):=⟨_,rfl⟩;have hb23:Below w2.heap.size w2 w3:=by rw[hw3];exact ((Below.refl _ _).alloc (Nat.le_refl _) _).alloc (by simp) _
 have hn1:w.heap.size≤w2.heap.size:=Nat.le_trans hb1.out.size hb2.out.size;have hbw3:Below w.heap.size w w3:=hb1.out.trans ((hb2.out.mono hb1.out.size).trans (hb23.mono hn1))
 have hT0:TreeB w3 t b key (.slice (some ⟨kg,0,none⟩) 32 kcp) mv (.slice none 0 0) (fun _=>0) 0 w.heap.size:=by
  refine⟨owns_base (owns_keep hv.out (fun g hg=>hb23.block g (owns_lt hv.out g hg))) (Nat.zero_le _),?_,World.ownsRow_nil _ _ _ _,fun j hj=>absurd hj (Nat.not_lt_zero _),fun i j hi=>absurd hi (Nat.not_lt_zero _)⟩;rw[hw3,ht,hmv];have h:=heap_alloc_new (w2.alloc (.map #[] 0)) (.cells #[.pointer (some ⟨b,0,none⟩),.slice (some ⟨kg,0,none⟩) 32 kcp,.slice none 0 0,.map (some w2.heap.size)] 189);simp only[World.size_alloc] at h;exact h
 have hL3:=LH (levels50 w3);have htn:w.heap.size≤t:=by omega
 rw[← hw3];have eht:=ht;rw[← eht];replace hw3:=LH hw3;replace ht:=LH ht;replace hmv:=LH hmv;replace hbw3:=LH hbw3;replace hT0:=LH hT0;clear eht hb23 hv hb1 hb2 hmm;refine hL3.out.mono ?_;rintro e w4 ⟨rfl,hb4⟩;have hT4:=LH (hT0.out.after hb4);have hbw4:=LH (hbw3.out.trans (hb4.mono hbw3.out.size));clear hT0 hL3 hb4;go_wp2
 go_loopg [29] 4 (fun g ix wr=>∃ k lv gs,k+g=4∧ix=.int .i64 (k:Nat)∧Hid (TreeB wr t b key (.slice (some ⟨kg,0,none⟩) 32 kcp) mv lv gs k w.heap.size)∧Hid (Below w.heap.size w wr))
 case atStart=>exact⟨0,_,_,by omega,rfl,hT4.out,hbw4.out⟩
 case round=>
  obtain⟨k,lv,gs,hkg,rfl,HT,HW⟩:=hrel;by_cases hlt:k<4
  ·obtain⟨g1,rfl⟩:∃ i,gk=i+1:=⟨gk - 1,by omega⟩;have hlI:(k:Int)<4:=by omega
   obtain⟨wo,rfl⟩:∃ wo:World,wo=wr:=⟨_,rfl⟩;obtain⟨W,hW⟩:∃ W,W=wid50 k:=⟨_,rfl⟩;have hWI:=fun w3=>width50 k w3
   rw[← hW] at hWI;have hW50:W≤50:=hW ▸ wid50_le k;have hdr:∀ w3,Chg No wo.drew w3→Chg No wo w3:=fun w3 h=>⟨h.os,h.tape,h.output,h.size,h.block⟩
   have htl:=heap_lt HT.out.box;have c2:=cell_of HT.out.box 2;obtain⟨la,lc,rfl,_⟩:=(Cells.own HT.out.row).shape;replace hWI:=LH hWI;replace hdr:=LH hdr;replace htl:=LH htl;replace c2:=LH c2;replace hW:=LH hW;go_wp2;refine RA.rt (Chg No) [5,1,1,1,1,1,1,4,3,3,6,5,5,7] [10,13] (fun _=>True) (trivial) (fun _=>Chg.refl _ _) (fun _ _ _ h k=>h.trans k) (h:=?_);intro cx;refine RA.pq (h:=?_)
   repeat refine RA.qq (h:=?_)
   refine RA.fk prog (t) (2) (h:=?_);refine RA.lk prog (.slice la k lc) (hc:=fun w3 hp=>by exact ((hdr.out _ hp.1).cell (p:=⟨t,2,none⟩) htl.out id).trans c2.out) (h:=?_)
   repeat refine RA.qq (h:=?_)
   refine RA.kc (P:=prog) [.int .i64 50,.int .i64 k] (.int .i64 W) (fun _=>True) (fun _ _=>by go_simp) (by kernel_rfl) (by rfl) (by rfl) (by kernel_rfl) (fun _ _ _ h=>h) rfl (fun w3 hp hH=>(hWI.out w3).mono (by rintro e w4 ⟨rfl,h2⟩;exact⟨rfl,Chg.of_below h2 _,trivial⟩)) ?_
   refine RA.bq (fun x w3=>∃ g,x=.slice (some ⟨g,0,none⟩) W W∧wo.heap.size≤g∧Arr w3 g 179 (List.replicate (W*16) 0)) (fun _ _=>True) (by kernel_rfl) (by rfl) (by kernel_rfl) (fun _ _ _ h k=>by obtain⟨g,h1,h2,h3⟩:=k;exact⟨g,h1,h2,h3.keep (h.block g (heap_lt h3) id)⟩) (fun _ _ _ _ _=>trivial) (fun w3 hp _=>by
    refine⟨.slice (some ⟨w3.heap.size,0,none⟩) W W,w3.alloc (.cells (u8s (List.replicate (W*16) 0)).toArray 179),?_,(Chg.refl _ _).alloc _,⟨_,rfl,(hdr.out _ hp.1).size,heap_alloc_new w3 _⟩,trivial⟩;have hm:=mk_blocks w3 W (by omega);exact RA.ex_make (by rfl) (by rfl) hm) (fun u=>?_)
   refine RA.bq (fun x w3=>Cells w3 (fun _=>True) x 1 1 [u]) (fun _ _=>True) (by kernel_rfl) (by rfl) (by kernel_rfl) (fun _ _ _ h k=>k.chg h (fun _ _ _=>id)) (fun _ _ _ _ _=>trivial) (fun w3 hp _=>by
    obtain⟨g,h1,_,_⟩:=hp.fact 0 rfl (by kernel_rfl);refine⟨.slice (some ⟨w3.heap.size,0,none⟩) 1 1,w3.alloc (.cells #[u] 190),?_,(Chg.refl _ _).alloc _,lit_cells w3 #[u] 190 1 1 rfl (by unfold maxLen;omega),trivial⟩;clear hp;subst h1;show (execOp _ _).run prog w3=_;go_simp) (fun x=>?_)
   refine RA.bqt (fun v' w4=>w4.cell? ⟨t,2,none⟩=some (.slice la k lc)∧w4.frozen? ⟨t,2,none⟩=false∧(∃ g cp,v'=.slice (some ⟨g,0,none⟩) (k+1) cp)∧(∃ gs',TreeB (w4.setCell ⟨t,2,none⟩ v') t b key (.slice (some ⟨kg,0,none⟩) 32 kcp) mv v' gs' (k+1) w.heap.size)∧Below w.heap.size wo (w4.setCell ⟨t,2,none⟩ v')) (by kernel_rfl) (by rfl) (by kernel_rfl) (fun _ _ _ h k=>h ▸ k) (fun w3 hp0 _=>by
    have hp:=hp0.first (by kernel_rfl);obtain⟨g,h1,h2,h3⟩:=hp.fact 1 rfl (by kernel_rfl);have hx:=hp.fact 0 rfl (by kernel_rfl);have h1':u=.slice (some ⟨g,0,none⟩) (wid50 k) (wid50 k):=by rw[← hW.out];exact h1
    have hx':Cells w3 (fun _=>True) x 1 1 [.slice (some ⟨g,0,none⟩) (wid50 k) (wid50 k)]:=h1' ▸ hx;obtain⟨v',w4,k1,k2⟩:=HT.out.push HW.out.size htn (hdr.out _ hp.1) h2 (by rw[← hW.out];exact h3) hx' hlt;exact⟨v',w4,RA.ex_append (by rfl) (by rfl) k1,k2⟩) (fun v'=>?_)
   refine RA.pq (h:=?_);refine RA.pk prog (t) (2) (h:=?_)
   refine RA.stt (fun w5=>(∃ gs',TreeB w5 t b key (.slice (some ⟨kg,0,none⟩) 32 kcp) mv v' gs' (k+1) w.heap.size)∧Below w.heap.size wo w5) (by rfl) (by rfl) (by kernel_rfl) (fun _ _ h k=>h ▸ k) (fun w4 _ hH=>by
    obtain⟨f1,f2,⟨g',cp,rfl⟩,f3,f4⟩:=hH;refine⟨_,RA.ex_store (by rfl) (by rfl) (w':=w4.setCell ⟨t,2,none⟩ (.slice (some ⟨g',0,none⟩) (k+1) cp)) ?_,f3,f4⟩;clear f3 f4;show (Instr.storeAt _ _ _).run prog w4=_;go_simp) ?_
   refine RA.RA.doneT (fun w5 hH=>?_);simp only[RA.put,List.foldr_cons,List.foldr_nil,cx,Act.put,List.setIfInBounds_toArray,List.set_cons_succ,List.set_cons_zero];obtain⟨⟨gs',y1⟩,y2⟩:=hH;replace y1:=LH y1;replace y2:=LH (HW.out.trans y2);go_wp2;go_roundg g1
   case measure=>omega
   case rel=>exact⟨k+1,_,gs',by omega,by go_num,y1.out,y2.out⟩
  ·obtain rfl:gk=0:=by omega
   obtain rfl:k=4:=by omega
   obtain⟨wo,rfl⟩:∃ wo:World,wo=wr:=⟨_,rfl⟩;obtain⟨lg,lc,rfl,_,_⟩:=own_shape HT.out.row (by omega);obtain⟨lcur,hlg⟩:=own_cells' HT.out.row (g:=lg) rfl
   have hlc:∀ k,k<4→lcur[k]?=some (.slice (some ⟨gs k,0,none⟩) (wid50 k) (wid50 k)):=fun k hk=>by
    obtain⟨g',off,c',hv,_,_,_,_,hcl⟩:=Cells.at (Cells.own HT.out.row) (by omega);simp only[Value.slice.injEq,Option.some.injEq,Addr.mk.injEq] at hv;obtain⟨⟨rfl,rfl,_⟩,_,_⟩:=hv;have h8:=hcl k _ (lvs_get hk);rw[Nat.zero_add,cell_of hlg] at h8;exact h8
   have hTA:TreeAt wo t b gs key (zeroT 4):=by
    refine⟨_,_,_,HT.out.box,HT.out.krow,owns_base HT.out.row (Nat.zero_le _),fun k L hL=>?_,fun i j hi hj=>HT.out.inj i j hi hj⟩;have hk:k<4:=(List.getElem?_eq_some_iff.1 hL).1
    have e:L=List.replicate (wid50 k*16) 0:=by
     have h8:(zeroT 4)[k]?=some (List.replicate (wid50 k*16) 0):=by simp[zeroT,hk]
     rw[h8] at hL;exact (Option.some.inj hL).symm
    rw[e];exact⟨(HT.out.lev k hk).1,by simp⟩
   have hge:=LH (fun k hk=>(HT.out.lev k hk).2);have c2:=LH (cell_of HT.out.box 2);have hBo:=LH (hB0.out.after HW.out);have hGo:=LH (show BkG (fun g=>w.heap.size≤g) b w wo from BkG.of_below HW.out);replace hlc:=LH hlc;replace hlg:=LH hlg;replace hTA:=LH hTA;have c2':=c2.out;clear hlt hkg c2;go_wp2;clear c2'
   go_loopg [51] 4 (fun g ix wr=>∃ k Ls n',k+g=4∧ix=.int .i64 (k:Nat)∧n'≤n+50*k∧List.length Ls=4∧Hid (TreeAt wr t b gs key Ls)∧Hid (Bk wr b n')∧Hid (BkG (fun g=>w.heap.size≤g) b w wr)∧Hid (wr.heap[lg]?=some (.cells lcur 190 (0,0))))
   case atStart=>exact⟨0,_,n,by omega,rfl,by omega,by simp[zeroT],hTA.out,hBo.out,hGo.out,hlg.out⟩
   case round=>
    obtain⟨k,Ls,n',hkg,rfl,hn',hLs,hT,hBk,hG,hL⟩:=hrel;by_cases hlt:k<4
    ·obtain⟨g1,rfl⟩:∃ i,gk=i+1:=⟨gk - 1,by omega⟩;have hlI:(k:Int)<4:=by omega
     obtain⟨W,hW⟩:∃ W,W=wid50 k:=⟨_,rfl⟩;have hW50:W≤50:=hW ▸ wid50_le k;have ck:wr.cell? ⟨lg,k,none⟩=some (.slice (some ⟨gs k,0,none⟩) W W):=by rw[cell_of hL.out,hW];exact hlc.out k hlt
     replace hW:=LH hW;go_wp2;clear ck
     go_loopg [58] W (fun g ix w5=>∃ j Ls n',j+g=W∧ix=.int .i64 (j:Nat)∧n'≤n+50*k+j∧List.length Ls=4∧Hid (TreeAt w5 t b gs key Ls)∧Hid (Bk w5 b n')∧Hid (BkG (fun g=>w.heap.size≤g) b w w5)∧Hid (w5.heap[lg]?=some (.cells lcur 190 (0,0))))
     case atStart=>exact⟨0,Ls,n',by omega,rfl,by omega,hLs,hT.out,hBk.out,hG.out,hL.out⟩
     case round=>
      obtain⟨j,Ls,n',hjg,rfl,hn',hLs,hT,hBk,hG,hL⟩:=hrel;by_cases hlj:j<W
      ·obtain⟨g2,rfl⟩:∃ i,gk=i+1:=⟨gk - 1,by omega⟩;have hljI:(j:Int)<W:=by omega
       by_cases hk0:k=0
       ·subst hk0;go_wp2;go_roundg g2
        case measure=>omega
        case rel=>exact⟨j+1,Ls,n',by omega,by go_num,by omega,hLs,hT.out,hBk.out,hG.out,hL.out⟩
       ·have hk0I:(0:Int)<k:=by omega
        obtain⟨l,hl⟩:∃ l,k=l+1:=⟨k - 1,by omega⟩;have HR:=htRenew_ok hT.out hBk.out (by omega) l j (by omega) (by rw[← hl,← hW.out];exact hlj) (by omega);rw[← hl] at HR;replace HR:=LH HR;replace hl:=LH hl
        go_wp2_with fail
        refine HR.out.mono ?_;rintro e w6 ⟨rfl,L',z1,z2,z3,z4⟩
        have hlg6:w6.heap[lg]?=some (.cells lcur 190 (0,0)):=z4.at hBk.out hL.out (by
         rintro rfl;obtain⟨M,_,hM,_⟩:=hT.out.level (k:=k) (by omega);have e:=hM.symm.trans hL.out;simp only[Option.some.injEq,Obj.cells.injEq] at e;exact absurd e.2.1 (by decide)) (by decide) (by decide)
        have hG6:BkG (fun g=>w.heap.size≤g) b w w6:=hG.out.trans (z4.mono (fun g hg e=>by rw[e];exact hge.out k hlt));replace z2:=LH z2;replace z3:=LH z3;replace hG6:=LH hG6;replace hlg6:=LH hlg6;clear z4 HR;go_wp2;go_roundg g2
        case measure=>omega
        case rel=>exact⟨j+1,_,n'+1,by omega,by go_num,by omega,by rw[List.length_set];exact hLs,z2.out,z3.out,hG6.out,hlg6.out⟩
      ·obtain rfl:gk=0:=by omega
       have hljI:¬ (j:Int)<W:=by omega
       go_wp2;go_roundg g1
       case measure=>omega
       case rel=>exact⟨k+1,Ls,n',by omega,by go_num,by omega,hLs,hT.out,hBk.out,hG.out,hL.out⟩
    ·obtain rfl:gk=0:=by omega
     have hlI:¬ (k:Int)<4:=by omega
     have hfin:BkG No b w wr:=hG.out.mono (fun g hg e=>absurd e (by omega));replace hfin:=LH hfin;go_wp2;go_ret2;exact⟨t,rfl,htn,hfin.out,⟨n',by omega,hBk.out⟩,gs,Ls,hT.out,hLs⟩
end Go.Proofs.YthmcbgidehjlbaaGreat.Fd

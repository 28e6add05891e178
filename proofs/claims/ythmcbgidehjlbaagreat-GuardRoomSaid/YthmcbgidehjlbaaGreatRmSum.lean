/-
  sha: the sum of parts. No condition beyond what each theorem names.
-/
import Derived.Test.YthmcbgidehjlbaaGreatRmMid
namespace Go.Proofs.YthmcbgidehjlbaaGreat.Fd
open _root_.Go.Proofs.Tryz
open Go Go.RowKit K
set_option maxRecDepth 100000
set_option maxHeartbeats 16000000
def eatF:Nat→List Nat→List UInt8→List Nat×List UInt8
 | 0,h,r=>(h,r)
 | f+1,h,r=>if 64≤r.length then eatF f (mixL h (r.take 64)) (r.drop 64) else (h,r)
theorem eatF_succ {f:Nat}{h:List Nat}{r:List UInt8}:eatF (f+1) h r=if 64≤r.length then eatF f (mixL h (r.take 64)) (r.drop 64) else (h,r):=rfl
theorem eatF_done {f:Nat}{h:List Nat}{r:List UInt8}(hr:r.length<64):eatF f h r=(h,r):=by
 cases f with
 | zero=>rfl
 | succ f=>rw[eatF_succ,if_neg (by omega)]
structure Sm where
 h:List Nat
 r:List UInt8
 n:Nat
def eat (h:List Nat) (r:List UInt8) (n:Nat):Sm:=⟨(eatF r.length h r).1,(eatF r.length h r).2,n⟩
def absorb (parts:List (List UInt8)):Nat→Sm
 | 0=>⟨startL,[],0⟩
 | k+1=>eat (absorb parts k).h ((absorb parts k).r++parts.getD k []) ((absorb parts k).n+(parts.getD k []).length)
theorem absorb_zero {parts:List (List UInt8)}:absorb parts 0=⟨startL,[],0⟩:=rfl
theorem absorb_succ {parts:List (List UInt8)}{k:Nat}:absorb parts (k+1)=eat (absorb parts k).h ((absorb parts k).r++parts.getD k []) ((absorb parts k).n+(parts.getD k []).length):=rfl
def padF:Nat→List UInt8→List UInt8
 | 0,r=>r
 | f+1,r=>if r.length % 64=56 then r else padF f (r++[0])
theorem padF_zero {r:List UInt8}:padF 0 r=r:=rfl
theorem padF_succ {f:Nat}{r:List UInt8}:padF (f+1) r=if r.length % 64=56 then r else padF f (r++[0]):=rfl
def lenB (n i:Nat):UInt8:=byte (n*8 / 2 ^ (56 - 8*i) % 256)
def lenL (r:List UInt8) (n:Nat):Nat→List UInt8
 | 0=>r
 | k+1=>lenL r n k++[lenB n k]
theorem lenL_zero {r:List UInt8}{n:Nat}:lenL r n 0=r:=rfl
theorem lenL_succ {r:List UInt8}{n k:Nat}:lenL r n (k+1)=lenL r n k++[lenB n k]:=rfl
theorem lenL_length {r:List UInt8}{n k:Nat}:(lenL r n k).length=r.length+k:=by
 induction k with
 | zero=>rfl
 | succ k ih=>rw[lenL_succ,List.length_append,ih];rfl
def hashB (h:List Nat) (i:Nat):UInt8:=byte (h.getD (i / 4) 0 / 2 ^ (24 - 8*(i % 4)) % 256)
def hashL (h:List Nat):Nat→List UInt8
 | 0=>List.replicate 32 0
 | k+1=>(hashL h k).set k (hashB h k)
theorem hashL_zero {h:List Nat}:hashL h 0=List.replicate 32 0:=rfl
theorem hashL_succ {h:List Nat}{k:Nat}:hashL h (k+1)=(hashL h k).set k (hashB h k):=rfl
theorem hashL_length {h:List Nat}{k:Nat}:(hashL h k).length=32:=by
 induction k with
 | zero=>exact List.length_replicate
 | succ k ih=>exact List.length_set.trans ih
def lastL (a:Sm):List UInt8:=lenL (padF 64 (a.r++[128])) a.n 8
def sha (parts:List (List UInt8)):List UInt8:=
 hashL (eatF (lastL (absorb parts parts.length)).length (absorb parts parts.length).h (lastL (absorb parts parts.length))).1 32
theorem sha_length {parts:List (List UInt8)}:(sha parts).length=32:=hashL_length
attribute [irreducible] eatF absorb padF lenL hashL
structure PartsAt (w:World) (S:Nat→Prop) (pv:Value) (parts:List (List UInt8)):Prop where
 row:∃ vs:List Value,Cells w S pv parts.length 1 vs∧∀ j v,vs[j]?=some v→Bytes w S v (parts.getD j [])
theorem PartsAt.keep {w w':World}{S:Nat→Prop}{pv:Value}{parts:List (List UInt8)}(h:PartsAt w S pv parts) (hs:w.heap.size≤w'.heap.size) (hk:∀ b,S b→b<w.heap.size→w'.heap[b]?=w.heap[b]?):PartsAt w' S pv parts:=by
 obtain⟨vs,h1,h2⟩:=h.row;exact⟨vs,h1.keep hs hk,fun j v hv=>Cells.keep (h2 j v hv) hs hk⟩
def good (h:List Nat):Prop:=h.length=8∧∀ j,h.getD j 0<4294967296
theorem good_start:good startL:=⟨startL_length,startL_lt⟩
theorem good_mix {h:List Nat}{b:List UInt8}(hg:good h):good (mixL h b):=⟨mixL_length hg.1,mixL_lt hg.2⟩
structure SumSt (w:World) (n:Nat) (x:World) (H:List Nat) (v:Value) (R:List UInt8):Prop where
 below:Below n w x
 out:Arr x n 209 (List.replicate 32 0)
 h:ArrN x (n+1) 313 H
 rest:Mid x (n+2) v R
 size:n+2≤x.heap.size
 good:good H
theorem SumSt.after {w:World}{n:Nat}{x y:World}{H:List Nat}{v:Value}{R:List UInt8}(s:SumSt w n x H v R) (hb:Below x.heap.size x y):SumSt w n y H v R:=
 ⟨s.below.trans (hb.mono (by have:=s.size;omega)),s.out.keep (hb.block n (heap_lt s.out)),s.h.keep (hb.block (n+1) (heap_lt s.h)),s.rest.keep hb,Nat.le_trans s.size hb.size,s.good⟩
theorem SumSt.grow {w:World}{n:Nat}{x y:World}{H:List Nat}{v v':Value}{R R':List UInt8}(s:SumSt w n x H v R) (hb:Below (n+2) x y) (hm:Mid y (n+2) v' R'):SumSt w n y H v' R':=
 ⟨s.below.trans (hb.mono (by omega)),s.out.keep (hb.block n (by omega)),s.h.keep (hb.block (n+1) (by omega)),hm,Nat.le_trans s.size hb.size,s.good⟩
theorem SumSt.cut {w:World}{n:Nat}{x:World}{H:List Nat}{v v':Value}{R R':List UInt8}(s:SumSt w n x H v R) (hm:Mid x (n+2) v' R'):SumSt w n x H v' R':=
 ⟨s.below,s.out,s.h,hm,s.size,s.good⟩
theorem Mid.row {w:World}{B:Nat}{v:Value}{xs:List UInt8}(h:Mid w B v xs){g:Nat}(hg:g<B) (cs:Array Value):Mid (w.setRow g cs) B v xs:=by
 rcases h with h|⟨g',off,cap,cur,hv,hb,hgg,r⟩
 ·exact .inl h
 ·exact .inr ⟨g',off,cap,cur,hv,hb,(setRow_other _ _ _ _ (by omega)).trans hgg,r⟩
theorem SumSt.put {w:World}{n:Nat}{x:World}{H:List Nat}{v:Value}{R:List UInt8}(s:SumSt w n x H v R) (H':List Nat) (hg:Fd.good H'):SumSt w n (x.setRow (n+1) (n32s H').toArray) H' v R:=
 ⟨below_setRow s.below (by omega) _,s.out.keep (setRow_other _ _ _ _ (by omega)),s.h.setRow H',Mid.row s.rest (by omega) _,by simpa using s.size,hg⟩
theorem SumSt.push {w:World}{n:Nat}{x:World}{H:List Nat}{v:Value}{R:List UInt8}(s:SumSt w n x H v R) (c:UInt8) (hR:R.length≤2000000):
  ∃ v' w',(Builtin.append_ #[42,42] 42 #[v,.slice (some ⟨x.heap.size,0,none⟩) 1 1]).run prog (x.alloc (.cells #[.int .u8 c.toNat] 5))=.ok v' w'∧SumSt w n w' H v' (R++[c]):=by
 have h1:=s.after ((Below.refl x.heap.size x).alloc (Nat.le_refl _) (.cells #[.int .u8 c.toNat] 5));have hy:Bytes (x.alloc (.cells #[.int .u8 c.toNat] 5)) (fun _=>True) (.slice (some ⟨x.heap.size,0,none⟩) 1 1) [c]:=lit_cells x #[.int .u8 c.toNat] 5 1 1 rfl (by unfold maxLen;omega);obtain⟨v',w',hr,hm,hb⟩:=h1.rest.append h1.size hy (by simp;omega) 42;exact⟨v',w',hr,h1.grow hb hm⟩
def vlen:Value→Nat
 | .slice _ l _=>l
 | _=>0
theorem sum_ok' {w:World}{p:Nat}(hS:SummerAt w p){S:Nat→Prop}{pv:Value}{parts:List (List UInt8)}(hp:PartsAt w S pv parts) (hfew:parts.length≤1000) (hlen:∀ j,(parts.getD j []).length≤1000000) (N:Nat) (hN:(absorb parts parts.length).n=N)
  (hnk:∀ k,k≤parts.length→(absorb parts k).n≤1000000):
  Calls prog 186 #[.pointer (some ⟨p,0,none⟩),pv] w fun e w'=>e=.returned (.agg (u8s (sha parts)).toArray)∧Below w.heap.size w w':=by
 obtain⟨n,hn⟩:∃ n,n=w.heap.size:=⟨_,rfl⟩;have HN:=LH hn;have hpl:=heap_lt hS;obtain⟨m,hm⟩:∃ m,m=parts.length:=⟨_,rfl⟩;obtain⟨vs,hc,hvs⟩:=hp.row;rw[← hm] at hc hfew hN hnk;obtain⟨pa,pcap,rfl,hpc1,hpc2⟩:=hc.shape;unfold maxLen at hpc2;obtain⟨H0,hH0⟩:∃ H,H=startL:=⟨_,rfl⟩;have hg0:good H0:=hH0 ▸ good_start;have hz0:absorb parts 0=⟨H0,[],0⟩:=by rw[absorb_zero,hH0]
 obtain⟨wA,hwA⟩:∃ x,x=w.alloc (.cells (u8s (List.replicate 32 0)).toArray 209):=⟨_,rfl⟩;obtain⟨wC,hwC⟩:∃ x,x=wA.alloc (.cells (n32s (List.replicate 8 0)).toArray 313):=⟨_,rfl⟩;have sA:wA.heap.size=n+1:=by rw[hwA,hn];simp
 have sC:wC.heap.size=n+2:=by rw[hwC];simp[sA]
 have bA:Below n w wA:=by rw[hwA,hn];exact (Below.refl _ _).alloc (Nat.le_refl _) _
 have bC:Below (n+1) wA wC:=by rw[hwC,← sA];exact (Below.refl _ _).alloc (Nat.le_refl _) _
 have xA:Arr wA n 209 (List.replicate 32 0):=by rw[hwA,hn];exact heap_alloc_new w _
 have xC:ArrN wC (n+1) 313 (List.replicate 8 0):=by rw[hwC,← sA];exact heap_alloc_new wA _
 have yA:Arr wC n 209 (List.replicate 32 0):=xA.keep (bC.block n (by omega));have bW:Below n w wC:=bA.trans (bC.mono (by omega));have hst:=run_storeAt_arrN (P:=prog) (ty:=313) (x:=H0) xC (size8 hg0.1) (by rw[hg0.1,List.length_replicate])
 have hld:∀ w3,Below n w w3→(Instr.loadAt 313 (.pointer (some ⟨p,0,none⟩))).run prog w3=.ok (.agg (n32s H0).toArray) w3:=by
  intro w3 h3;have hS3:=hS.keep (h3.block p (by omega));refine run_loadAt_vals (x:=n32s H0) underlying313 (by rw[size8 hg0.1,n32s_length]) (fun j v hv=>?_);rw[hH0] at hv;have hj:j<(n32s startL).length:=(List.getElem?_eq_some_iff.1 hv).1
  have e:(n32s (startL++allL)).toArray[j]?=(n32s startL)[j]?:=by
   rw[List.getElem?_toArray,show n32s (startL++allL)=n32s startL++n32s allL by simp[n32s],List.getElem?_append_left hj]
  rw[Nat.zero_add,cell_of hS3,e,hv]
 have hSt:SumSt w n (wC.setRow (n+1) (n32s H0).toArray) H0 (.slice none 0 0) []:=⟨below_setRow bW (by omega) _,yA.keep (setRow_other _ _ _ _ (by omega)),xC.setRow _,Mid.nil _ _,by simp[sC],hg0⟩;obtain⟨w2,hw2⟩:∃ x,x=wC.setRow (n+1) (n32s H0).toArray:=⟨_,rfl⟩;rw[← hw2] at hSt hst;have hBA:Below n w wA:=bA;subst hwA;subst hwC;have hmix:=fun (w3:World) (h3:Below n w w3){S:Nat→Prop}{v:Value}{b:List UInt8}(hb:Bytes w3 S v b) (hl:b.length=64) (H:List Nat) (hg:good H)=>mix_ok (hS.keep (h3.block p (by omega))) hb hl H hg.1 hg.2
 have hcr:∀ w3,Below n w w3→Cells w3 S (.slice pa m pcap) m 1 vs:=fun w3 h3=>hc.keep (by have:=h3.size;exact this) (fun g _ hg=>h3.block g (by omega))
 have hvr:∀ w3,Below n w w3→∀ j v,vs[j]?=some v→Bytes w3 S v (parts.getD j []):=fun w3 h3 j v hv=>Cells.keep (hvs j v hv) (by have:=h3.size;exact this) (fun g _ hg=>h3.block g (by omega))
 replace hmix:=LH @hmix;replace hcr:=LH hcr;replace hvr:=LH hvr;replace hld:=LH (hld _ hBA);replace hst:=LH hst;replace hSt:=LH hSt;replace hz0:=LH hz0;replace hN:=LH hN;replace hnk:=LH hnk;replace hlen:=LH hlen;replace hm:=LH hm;replace hS:=LH hS;replace hw2:=LH hw2;have hres:sha parts=hashL (eatF (lastL (absorb parts m)).length (absorb parts m).h (lastL (absorb parts m))).1 32:=by rw[sha,hm.out]
 replace hres:=LH hres;have hsz2:=hSt.out.size;rw[hn] at hst;clear hBA bA bC bW xA xC yA sA sC hp hc hvs hn hH0 hg0;go_enter func186,ntmps186
 go_wp2_with (first
  | (refine wpList_load rfl 313 _ rfl _ _ rfl hld.out ?_)
  | (refine wpList_store rfl 313 _ _ rfl _ _ rfl rfl hst.out ?_))
 rw[← HN.out]
 go_loopw [5,7,18] (fun v N i wr=>∃ k:Nat,k≤m∧i=.int .i64 k∧∃ (H:List Nat) (R:List UInt8) (T:Nat),N=.int .i64 T∧R.length<64∧Hid (absorb parts k=⟨H,R,T⟩)∧Hid (SumSt w n wr H v R))
  (fun _ _ i _=>m - (intOf i).toNat)
 case atStart=>exact⟨0,by omega,rfl,H0,[],0,rfl,by simp,hz0.out,hSt.out⟩
 case round=>
  clear hSt hld hst hw2 hz0;obtain⟨k,hk,rfl,H,R,T,rfl,hR,hab,hSt⟩:=hrel
  have hT:T≤1000000:=by
   have:=hnk.out k hk;rw[hab.out] at this;exact this
  have hsz:=hSt.out.size;by_cases hlt:k<m
  ·have hbr:=hSt.out.below;obtain⟨pg,poff,pc,hv,_,_,_,hgl,hcl⟩:=Cells.at (hcr.out wr hbr) (by omega);simp only[Value.slice.injEq] at hv;obtain⟨rfl,_,rfl⟩:=hv;have hvl:vs.length=m:=by have:=(hcr.out wr hbr).1;omega
   obtain⟨q,hq⟩:∃ q,vs[k]?=some q:=⟨vs[k]'(by omega),List.getElem?_eq_getElem (by omega)⟩;have hcq:=hcl k q hq;have hqb:=hvr.out wr hbr k q hq;obtain⟨P,hP⟩:∃ P,P=parts.getD k []:=⟨_,rfl⟩;rw[← hP] at hqb;have hPl:P.length≤1000000:=hP ▸ hlen.out k;obtain⟨qa,qcap,rfl,hq1,hq2⟩:=hqb.shape;unfold maxLen at hq2;obtain⟨L,hL⟩:∃ L,L=P.length:=⟨_,rfl⟩;obtain⟨v',w3,hrun,hM,hB⟩:=hSt.out.rest.append hsz hqb (by omega) 42;have hS3:=hSt.out.grow hB hM;have hab2:absorb parts (k+1)=eat H (R++P) (T+L):=by rw[absorb_succ,hab.out,← hP,← hL]
   rw[← hL] at hrun hcq hPl hq1;have hX:(R++P).length=R.length+L:=by rw[List.length_append,hL]
   obtain⟨X,hXe⟩:∃ X,X=R++P:=⟨_,rfl⟩;rw[← hXe] at hS3 hab2 hX;replace hcl:=LH hcl;replace hrun:=LH hrun;replace hS3:=LH hS3;replace hab2:=LH hab2;replace hX:=LH hX;clear hqb hM hB hP hL hXe hq hvl hbr
   go_wp2_with (at_builtin;(refine wpList_app rfl _ _ 42 rfl _ _ _ rfl rfl hrun.out ?_))
   obtain⟨E,hE⟩:∃ E,E=eatF X.length H X:=⟨_,rfl⟩;replace hE:=LH hE
   have hv0:vlen v'=X.length:=by
    obtain⟨a,cap,rfl,_⟩:=hS3.out.rest.shape;rfl
   replace hv0:=LH hv0;obtain⟨va0,vc0,rfl,_,_⟩:=hS3.out.rest.shape
   go_loopw [5] (fun v wr=>∃ (f:Nat) (H:List Nat) (R:List UInt8),R.length≤f∧R.length≤2000000∧vlen v=R.length∧Hid (eatF f H R=E)∧Hid (SumSt w n wr H v R))
    (fun v _=>vlen v)
   case atStart=>exact⟨X.length,H,X,Nat.le_refl _,by have:=hX.out;omega,rfl,hE.out.symm,hS3.out⟩
   case round=>
    clear hS3 hrun hcl hSt hv0;obtain⟨f,H2,R2,hf,hR2,hvl,hE2,hSt⟩:=hrel;obtain⟨ra,rcap,rfl,hr1,hr2⟩:=hSt.out.rest.shape;unfold maxLen at hr2;have hsz:=hSt.out.size;obtain⟨L2,hL2⟩:∃ L,L=R2.length:=⟨_,rfl⟩;rw[← hL2] at hr1 hf hR2 hSt ⊢;have hdr:∀ w3,Chg No wr.drew w3→Chg No wr w3:=fun w3 h=>⟨h.os,h.tape,h.output,h.size,h.block⟩
    replace hdr:=LH hdr;by_cases h64:64≤L2
    ·obtain⟨rg,roff,rc,hrv,-,-⟩:=hSt.out.rest.parts (by omega);simp only[Value.slice.injEq] at hrv;obtain⟨rfl,-,rfl⟩:=hrv;obtain⟨v1,hv1,hb1⟩:=hSt.out.rest.front 64 (by omega) (by omega);have hm2:=hSt.out.rest.tail2 hL2 64 (by omega) h64;have hg:=hSt.out.good
     have hE3:∃ f',f=f'+1∧eatF f' (mixL H2 (R2.take 64)) (R2.drop 64)=E:=by
      cases f with
      | zero=>omega
      | succ f'=>
       refine⟨f',rfl,?_⟩;have h:=hE2.out;rw[eatF_succ,if_pos (by omega)] at h;exact h
     obtain⟨f',rfl,hE3⟩:=hE3;obtain⟨B64,hB64⟩:∃ B,B=R2.take 64:=⟨_,rfl⟩;have hB64l:B64.length=64:=by rw[hB64];simp;omega
     rw[← hB64] at hb1 hE3;obtain⟨G,hG⟩:∃ G,G=mixL H2 B64:=⟨_,rfl⟩;rw[← hG] at hE3;have hGg:good G:=hG ▸ good_mix hg;have hD:(R2.drop 64).length=L2 - 64:=by rw[List.length_drop,hL2]
     obtain⟨R3,hR3⟩:∃ R,R=R2.drop 64:=⟨_,rfl⟩;rw[← hR3] at hE3 hD hm2;have hld3:∀ w3,Chg No wr w3→(Instr.loadAt 313 (.pointer (some ⟨n+1,0,none⟩))).run prog w3=.ok (.agg (n32s H2).toArray) w3:=fun w3 h=>run_loadAt_arrN (P:=prog) (hSt.out.h.keep (h.block (n+1) (by omega) id)) underlying313 (size8 hg.1)
     have hmx:∀ w3,Chg No wr w3→Calls prog 194 #[.pointer (some ⟨p,0,none⟩),.agg (n32s H2).toArray,v1] w3 fun e w'=>e=.returned (.agg (n32s G).toArray)∧Below w3.heap.size w3 w':=fun w3 h=>hG ▸ hmix.out w3 (hSt.out.below.trans ((Chg.no h).mono (by omega))) (hb1.keep h.size (fun b _ hb=>h.block b hb id)) hB64l H2 hg
     replace hv1:=LH hv1;replace hm2:=LH hm2;replace hld3:=LH hld3;replace hmx:=LH hmx;replace hE3:=LH hE3;replace hL2:=LH hL2;replace hD:=LH hD;clear hb1 hG hB64 hR3 hE2;go_wp2;refine RA.rt (Chg No) [1,1,1,1,4,7] [5] (fun _=>True) (trivial) (fun _=>Chg.refl _ _) (fun _ _ _ h k=>h.trans k) (h:=?_);intro cx
     repeat refine RA.qq (h:=?_)
     refine RA.ld (by kernel_rfl) (by rfl) (by rfl) (y':=.agg (n32s H2).toArray) (fun w3 hp=>hld3.out w3 (hdr.out _ hp.1)) ?_
     repeat refine RA.qq (h:=?_)
     refine RA.shi (by kernel_rfl) (by rfl) (by rfl) (by rfl) (y':=v1) (fun w3 hp=>hv1.out w3) ?_;refine RA.kc (P:=prog) [_,_,_] (.agg (n32s G).toArray) (fun _=>True) (fun _ _=>by go_simp) (by kernel_rfl) (by rfl) (by rfl) (by kernel_rfl) (fun _ _ _ h=>h) rfl (fun w3 hp hH=>(hmx.out w3 (hdr.out _ hp.1)).mono (by rintro e w4 ⟨rfl,h2⟩;exact⟨rfl,Chg.of_below h2 _,trivial⟩)) ?_
     refine RA.stt (fun w4=>∃ w5,Below wr.heap.size wr w5∧w4=w5.setRow (n+1) (n32s G).toArray) (by rfl) (by rfl) (by kernel_rfl) (fun _ _ h k=>h ▸ k) (fun w3 hp0 _=>by
      have hR:=hdr.out _ (hp0.first (by kernel_rfl)).1;exact⟨_,RA.ex_store (by rfl) (by rfl) (run_storeAt_arrN (P:=prog) (ty:=313) (x:=G) (hSt.out.h.keep (hR.block (n+1) (by omega) id)) (size8 hGg.1) (by rw[hGg.1,hg.1])),w3,Chg.no hR,rfl⟩) ?_
     refine RA.RA.doneT (fun w4 hH=>?_);simp only[RA.put,List.foldr_cons,List.foldr_nil,cx,Act.put,List.setIfInBounds_toArray,List.set_cons_succ,List.set_cons_zero];obtain⟨w5,hB5,hw4⟩:=hH;have hS4:SumSt w n w4 G (.slice (if rcap=64 then some ⟨rg,roff,none⟩ else some ⟨rg,roff+64,none⟩) (L2 - 64) (rcap - 64)) R3:=hw4 ▸ (((hSt.out.after hB5).cut (hm2.out.keep hB5)).put G hGg);replace hS4:=LH hS4;clear hw4 hB5 hSt hmx hld3;go_wp2;go_roundw
     case rel=>exact⟨f',G,R3,by have:=hD.out;omega,by have:=hD.out;omega,hD.out.symm,hE3.out,hS4.out⟩
     case measure=>have:=hD.out;simp only[vlen];omega
    ·have hR64:R2.length<64:=by omega
     have hE4:eat H X (T+L)=⟨H2,R2,T+L⟩:=by
      have h:=hE2.out;rw[eatF_done hR64] at h;rw[eat,← hE.out,← h]
     replace hE4:=LH hE4;replace hL2:=LH hL2;replace hR64:=LH hR64;clear hE2;go_wp2;go_roundw
     case rel=>
      refine⟨k+1,by omega,by go_num,H2,R2,T+L,by go_num,hR64.out,?_,hSt.out⟩;show _=_;rw[hab2.out,hE4.out]
     case measure=>simp[intOf];omega
  ·have hkm:k=m:=by omega
   rw[hkm] at hab;clear hkm;obtain⟨Z,hZ⟩:∃ Z:Sm,Z=absorb parts m:=⟨_,rfl⟩;rw[← hZ] at hab hres;obtain⟨va,vc,rfl,hva1,hva2⟩:=hSt.out.rest.shape;unfold maxLen at hva2;obtain⟨v',w3,hrun,hS3⟩:=hSt.out.push 128 (by omega);have hrun2:(Builtin.append_ #[42,42] 42 #[.slice va R.length vc,.slice (some ⟨wr.heap.size,0,none⟩) 1 1]).run prog (wr.alloc (.cells #[.int .u8 128] 5))=.ok v' w3:=hrun;replace hrun2:=LH hrun2;replace hS3:=LH hS3;clear hrun
   go_wp2_with (at_builtin;(refine wpList_app rfl _ _ 42 rfl _ _ _ rfl rfl hrun2.out ?_))
   generalize decide ((k:Int)<m)=dd;generalize Value.int .i64 (k:Int)=kk;obtain⟨X,hX⟩:∃ X,X=R++[128]:=⟨_,rfl⟩;rw[← hX] at hS3;have hXl:X.length=R.length+1:=by rw[hX];simp
   obtain⟨PT,hPT⟩:∃ P,P=padF 64 X:=⟨_,rfl⟩;have hZr:Z.r=R∧Z.h=H∧Z.n=T:=by rw[hab.out];exact⟨rfl,rfl,rfl⟩
   have hlast:lastL Z=lenL PT T 8:=by rw[lastL,hZr.1,hZr.2.2,← hX,← hPT]
   rw[hlast,hZr.2.1] at hres;obtain⟨va3,vc3,rfl,_,_⟩:=hS3.out.rest.shape;replace hX:=LH hX;replace hPT:=LH hPT;replace hXl:=LH hXl;clear hZ hab hZr hlast hSt hrun2 hsz hva1 hva2;go_wp2
   go_loopw [5] (fun v wr=>∃ (f:Nat) (R:List UInt8),(120 - R.length % 64) % 64≤f∧R.length≤2000 - f∧f≤64∧vlen v=R.length∧Hid (padF f R=PT)∧Hid (SumSt w n wr H v R))
    (fun v _=>(120 - vlen v % 64) % 64)
   case atStart=>exact⟨64,X,by omega,by have:=hXl.out;omega,Nat.le_refl _,rfl,hPT.out.symm,hS3.out⟩
   case round=>
    clear hS3;obtain⟨f,R2,hf,hR2,hf64,hvl,hP,hSt⟩:=hrel;obtain⟨ra,rcap,rfl,hr1,hr2⟩:=hSt.out.rest.shape;unfold maxLen at hr2;obtain⟨L2,hL2⟩:∃ L,L=R2.length:=⟨_,rfl⟩;rw[← hL2] at hr1 hf hR2 hSt ⊢;obtain⟨q,hq⟩:∃ q,q=L2 % 64:=⟨_,rfl⟩;have hq1:(L2:Int) % 64=q:=by omega
    have hq2:(L2:Int).tmod 64=q:=by rw[Int.tmod_eq_emod_of_nonneg (by omega)];exact hq1
    rw[← hq] at hf;replace hq:=LH hq;by_cases h56:q=56
    ·subst h56
     have hPR:R2=PT:=by
      rw[← hP.out];cases f with
      | zero=>rw[padF_zero]
      | succ f=>rw[padF_succ,if_pos (by have:=hq.out;omega)]
     rw[hPR] at hSt hL2;replace hL2:=LH hL2;clear hPR hP hvl;replace hq1:(L2:Int) % 64=56:=hq1;replace hq2:(L2:Int).tmod 64=56:=hq2;go_wp2;have hPTl:PT.length≤2000:=by have:=hL2.out;omega
     go_loopw [5,50] (fun v i wr=>∃ (k:Nat) (R:List UInt8),k≤8∧i=.int .i64 k∧vlen v=R.length∧R.length≤2000+k∧Hid (lenL PT T k=R)∧Hid (SumSt w n wr H v R))
      (fun _ i _=>8 - (intOf i).toNat)
     case atStart=>exact⟨0,PT,by omega,rfl,by simp only[vlen];exact hL2.out,by omega,lenL_zero,hSt.out⟩
     case round=>
      clear hSt hf hR2 hr1 hr2 hf64;obtain⟨k,R2,hk,rfl,hvl,hR2,hP,hSt⟩:=hrel;obtain⟨ra,rcap,rfl,hr1,hr2⟩:=hSt.out.rest.shape;unfold maxLen at hr2;obtain⟨L3,hL3⟩:∃ L,L=R2.length:=⟨_,rfl⟩;rw[← hL3] at hr1 hR2 hSt ⊢;by_cases hlt8:k<8
      ·obtain⟨sh,hsh⟩:∃ s,s=56 - 8*k:=⟨_,rfl⟩;have hsh1:(56:Int) - 8*(k:Int)=sh:=by omega
       have hsh2:sh≤56:=by omega
       have hmin:min sh 64=sh:=by omega
       obtain⟨C,hC⟩:∃ C,C=lenB T k:=⟨_,rfl⟩
       have hCn:((T:Int)*8) / 2 ^ sh % 256=(C.toNat:Int):=by
        rw[hC,lenB,← hsh,byte_toNat (by omega)];simp
       obtain⟨v',w3,hrun,hS3⟩:=hSt.out.push C (by omega);have hP2:lenL PT T (k+1)=R2++[C]:=by rw[lenL_succ,hP.out,hC]
       have hvl2:vlen v'=(R2++[C]).length:=by
        obtain⟨a,c,rfl,_⟩:=hS3.rest.shape;rfl
       replace hrun:=LH hrun;replace hS3:=LH hS3;replace hvl2:=LH hvl2;replace hP2:=LH hP2;replace hsh:=LH hsh;replace hL3:=LH hL3;clear hC hvl hP
       go_wp2_with (at_builtin;(refine wpList_app rfl _ _ 42 rfl _ _ _ rfl rfl hrun.out ?_))
       go_roundw
       case rel=>exact⟨k+1,R2++[C],by omega,by go_num,hvl2.out,by have:=hL3.out;simp;omega,hP2.out,hS3.out⟩
       case measure=>simp[intOf];omega
      ·have hk8:k=8:=by omega
       rw[hk8] at hP;have hL3b:L3≤2008:=by omega
       clear hk8 hk;have hLL:=hP.out;obtain⟨Y,hY⟩:∃ Y,Y=lenL PT T 8:=⟨_,rfl⟩;have hRY:R2=Y:=by rw[hY,hLL]
       have hYm:Y.length % 64=0:=by rw[hY,lenL_length];have:=hL2.out;have:=hq.out;omega
       rw[← hY] at hres;rw[hRY] at hSt hL3;obtain⟨E,hE⟩:∃ E,E=eatF Y.length H Y:=⟨_,rfl⟩;rw[← hE] at hres;replace hE:=LH hE;replace hL3:=LH hL3;clear hRY hY hLL hP hvl;go_wp2;generalize decide ((k:Int)<8)=dd2;generalize Value.int .i64 (k:Int)=kk2
       go_loopw [5] (fun v wr=>∃ (f:Nat) (H:List Nat) (R:List UInt8),R.length≤f∧R.length≤2000000∧R.length % 64=0∧vlen v=R.length∧Hid (eatF f H R=E)∧Hid (SumSt w n wr H v R))
        (fun v _=>vlen v)
       case atStart=>exact⟨Y.length,H,Y,Nat.le_refl _,by have:=hL3.out;omega,hYm,by simp only[vlen];exact hL3.out,hE.out.symm,hSt.out⟩
       case round=>
        clear hSt;obtain⟨f,H2,R2,hf,hR2,h0m,hvl,hE2,hSt⟩:=hrel;obtain⟨ra,rcap,rfl,hr1,hr2⟩:=hSt.out.rest.shape;unfold maxLen at hr2;have hsz:=hSt.out.size;obtain⟨M2,hM2⟩:∃ L,L=R2.length:=⟨_,rfl⟩;rw[← hM2] at hr1 hf hR2 h0m hSt ⊢;have hdr:∀ w3,Chg No wr.drew w3→Chg No wr w3:=fun w3 h=>⟨h.os,h.tape,h.output,h.size,h.block⟩
        replace hdr:=LH hdr;by_cases h64:0<M2
        ·have h64':64≤M2:=by omega
         obtain⟨rg,roff,rc,hrv,-,-⟩:=hSt.out.rest.parts (by omega);simp only[Value.slice.injEq] at hrv;obtain⟨rfl,-,rfl⟩:=hrv;obtain⟨v1,hv1,hb1⟩:=hSt.out.rest.front 64 (by omega) (by omega);have hm2:=hSt.out.rest.tail2 hM2 64 (by omega) h64';have hg:=hSt.out.good
         have hE3:∃ f',f=f'+1∧eatF f' (mixL H2 (R2.take 64)) (R2.drop 64)=E:=by
          cases f with
          | zero=>omega
          | succ f'=>
           refine⟨f',rfl,?_⟩;have h:=hE2.out;rw[eatF_succ,if_pos (by omega)] at h;exact h
         obtain⟨f',rfl,hE3⟩:=hE3;obtain⟨B64,hB64⟩:∃ B,B=R2.take 64:=⟨_,rfl⟩;have hB64l:B64.length=64:=by rw[hB64];simp;omega
         rw[← hB64] at hb1 hE3;obtain⟨G,hG⟩:∃ G,G=mixL H2 B64:=⟨_,rfl⟩;rw[← hG] at hE3;have hGg:good G:=hG ▸ good_mix hg;have hD:(R2.drop 64).length=M2 - 64:=by rw[List.length_drop,hM2]
         obtain⟨R3,hR3⟩:∃ R,R=R2.drop 64:=⟨_,rfl⟩;rw[← hR3] at hE3 hD hm2;have hld3:∀ w3,Chg No wr w3→(Instr.loadAt 313 (.pointer (some ⟨n+1,0,none⟩))).run prog w3=.ok (.agg (n32s H2).toArray) w3:=fun w3 h=>run_loadAt_arrN (P:=prog) (hSt.out.h.keep (h.block (n+1) (by omega) id)) underlying313 (size8 hg.1)
         have hmx:∀ w3,Chg No wr w3→Calls prog 194 #[.pointer (some ⟨p,0,none⟩),.agg (n32s H2).toArray,v1] w3 fun e w'=>e=.returned (.agg (n32s G).toArray)∧Below w3.heap.size w3 w':=fun w3 h=>hG ▸ hmix.out w3 (hSt.out.below.trans ((Chg.no h).mono (by omega))) (hb1.keep h.size (fun b _ hb=>h.block b hb id)) hB64l H2 hg
         replace hv1:=LH hv1;replace hm2:=LH hm2;replace hld3:=LH hld3;replace hmx:=LH hmx;replace hE3:=LH hE3;replace hM2:=LH hM2;replace hD:=LH hD;clear hb1 hG hB64 hR3 hE2;go_wp2;refine RA.rt (Chg No) [1,1,1,1,4,7] [5] (fun _=>True) (trivial) (fun _=>Chg.refl _ _) (fun _ _ _ h k=>h.trans k) (h:=?_);intro cx
         repeat refine RA.qq (h:=?_)
         refine RA.ld (by kernel_rfl) (by rfl) (by rfl) (y':=.agg (n32s H2).toArray) (fun w3 hp=>hld3.out w3 (hdr.out _ hp.1)) ?_
         repeat refine RA.qq (h:=?_)
         refine RA.shi (by kernel_rfl) (by rfl) (by rfl) (by rfl) (y':=v1) (fun w3 hp=>hv1.out w3) ?_;refine RA.kc (P:=prog) [_,_,_] (.agg (n32s G).toArray) (fun _=>True) (fun _ _=>by go_simp) (by kernel_rfl) (by rfl) (by rfl) (by kernel_rfl) (fun _ _ _ h=>h) rfl (fun w3 hp hH=>(hmx.out w3 (hdr.out _ hp.1)).mono (by rintro e w4 ⟨rfl,h2⟩;exact⟨rfl,Chg.of_below h2 _,trivial⟩)) ?_
         refine RA.stt (fun w4=>∃ w5,Below wr.heap.size wr w5∧w4=w5.setRow (n+1) (n32s G).toArray) (by rfl) (by rfl) (by kernel_rfl) (fun _ _ h k=>h ▸ k) (fun w3 hp0 _=>by
          have hR:=hdr.out _ (hp0.first (by kernel_rfl)).1;exact⟨_,RA.ex_store (by rfl) (by rfl) (run_storeAt_arrN (P:=prog) (ty:=313) (x:=G) (hSt.out.h.keep (hR.block (n+1) (by omega) id)) (size8 hGg.1) (by rw[hGg.1,hg.1])),w3,Chg.no hR,rfl⟩) ?_
         refine RA.RA.doneT (fun w4 hH=>?_);simp only[RA.put,List.foldr_cons,List.foldr_nil,cx,Act.put,List.setIfInBounds_toArray,List.set_cons_succ,List.set_cons_zero];obtain⟨w5,hB5,hw4⟩:=hH;have hS4:SumSt w n w4 G (.slice (if rcap=64 then some ⟨rg,roff,none⟩ else some ⟨rg,roff+64,none⟩) (M2 - 64) (rcap - 64)) R3:=hw4 ▸ (((hSt.out.after hB5).cut (hm2.out.keep hB5)).put G hGg);replace hS4:=LH hS4;clear hw4 hB5 hSt hmx hld3;go_wp2;go_roundw
         case rel=>exact⟨f',G,R3,by have:=hD.out;omega,by have:=hD.out;omega,by have:=hD.out;omega,hD.out.symm,hE3.out,hS4.out⟩
         case measure=>have:=hD.out;simp only[vlen];omega
        ·have hR0:R2=[]:=List.eq_nil_of_length_eq_zero (by omega)
         have hE4:E.1=H2:=by
          have h:=hE2.out;rw[hR0,eatF_done (by simp)] at h;rw[← h]
         rw[hE4] at hres;have hg:=hSt.out.good;have hO:=hSt.out.out;have hHH:=hSt.out.h;have hbl:=hSt.out.below;replace hO:=LH hO;replace hHH:=LH hHH;replace hbl:=LH hbl;replace hg:=LH hg;clear hE4 hE2 hSt hR0 hvl;go_wp2;have hns:n+1<wr.heap.size:=heap_lt hHH.out
         go_loopw [75] (fun i wr=>∃ k:Nat,k≤32∧i=.int .i64 k∧Below n w wr∧n+1<wr.heap.size∧Hid (Arr wr n 209 (hashL H2 k))∧Hid (ArrN wr (n+1) 313 H2))
          (fun i _=>32 - (intOf i).toNat)
         case atStart=>exact⟨0,by omega,rfl,hbl.out,hns,(by rw[hashL_zero];exact hO.out:Arr _ _ _ _),hHH.out⟩
         case round=>
          clear hO hHH hbl hns;obtain⟨k,hk,rfl,hbr,hs,HA,HH⟩:=hrel;replace hbr:=LH hbr;by_cases hlt32:k<32
          ·obtain⟨j,hj⟩:∃ j,j=k / 4:=⟨_,rfl⟩;have hj1:(k:Int) / 4=j:=by omega
           have hj2:(k:Int).tdiv 4=j:=by rw[Int.tdiv_eq_ediv_of_nonneg (by omega)];exact hj1
           have hj8:j<8:=by omega
           obtain⟨q,hq⟩:∃ q,q=k % 4:=⟨_,rfl⟩;have hq1:(k:Int) % 4=q:=by omega
           have hq2:(k:Int).tmod 4=q:=by rw[Int.tmod_eq_emod_of_nonneg (by omega)];exact hq1
           have hq4:q<4:=by omega
           obtain⟨sh,hsh⟩:∃ s,s=24 - 8*q:=⟨_,rfl⟩;have hsh1:(24:Int) - 8*(q:Int)=sh:=by omega
           have hsh2:sh≤24:=by omega
           have hmin:min sh 32=sh:=by omega
           obtain⟨W,hW⟩:∃ W,W=H2.getD j 0:=⟨_,rfl⟩;have hWl:W<4294967296:=hW ▸ hg.out.2 j;obtain⟨C,hC⟩:∃ C,C=hashB H2 k:=⟨_,rfl⟩
           have hCn:(W:Int) / 2 ^ sh % 256=(C.toNat:Int):=by
            rw[hC,hashB,← hj,← hq,← hW,← hsh,byte_toNat (by omega)];simp
           have cW:=HH.out.cell j (by rw[hg.out.1];exact hj8);rw[← hW] at cW;have f0:=HA.out.frozen k;have c0:=HA.out.cell k (by rw[hashL_length];exact hlt32);have hset:=HA.out.set k C;rw[show (hashL H2 k).set k C=hashL H2 (k+1) by rw[hashL_succ,hC]] at hset;replace hset:=LH hset;replace hsh:=LH hsh;clear hC hW hj hq;go_wp2;go_roundw
           case rel=>
            refine⟨k+1,by omega,by go_num,hbr.out.setCell (p:=⟨n,k,none⟩) (Nat.le_refl n) _,by simpa using hs,hset.out,?_⟩;exact HH.out.keep (setCell_heap_ne _ _ _ (by simp))
           case measure=>simp[intOf];omega
          ·have hk32:k=32:=by omega
           rw[hk32] at HA;clear hk32;rw[← hres.out] at HA;obtain⟨O,hO⟩:∃ O,O=sha parts:=⟨_,rfl⟩;rw[← hO] at HA;have hOl:O.length=32:=hO ▸ sha_length;have hsz:(prog.info? 209).map (·.size)=some O.length:=by rw[hOl];kernel_rfl
           have hld:=LH (run_loadAt_arr (P:=prog) HA.out underlying209 hsz);have hst:=LH (run_storeAt_arr (P:=prog) HA.out hsz);replace hsz:=LH hsz;replace hO:=LH hO
           go_wp2_with (first|(refine wpList_load rfl 209 _ rfl _ _ rfl hld.out ?_)|(refine wpList_store rfl 209 _ _ rfl _ _ rfl rfl hst.out ?_))
           refine bodyPost_ret (results_cell_row results186 _ _ n 209 _ (0,0) _ rfl HA.out underlying209 rfl (by rw[hsz.out];simp[u8s_length])) rfl ⟨by rw[hO.out],HN.out ▸ hbr.out⟩
    ·have e56:((q:Int) != 56)=true:=by simp;omega
     obtain⟨f',rfl⟩:∃ f',f=f'+1:=⟨f - 1,by have:=hq.out;omega⟩
     have hP2:padF f' (R2++[0])=PT:=by
      have h:=hP.out;rw[padF_succ,if_neg (by have:=hq.out;omega)] at h;exact h
     obtain⟨v',w3,hrun,hS3⟩:=hSt.out.push 0 (by omega);have hrun2:(Builtin.append_ #[42,42] 42 #[.slice ra L2 rcap,.slice (some ⟨wr.heap.size,0,none⟩) 1 1]).run prog (wr.alloc (.cells #[.int .u8 0] 5))=.ok v' w3:=hrun
     have hvl2:vlen v'=L2+1:=by
      obtain⟨a,c,rfl,_⟩:=hS3.rest.shape;simp[vlen,hL2]
     obtain⟨R3,hR3⟩:∃ R,R=R2++[0]:=⟨_,rfl⟩;have hR3l:R3.length=L2+1:=by rw[hR3,hL2];simp
     rw[← hR3] at hP2 hS3;replace hrun2:=LH hrun2;replace hS3:=LH hS3;replace hvl2:=LH hvl2;replace hP2:=LH hP2;replace hR3l:=LH hR3l;replace hL2:=LH hL2;clear hrun hR3 hP hvl
     go_wp2_with (at_builtin;(refine wpList_app rfl _ _ 42 rfl _ _ _ rfl rfl hrun2.out ?_))
     go_roundw
     case rel=>exact⟨f',R3,by have:=hR3l.out;have:=hq.out;omega,by have:=hR3l.out;omega,by omega,by rw[hvl2.out,hR3l.out],hP2.out,hS3.out⟩
     case measure=>
      rw[hvl2.out];simp only[vlen];have:=hq.out;omega
end Go.Proofs.YthmcbgidehjlbaaGreat.Fd

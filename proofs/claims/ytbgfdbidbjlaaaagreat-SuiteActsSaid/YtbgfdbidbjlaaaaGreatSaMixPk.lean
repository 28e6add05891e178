/-
  Texts of this claim, laid together by a program of mine. No condition beyond what each theorem names.
-/
import Derived.Test.YtbgfdbidbjlaaaaGreatSaWordPk
/-
  sha: a block is mixed in. No condition beyond what each theorem names.
-/
namespace Go.Proofs.YtbgfdbidbjlaaaaGreat.Fd
open _root_.Go.Proofs.Tryz
open Go Go.RowKit K
set_option maxRecDepth 100000
set_option maxHeartbeats 8000000
def eS1 (e:Nat):Nat:=rot32 e 26 ^^^ rot32 e 21 ^^^ rot32 e 7
def aS0 (a:Nat):Nat:=rot32 a 30 ^^^ rot32 a 19 ^^^ rot32 a 10
def chF (e f g:Nat):Nat:=(e &&& f) ^^^ ((4294967295 - e) &&& g)
def mjF (a b c:Nat):Nat:=(a &&& b) ^^^ (a &&& c) ^^^ (b &&& c)
def t1F (e f g k K W:Nat):Nat:=((((k+eS1 e) % 4294967296+chF e f g) % 4294967296+K) % 4294967296+W) % 4294967296
def t2F (a b c:Nat):Nat:=(aS0 a+mjF a b c) % 4294967296
def rndL (K W:Nat):List Nat→List Nat
 | [a,b,c,d,e,f,g,k]=>[(t1F e f g k K W+t2F a b c) % 4294967296,a,b,c,(d+t1F e f g k K W) % 4294967296,e,f,g]
 | l=>l
def mixS (h ws:List Nat):Nat→List Nat
 | 0=>h
 | i+1=>rndL (allL.getD i 0) (ws.getD i 0) (mixS h ws i)
def sumL (h l:List Nat):Nat→List Nat
 | 0=>h
 | k+1=>(sumL h l k).set k ((h.getD k 0+l.getD k 0) % 4294967296)
theorem sumL_length {h l:List Nat}{k:Nat}:(sumL h l k).length=h.length:=by
 induction k with
 | zero=>rfl
 | succ k ih=>exact List.length_set.trans ih
theorem sumL_get {h l:List Nat}{k i:Nat}(hk:k≤i):(sumL h l k).getD i 0=h.getD i 0:=by
 induction k with
 | zero=>rfl
 | succ k ih=>rw[sumL,List.getD,List.getElem?_set_ne (by omega),← List.getD,ih (by omega)]
def mixL (h:List Nat) (b:List UInt8):List Nat:=sumL h (mixS h (wL b 64) 64) 8
theorem mixL_length {h:List Nat}{b:List UInt8}(hh:h.length=8):(mixL h b).length=8:=sumL_length.trans hh
theorem sumL_lt {h l:List Nat}(hh:∀ j,h.getD j 0<4294967296):∀ {k j:Nat},(sumL h l k).getD j 0<4294967296:=by
 intro k
 induction k with
 | zero=>intro j;exact hh j
 | succ k ih=>intro j;exact getD_set_lt (fun j=>ih) (Nat.mod_lt _ (by omega))
theorem mixL_lt {h:List Nat}{b:List UInt8}(hh:∀ j,h.getD j 0<4294967296) (j:Nat):(mixL h b).getD j 0<4294967296:=sumL_lt hh
theorem map_lt (l:List Nat) (f:Nat→Nat) (hf:∀ p,f p<4294967296) (j:Nat):(l.map f).getD j 0<4294967296:=by
 simp only[List.getD,List.getElem?_map];cases l[j]? with
 | none=>simp
 | some p=>exact hf p
theorem allL_lt (j:Nat):allL.getD j 0<4294967296:=by
 rw[allL];exact map_lt _ _ (fun p=>root_lt) j
theorem startL_lt (j:Nat):startL.getD j 0<4294967296:=by
 rw[startL];exact map_lt _ _ (fun p=>root_lt) j
theorem eight (l:List Nat) (h:l.length=8):∃ a b c d e f g k,l=[a,b,c,d,e,f,g,k]:=by
 match l,h with
 | [a,b,c,d,e,f,g,k],_=>exact⟨a,b,c,d,e,f,g,k,rfl⟩
theorem summer_cell {w:World}{p:Nat}(h:SummerAt w p) (i:Nat) (hi:i<64):w.cell? ⟨p,8+i,none⟩=some (.int .u32 (allL.getD i 0:Nat)):=by
 rw[ArrN.cell h _ (by rw[List.length_append,startL_length,allL_length];omega)];congr 3;simp only[List.getD];rw[List.getElem?_append_right (by rw[startL_length];omega),startL_length,Nat.add_sub_cancel_left]
theorem not32 {E:Nat}(h:E<4294967296):4294967295 ^^^ E=4294967295 - E:=by
 have h2:E<2 ^ 32:=h;have e:4294967295 - E=2 ^ 32 - (E+1):=by omega
 rw[e];apply Nat.eq_of_testBit_eq;intro i;rw[Nat.testBit_xor,Nat.testBit_two_pow_sub_succ h2 i];have e2:Nat.testBit 4294967295 i=decide (i<32):=Nat.testBit_two_pow_sub_one 32 i;rw[e2];by_cases hi:i<32
 ·simp[hi]
 ·have h3:E<2 ^ i:=Nat.lt_of_lt_of_le h2 (Nat.pow_le_pow_right (Nat.succ_pos 1) (Nat.le_of_not_lt hi));rw[Nat.testBit_lt_two_pow h3];simp[hi]
theorem not32i {E p:Nat}(h:E<4294967296) (hp:p=4294967295 - E):bits BinOp.xor IntKind.u32 (if IntKind.u32.signed=true then -1 else IntKind.u32.max) (E:Int)=(p:Int):=by
 have h2:=u32_xor_nat 4294967295 E (by omega) h;rw[not32 h,← hp] at h2;exact h2
theorem run_lit8 (w:World) (a b c d e f g k:Int):(Instr.buildSlice 144 8 #[(0,.int .u32 a),(1,.int .u32 b),(2,.int .u32 c),(3,.int .u32 d),(4,.int .u32 e),(5,.int .u32 f),(6,.int .u32 g),(7,.int .u32 k)]).run prog w=
  .ok (.slice (some ⟨w.heap.size,0,none⟩) 8 8) (w.alloc (.cells #[.int .u32 a,.int .u32 b,.int .u32 c,.int .u32 d,.int .u32 e,.int .u32 f,.int .u32 g,.int .u32 k] 80)):=by go_simp
theorem mixS_zero {h ws:List Nat}:mixS h ws 0=h:=rfl
theorem mixS_succ {h ws:List Nat}{i:Nat}:mixS h ws (i+1)=rndL (allL.getD i 0) (ws.getD i 0) (mixS h ws i):=rfl
theorem sumL_zero {h l:List Nat}:sumL h l 0=h:=rfl
theorem sumL_succ {h l:List Nat}{k:Nat}:sumL h l (k+1)=(sumL h l k).set k ((h.getD k 0+l.getD k 0) % 4294967296):=rfl
attribute [irreducible] mixS sumL
theorem mix_ok {w:World}{p:Nat}(hS:SummerAt w p){S:Nat→Prop}{v:Value}{b:List UInt8}(hb:Bytes w S v b) (hl:b.length=64) (h:List Nat) (hh:h.length=8) (hlt:∀ j,h.getD j 0<4294967296):
  Calls prog 81 #[.pointer (some ⟨p,0,none⟩),.agg (n32s h).toArray,v] w fun e w'=>e=.returned (.agg (n32s (mixL h b)).toArray)∧Below w.heap.size w w':=by
 obtain⟨n,hn⟩:∃ n,n=w.heap.size:=⟨_,rfl⟩;have HN:=LH hn;have hw:=fun (w1:World) (h:Bytes w1 S v b)=>words_ok h hl
 obtain⟨WS,hWS⟩:∃ W,W=wL b 64:=⟨_,rfl⟩;have hWl:WS.length=64:=hWS ▸ wL_length;have hWt:∀ j,WS.getD j 0<4294967296:=fun j=>hWS ▸ wL_lt
 have hpl:=heap_lt hS;rw[← hWS] at hw;have hmix:mixL h b=sumL h (mixS h WS 64) 8:=by rw[mixL,hWS]
 obtain⟨V,hV⟩:∃ V,V=(n32s h).toArray:=⟨_,rfl⟩;rw[← hV];obtain⟨a0,b0,c0,d0,e0,f0,g0,k0,h8⟩:=eight h hh;obtain⟨wA,hwA⟩:∃ x,x=w.alloc (.cells V 81):=⟨_,rfl⟩;obtain⟨wC,hwC⟩:∃ x,x=wA.alloc (.cells (n32s (List.replicate 8 0)).toArray 81):=⟨_,rfl⟩;have sA:wA.heap.size=n+1:=by rw[hwA,hn];simp
 have bA:Below n w wA:=by rw[hwA,hn];exact (Below.refl _ _).alloc (Nat.le_refl _) _
 have bC:Below (n+1) wA wC:=by rw[hwC,← sA];exact (Below.refl _ _).alloc (Nat.le_refl _) _
 have xA:ArrN wA n 81 h:=by rw[hwA,hn];exact ArrN.of hV (heap_alloc_new w _)
 have xC:ArrN wC (n+1) 81 (List.replicate 8 0):=by rw[hwC,← sA];exact heap_alloc_new wA _
 have yA:ArrN wC n 81 h:=xA.keep (bC.block n (by omega));have bW:Below n w wC:=bA.trans (bC.mono (by omega));have sC:wC.heap.size=n+2:=by rw[hwC];simp[sA]
 have hbC:Bytes wC S v b:=hb.keep bW.size (fun g _ hg=>bW.block g (by omega));subst hwA;replace hwC:wC=(w.alloc (.cells V 81)).alloc (.cells #[.int .u32 0,.int .u32 0,.int .u32 0,.int .u32 0,.int .u32 0,.int .u32 0,.int .u32 0,.int .u32 0] 81):=hwC;subst hwC;replace hw:=LH (hw _ hbC);replace yA:=LH yA;replace xC:=LH xC;replace bW:=LH bW;replace hWS:=LH hWS;replace hWt:=LH hWt;replace hWl:=LH hWl;replace hmix:=LH hmix;replace hS:=LH hS;replace hlt:=LH hlt;replace hh:=LH hh;replace h8:=LH h8;replace hV:=LH hV;replace sC:=LH sC;clear sA bA bC xA hbC hb hn;go_enter func81,ntmps81
 go_wp2_with fail
 refine hw.out.mono ?_;rintro e w1 ⟨rfl,hb1⟩;rw[← HN.out];have hs1:=hb1.size;rw[sC.out] at hs1;have hA1:=yA.out.keep (hb1.block n (by rw[sC.out];omega));have hC1:=xC.out.keep (hb1.block (n+1) (by rw[sC.out];omega));have hB1:Below n w w1:=bW.out.trans (hb1.mono (by rw[sC.out];omega));obtain⟨wb,hwb⟩:∃ b,b=w1.heap.size:=⟨_,rfl⟩;have hD0:ArrN (w1.alloc (.cells (n32s (List.replicate 64 0)).toArray 83)) wb 83 (List.replicate 64 0):=by rw[hwb];exact heap_alloc_new w1 _
 have hst:=LH (run_storeAt_arrN (P:=prog) (ty:=83) (x:=WS) hD0 (size64 hWl.out) (by rw[hWl.out,List.length_replicate]));obtain⟨w2,hw2⟩:∃ w2,w2=(w1.alloc (.cells (n32s (List.replicate 64 0)).toArray 83)).setRow wb (n32s WS).toArray:=⟨_,rfl⟩;rw[← hw2] at hst;have hD2:ArrN w2 wb 83 WS:=hw2 ▸ hD0.setRow WS;have hA2:ArrN w2 n 81 h:=hw2 ▸ (hA1.keep (Below.heap_alloc _ _ _ (by omega))).keep (setRow_other _ _ _ _ (by omega));have hC2:ArrN w2 (n+1) 81 (List.replicate 8 0):=hw2 ▸ (hC1.keep (Below.heap_alloc _ _ _ (by omega))).keep (setRow_other _ _ _ _ (by omega));have hB2:Below n w w2:=hw2 ▸ below_setRow (hB1.alloc (by omega) _) (by omega) _;have hs2:wb<w2.heap.size:=heap_lt hD2;have hnb:n+1<wb:=by omega
 rw[hwb] at hst;replace hA2:=LH hA2;replace hC2:=LH hC2;replace hD2:=LH hD2;replace hB2:=LH hB2;replace hwb:=LH hwb;have c2:∀ j x,(n32s h)[j]?=some x→w2.cell? ⟨n,j,none⟩=some x:=fun j x hx=>by rw[cell_of hA2.out,← hx];simp
 rw[h8.out] at c2;have ca:=c2 0 _ rfl;have cb:=c2 1 _ rfl;have cc:=c2 2 _ rfl;have cd:=c2 3 _ rfl;have ce:=c2 4 _ rfl;have cf:=c2 5 _ rfl;have cg:=c2 6 _ rfl;have ck:=c2 7 _ rfl
 have hall:∀ x ∈ h,x<4294967296:=by
  intro x hx;obtain⟨j,hj⟩:=List.mem_iff_getElem?.1 hx;have:=hlt.out j;simp[List.getD,hj] at this;exact this
 rw[h8.out] at hall;have la:=hall a0 (by simp);have lb:=hall b0 (by simp);have lc:=hall c0 (by simp);have ld:=hall d0 (by simp);have le:=hall e0 (by simp);have lf:=hall f0 (by simp);have lg:=hall g0 (by simp);have lk:=hall k0 (by simp);replace ca:=LH ca;replace cb:=LH cb;replace cc:=LH cc;replace cd:=LH cd;replace ce:=LH ce;replace cf:=LH cf;replace cg:=LH cg;replace ck:=LH ck;clear c2 hall hb1 hA1 hC1 hB1 hD0 hw2 hs1
 go_wp2_with (refine wpList_store rfl 83 _ _ rfl _ _ rfl rfl hst.out ?_)
 rw[← hwb.out];have hn2:n<w2.heap.size:=by omega
 have hdr:∀ w3,Chg No w2.drew w3→Chg No w2 w3:=fun w3 h=>⟨h.os,h.tape,h.output,h.size,h.block⟩
 replace hdr:=LH hdr;refine RA.rt (Chg No) [1,1,1,1,1,1,1,1,1,1,1,1,1,1,1,1,1,1,1,1,1,1,1,1] [] (fun _=>True) trivial (fun _=>Chg.refl _ _) (fun _ _ _ h k=>h.trans k) (h:=?_);intro cx;refine RA.ik prog (n) (0) (h:=?_);refine RA.lk prog (.int .u32 a0) (hc:=fun w3 hp=>by exact ((hdr.out _ hp.1).cell (p:=⟨n,0,none⟩) hn2 id).trans ca.out) (h:=?_);refine RA.ik prog (n) (1) (h:=?_);refine RA.lk prog (.int .u32 b0) (hc:=fun w3 hp=>by exact ((hdr.out _ hp.1).cell (p:=⟨n,1,none⟩) hn2 id).trans cb.out) (h:=?_);refine RA.ik prog (n) (2) (h:=?_);refine RA.lk prog (.int .u32 c0) (hc:=fun w3 hp=>by exact ((hdr.out _ hp.1).cell (p:=⟨n,2,none⟩) hn2 id).trans cc.out) (h:=?_);refine RA.ik prog (n) (3) (h:=?_);refine RA.lk prog (.int .u32 d0) (hc:=fun w3 hp=>by exact ((hdr.out _ hp.1).cell (p:=⟨n,3,none⟩) hn2 id).trans cd.out) (h:=?_);refine RA.ik prog (n) (4) (h:=?_);refine RA.lk prog (.int .u32 e0) (hc:=fun w3 hp=>by exact ((hdr.out _ hp.1).cell (p:=⟨n,4,none⟩) hn2 id).trans ce.out) (h:=?_);refine RA.ik prog (n) (5) (h:=?_);refine RA.lk prog (.int .u32 f0) (hc:=fun w3 hp=>by exact ((hdr.out _ hp.1).cell (p:=⟨n,5,none⟩) hn2 id).trans cf.out) (h:=?_);refine RA.ik prog (n) (6) (h:=?_);refine RA.lk prog (.int .u32 g0) (hc:=fun w3 hp=>by exact ((hdr.out _ hp.1).cell (p:=⟨n,6,none⟩) hn2 id).trans cg.out) (h:=?_);refine RA.ik prog (n) (7) (h:=?_);refine RA.lk prog (.int .u32 k0) (hc:=fun w3 hp=>by exact ((hdr.out _ hp.1).cell (p:=⟨n,7,none⟩) hn2 id).trans ck.out) (h:=?_)
 repeat refine RA.qq (h:=?_)
 refine RA.RA.done rfl (fun w3 hR hF hH=>?_);clear hF hH;simp only[RA.put,List.foldr_cons,List.foldr_nil,cx,Act.put,List.setIfInBounds_toArray,List.set_cons_succ,List.set_cons_zero];have hR3:=Chg.no (hdr.out _ hR);have hA3:=hA2.out.keep (hR3.block n hn2);have hC3:=hC2.out.keep (hR3.block (n+1) (by omega));have hD3:=hD2.out.keep (hR3.block wb hs2);have hB3:Below n w w3:=hB2.out.trans (hR3.mono (by omega));have hs3:wb<w3.heap.size:=heap_lt hD3;replace hA3:=LH hA3;replace hC3:=LH hC3;replace hD3:=LH hD3;replace hB3:=LH hB3;clear hR3 hR hdr hA2 hC2 hD2 hB2 hs2 hst ca cb cc cd ce cf cg ck hw yA xC bW sC hn2;go_wp2
 go_loopw [8,9,10,11,12,13,14,15,41] (fun a b c d e f g k i wr=>∃ t:Nat,t≤64∧i=.int .i64 t∧∃ A B C D E F G K:Nat,(A<4294967296∧B<4294967296∧C<4294967296∧D<4294967296∧E<4294967296∧F<4294967296∧G<4294967296∧K<4294967296)∧
   a=.int .u32 A∧b=.int .u32 B∧c=.int .u32 C∧d=.int .u32 D∧e=.int .u32 E∧f=.int .u32 F∧g=.int .u32 G∧k=.int .u32 K∧Hid (mixS h WS t=[A,B,C,D,E,F,G,K])∧
   Below n w wr∧wb<wr.heap.size∧Hid (ArrN wr n 81 h)∧Hid (ArrN wr (n+1) 81 (List.replicate 8 0))∧Hid (ArrN wr wb 83 WS))
  (fun _ _ _ _ _ _ _ _ i _=>64 - (intOf i).toNat)
 case atStart=>exact⟨0,by omega,rfl,a0,b0,c0,d0,e0,f0,g0,k0,⟨la,lb,lc,ld,le,lf,lg,lk⟩,rfl,rfl,rfl,rfl,rfl,rfl,rfl,rfl,mixS_zero.trans h8.out,hB3.out,hs3,hA3.out,hC3.out,hD3.out⟩
 case round=>
  clear hA3 hC3 hD3 hB3 hs3 la lb lc ld le lf lg lk;obtain⟨t,ht,rfl,A,B,C,D,E,F,G,K,⟨lA,lB,lC,lD,lE,lF,lG,lK⟩,rfl,rfl,rfl,rfl,rfl,rfl,rfl,rfl,hm,hbr,hs,HA,HC,HD⟩:=hrel;by_cases hlt2:t<64
  ·obtain⟨e1,he1⟩:∃ x,x=rot32 E 26:=⟨_,rfl⟩;obtain⟨e2,he2⟩:∃ x,x=rot32 E 21:=⟨_,rfl⟩;obtain⟨e3,he3⟩:∃ x,x=rot32 E 7:=⟨_,rfl⟩;obtain⟨e4,he4⟩:∃ x,x=e1 ^^^ e2:=⟨_,rfl⟩;obtain⟨e5,he5⟩:∃ x,x=e4 ^^^ e3:=⟨_,rfl⟩;obtain⟨p1,hp1⟩:∃ x,x=E &&& F:=⟨_,rfl⟩;obtain⟨p2,hp2⟩:∃ x,x=4294967295 - E:=⟨_,rfl⟩;obtain⟨p3,hp3⟩:∃ x,x=p2 &&& G:=⟨_,rfl⟩;obtain⟨p4,hp4⟩:∃ x,x=p1 ^^^ p3:=⟨_,rfl⟩;obtain⟨u1,hu1⟩:∃ x,x=(K+e5) % 4294967296:=⟨_,rfl⟩;obtain⟨u2,hu2⟩:∃ x,x=(u1+p4) % 4294967296:=⟨_,rfl⟩;obtain⟨KK,hKK⟩:∃ x,x=allL.getD t 0:=⟨_,rfl⟩;obtain⟨u3,hu3⟩:∃ x,x=(u2+KK) % 4294967296:=⟨_,rfl⟩;obtain⟨WW,hWW⟩:∃ x,x=WS.getD t 0:=⟨_,rfl⟩;obtain⟨u4,hu4⟩:∃ x,x=(u3+WW) % 4294967296:=⟨_,rfl⟩;obtain⟨a1,ha1⟩:∃ x,x=rot32 A 30:=⟨_,rfl⟩;obtain⟨a2,ha2⟩:∃ x,x=rot32 A 19:=⟨_,rfl⟩;obtain⟨a3,ha3⟩:∃ x,x=rot32 A 10:=⟨_,rfl⟩;obtain⟨a4,ha4⟩:∃ x,x=a1 ^^^ a2:=⟨_,rfl⟩;obtain⟨a5,ha5⟩:∃ x,x=a4 ^^^ a3:=⟨_,rfl⟩;obtain⟨m1,hm1⟩:∃ x,x=A &&& B:=⟨_,rfl⟩;obtain⟨m2,hm2⟩:∃ x,x=A &&& C:=⟨_,rfl⟩;obtain⟨m3,hm3⟩:∃ x,x=m1 ^^^ m2:=⟨_,rfl⟩;obtain⟨m4,hm4⟩:∃ x,x=B &&& C:=⟨_,rfl⟩;obtain⟨m5,hm5⟩:∃ x,x=m3 ^^^ m4:=⟨_,rfl⟩;obtain⟨v9,hv9⟩:∃ x,x=(a5+m5) % 4294967296:=⟨_,rfl⟩;obtain⟨na,hna⟩:∃ x,x=(u4+v9) % 4294967296:=⟨_,rfl⟩;obtain⟨ne,hne⟩:∃ x,x=(D+u4) % 4294967296:=⟨_,rfl⟩;have le1:e1<4294967296:=he1 ▸ rot32_lt lE;have le2:e2<4294967296:=he2 ▸ rot32_lt lE;have le3:e3<4294967296:=he3 ▸ rot32_lt lE;have le4:e4<4294967296:=he4 ▸ xor32 le1 le2;have le5:e5<4294967296:=he5 ▸ xor32 le4 le3;have lp1:p1<4294967296:=hp1 ▸ Nat.lt_of_le_of_lt Nat.and_le_left lE;have lp2:p2<4294967296:=by omega
   have lp3:p3<4294967296:=hp3 ▸ Nat.lt_of_le_of_lt Nat.and_le_left lp2;have lp4:p4<4294967296:=hp4 ▸ xor32 lp1 lp3;have la1:a1<4294967296:=ha1 ▸ rot32_lt lA;have la2:a2<4294967296:=ha2 ▸ rot32_lt lA;have la3:a3<4294967296:=ha3 ▸ rot32_lt lA;have la4:a4<4294967296:=ha4 ▸ xor32 la1 la2;have la5:a5<4294967296:=ha5 ▸ xor32 la4 la3;have lm1:m1<4294967296:=hm1 ▸ Nat.lt_of_le_of_lt Nat.and_le_left lA;have lm2:m2<4294967296:=hm2 ▸ Nat.lt_of_le_of_lt Nat.and_le_left lA;have lm3:m3<4294967296:=hm3 ▸ xor32 lm1 lm2;have lm4:m4<4294967296:=hm4 ▸ Nat.lt_of_le_of_lt Nat.and_le_left lB;have lm5:m5<4294967296:=hm5 ▸ xor32 lm3 lm4;have lKK:KK<4294967296:=hKK ▸ allL_lt t;have lWW:WW<4294967296:=hWW ▸ hWt.out t;have lu1:u1<4294967296:=by omega
   have lu2:u2<4294967296:=by omega
   have lu3:u3<4294967296:=by omega
   have lu4:u4<4294967296:=by omega
   have lv9:v9<4294967296:=by omega
   have lna:na<4294967296:=by omega
   have lne:ne<4294967296:=by omega
   have be4:bits .xor .u32 (e1:Int) (e2:Int)=(e4:Int):=by rw[u32_xor_nat e1 e2 le1 le2,he4]
   have be5:bits .xor .u32 (e4:Int) (e3:Int)=(e5:Int):=by rw[u32_xor_nat e4 e3 le4 le3,he5]
   have bp4:bits .xor .u32 (p1:Int) (p3:Int)=(p4:Int):=by rw[u32_xor_nat p1 p3 lp1 lp3,hp4]
   have ba4:bits .xor .u32 (a1:Int) (a2:Int)=(a4:Int):=by rw[u32_xor_nat a1 a2 la1 la2,ha4]
   have ba5:bits .xor .u32 (a4:Int) (a3:Int)=(a5:Int):=by rw[u32_xor_nat a4 a3 la4 la3,ha5]
   have bm3:bits .xor .u32 (m1:Int) (m2:Int)=(m3:Int):=by rw[u32_xor_nat m1 m2 lm1 lm2,hm3]
   have bm5:bits .xor .u32 (m3:Int) (m4:Int)=(m5:Int):=by rw[u32_xor_nat m3 m4 lm3 lm4,hm5]
   have bp1:bits .and .u32 (E:Int) (F:Int)=(p1:Int):=by rw[u32_and_nat E F lE lF,hp1]
   have bp3:bits .and .u32 (p2:Int) (G:Int)=(p3:Int):=by rw[u32_and_nat p2 G lp2 lG,hp3]
   have bm1:bits .and .u32 (A:Int) (B:Int)=(m1:Int):=by rw[u32_and_nat A B lA lB,hm1]
   have bm2:bits .and .u32 (A:Int) (C:Int)=(m2:Int):=by rw[u32_and_nat A C lA lC,hm2]
   have bm4:bits .and .u32 (B:Int) (C:Int)=(m4:Int):=by rw[u32_and_nat B C lB lC,hm4]
   have sv9:((a5:Int)+(m5:Int)) % 4294967296=(v9:Int):=by omega
   have sna:((u4:Int)+(v9:Int)) % 4294967296=(na:Int):=by omega
   have sne:((D:Int)+(u4:Int)) % 4294967296=(ne:Int):=by omega
   have re1:=LH (fun w=>he1 ▸ rot32_ok E 26 (-6) lE (by omega) (.inr ⟨by omega,by omega⟩) w);have re2:=LH (fun w=>he2 ▸ rot32_ok E 21 (-11) lE (by omega) (.inr ⟨by omega,by omega⟩) w);have re3:=LH (fun w=>he3 ▸ rot32_ok E 7 (-25) lE (by omega) (.inr ⟨by omega,by omega⟩) w);have ra1:=LH (fun w=>ha1 ▸ rot32_ok A 30 (-2) lA (by omega) (.inr ⟨by omega,by omega⟩) w);have ra2:=LH (fun w=>ha2 ▸ rot32_ok A 19 (-13) lA (by omega) (.inr ⟨by omega,by omega⟩) w);have ra3:=LH (fun w=>ha3 ▸ rot32_ok A 10 (-22) lA (by omega) (.inr ⟨by omega,by omega⟩) w)
   have hnext:mixS h WS (t+1)=[na,A,B,C,ne,E,F,G]:=by
    rw[mixS_succ,hm.out,← hKK,← hWW];simp only[rndL,t1F,t2F,eS1,aS0,chF,mjF];rw[← he1,← he2,← he3,← he4,← he5,← hp1,← hp2,← hp3,← hp4,← hu1,← hu2,← hu3,← hu4,← ha1,← ha2,← ha3,← ha4,← ha5,← hm1,← hm2,← hm3,← hm4,← hm5,← hv9,← hna,← hne]
   have cK:=summer_cell (hS.out.keep (hbr.block p (by rw[HN.out];exact hpl))) t hlt2;have cW:=HD.out.cell t (by rw[hWl.out];exact hlt2);rw[← hKK] at cK;rw[← hWW] at cW;have hplr:p<wr.heap.size:=by have:=hbr.size;omega
   clear he1;clear he2;clear he3;clear he4;clear he5;clear hp1;replace hp2:=LH hp2;clear hp3;clear hp4;replace hu1:=LH hu1;replace hu2:=LH hu2;clear hKK;replace hu3:=LH hu3;clear hWW;replace hu4:=LH hu4;clear ha1;clear ha2;clear ha3;clear ha4;clear ha5;clear hm1;clear hm2;clear hm3;clear hm4;clear hm5;clear hv9;clear hna;clear hne;replace hnext:=LH hnext;replace cK:=LH cK;replace cW:=LH cW;replace hbr:=LH hbr;have hdr:∀ w3,Chg No wr.drew w3→Chg No wr w3:=fun w3 h=>⟨h.os,h.tape,h.output,h.size,h.block⟩
   replace hdr:=LH hdr
   go_wp2_with (first
    | ((with_reducible refine (re1.out _).mono ?_);rintro e w' ⟨rfl,rfl⟩)
    | ((with_reducible refine (re2.out _).mono ?_);rintro e w' ⟨rfl,rfl⟩)
    | ((with_reducible refine (re3.out _).mono ?_);rintro e w' ⟨rfl,rfl⟩))
   refine RA.rt (Chg No) [1,1,1,1,1,1,1,1,1,1,1,1,1,1,1,1,1,1,1,1,1,1,1,1] [] (fun _=>True) trivial (fun _=>Chg.refl _ _) (fun _ _ _ h k=>h.trans k) (h:=?_);intro cx
   repeat refine RA.qq (h:=?_)
   refine RA.vk prog (.int .u32 u1) (hr:=fun w hp=>by (try go_simp);rw[hu1.out,IntKind.wrap_u32'];omega) (h:=?_)
   repeat refine RA.qq (h:=?_)
   refine RA.vk prog (.int .u32 p1) (h:=?_)
   repeat refine RA.qq (h:=?_)
   refine RA.vk prog (.int .u32 p2) (hr:=fun w hp=>by (try go_simp);exact not32i lE hp2.out) (h:=?_)
   repeat refine RA.qq (h:=?_)
   refine RA.vk prog (.int .u32 p3) (h:=?_);refine RA.vk prog (.int .u32 p4) (h:=?_);refine RA.vk prog (.int .u32 u2) (hr:=fun w hp=>by (try go_simp);rw[hu2.out,IntKind.wrap_u32'];omega) (h:=?_)
   repeat refine RA.qq (h:=?_)
   refine RA.fk prog (p) (8) (h:=?_);refine RA.ik prog (p) (8+t) (h:=?_);refine RA.lk prog (.int .u32 KK) (hc:=fun w3 hp=>by exact ((hdr.out _ hp.1).cell (p:=⟨p,8+t,none⟩) hplr id).trans cK.out) (h:=?_);refine RA.vk prog (.int .u32 u3) (hr:=fun w hp=>by (try go_simp);rw[hu3.out,IntKind.wrap_u32'];omega) (h:=?_)
   repeat refine RA.qq (h:=?_)
   refine RA.ik prog (wb) (t) (h:=?_);refine RA.lk prog (.int .u32 WW) (hc:=fun w3 hp=>by exact ((hdr.out _ hp.1).cell (p:=⟨wb,t,none⟩) hs id).trans cW.out) (h:=?_);refine RA.vk prog (.int .u32 u4) (hr:=fun w hp=>by (try go_simp);rw[hu4.out,IntKind.wrap_u32'];omega) (h:=?_)
   repeat refine RA.qq (h:=?_)
   refine RA.RA.done rfl (fun w3 hR hF hH=>?_);clear hF hH;simp only[RA.put,List.foldr_cons,List.foldr_nil,cx,Act.put,List.setIfInBounds_toArray,List.set_cons_succ,List.set_cons_zero];have hR3:=Chg.no (hdr.out _ hR);have hA3:=HA.out.keep (hR3.block n (by omega));have hC3:=HC.out.keep (hR3.block (n+1) (by omega));have hD3:=HD.out.keep (hR3.block wb hs);have hB3:Below n w w3:=hbr.out.trans (hR3.mono (by omega));have hs3:wb<w3.heap.size:=heap_lt hD3;replace hA3:=LH hA3;replace hC3:=LH hC3;replace hD3:=LH hD3;replace hB3:=LH hB3;clear hR3 hR hdr HA HC HD hbr hs cK cW re1 re2 re3
   go_wp2_with (first
    | ((with_reducible refine (ra1.out _).mono ?_);rintro e w' ⟨rfl,rfl⟩)
    | ((with_reducible refine (ra2.out _).mono ?_);rintro e w' ⟨rfl,rfl⟩)
    | ((with_reducible refine (ra3.out _).mono ?_);rintro e w' ⟨rfl,rfl⟩))
   go_roundw
   case rel=>exact⟨t+1,by omega,by go_num,na,A,B,C,ne,E,F,G,⟨lna,lA,lB,lC,lne,lE,lF,lG⟩,(by first|rfl|rw[sna]|rw[sv9,sna]),rfl,rfl,rfl,(by first|rfl|rw[sne]),rfl,rfl,rfl,hnext.out,hB3.out,hs3,hA3.out,hC3.out,hD3.out⟩
   case measure=>simp[intOf];omega
  ·have ht6:t=64:=by omega
   rw[ht6] at hm;clear ht6;obtain⟨M,hM⟩:∃ M,M=mixS h WS 64:=⟨_,rfl⟩;rw[← hM] at hm;have hmL:mixL h b=sumL h M 8:=by rw[hmix.out,hM]
   have hl8:=LH (fun w=>run_lit8 w (A:Int) B C D E F G K);replace hM:=LH hM;replace hmL:=LH hmL;replace hbr:=LH hbr;go_wp2;obtain⟨sb,hsb⟩:∃ b,b=wr.heap.size:=⟨_,rfl⟩;rw[← hsb];obtain⟨wq0,hwq⟩:∃ x,x=wr.alloc (.cells #[.int .u32 (A:Int),.int .u32 (B:Int),.int .u32 (C:Int),.int .u32 (D:Int),.int .u32 (E:Int),.int .u32 (F:Int),.int .u32 (G:Int),.int .u32 (K:Int)] 80):=⟨_,rfl⟩;rw[← hwq]
   have hE0:ArrN wq0 sb 80 M:=by
    rw[hwq,hsb,hm];exact heap_alloc_new wr _
   have hA0:ArrN wq0 n 81 h:=hwq ▸ HA.out.keep (Below.heap_alloc _ _ _ (by omega));have hC0:ArrN wq0 (n+1) 81 (List.replicate 8 0):=hwq ▸ HC.out.keep (Below.heap_alloc _ _ _ (by omega));have hB0:Below n w wq0:=hwq ▸ hbr.out.alloc (by omega) _;have hMl:M.length=8:=by rw[hm];rfl
   have hMt:∀ j,M.getD j 0<4294967296:=by
    intro j;rw[hm]
    match j with
    | 0=>exact lA
    | 1=>exact lB
    | 2=>exact lC
    | 3=>exact lD
    | 4=>exact lE
    | 5=>exact lF
    | 6=>exact lG
    | 7=>exact lK
    | j+8=>simp
   have hnsb:n+1<sb:=by omega
   have hs0:sb<wq0.heap.size:=heap_lt hE0;replace hE0:=LH hE0;replace hA0:=LH hA0;replace hC0:=LH hC0;replace hB0:=LH hB0;replace hMt:=LH hMt;replace hMl:=LH hMl;clear hwq hsb HA HC HD hbr hs hm hl8 hlt2 ht;generalize decide ((t:Int)<64)=dd;generalize Value.int .i64 (t:Int)=kk
   go_loopw [119] (fun i wr=>∃ k:Nat,k≤8∧i=.int .i64 k∧Below n w wr∧sb<wr.heap.size∧Hid (ArrN wr n 81 (sumL h M k))∧Hid (ArrN wr (n+1) 81 (List.replicate 8 0))∧Hid (ArrN wr sb 80 M))
    (fun i _=>8 - (intOf i).toNat)
   case atStart=>exact⟨0,by omega,rfl,hB0.out,hs0,(by rw[sumL_zero];exact hA0.out:ArrN _ _ _ _),hC0.out,hE0.out⟩
   case round=>
    clear hE0 hA0 hC0 hB0 hs0;obtain⟨k,hk,rfl,hbr,hs,HA,HC,HE⟩:=hrel;replace hbr:=LH hbr;by_cases hlt3:k<8
    ·obtain⟨X,hX⟩:∃ X,X=h.getD k 0:=⟨_,rfl⟩;obtain⟨Y,hY⟩:∃ Y,Y=M.getD k 0:=⟨_,rfl⟩;obtain⟨Z,hZ⟩:∃ Z,Z=(X+Y) % 4294967296:=⟨_,rfl⟩;have lX:X<4294967296:=hX ▸ hlt.out k;have lY:Y<4294967296:=hY ▸ hMt.out k;have sZ:((X:Int)+(Y:Int)) % 4294967296=(Z:Int):=by omega
     have cX:=HA.out.cell k (by rw[sumL_length,hh.out];exact hlt3);rw[sumL_get (Nat.le_refl k),← hX] at cX;have cY:=HE.out.cell k (by rw[hMl.out];exact hlt3);rw[← hY] at cY;have f0:=HA.out.frozen k;have hset:=HA.out.set k Z;have hnx:sumL h M (k+1)=(sumL h M k).set k Z:=by rw[sumL_succ,← hX,← hY,← hZ]
     rw[← hnx] at hset;replace hset:=LH hset;clear hX hY hZ hnx;go_wp2;go_roundw
     case rel=>
      refine⟨k+1,by omega,by go_num,hbr.out.setCell (p:=⟨n,k,none⟩) (Nat.le_refl n) _,by simpa using hs,hset.out,?_,?_⟩
      ·exact HC.out.keep (setCell_heap_ne _ _ _ (by simp))
      ·exact HE.out.keep (setCell_heap_ne _ _ _ (by simp;omega))
     case measure=>simp[intOf];omega
    ·have hk8:k=8:=by omega
     rw[hk8,← hmL.out] at HA;clear hk8;obtain⟨R,hR⟩:∃ R,R=mixL h b:=⟨_,rfl⟩;rw[← hR] at HA;have hRl:R.length=8:=hR ▸ mixL_length hh.out;have hld:=LH (run_loadAt_arrN (P:=prog) HA.out underlying81 (size8 hRl));have hst:=LH (run_storeAt_arrN (P:=prog) (ty:=81) (x:=R) HC.out (size8 hRl) (by rw[hRl,List.length_replicate]));have hfin:=LH (HC.out.setRow R);have hi:=LH (size8 hRl);have hBf:=LH (below_setRow hbr.out (show n≤n+1 by omega) (n32s R).toArray);replace hR:=LH hR
     go_wp2_with (first|(refine wpList_load rfl 81 _ rfl _ _ rfl hld.out ?_)|(refine wpList_store rfl 81 _ _ rfl _ _ rfl rfl hst.out ?_))
     refine bodyPost_ret (results_cell_row results81 _ _ (n+1) 81 _ (0,0) _ rfl hfin.out underlying81 rfl (by rw[hi.out];simp[n32s_length])) rfl ⟨by rw[hR.out],HN.out ▸ hBf.out⟩
end Go.Proofs.YtbgfdbidbjlaaaaGreat.Fd
/-
  append at a slice in the midst of a row of its own; cuts of it. No condition: a tool for the other texts.
-/
namespace Go.Proofs.YtbgfdbidbjlaaaaGreat.K
open _root_.Go.Proofs.Tryz
open Go Go.RowKit Fd
theorem drop_take_splice {α:Type}(cur:List α) (off n:Nat) (xs news:List α) (h:(cur.drop off).take n=xs) (hx:xs.length=n) (hfit:off+n+news.length≤cur.length):
  ((splice cur (off+n) news).drop off).take (n+news.length)=xs++news:=by
 simp only[splice];rw[List.drop_append_of_le_length (by simp;omega),List.drop_take,show off+n - off=n by omega,h,List.take_append,List.take_append,List.take_of_length_le (by omega),hx,show n+news.length - n=news.length by omega,List.take_of_length_le (Nat.le_refl _)];simp
section
variable {P:Program}
theorem run_append_roomAt {w:World}(t ty e:TypeId) (ht:P.underlying t=some (.slice e)) (hi:(P.info? e).map (·.size)=some 1)
  (g off sLen sCap:Nat) (cur:Array Value) (hg:w.heap[g]?=some (.cells cur e (0,0))) (S:Nat→Prop) (y:Value) (m:Nat) (news:List Value) (hy:Cells w S y m 1 news) (h1:∀ u ∈ news,u.oneCell'=true)
  (hroom:sLen+m≤sCap) (hfit:off+sLen+news.length≤cur.size):
  (Builtin.append_ #[t,t] ty #[.slice (some ⟨g,off,none⟩) sLen sCap,y]).run P w=.ok (.slice (some ⟨g,off,none⟩) (sLen+m) sCap) (w.setRow g (splice cur.toList (off+sLen) news).toArray):=by
 obtain⟨i,hii,his⟩:∃ i,P.info? e=some i∧i.size=1:=by
  cases hq:P.info? e with
  | none=>simp[hq] at hi
  | some i=>exact⟨i,rfl,by simpa [hq] using hi⟩
 obtain⟨hl,a,cap,rfl,_,_,h0,h3⟩:=hy;have hst:=run_storeCells_at (P:=P) g (off+sLen) e news 0 cur w hg (by omega) h1;simp only[Nat.add_zero] at hst
 have fin:∀ (hf:(Builtin.firstCells 1 m (.slice a m cap)).run P w=.ok news.toArray w),(Builtin.append_ #[t,t] ty #[.slice (some ⟨g,off,none⟩) sLen sCap,.slice a m cap]).run P w=.ok (.slice (some ⟨g,off,none⟩) (sLen+m) sCap) (w.setRow g (splice cur.toList (off+sLen) news).toArray):=by
  intro hf;simp[Builtin.append_,run_underlying ht,sizeOf,typeInfo,hii,his,Builtin.lenOf,hroom,hf,Addr.add_lit,hst,splice]
 cases a with
 | none=>
  obtain rfl:=h0 rfl
  have hm:m=0:=by
   rcases h3 with h3|⟨b,o,h4,_⟩
   ·exact h3
   ·cases h4
  subst hm;have hn:news=[]:=List.eq_nil_of_length_eq_zero (by simpa using hl);subst hn;exact fin (by simp[Builtin.firstCells])
 | some ad=>
  refine fin (run_firstCells_some (P:=P) w 1 m ad m cap news (by simpa using hl) ?_);intro j u hu;rcases h3 with h3|⟨b,o,h4,_,_,hc⟩
  ·subst h3;have hn:news=[]:=List.eq_nil_of_length_eq_zero (by simpa using hl);subst hn;simp at hu
  ·cases h4
   rw[Addr.add_lit];exact hc j u hu
end
def Mid (w:World) (B:Nat) (v:Value) (xs:List UInt8):Prop:=
 (v=.slice none 0 0∧xs=[])∨∃ g off cap cur,v=.slice (some ⟨g,off,none⟩) xs.length cap∧B≤g∧w.heap[g]?=some (.cells cur 5 (0,0))∧xs.length≤cap∧cap≤maxLen∧off+cap≤cur.size∧(cur.toList.drop off).take xs.length=u8s xs
theorem Mid.nil (w:World) (B:Nat):Mid w B (.slice none 0 0) []:=.inl ⟨rfl,rfl⟩
theorem Mid.keep {w w':World}{B:Nat}{v:Value}{xs:List UInt8}(h:Mid w B v xs) (hk:Below w.heap.size w w'):Mid w' B v xs:=by
 rcases h with h|⟨g,off,cap,cur,hv,hb,hg,r⟩
 ·exact .inl h
 ·exact .inr ⟨g,off,cap,cur,hv,hb,(hk.block g (heap_lt hg)).trans hg,r⟩
theorem Mid.shape {w:World}{B:Nat}{v:Value}{xs:List UInt8}(h:Mid w B v xs):∃ a cap,v=.slice a xs.length cap∧xs.length≤cap∧cap≤maxLen:=by
 rcases h with ⟨rfl,rfl⟩|⟨g,off,cap,cur,hv,hb,hg,h1,h2,_⟩
 ·exact⟨none,0,rfl,Nat.le_refl _,by unfold maxLen;omega⟩
 ·exact⟨_,cap,hv,h1,h2⟩
theorem Mid.bytes {w:World}{B:Nat}{v:Value}{xs:List UInt8}(h:Mid w B v xs):Bytes w (fun g=>B≤g) v xs:=by
 rcases h with ⟨rfl,rfl⟩|⟨g,off,cap,cur,rfl,hb,hg,h1,h2,h3,h4⟩
 ·exact Bytes.nil w _
 ·refine⟨by simp[u8s_length],_,cap,rfl,h1,h2,fun h=>(by cases h),.inr ⟨g,off,rfl,hb,heap_lt hg,fun j u hu=>?_⟩⟩;rw[cell_of hg,← hu,← h4,List.getElem?_take];rw[← h4,List.getElem?_take] at hu;split at hu
  ·rename_i hj;simp[hj]
  ·cases hu
theorem Mid.own {w:World}{B:Nat}{v:Value}{n:Nat}{xs:List UInt8}(h:w.ownsRow B 5 1 v n (u8s xs)):Mid w B v xs:=by
 have hn:xs.length=n:=by have:=h.1;simpa [u8s_length] using this
 subst hn;rcases h.2 with ⟨rfl,h0⟩|⟨g,cap,cur,rfl,hb,hg,h1,h2,h3,h4⟩
 ·have:=List.eq_nil_of_length_eq_zero h0;subst this;exact .inl ⟨rfl,rfl⟩
 ·exact .inr ⟨g,0,cap,cur,rfl,hb,hg,h1,h2,by omega,by simpa using h4⟩
theorem Mid.append {w:World}{B:Nat}{v:Value}{xs:List UInt8}(h:Mid w B v xs) (hB:B≤w.heap.size){S:Nat→Prop}{y:Value}{news:List UInt8}(hy:Bytes w S y news) (hfew:xs.length+news.length≤10000000) (ty:TypeId):
  ∃ v' w',(Builtin.append_ #[22,22] ty #[v,y]).run prog w=.ok v' w'∧Mid w' B v' (xs++news)∧Below B w w':=by
 obtain⟨i,hi1,hi2,hi3,hi4⟩:=info_parts infoByte;rcases h with ⟨rfl,rfl⟩|⟨g,off,cap,cur,rfl,hb,hg,h1,h2,h3,h4⟩
 ·obtain⟨v',w',hr,r1,r2,_,r4⟩:=run_append_cells (P:=prog) w B 22 ty 5 i _ 1 1 underlying22 hi1 hi2 hi3 hi4 rfl (by decide) (.slice none 0 0) 0 [] (World.ownsRow_nil _ _ _ _) S y news.length (u8s news) hy (u8s_one _) (by unfold maxLen;omega) (by omega) hB;refine⟨v',w',hr,Mid.own (n:=0+news.length) (by simpa using r1),⟨r2.os,r2.tape,r2.output,r2.size,fun k hk=>r2.block k (by omega) (by simp[Value.ownBlock])⟩⟩
 ·by_cases hroom:xs.length+news.length≤cap
  ·have hr:=run_append_roomAt (P:=prog) 22 ty 5 underlying22 (by kernel_rfl) g off xs.length cap cur hg S y news.length (u8s news) hy (u8s_one _) hroom (by rw[u8s_length];omega);refine⟨_,_,hr,.inr ⟨g,off,cap,_,by rw[List.length_append],hb,setRow_heap w g cur _ _ _ hg,by rw[List.length_append];exact hroom,h2,?_,?_⟩,below_setRow (Below.refl _ _) hb _⟩
   ·have hc:cur.toList.length=cur.size:=Array.length_toList;rw[List.size_toArray,length_splice _ _ _ (by rw[u8s_length];omega),hc];exact h3
   ·have hc:cur.toList.length=cur.size:=Array.length_toList;have h5:=drop_take_splice cur.toList off xs.length (u8s xs) (u8s news) h4 (u8s_length xs) (by rw[u8s_length];omega);rw[u8s_length] at h5;rw[u8s_append,List.length_append];exact h5
  ·obtain⟨hl,a,ycap,rfl,_,_,h0,h5⟩:=hy;have hmax:=h2
   have holds:∀ j u,(u8s xs)[j]?=some u→w.cell? ((⟨g,off,none⟩:Addr).add j)=some u:=by
    intro j u hu;rw[Addr.add_lit,cell_of hg,← hu,← h4,List.getElem?_take];rw[← h4,List.getElem?_take] at hu;split at hu
    ·rename_i hj;simp[hj]
    ·cases hu
   have hpos:0<news.length:=by omega
   obtain⟨b,o,rfl,_,hbl,hc⟩:∃ b off,a=some ⟨b,off,none⟩∧S b∧b<w.heap.size∧∀ j u,(u8s news)[j]?=some u→w.cell? ⟨b,off+j,none⟩=some u:=by
    rcases h5 with h5|h5
    ·omega
    ·exact h5
   have hr:=run_append_grow (P:=prog) w 22 ty 5 i _ underlying22 hi1 hi2 ⟨g,off,none⟩ xs.length cap (u8s xs) (by rw[hi3,u8s_length,Nat.mul_one]) holds ⟨b,o,none⟩ news.length ycap (u8s news) (by rw[hi3,u8s_length,Nat.mul_one])
    (fun j u hu=>by rw[Addr.add_lit];exact hc j u hu) (by omega) (by omega) (growslice_fits (by omega) (by rw[hi4];omega))
   refine⟨_,_,hr,.inr ⟨w.heap.size,0,_,_,by rw[List.length_append],hB,heap_alloc_new w.drew _,by rw[List.length_append];exact grownCap_ge _ _ _ _,grownCap_le_maxLen _ _ _ _ (by unfold maxLen;omega),?_,?_⟩,?_⟩
   ·have:=grownCap_ge w (xs.length+news.length) cap 5;simp only[Array.size_append,List.size_toArray,size_zeroCells,u8s_length];have e:(Value.int IntKind.u8 0).cells.size=1:=rfl;rw[e];omega
   ·simp only[Array.toList_append,List.drop_zero,u8s_append,List.length_append];rw[List.take_append_of_le_length (by simp[u8s_length])];rw[List.take_of_length_le (by simp[u8s_length])]
   ·exact⟨rfl,rfl,rfl,by simp,fun k hk=>Below.heap_alloc w.drew _ k (by show k<w.heap.size;omega)⟩
theorem Mid.tail {w:World}{B:Nat}{v:Value}{xs:List UInt8}(h:Mid w B v xs) (k:Nat) (hk0:0<k) (hk:k≤xs.length):
  ∃ v',(∀ w3,(Instr.sliceAt 22 v (some (.int .i64 k)) none none).run prog w3=.ok v' w3)∧Mid w B v' (xs.drop k):=by
 rcases h with ⟨rfl,rfl⟩|⟨g,off,cap,cur,rfl,hb,hg,h1,h2,h3,h4⟩
 ·simp at hk;omega
 ·refine⟨_,fun w3=>cut_lo (P:=prog) (s:=1) w3 underlying22 (by kernel_rfl) _ _ _ _ hk,?_⟩;by_cases hc:cap=k
  ·have hx:xs.length=k:=by omega
   have hd:xs.drop k=[]:=List.drop_eq_nil_of_le (by omega);rw[hd];refine .inr ⟨g,off,0,cur,?_,hb,hg,Nat.le_refl _,by unfold maxLen;omega,by omega,by simp[u8s]⟩;simp[Go.sliced,hc,hx]
  ·rw[sliced_in _ _ _ _ _ _ (by omega)];refine .inr ⟨g,off+k,cap - k,cur,by rw[List.length_drop,Nat.mul_one],hb,hg,by rw[List.length_drop];omega,by omega,by omega,?_⟩;rw[List.length_drop,← List.drop_drop,← List.drop_take,h4];simp[u8s,List.map_drop]
theorem Mid.parts {w:World}{B:Nat}{v:Value}{xs:List UInt8}(h:Mid w B v xs) (hx:0<xs.length):∃ g off cap,v=.slice (some ⟨g,off,none⟩) xs.length cap∧xs.length≤cap∧cap≤maxLen:=by
 rcases h with ⟨_,rfl⟩|⟨g,off,cap,cur,hv,hb,hg,h1,h2,h3,h4⟩
 ·simp at hx
 ·exact⟨g,off,cap,hv,h1,h2⟩
theorem Mid.tail2 {w:World}{B g off cap n:Nat}{xs:List UInt8}(h:Mid w B (.slice (some ⟨g,off,none⟩) n cap) xs) (hn:n=xs.length) (k:Nat) (hk0:0<k) (hk:k≤n):
  Mid w B (.slice (if cap=k then some ⟨g,off,none⟩ else some ⟨g,off+k,none⟩) (n - k) (cap - k)) (xs.drop k):=by
 subst hn;obtain⟨v',h1,h2⟩:=h.tail k hk0 hk;have h3:=h1 w;obtain⟨a,c,_,h4,h5⟩:=h.shape;rw[cut_lo (P:=prog) (s:=1) w underlying22 (by kernel_rfl) _ _ _ _ hk] at h3
 have e:v'=.slice (if cap=k then some ⟨g,off,none⟩ else some ⟨g,off+k,none⟩) (xs.length - k) (cap - k):=by
  have:=Result.ok.inj h3;rw[← this.1];by_cases hc:cap=k
  ·simp[Go.sliced,hc]
  ·simp[Go.sliced,hc,Addr.add_lit]
 rw[← e];exact h2
theorem Mid.front {w:World}{B:Nat}{v:Value}{xs:List UInt8}(h:Mid w B v xs) (k:Nat) (hk0:0<k) (hk:k≤xs.length):
  ∃ v',(∀ w3,(Instr.sliceAt 22 v none (some (.int .i64 k)) none).run prog w3=.ok v' w3)∧Bytes w (fun g=>B≤g) v' (xs.take k):=by
 have hb:=h.bytes;obtain⟨a,cap,rfl,h1,h2⟩:=h.shape;refine⟨_,fun w3=>cut_hi (P:=prog) (s:=1) w3 underlying22 (by kernel_rfl) a _ cap k (by omega),?_⟩;have h3:=bytes_cut hb 0 k (by omega) hk
 simpa using h3
theorem wpList_app {P:Program}{w w':World}{ops:Array Oper}{rest:List Oper}{o:Oper}{a:Act}{Q:Exit→Act→World→Prop}(hgd:o.guard=none) (s x:Operand) (t:TypeId)
  (ho:o.op=.call { callee:=.builtin .append,args:=#[s,x],argTypes:=#[t,t] }) (v y v':Value) (hs:a.eval s=v) (hx:a.eval x=y)
  (hr:(Builtin.append_ #[t,t] o.type #[v,y]).run P w=.ok v' w') (h:wpList P ops Q rest (a.put o.dst v') w'):wpList P ops Q (o::rest) a w:=by
 refine wpList_plain hgd fun K hK=>?_
 unfold Oper.wp execOp;simp only[ho,resolve,invoke,builtin,Sem.run_bind,Sem.run_pure,Result.andThen_ok,List.map_toArray,List.map_cons,List.map_nil,hs,hx,hr];exact hK _ _ h
end Go.Proofs.YtbgfdbidbjlaaaaGreat.K
/-
  sha: the sum of parts. No condition beyond what each theorem names.
-/
namespace Go.Proofs.YtbgfdbidbjlaaaaGreat.Fd
open _root_.Go.Proofs.Tryz
open Go Go.RowKit K
set_option maxRecDepth 100000
set_option maxHeartbeats 16000000
def eatF:Nat→List Nat→List UInt8→List Nat×List UInt8
 | 0,h,r=>(h,r)
 | f+1,h,r=>if 64≤r.length then eatF f (mixL h (r.take 64)) (r.drop 64) else (h,r)
theorem eatF_zero {h:List Nat}{r:List UInt8}:eatF 0 h r=(h,r):=rfl
theorem eatF_succ {f:Nat}{h:List Nat}{r:List UInt8}:eatF (f+1) h r=if 64≤r.length then eatF f (mixL h (r.take 64)) (r.drop 64) else (h,r):=rfl
theorem eatF_done {f:Nat}{h:List Nat}{r:List UInt8}(hr:r.length<64):eatF f h r=(h,r):=by
 cases f with
 | zero=>rfl
 | succ f=>rw[eatF_succ,if_neg (by omega)]
structure Sm where
 h:List Nat
 r:List UInt8
 n:Nat
def eat (h:List Nat) (r:List UInt8) (n:Nat):Sm:=⟨(eatF r.length h r).1,(eatF r.length h r).2,n⟩
def absorb (parts:List (List UInt8)):Nat→Sm
 | 0=>⟨startL,[],0⟩
 | k+1=>eat (absorb parts k).h ((absorb parts k).r++parts.getD k []) ((absorb parts k).n+(parts.getD k []).length)
theorem absorb_zero {parts:List (List UInt8)}:absorb parts 0=⟨startL,[],0⟩:=rfl
theorem absorb_succ {parts:List (List UInt8)}{k:Nat}:absorb parts (k+1)=eat (absorb parts k).h ((absorb parts k).r++parts.getD k []) ((absorb parts k).n+(parts.getD k []).length):=rfl
def padF:Nat→List UInt8→List UInt8
 | 0,r=>r
 | f+1,r=>if r.length % 64=56 then r else padF f (r++[0])
theorem padF_zero {r:List UInt8}:padF 0 r=r:=rfl
theorem padF_succ {f:Nat}{r:List UInt8}:padF (f+1) r=if r.length % 64=56 then r else padF f (r++[0]):=rfl
def lenB (n i:Nat):UInt8:=byte (n*8 / 2 ^ (56 - 8*i) % 256)
def lenL (r:List UInt8) (n:Nat):Nat→List UInt8
 | 0=>r
 | k+1=>lenL r n k++[lenB n k]
theorem lenL_zero {r:List UInt8}{n:Nat}:lenL r n 0=r:=rfl
theorem lenL_succ {r:List UInt8}{n k:Nat}:lenL r n (k+1)=lenL r n k++[lenB n k]:=rfl
theorem lenL_length {r:List UInt8}{n k:Nat}:(lenL r n k).length=r.length+k:=by
 induction k with
 | zero=>rfl
 | succ k ih=>rw[lenL_succ,List.length_append,ih];rfl
def hashB (h:List Nat) (i:Nat):UInt8:=byte (h.getD (i / 4) 0 / 2 ^ (24 - 8*(i % 4)) % 256)
def hashL (h:List Nat):Nat→List UInt8
 | 0=>List.replicate 32 0
 | k+1=>(hashL h k).set k (hashB h k)
theorem hashL_zero {h:List Nat}:hashL h 0=List.replicate 32 0:=rfl
theorem hashL_succ {h:List Nat}{k:Nat}:hashL h (k+1)=(hashL h k).set k (hashB h k):=rfl
theorem hashL_length {h:List Nat}{k:Nat}:(hashL h k).length=32:=by
 induction k with
 | zero=>exact List.length_replicate
 | succ k ih=>exact List.length_set.trans ih
def lastL (a:Sm):List UInt8:=lenL (padF 64 (a.r++[128])) a.n 8
def sha (parts:List (List UInt8)):List UInt8:=
 hashL (eatF (lastL (absorb parts parts.length)).length (absorb parts parts.length).h (lastL (absorb parts parts.length))).1 32
theorem sha_length {parts:List (List UInt8)}:(sha parts).length=32:=hashL_length
attribute [irreducible] eatF absorb padF lenL hashL
structure PartsAt (w:World) (S:Nat→Prop) (pv:Value) (parts:List (List UInt8)):Prop where
 row:∃ vs:List Value,Cells w S pv parts.length 1 vs∧∀ j v,vs[j]?=some v→Bytes w S v (parts.getD j [])
theorem PartsAt.keep {w w':World}{S:Nat→Prop}{pv:Value}{parts:List (List UInt8)}(h:PartsAt w S pv parts) (hs:w.heap.size≤w'.heap.size) (hk:∀ b,S b→b<w.heap.size→w'.heap[b]?=w.heap[b]?):PartsAt w' S pv parts:=by
 obtain⟨vs,h1,h2⟩:=h.row;exact⟨vs,h1.keep hs hk,fun j v hv=>Cells.keep (h2 j v hv) hs hk⟩
def good (h:List Nat):Prop:=h.length=8∧∀ j,h.getD j 0<4294967296
theorem good_start:good startL:=⟨startL_length,startL_lt⟩
theorem good_mix {h:List Nat}{b:List UInt8}(hg:good h):good (mixL h b):=⟨mixL_length hg.1,mixL_lt hg.2⟩
structure SumSt (w:World) (n:Nat) (x:World) (H:List Nat) (v:Value) (R:List UInt8):Prop where
 below:Below n w x
 out:Arr x n 124 (List.replicate 32 0)
 h:ArrN x (n+1) 81 H
 rest:Mid x (n+2) v R
 size:n+2≤x.heap.size
 good:good H
theorem SumSt.after {w:World}{n:Nat}{x y:World}{H:List Nat}{v:Value}{R:List UInt8}(s:SumSt w n x H v R) (hb:Below x.heap.size x y):SumSt w n y H v R:=
 ⟨s.below.trans (hb.mono (by have:=s.size;omega)),s.out.keep (hb.block n (heap_lt s.out)),s.h.keep (hb.block (n+1) (heap_lt s.h)),s.rest.keep hb,Nat.le_trans s.size hb.size,s.good⟩
theorem SumSt.grow {w:World}{n:Nat}{x y:World}{H:List Nat}{v v':Value}{R R':List UInt8}(s:SumSt w n x H v R) (hb:Below (n+2) x y) (hm:Mid y (n+2) v' R'):SumSt w n y H v' R':=
 ⟨s.below.trans (hb.mono (by omega)),s.out.keep (hb.block n (by omega)),s.h.keep (hb.block (n+1) (by omega)),hm,Nat.le_trans s.size hb.size,s.good⟩
theorem SumSt.cut {w:World}{n:Nat}{x:World}{H:List Nat}{v v':Value}{R R':List UInt8}(s:SumSt w n x H v R) (hm:Mid x (n+2) v' R'):SumSt w n x H v' R':=
 ⟨s.below,s.out,s.h,hm,s.size,s.good⟩
theorem Mid.row {w:World}{B:Nat}{v:Value}{xs:List UInt8}(h:Mid w B v xs){g:Nat}(hg:g<B) (cs:Array Value):Mid (w.setRow g cs) B v xs:=by
 rcases h with h|⟨g',off,cap,cur,hv,hb,hgg,r⟩
 ·exact .inl h
 ·exact .inr ⟨g',off,cap,cur,hv,hb,(setRow_other _ _ _ _ (by omega)).trans hgg,r⟩
theorem SumSt.put {w:World}{n:Nat}{x:World}{H:List Nat}{v:Value}{R:List UInt8}(s:SumSt w n x H v R) (H':List Nat) (hg:Fd.good H'):SumSt w n (x.setRow (n+1) (n32s H').toArray) H' v R:=
 ⟨below_setRow s.below (by omega) _,s.out.keep (setRow_other _ _ _ _ (by omega)),s.h.setRow H',Mid.row s.rest (by omega) _,by simpa using s.size,hg⟩
theorem SumSt.push {w:World}{n:Nat}{x:World}{H:List Nat}{v:Value}{R:List UInt8}(s:SumSt w n x H v R) (c:UInt8) (hR:R.length≤2000000):
  ∃ v' w',(Builtin.append_ #[22,22] 22 #[v,.slice (some ⟨x.heap.size,0,none⟩) 1 1]).run prog (x.alloc (.cells #[.int .u8 c.toNat] 5))=.ok v' w'∧SumSt w n w' H v' (R++[c]):=by
 have h1:=s.after ((Below.refl x.heap.size x).alloc (Nat.le_refl _) (.cells #[.int .u8 c.toNat] 5));have hy:Bytes (x.alloc (.cells #[.int .u8 c.toNat] 5)) (fun _=>True) (.slice (some ⟨x.heap.size,0,none⟩) 1 1) [c]:=lit_cells x #[.int .u8 c.toNat] 5 1 1 rfl (by unfold maxLen;omega);obtain⟨v',w',hr,hm,hb⟩:=h1.rest.append h1.size hy (by simp;omega) 22;exact⟨v',w',hr,h1.grow hb hm⟩
def vlen:Value→Nat
 | .slice _ l _=>l
 | _=>0
theorem sum_ok' {w:World}{p:Nat}(hS:SummerAt w p){S:Nat→Prop}{pv:Value}{parts:List (List UInt8)}(hp:PartsAt w S pv parts) (hfew:parts.length≤1000) (hlen:∀ j,(parts.getD j []).length≤1000000) (N:Nat) (hN:(absorb parts parts.length).n=N)
  (hnk:∀ k,k≤parts.length→(absorb parts k).n≤1000000):
  Calls prog 73 #[.pointer (some ⟨p,0,none⟩),pv] w fun e w'=>e=.returned (.agg (u8s (sha parts)).toArray)∧Below w.heap.size w w':=by
 obtain⟨n,hn⟩:∃ n,n=w.heap.size:=⟨_,rfl⟩;have HN:=LH hn;have hpl:=heap_lt hS;obtain⟨m,hm⟩:∃ m,m=parts.length:=⟨_,rfl⟩;obtain⟨vs,hc,hvs⟩:=hp.row;rw[← hm] at hc hfew hN hnk;obtain⟨pa,pcap,rfl,hpc1,hpc2⟩:=hc.shape;unfold maxLen at hpc2;obtain⟨H0,hH0⟩:∃ H,H=startL:=⟨_,rfl⟩;have hg0:good H0:=hH0 ▸ good_start;have hz0:absorb parts 0=⟨H0,[],0⟩:=by rw[absorb_zero,hH0]
 obtain⟨wA,hwA⟩:∃ x,x=w.alloc (.cells (u8s (List.replicate 32 0)).toArray 124):=⟨_,rfl⟩;obtain⟨wC,hwC⟩:∃ x,x=wA.alloc (.cells (n32s (List.replicate 8 0)).toArray 81):=⟨_,rfl⟩;have sA:wA.heap.size=n+1:=by rw[hwA,hn];simp
 have sC:wC.heap.size=n+2:=by rw[hwC];simp[sA]
 have bA:Below n w wA:=by rw[hwA,hn];exact (Below.refl _ _).alloc (Nat.le_refl _) _
 have bC:Below (n+1) wA wC:=by rw[hwC,← sA];exact (Below.refl _ _).alloc (Nat.le_refl _) _
 have xA:Arr wA n 124 (List.replicate 32 0):=by rw[hwA,hn];exact heap_alloc_new w _
 have xC:ArrN wC (n+1) 81 (List.replicate 8 0):=by rw[hwC,← sA];exact heap_alloc_new wA _
 have yA:Arr wC n 124 (List.replicate 32 0):=xA.keep (bC.block n (by omega));have bW:Below n w wC:=bA.trans (bC.mono (by omega));have hst:=run_storeAt_arrN (P:=prog) (ty:=81) (x:=H0) xC (size8 hg0.1) (by rw[hg0.1,List.length_replicate])
 have hld:∀ w3,Below n w w3→(Instr.loadAt 81 (.pointer (some ⟨p,0,none⟩))).run prog w3=.ok (.agg (n32s H0).toArray) w3:=by
  intro w3 h3;have hS3:=hS.keep (h3.block p (by omega));refine run_loadAt_vals (x:=n32s H0) underlying81 (by rw[size8 hg0.1,n32s_length]) (fun j v hv=>?_);rw[hH0] at hv;have hj:j<(n32s startL).length:=(List.getElem?_eq_some_iff.1 hv).1
  have e:(n32s (startL++allL)).toArray[j]?=(n32s startL)[j]?:=by
   rw[List.getElem?_toArray,show n32s (startL++allL)=n32s startL++n32s allL by simp[n32s],List.getElem?_append_left hj]
  rw[Nat.zero_add,cell_of hS3,e,hv]
 have hSt:SumSt w n (wC.setRow (n+1) (n32s H0).toArray) H0 (.slice none 0 0) []:=⟨below_setRow bW (by omega) _,yA.keep (setRow_other _ _ _ _ (by omega)),xC.setRow _,Mid.nil _ _,by simp[sC],hg0⟩;obtain⟨w2,hw2⟩:∃ x,x=wC.setRow (n+1) (n32s H0).toArray:=⟨_,rfl⟩;rw[← hw2] at hSt hst;have hBA:Below n w wA:=bA;subst hwA;subst hwC;have hmix:=fun (w3:World) (h3:Below n w w3){S:Nat→Prop}{v:Value}{b:List UInt8}(hb:Bytes w3 S v b) (hl:b.length=64) (H:List Nat) (hg:good H)=>mix_ok (hS.keep (h3.block p (by omega))) hb hl H hg.1 hg.2
 have hcr:∀ w3,Below n w w3→Cells w3 S (.slice pa m pcap) m 1 vs:=fun w3 h3=>hc.keep (by have:=h3.size;exact this) (fun g _ hg=>h3.block g (by omega))
 have hvr:∀ w3,Below n w w3→∀ j v,vs[j]?=some v→Bytes w3 S v (parts.getD j []):=fun w3 h3 j v hv=>Cells.keep (hvs j v hv) (by have:=h3.size;exact this) (fun g _ hg=>h3.block g (by omega))
 replace hmix:=LH @hmix;replace hcr:=LH hcr;replace hvr:=LH hvr;replace hld:=LH (hld _ hBA);replace hst:=LH hst;replace hSt:=LH hSt;replace hz0:=LH hz0;replace hN:=LH hN;replace hnk:=LH hnk;replace hlen:=LH hlen;replace hm:=LH hm;replace hS:=LH hS;replace hw2:=LH hw2;have hres:sha parts=hashL (eatF (lastL (absorb parts m)).length (absorb parts m).h (lastL (absorb parts m))).1 32:=by rw[sha,hm.out]
 replace hres:=LH hres;have hsz2:=hSt.out.size;rw[hn] at hst;clear hBA bA bC bW xA xC yA sA sC hp hc hvs hn hH0 hg0;go_enter func73,ntmps73
 go_wp2_with (first
  | (refine wpList_load rfl 81 _ rfl _ _ rfl hld.out ?_)
  | (refine wpList_store rfl 81 _ _ rfl _ _ rfl rfl hst.out ?_))
 rw[← HN.out]
 go_loopw [5,7,18] (fun v N i wr=>∃ k:Nat,k≤m∧i=.int .i64 k∧∃ (H:List Nat) (R:List UInt8) (T:Nat),N=.int .i64 T∧R.length<64∧Hid (absorb parts k=⟨H,R,T⟩)∧Hid (SumSt w n wr H v R))
  (fun _ _ i _=>m - (intOf i).toNat)
 case atStart=>exact⟨0,by omega,rfl,H0,[],0,rfl,by simp,hz0.out,hSt.out⟩
 case round=>
  clear hSt hld hst hw2 hz0;obtain⟨k,hk,rfl,H,R,T,rfl,hR,hab,hSt⟩:=hrel
  have hT:T≤1000000:=by
   have:=hnk.out k hk;rw[hab.out] at this;exact this
  have hsz:=hSt.out.size;by_cases hlt:k<m
  ·have hbr:=hSt.out.below;obtain⟨pg,poff,pc,hv,_,_,_,hgl,hcl⟩:=Cells.at (hcr.out wr hbr) (by omega);simp only[Value.slice.injEq] at hv;obtain⟨rfl,_,rfl⟩:=hv;have hvl:vs.length=m:=by have:=(hcr.out wr hbr).1;omega
   obtain⟨q,hq⟩:∃ q,vs[k]?=some q:=⟨vs[k]'(by omega),List.getElem?_eq_getElem (by omega)⟩;have hcq:=hcl k q hq;have hqb:=hvr.out wr hbr k q hq;obtain⟨P,hP⟩:∃ P,P=parts.getD k []:=⟨_,rfl⟩;rw[← hP] at hqb;have hPl:P.length≤1000000:=hP ▸ hlen.out k;obtain⟨qa,qcap,rfl,hq1,hq2⟩:=hqb.shape;unfold maxLen at hq2;obtain⟨L,hL⟩:∃ L,L=P.length:=⟨_,rfl⟩;obtain⟨v',w3,hrun,hM,hB⟩:=hSt.out.rest.append hsz hqb (by omega) 22;have hS3:=hSt.out.grow hB hM;have hab2:absorb parts (k+1)=eat H (R++P) (T+L):=by rw[absorb_succ,hab.out,← hP,← hL]
   rw[← hL] at hrun hcq hPl hq1;have hX:(R++P).length=R.length+L:=by rw[List.length_append,hL]
   obtain⟨X,hXe⟩:∃ X,X=R++P:=⟨_,rfl⟩;rw[← hXe] at hS3 hab2 hX;replace hcl:=LH hcl;replace hrun:=LH hrun;replace hS3:=LH hS3;replace hab2:=LH hab2;replace hX:=LH hX;clear hqb hM hB hP hL hXe hq hvl hbr
   go_wp2_with (at_builtin;(refine wpList_app rfl _ _ 22 rfl _ _ _ rfl rfl hrun.out ?_))
   obtain⟨E,hE⟩:∃ E,E=eatF X.length H X:=⟨_,rfl⟩;replace hE:=LH hE
   have hv0:vlen v'=X.length:=by
    obtain⟨a,cap,rfl,_⟩:=hS3.out.rest.shape;rfl
   replace hv0:=LH hv0;obtain⟨va0,vc0,rfl,_,_⟩:=hS3.out.rest.shape
   go_loopw [5] (fun v wr=>∃ (f:Nat) (H:List Nat) (R:List UInt8),R.length≤f∧R.length≤2000000∧vlen v=R.length∧Hid (eatF f H R=E)∧Hid (SumSt w n wr H v R))
    (fun v _=>vlen v)
   case atStart=>exact⟨X.length,H,X,Nat.le_refl _,by have:=hX.out;omega,rfl,hE.out.symm,hS3.out⟩
   case round=>
    clear hS3 hrun hcl hSt hv0;obtain⟨f,H2,R2,hf,hR2,hvl,hE2,hSt⟩:=hrel;obtain⟨ra,rcap,rfl,hr1,hr2⟩:=hSt.out.rest.shape;unfold maxLen at hr2;have hsz:=hSt.out.size;obtain⟨L2,hL2⟩:∃ L,L=R2.length:=⟨_,rfl⟩;rw[← hL2] at hr1 hf hR2 hSt ⊢;have hdr:∀ w3,Chg No wr.drew w3→Chg No wr w3:=fun w3 h=>⟨h.os,h.tape,h.output,h.size,h.block⟩
    replace hdr:=LH hdr;by_cases h64:64≤L2
    ·obtain⟨rg,roff,rc,hrv,-,-⟩:=hSt.out.rest.parts (by omega);simp only[Value.slice.injEq] at hrv;obtain⟨rfl,-,rfl⟩:=hrv;obtain⟨v1,hv1,hb1⟩:=hSt.out.rest.front 64 (by omega) (by omega);have hm2:=hSt.out.rest.tail2 hL2 64 (by omega) h64;have hg:=hSt.out.good
     have hE3:∃ f',f=f'+1∧eatF f' (mixL H2 (R2.take 64)) (R2.drop 64)=E:=by
      cases f with
      | zero=>omega
      | succ f'=>
       refine⟨f',rfl,?_⟩;have h:=hE2.out;rw[eatF_succ,if_pos (by omega)] at h;exact h
     obtain⟨f',rfl,hE3⟩:=hE3;obtain⟨B64,hB64⟩:∃ B,B=R2.take 64:=⟨_,rfl⟩;have hB64l:B64.length=64:=by rw[hB64];simp;omega
     rw[← hB64] at hb1 hE3;obtain⟨G,hG⟩:∃ G,G=mixL H2 B64:=⟨_,rfl⟩;rw[← hG] at hE3;have hGg:good G:=hG ▸ good_mix hg;have hD:(R2.drop 64).length=L2 - 64:=by rw[List.length_drop,hL2]
     obtain⟨R3,hR3⟩:∃ R,R=R2.drop 64:=⟨_,rfl⟩;rw[← hR3] at hE3 hD hm2;have hld3:∀ w3,Chg No wr w3→(Instr.loadAt 81 (.pointer (some ⟨n+1,0,none⟩))).run prog w3=.ok (.agg (n32s H2).toArray) w3:=fun w3 h=>run_loadAt_arrN (P:=prog) (hSt.out.h.keep (h.block (n+1) (by omega) id)) underlying81 (size8 hg.1)
     have hmx:∀ w3,Chg No wr w3→Calls prog 81 #[.pointer (some ⟨p,0,none⟩),.agg (n32s H2).toArray,v1] w3 fun e w'=>e=.returned (.agg (n32s G).toArray)∧Below w3.heap.size w3 w':=fun w3 h=>hG ▸ hmix.out w3 (hSt.out.below.trans ((Chg.no h).mono (by omega))) (hb1.keep h.size (fun b _ hb=>h.block b hb id)) hB64l H2 hg
     replace hv1:=LH hv1;replace hm2:=LH hm2;replace hld3:=LH hld3;replace hmx:=LH hmx;replace hE3:=LH hE3;replace hL2:=LH hL2;replace hD:=LH hD;clear hb1 hG hB64 hR3 hE2;go_wp2;refine RA.rt (Chg No) [1,1,1,1,4,7] [5] (fun _=>True) (trivial) (fun _=>Chg.refl _ _) (fun _ _ _ h k=>h.trans k) (h:=?_);intro cx
     repeat refine RA.qq (h:=?_)
     refine RA.ld (by kernel_rfl) (by rfl) (by rfl) (y':=.agg (n32s H2).toArray) (fun w3 hp=>hld3.out w3 (hdr.out _ hp.1)) ?_
     repeat refine RA.qq (h:=?_)
     refine RA.shi (by kernel_rfl) (by rfl) (by rfl) (by rfl) (y':=v1) (fun w3 hp=>hv1.out w3) ?_;refine RA.kc (P:=prog) [_,_,_] (.agg (n32s G).toArray) (fun _=>True) (fun _ _=>by go_simp) (by kernel_rfl) (by rfl) (by rfl) (by kernel_rfl) (fun _ _ _ h=>h) rfl (fun w3 hp hH=>(hmx.out w3 (hdr.out _ hp.1)).mono (by rintro e w4 ⟨rfl,h2⟩;exact⟨rfl,Chg.of_below h2 _,trivial⟩)) ?_
     refine RA.stt (fun w4=>∃ w5,Below wr.heap.size wr w5∧w4=w5.setRow (n+1) (n32s G).toArray) (by rfl) (by rfl) (by kernel_rfl) (fun _ _ h k=>h ▸ k) (fun w3 hp0 _=>by
      have hR:=hdr.out _ (hp0.first (by kernel_rfl)).1;exact⟨_,RA.ex_store (by rfl) (by rfl) (run_storeAt_arrN (P:=prog) (ty:=81) (x:=G) (hSt.out.h.keep (hR.block (n+1) (by omega) id)) (size8 hGg.1) (by rw[hGg.1,hg.1])),w3,Chg.no hR,rfl⟩) ?_
     refine RA.RA.doneT (fun w4 hH=>?_);simp only[RA.put,List.foldr_cons,List.foldr_nil,cx,Act.put,List.setIfInBounds_toArray,List.set_cons_succ,List.set_cons_zero];obtain⟨w5,hB5,hw4⟩:=hH;have hS4:SumSt w n w4 G (.slice (if rcap=64 then some ⟨rg,roff,none⟩ else some ⟨rg,roff+64,none⟩) (L2 - 64) (rcap - 64)) R3:=hw4 ▸ (((hSt.out.after hB5).cut (hm2.out.keep hB5)).put G hGg);replace hS4:=LH hS4;clear hw4 hB5 hSt hmx hld3;go_wp2;go_roundw
     case rel=>exact⟨f',G,R3,by have:=hD.out;omega,by have:=hD.out;omega,hD.out.symm,hE3.out,hS4.out⟩
     case measure=>have:=hD.out;simp only[vlen];omega
    ·have hR64:R2.length<64:=by omega
     have hE4:eat H X (T+L)=⟨H2,R2,T+L⟩:=by
      have h:=hE2.out;rw[eatF_done hR64] at h;rw[eat,← hE.out,← h]
     replace hE4:=LH hE4;replace hL2:=LH hL2;replace hR64:=LH hR64;clear hE2;go_wp2;go_roundw
     case rel=>
      refine⟨k+1,by omega,by go_num,H2,R2,T+L,by go_num,hR64.out,?_,hSt.out⟩;show _=_;rw[hab2.out,hE4.out]
     case measure=>simp[intOf];omega
  ·have hkm:k=m:=by omega
   rw[hkm] at hab;clear hkm;obtain⟨Z,hZ⟩:∃ Z:Sm,Z=absorb parts m:=⟨_,rfl⟩;rw[← hZ] at hab hres;obtain⟨va,vc,rfl,hva1,hva2⟩:=hSt.out.rest.shape;unfold maxLen at hva2;obtain⟨v',w3,hrun,hS3⟩:=hSt.out.push 128 (by omega);have hrun2:(Builtin.append_ #[22,22] 22 #[.slice va R.length vc,.slice (some ⟨wr.heap.size,0,none⟩) 1 1]).run prog (wr.alloc (.cells #[.int .u8 128] 5))=.ok v' w3:=hrun;replace hrun2:=LH hrun2;replace hS3:=LH hS3;clear hrun
   go_wp2_with (at_builtin;(refine wpList_app rfl _ _ 22 rfl _ _ _ rfl rfl hrun2.out ?_))
   generalize decide ((k:Int)<m)=dd;generalize Value.int .i64 (k:Int)=kk;obtain⟨X,hX⟩:∃ X,X=R++[128]:=⟨_,rfl⟩;rw[← hX] at hS3;have hXl:X.length=R.length+1:=by rw[hX];simp
   obtain⟨PT,hPT⟩:∃ P,P=padF 64 X:=⟨_,rfl⟩;have hZr:Z.r=R∧Z.h=H∧Z.n=T:=by rw[hab.out];exact⟨rfl,rfl,rfl⟩
   have hlast:lastL Z=lenL PT T 8:=by rw[lastL,hZr.1,hZr.2.2,← hX,← hPT]
   rw[hlast,hZr.2.1] at hres;obtain⟨va3,vc3,rfl,_,_⟩:=hS3.out.rest.shape;replace hX:=LH hX;replace hPT:=LH hPT;replace hXl:=LH hXl;clear hZ hab hZr hlast hSt hrun2 hsz hva1 hva2;go_wp2
   go_loopw [5] (fun v wr=>∃ (f:Nat) (R:List UInt8),(120 - R.length % 64) % 64≤f∧R.length≤2000 - f∧f≤64∧vlen v=R.length∧Hid (padF f R=PT)∧Hid (SumSt w n wr H v R))
    (fun v _=>(120 - vlen v % 64) % 64)
   case atStart=>exact⟨64,X,by omega,by have:=hXl.out;omega,Nat.le_refl _,rfl,hPT.out.symm,hS3.out⟩
   case round=>
    clear hS3;obtain⟨f,R2,hf,hR2,hf64,hvl,hP,hSt⟩:=hrel;obtain⟨ra,rcap,rfl,hr1,hr2⟩:=hSt.out.rest.shape;unfold maxLen at hr2;obtain⟨L2,hL2⟩:∃ L,L=R2.length:=⟨_,rfl⟩;rw[← hL2] at hr1 hf hR2 hSt ⊢;obtain⟨q,hq⟩:∃ q,q=L2 % 64:=⟨_,rfl⟩;have hq1:(L2:Int) % 64=q:=by omega
    have hq2:(L2:Int).tmod 64=q:=by rw[Int.tmod_eq_emod_of_nonneg (by omega)];exact hq1
    rw[← hq] at hf;replace hq:=LH hq;by_cases h56:q=56
    ·subst h56
     have hPR:R2=PT:=by
      rw[← hP.out];cases f with
      | zero=>rw[padF_zero]
      | succ f=>rw[padF_succ,if_pos (by have:=hq.out;omega)]
     rw[hPR] at hSt hL2;replace hL2:=LH hL2;clear hPR hP hvl;replace hq1:(L2:Int) % 64=56:=hq1;replace hq2:(L2:Int).tmod 64=56:=hq2;go_wp2;have hPTl:PT.length≤2000:=by have:=hL2.out;omega
     go_loopw [5,50] (fun v i wr=>∃ (k:Nat) (R:List UInt8),k≤8∧i=.int .i64 k∧vlen v=R.length∧R.length≤2000+k∧Hid (lenL PT T k=R)∧Hid (SumSt w n wr H v R))
      (fun _ i _=>8 - (intOf i).toNat)
     case atStart=>exact⟨0,PT,by omega,rfl,by simp only[vlen];exact hL2.out,by omega,lenL_zero,hSt.out⟩
     case round=>
      clear hSt hf hR2 hr1 hr2 hf64;obtain⟨k,R2,hk,rfl,hvl,hR2,hP,hSt⟩:=hrel;obtain⟨ra,rcap,rfl,hr1,hr2⟩:=hSt.out.rest.shape;unfold maxLen at hr2;obtain⟨L3,hL3⟩:∃ L,L=R2.length:=⟨_,rfl⟩;rw[← hL3] at hr1 hR2 hSt ⊢;by_cases hlt8:k<8
      ·obtain⟨sh,hsh⟩:∃ s,s=56 - 8*k:=⟨_,rfl⟩;have hsh1:(56:Int) - 8*(k:Int)=sh:=by omega
       have hsh2:sh≤56:=by omega
       have hmin:min sh 64=sh:=by omega
       obtain⟨C,hC⟩:∃ C,C=lenB T k:=⟨_,rfl⟩
       have hCn:((T:Int)*8) / 2 ^ sh % 256=(C.toNat:Int):=by
        rw[hC,lenB,← hsh,byte_toNat (by omega)];simp
       obtain⟨v',w3,hrun,hS3⟩:=hSt.out.push C (by omega);have hP2:lenL PT T (k+1)=R2++[C]:=by rw[lenL_succ,hP.out,hC]
       have hvl2:vlen v'=(R2++[C]).length:=by
        obtain⟨a,c,rfl,_⟩:=hS3.rest.shape;rfl
       replace hrun:=LH hrun;replace hS3:=LH hS3;replace hvl2:=LH hvl2;replace hP2:=LH hP2;replace hsh:=LH hsh;replace hL3:=LH hL3;clear hC hvl hP
       go_wp2_with (at_builtin;(refine wpList_app rfl _ _ 22 rfl _ _ _ rfl rfl hrun.out ?_))
       go_roundw
       case rel=>exact⟨k+1,R2++[C],by omega,by go_num,hvl2.out,by have:=hL3.out;simp;omega,hP2.out,hS3.out⟩
       case measure=>simp[intOf];omega
      ·have hk8:k=8:=by omega
       rw[hk8] at hP;have hL3b:L3≤2008:=by omega
       clear hk8 hk;have hLL:=hP.out;obtain⟨Y,hY⟩:∃ Y,Y=lenL PT T 8:=⟨_,rfl⟩;have hRY:R2=Y:=by rw[hY,hLL]
       have hYm:Y.length % 64=0:=by rw[hY,lenL_length];have:=hL2.out;have:=hq.out;omega
       rw[← hY] at hres;rw[hRY] at hSt hL3;obtain⟨E,hE⟩:∃ E,E=eatF Y.length H Y:=⟨_,rfl⟩;rw[← hE] at hres;replace hE:=LH hE;replace hL3:=LH hL3;clear hRY hY hLL hP hvl;go_wp2;generalize decide ((k:Int)<8)=dd2;generalize Value.int .i64 (k:Int)=kk2
       go_loopw [5] (fun v wr=>∃ (f:Nat) (H:List Nat) (R:List UInt8),R.length≤f∧R.length≤2000000∧R.length % 64=0∧vlen v=R.length∧Hid (eatF f H R=E)∧Hid (SumSt w n wr H v R))
        (fun v _=>vlen v)
       case atStart=>exact⟨Y.length,H,Y,Nat.le_refl _,by have:=hL3.out;omega,hYm,by simp only[vlen];exact hL3.out,hE.out.symm,hSt.out⟩
       case round=>
        clear hSt;obtain⟨f,H2,R2,hf,hR2,h0m,hvl,hE2,hSt⟩:=hrel;obtain⟨ra,rcap,rfl,hr1,hr2⟩:=hSt.out.rest.shape;unfold maxLen at hr2;have hsz:=hSt.out.size;obtain⟨M2,hM2⟩:∃ L,L=R2.length:=⟨_,rfl⟩;rw[← hM2] at hr1 hf hR2 h0m hSt ⊢;have hdr:∀ w3,Chg No wr.drew w3→Chg No wr w3:=fun w3 h=>⟨h.os,h.tape,h.output,h.size,h.block⟩
        replace hdr:=LH hdr;by_cases h64:0<M2
        ·have h64':64≤M2:=by omega
         obtain⟨rg,roff,rc,hrv,-,-⟩:=hSt.out.rest.parts (by omega);simp only[Value.slice.injEq] at hrv;obtain⟨rfl,-,rfl⟩:=hrv;obtain⟨v1,hv1,hb1⟩:=hSt.out.rest.front 64 (by omega) (by omega);have hm2:=hSt.out.rest.tail2 hM2 64 (by omega) h64';have hg:=hSt.out.good
         have hE3:∃ f',f=f'+1∧eatF f' (mixL H2 (R2.take 64)) (R2.drop 64)=E:=by
          cases f with
          | zero=>omega
          | succ f'=>
           refine⟨f',rfl,?_⟩;have h:=hE2.out;rw[eatF_succ,if_pos (by omega)] at h;exact h
         obtain⟨f',rfl,hE3⟩:=hE3;obtain⟨B64,hB64⟩:∃ B,B=R2.take 64:=⟨_,rfl⟩;have hB64l:B64.length=64:=by rw[hB64];simp;omega
         rw[← hB64] at hb1 hE3;obtain⟨G,hG⟩:∃ G,G=mixL H2 B64:=⟨_,rfl⟩;rw[← hG] at hE3;have hGg:good G:=hG ▸ good_mix hg;have hD:(R2.drop 64).length=M2 - 64:=by rw[List.length_drop,hM2]
         obtain⟨R3,hR3⟩:∃ R,R=R2.drop 64:=⟨_,rfl⟩;rw[← hR3] at hE3 hD hm2;have hld3:∀ w3,Chg No wr w3→(Instr.loadAt 81 (.pointer (some ⟨n+1,0,none⟩))).run prog w3=.ok (.agg (n32s H2).toArray) w3:=fun w3 h=>run_loadAt_arrN (P:=prog) (hSt.out.h.keep (h.block (n+1) (by omega) id)) underlying81 (size8 hg.1)
         have hmx:∀ w3,Chg No wr w3→Calls prog 81 #[.pointer (some ⟨p,0,none⟩),.agg (n32s H2).toArray,v1] w3 fun e w'=>e=.returned (.agg (n32s G).toArray)∧Below w3.heap.size w3 w':=fun w3 h=>hG ▸ hmix.out w3 (hSt.out.below.trans ((Chg.no h).mono (by omega))) (hb1.keep h.size (fun b _ hb=>h.block b hb id)) hB64l H2 hg
         replace hv1:=LH hv1;replace hm2:=LH hm2;replace hld3:=LH hld3;replace hmx:=LH hmx;replace hE3:=LH hE3;replace hM2:=LH hM2;replace hD:=LH hD;clear hb1 hG hB64 hR3 hE2;go_wp2;refine RA.rt (Chg No) [1,1,1,1,4,7] [5] (fun _=>True) (trivial) (fun _=>Chg.refl _ _) (fun _ _ _ h k=>h.trans k) (h:=?_);intro cx
         repeat refine RA.qq (h:=?_)
         refine RA.ld (by kernel_rfl) (by rfl) (by rfl) (y':=.agg (n32s H2).toArray) (fun w3 hp=>hld3.out w3 (hdr.out _ hp.1)) ?_
         repeat refine RA.qq (h:=?_)
         refine RA.shi (by kernel_rfl) (by rfl) (by rfl) (by rfl) (y':=v1) (fun w3 hp=>hv1.out w3) ?_;refine RA.kc (P:=prog) [_,_,_] (.agg (n32s G).toArray) (fun _=>True) (fun _ _=>by go_simp) (by kernel_rfl) (by rfl) (by rfl) (by kernel_rfl) (fun _ _ _ h=>h) rfl (fun w3 hp hH=>(hmx.out w3 (hdr.out _ hp.1)).mono (by rintro e w4 ⟨rfl,h2⟩;exact⟨rfl,Chg.of_below h2 _,trivial⟩)) ?_
         refine RA.stt (fun w4=>∃ w5,Below wr.heap.size wr w5∧w4=w5.setRow (n+1) (n32s G).toArray) (by rfl) (by rfl) (by kernel_rfl) (fun _ _ h k=>h ▸ k) (fun w3 hp0 _=>by
          have hR:=hdr.out _ (hp0.first (by kernel_rfl)).1;exact⟨_,RA.ex_store (by rfl) (by rfl) (run_storeAt_arrN (P:=prog) (ty:=81) (x:=G) (hSt.out.h.keep (hR.block (n+1) (by omega) id)) (size8 hGg.1) (by rw[hGg.1,hg.1])),w3,Chg.no hR,rfl⟩) ?_
         refine RA.RA.doneT (fun w4 hH=>?_);simp only[RA.put,List.foldr_cons,List.foldr_nil,cx,Act.put,List.setIfInBounds_toArray,List.set_cons_succ,List.set_cons_zero];obtain⟨w5,hB5,hw4⟩:=hH;have hS4:SumSt w n w4 G (.slice (if rcap=64 then some ⟨rg,roff,none⟩ else some ⟨rg,roff+64,none⟩) (M2 - 64) (rcap - 64)) R3:=hw4 ▸ (((hSt.out.after hB5).cut (hm2.out.keep hB5)).put G hGg);replace hS4:=LH hS4;clear hw4 hB5 hSt hmx hld3;go_wp2;go_roundw
         case rel=>exact⟨f',G,R3,by have:=hD.out;omega,by have:=hD.out;omega,by have:=hD.out;omega,hD.out.symm,hE3.out,hS4.out⟩
         case measure=>have:=hD.out;simp only[vlen];omega
        ·have hR0:R2=[]:=List.eq_nil_of_length_eq_zero (by omega)
         have hE4:E.1=H2:=by
          have h:=hE2.out;rw[hR0,eatF_done (by simp)] at h;rw[← h]
         rw[hE4] at hres;have hg:=hSt.out.good;have hO:=hSt.out.out;have hHH:=hSt.out.h;have hbl:=hSt.out.below;replace hO:=LH hO;replace hHH:=LH hHH;replace hbl:=LH hbl;replace hg:=LH hg;clear hE4 hE2 hSt hR0 hvl;go_wp2;have hns:n+1<wr.heap.size:=heap_lt hHH.out
         go_loopw [75] (fun i wr=>∃ k:Nat,k≤32∧i=.int .i64 k∧Below n w wr∧n+1<wr.heap.size∧Hid (Arr wr n 124 (hashL H2 k))∧Hid (ArrN wr (n+1) 81 H2))
          (fun i _=>32 - (intOf i).toNat)
         case atStart=>exact⟨0,by omega,rfl,hbl.out,hns,(by rw[hashL_zero];exact hO.out:Arr _ _ _ _),hHH.out⟩
         case round=>
          clear hO hHH hbl hns;obtain⟨k,hk,rfl,hbr,hs,HA,HH⟩:=hrel;replace hbr:=LH hbr;by_cases hlt32:k<32
          ·obtain⟨j,hj⟩:∃ j,j=k / 4:=⟨_,rfl⟩;have hj1:(k:Int) / 4=j:=by omega
           have hj2:(k:Int).tdiv 4=j:=by rw[Int.tdiv_eq_ediv_of_nonneg (by omega)];exact hj1
           have hj8:j<8:=by omega
           obtain⟨q,hq⟩:∃ q,q=k % 4:=⟨_,rfl⟩;have hq1:(k:Int) % 4=q:=by omega
           have hq2:(k:Int).tmod 4=q:=by rw[Int.tmod_eq_emod_of_nonneg (by omega)];exact hq1
           have hq4:q<4:=by omega
           obtain⟨sh,hsh⟩:∃ s,s=24 - 8*q:=⟨_,rfl⟩;have hsh1:(24:Int) - 8*(q:Int)=sh:=by omega
           have hsh2:sh≤24:=by omega
           have hmin:min sh 32=sh:=by omega
           obtain⟨W,hW⟩:∃ W,W=H2.getD j 0:=⟨_,rfl⟩;have hWl:W<4294967296:=hW ▸ hg.out.2 j;obtain⟨C,hC⟩:∃ C,C=hashB H2 k:=⟨_,rfl⟩
           have hCn:(W:Int) / 2 ^ sh % 256=(C.toNat:Int):=by
            rw[hC,hashB,← hj,← hq,← hW,← hsh,byte_toNat (by omega)];simp
           have cW:=HH.out.cell j (by rw[hg.out.1];exact hj8);rw[← hW] at cW;have f0:=HA.out.frozen k;have c0:=HA.out.cell k (by rw[hashL_length];exact hlt32);have hset:=HA.out.set k C;rw[show (hashL H2 k).set k C=hashL H2 (k+1) by rw[hashL_succ,hC]] at hset;replace hset:=LH hset;replace hsh:=LH hsh;clear hC hW hj hq;go_wp2;go_roundw
           case rel=>
            refine⟨k+1,by omega,by go_num,hbr.out.setCell (p:=⟨n,k,none⟩) (Nat.le_refl n) _,by simpa using hs,hset.out,?_⟩;exact HH.out.keep (setCell_heap_ne _ _ _ (by simp))
           case measure=>simp[intOf];omega
          ·have hk32:k=32:=by omega
           rw[hk32] at HA;clear hk32;rw[← hres.out] at HA;obtain⟨O,hO⟩:∃ O,O=sha parts:=⟨_,rfl⟩;rw[← hO] at HA;have hOl:O.length=32:=hO ▸ sha_length;have hsz:(prog.info? 124).map (·.size)=some O.length:=by rw[hOl];kernel_rfl
           have hld:=LH (run_loadAt_arr (P:=prog) HA.out underlying124 hsz);have hst:=LH (run_storeAt_arr (P:=prog) HA.out hsz);replace hsz:=LH hsz;replace hO:=LH hO
           go_wp2_with (first|(refine wpList_load rfl 124 _ rfl _ _ rfl hld.out ?_)|(refine wpList_store rfl 124 _ _ rfl _ _ rfl rfl hst.out ?_))
           refine bodyPost_ret (results_cell_row results73 _ _ n 124 _ (0,0) _ rfl HA.out underlying124 rfl (by rw[hsz.out];simp[u8s_length])) rfl ⟨by rw[hO.out],HN.out ▸ hbr.out⟩
    ·have e56:((q:Int) != 56)=true:=by simp;omega
     obtain⟨f',rfl⟩:∃ f',f=f'+1:=⟨f - 1,by have:=hq.out;omega⟩
     have hP2:padF f' (R2++[0])=PT:=by
      have h:=hP.out;rw[padF_succ,if_neg (by have:=hq.out;omega)] at h;exact h
     obtain⟨v',w3,hrun,hS3⟩:=hSt.out.push 0 (by omega);have hrun2:(Builtin.append_ #[22,22] 22 #[.slice ra L2 rcap,.slice (some ⟨wr.heap.size,0,none⟩) 1 1]).run prog (wr.alloc (.cells #[.int .u8 0] 5))=.ok v' w3:=hrun
     have hvl2:vlen v'=L2+1:=by
      obtain⟨a,c,rfl,_⟩:=hS3.rest.shape;simp[vlen,hL2]
     obtain⟨R3,hR3⟩:∃ R,R=R2++[0]:=⟨_,rfl⟩;have hR3l:R3.length=L2+1:=by rw[hR3,hL2];simp
     rw[← hR3] at hP2 hS3;replace hrun2:=LH hrun2;replace hS3:=LH hS3;replace hvl2:=LH hvl2;replace hP2:=LH hP2;replace hR3l:=LH hR3l;replace hL2:=LH hL2;clear hrun hR3 hP hvl
     go_wp2_with (at_builtin;(refine wpList_app rfl _ _ 22 rfl _ _ _ rfl rfl hrun2.out ?_))
     go_roundw
     case rel=>exact⟨f',R3,by have:=hR3l.out;have:=hq.out;omega,by have:=hR3l.out;omega,by omega,by rw[hvl2.out,hR3l.out],hP2.out,hS3.out⟩
     case measure=>
      rw[hvl2.out];simp only[vlen];have:=hq.out;omega
end Go.Proofs.YtbgfdbidbjlaaaaGreat.Fd

/-
  sha: a block is mixed in. No condition beyond what each theorem names.
-/
import Derived.Test.YthmcbgidehjlbaaGreatRmWordPk
namespace Go.Proofs.YthmcbgidehjlbaaGreat.Fd
open _root_.Go.Proofs.Tryz
open Go Go.RowKit K
set_option maxRecDepth 100000
set_option maxHeartbeats 8000000
def eS1 (e:Nat):Nat:=rot32 e 26 ^^^ rot32 e 21 ^^^ rot32 e 7
def aS0 (a:Nat):Nat:=rot32 a 30 ^^^ rot32 a 19 ^^^ rot32 a 10
def chF (e f g:Nat):Nat:=(e &&& f) ^^^ ((4294967295 - e) &&& g)
def mjF (a b c:Nat):Nat:=(a &&& b) ^^^ (a &&& c) ^^^ (b &&& c)
def t1F (e f g k K W:Nat):Nat:=((((k+eS1 e) % 4294967296+chF e f g) % 4294967296+K) % 4294967296+W) % 4294967296
def t2F (a b c:Nat):Nat:=(aS0 a+mjF a b c) % 4294967296
def rndL (K W:Nat):List Nat→List Nat
 | [a,b,c,d,e,f,g,k]=>[(t1F e f g k K W+t2F a b c) % 4294967296,a,b,c,(d+t1F e f g k K W) % 4294967296,e,f,g]
 | l=>l
def mixS (h ws:List Nat):Nat→List Nat
 | 0=>h
 | i+1=>rndL (allL.getD i 0) (ws.getD i 0) (mixS h ws i)
def sumL (h l:List Nat):Nat→List Nat
 | 0=>h
 | k+1=>(sumL h l k).set k ((h.getD k 0+l.getD k 0) % 4294967296)
theorem sumL_length {h l:List Nat}{k:Nat}:(sumL h l k).length=h.length:=by
 induction k with
 | zero=>rfl
 | succ k ih=>exact List.length_set.trans ih
theorem sumL_get {h l:List Nat}{k i:Nat}(hk:k≤i):(sumL h l k).getD i 0=h.getD i 0:=by
 induction k with
 | zero=>rfl
 | succ k ih=>rw[sumL,List.getD,List.getElem?_set_ne (by omega),← List.getD,ih (by omega)]
def mixL (h:List Nat) (b:List UInt8):List Nat:=sumL h (mixS h (wL b 64) 64) 8
theorem mixL_length {h:List Nat}{b:List UInt8}(hh:h.length=8):(mixL h b).length=8:=sumL_length.trans hh
theorem sumL_lt {h l:List Nat}(hh:∀ j,h.getD j 0<4294967296):∀ {k j:Nat},(sumL h l k).getD j 0<4294967296:=by
 intro k
 induction k with
 | zero=>intro j;exact hh j
 | succ k ih=>intro j;exact getD_set_lt (fun j=>ih) (Nat.mod_lt _ (by omega))
theorem mixL_lt {h:List Nat}{b:List UInt8}(hh:∀ j,h.getD j 0<4294967296) (j:Nat):(mixL h b).getD j 0<4294967296:=sumL_lt hh
theorem map_lt (l:List Nat) (f:Nat→Nat) (hf:∀ p,f p<4294967296) (j:Nat):(l.map f).getD j 0<4294967296:=by
 simp only[List.getD,List.getElem?_map];cases l[j]? with
 | none=>simp
 | some p=>exact hf p
theorem allL_lt (j:Nat):allL.getD j 0<4294967296:=by
 rw[allL];exact map_lt _ _ (fun p=>root_lt) j
theorem startL_lt (j:Nat):startL.getD j 0<4294967296:=by
 rw[startL];exact map_lt _ _ (fun p=>root_lt) j
theorem eight (l:List Nat) (h:l.length=8):∃ a b c d e f g k,l=[a,b,c,d,e,f,g,k]:=by
 match l,h with
 | [a,b,c,d,e,f,g,k],_=>exact⟨a,b,c,d,e,f,g,k,rfl⟩
theorem summer_cell {w:World}{p:Nat}(h:SummerAt w p) (i:Nat) (hi:i<64):w.cell? ⟨p,8+i,none⟩=some (.int .u32 (allL.getD i 0:Nat)):=by
 rw[ArrN.cell h _ (by rw[List.length_append,startL_length,allL_length];omega)];congr 3;simp only[List.getD];rw[List.getElem?_append_right (by rw[startL_length];omega),startL_length,Nat.add_sub_cancel_left]
theorem not32 {E:Nat}(h:E<4294967296):4294967295 ^^^ E=4294967295 - E:=by
 have h2:E<2 ^ 32:=h;have e:4294967295 - E=2 ^ 32 - (E+1):=by omega
 rw[e];apply Nat.eq_of_testBit_eq;intro i;rw[Nat.testBit_xor,Nat.testBit_two_pow_sub_succ h2 i];have e2:Nat.testBit 4294967295 i=decide (i<32):=Nat.testBit_two_pow_sub_one 32 i;rw[e2];by_cases hi:i<32
 ·simp[hi]
 ·have h3:E<2 ^ i:=Nat.lt_of_lt_of_le h2 (Nat.pow_le_pow_right (Nat.succ_pos 1) (Nat.le_of_not_lt hi));rw[Nat.testBit_lt_two_pow h3];simp[hi]
theorem not32i {E p:Nat}(h:E<4294967296) (hp:p=4294967295 - E):bits BinOp.xor IntKind.u32 (if IntKind.u32.signed=true then -1 else IntKind.u32.max) (E:Int)=(p:Int):=by
 have h2:=u32_xor_nat 4294967295 E (by omega) h;rw[not32 h,← hp] at h2;exact h2
theorem run_lit8 (w:World) (a b c d e f g k:Int):(Instr.buildSlice 292 8 #[(0,.int .u32 a),(1,.int .u32 b),(2,.int .u32 c),(3,.int .u32 d),(4,.int .u32 e),(5,.int .u32 f),(6,.int .u32 g),(7,.int .u32 k)]).run prog w=
  .ok (.slice (some ⟨w.heap.size,0,none⟩) 8 8) (w.alloc (.cells #[.int .u32 a,.int .u32 b,.int .u32 c,.int .u32 d,.int .u32 e,.int .u32 f,.int .u32 g,.int .u32 k] 244)):=by go_simp
theorem mixS_zero {h ws:List Nat}:mixS h ws 0=h:=rfl
theorem mixS_succ {h ws:List Nat}{i:Nat}:mixS h ws (i+1)=rndL (allL.getD i 0) (ws.getD i 0) (mixS h ws i):=rfl
theorem sumL_zero {h l:List Nat}:sumL h l 0=h:=rfl
theorem sumL_succ {h l:List Nat}{k:Nat}:sumL h l (k+1)=(sumL h l k).set k ((h.getD k 0+l.getD k 0) % 4294967296):=rfl
attribute [irreducible] mixS sumL
theorem mix_ok {w:World}{p:Nat}(hS:SummerAt w p){S:Nat→Prop}{v:Value}{b:List UInt8}(hb:Bytes w S v b) (hl:b.length=64) (h:List Nat) (hh:h.length=8) (hlt:∀ j,h.getD j 0<4294967296):
  Calls prog 194 #[.pointer (some ⟨p,0,none⟩),.agg (n32s h).toArray,v] w fun e w'=>e=.returned (.agg (n32s (mixL h b)).toArray)∧Below w.heap.size w w':=by
 obtain⟨n,hn⟩:∃ n,n=w.heap.size:=⟨_,rfl⟩;have HN:=LH hn;have hw:=fun (w1:World) (h:Bytes w1 S v b)=>words_ok h hl
 obtain⟨WS,hWS⟩:∃ W,W=wL b 64:=⟨_,rfl⟩;have hWl:WS.length=64:=hWS ▸ wL_length;have hWt:∀ j,WS.getD j 0<4294967296:=fun j=>hWS ▸ wL_lt
 have hpl:=heap_lt hS;rw[← hWS] at hw;have hmix:mixL h b=sumL h (mixS h WS 64) 8:=by rw[mixL,hWS]
 obtain⟨V,hV⟩:∃ V,V=(n32s h).toArray:=⟨_,rfl⟩;rw[← hV];obtain⟨a0,b0,c0,d0,e0,f0,g0,k0,h8⟩:=eight h hh;obtain⟨wA,hwA⟩:∃ x,x=w.alloc (.cells V 313):=⟨_,rfl⟩;obtain⟨wC,hwC⟩:∃ x,x=wA.alloc (.cells (n32s (List.replicate 8 0)).toArray 313):=⟨_,rfl⟩;have sA:wA.heap.size=n+1:=by rw[hwA,hn];simp
 have bA:Below n w wA:=by rw[hwA,hn];exact (Below.refl _ _).alloc (Nat.le_refl _) _
 have bC:Below (n+1) wA wC:=by rw[hwC,← sA];exact (Below.refl _ _).alloc (Nat.le_refl _) _
 have xA:ArrN wA n 313 h:=by rw[hwA,hn];exact ArrN.of hV (heap_alloc_new w _)
 have xC:ArrN wC (n+1) 313 (List.replicate 8 0):=by rw[hwC,← sA];exact heap_alloc_new wA _
 have yA:ArrN wC n 313 h:=xA.keep (bC.block n (by omega));have bW:Below n w wC:=bA.trans (bC.mono (by omega));have sC:wC.heap.size=n+2:=by rw[hwC];simp[sA]
 have hbC:Bytes wC S v b:=hb.keep bW.size (fun g _ hg=>bW.block g (by omega));subst hwA;replace hwC:wC=(w.alloc (.cells V 313)).alloc (.cells #[.int .u32 0,.int .u32 0,.int .u32 0,.int .u32 0,.int .u32 0,.int .u32 0,.int .u32 0,.int .u32 0] 313):=hwC;subst hwC;replace hw:=LH (hw _ hbC);replace yA:=LH yA;replace xC:=LH xC;replace bW:=LH bW;replace hWS:=LH hWS;replace hWt:=LH hWt;replace hWl:=LH hWl;replace hmix:=LH hmix;replace hS:=LH hS;replace hlt:=LH hlt;replace hh:=LH hh;replace h8:=LH h8;replace hV:=LH hV;replace sC:=LH sC;clear sA bA bC xA hbC hb hn;go_enter func194,ntmps194
 go_wp2_with fail
 refine hw.out.mono ?_;rintro e w1 ⟨rfl,hb1⟩;rw[← HN.out];have hs1:=hb1.size;rw[sC.out] at hs1;have hA1:=yA.out.keep (hb1.block n (by rw[sC.out];omega));have hC1:=xC.out.keep (hb1.block (n+1) (by rw[sC.out];omega));have hB1:Below n w w1:=bW.out.trans (hb1.mono (by rw[sC.out];omega));obtain⟨wb,hwb⟩:∃ b,b=w1.heap.size:=⟨_,rfl⟩;have hD0:ArrN (w1.alloc (.cells (n32s (List.replicate 64 0)).toArray 314)) wb 314 (List.replicate 64 0):=by rw[hwb];exact heap_alloc_new w1 _
 have hst:=LH (run_storeAt_arrN (P:=prog) (ty:=314) (x:=WS) hD0 (size64 hWl.out) (by rw[hWl.out,List.length_replicate]));obtain⟨w2,hw2⟩:∃ w2,w2=(w1.alloc (.cells (n32s (List.replicate 64 0)).toArray 314)).setRow wb (n32s WS).toArray:=⟨_,rfl⟩;rw[← hw2] at hst;have hD2:ArrN w2 wb 314 WS:=hw2 ▸ hD0.setRow WS;have hA2:ArrN w2 n 313 h:=hw2 ▸ (hA1.keep (Below.heap_alloc _ _ _ (by omega))).keep (setRow_other _ _ _ _ (by omega));have hC2:ArrN w2 (n+1) 313 (List.replicate 8 0):=hw2 ▸ (hC1.keep (Below.heap_alloc _ _ _ (by omega))).keep (setRow_other _ _ _ _ (by omega));have hB2:Below n w w2:=hw2 ▸ below_setRow (hB1.alloc (by omega) _) (by omega) _;have hs2:wb<w2.heap.size:=heap_lt hD2;have hnb:n+1<wb:=by omega
 rw[hwb] at hst;replace hA2:=LH hA2;replace hC2:=LH hC2;replace hD2:=LH hD2;replace hB2:=LH hB2;replace hwb:=LH hwb;have c2:∀ j x,(n32s h)[j]?=some x→w2.cell? ⟨n,j,none⟩=some x:=fun j x hx=>by rw[cell_of hA2.out,← hx];simp
 rw[h8.out] at c2;have ca:=c2 0 _ rfl;have cb:=c2 1 _ rfl;have cc:=c2 2 _ rfl;have cd:=c2 3 _ rfl;have ce:=c2 4 _ rfl;have cf:=c2 5 _ rfl;have cg:=c2 6 _ rfl;have ck:=c2 7 _ rfl
 have hall:∀ x ∈ h,x<4294967296:=by
  intro x hx;obtain⟨j,hj⟩:=List.mem_iff_getElem?.1 hx;have:=hlt.out j;simp[List.getD,hj] at this;exact this
 rw[h8.out] at hall;have la:=hall a0 (by simp);have lb:=hall b0 (by simp);have lc:=hall c0 (by simp);have ld:=hall d0 (by simp);have le:=hall e0 (by simp);have lf:=hall f0 (by simp);have lg:=hall g0 (by simp);have lk:=hall k0 (by simp);replace ca:=LH ca;replace cb:=LH cb;replace cc:=LH cc;replace cd:=LH cd;replace ce:=LH ce;replace cf:=LH cf;replace cg:=LH cg;replace ck:=LH ck;clear c2 hall hb1 hA1 hC1 hB1 hD0 hw2 hs1
 go_wp2_with (refine wpList_store rfl 314 _ _ rfl _ _ rfl rfl hst.out ?_)
 rw[← hwb.out];have hn2:n<w2.heap.size:=by omega
 have hdr:∀ w3,Chg No w2.drew w3→Chg No w2 w3:=fun w3 h=>⟨h.os,h.tape,h.output,h.size,h.block⟩
 replace hdr:=LH hdr;refine RA.rt (Chg No) [1,1,1,1,1,1,1,1,1,1,1,1,1,1,1,1,1,1,1,1,1,1,1,1] [] (fun _=>True) trivial (fun _=>Chg.refl _ _) (fun _ _ _ h k=>h.trans k) (h:=?_);intro cx;refine RA.ik prog (n) (0) (h:=?_);refine RA.lk prog (.int .u32 a0) (hc:=fun w3 hp=>by exact ((hdr.out _ hp.1).cell (p:=⟨n,0,none⟩) hn2 id).trans ca.out) (h:=?_);refine RA.ik prog (n) (1) (h:=?_);refine RA.lk prog (.int .u32 b0) (hc:=fun w3 hp=>by exact ((hdr.out _ hp.1).cell (p:=⟨n,1,none⟩) hn2 id).trans cb.out) (h:=?_);refine RA.ik prog (n) (2) (h:=?_);refine RA.lk prog (.int .u32 c0) (hc:=fun w3 hp=>by exact ((hdr.out _ hp.1).cell (p:=⟨n,2,none⟩) hn2 id).trans cc.out) (h:=?_);refine RA.ik prog (n) (3) (h:=?_);refine RA.lk prog (.int .u32 d0) (hc:=fun w3 hp=>by exact ((hdr.out _ hp.1).cell (p:=⟨n,3,none⟩) hn2 id).trans cd.out) (h:=?_);refine RA.ik prog (n) (4) (h:=?_);refine RA.lk prog (.int .u32 e0) (hc:=fun w3 hp=>by exact ((hdr.out _ hp.1).cell (p:=⟨n,4,none⟩) hn2 id).trans ce.out) (h:=?_);refine RA.ik prog (n) (5) (h:=?_);refine RA.lk prog (.int .u32 f0) (hc:=fun w3 hp=>by exact ((hdr.out _ hp.1).cell (p:=⟨n,5,none⟩) hn2 id).trans cf.out) (h:=?_);refine RA.ik prog (n) (6) (h:=?_);refine RA.lk prog (.int .u32 g0) (hc:=fun w3 hp=>by exact ((hdr.out _ hp.1).cell (p:=⟨n,6,none⟩) hn2 id).trans cg.out) (h:=?_);refine RA.ik prog (n) (7) (h:=?_);refine RA.lk prog (.int .u32 k0) (hc:=fun w3 hp=>by exact ((hdr.out _ hp.1).cell (p:=⟨n,7,none⟩) hn2 id).trans ck.out) (h:=?_)
 repeat refine RA.qq (h:=?_)
 refine RA.RA.done rfl (fun w3 hR hF hH=>?_);clear hF hH;simp only[RA.put,List.foldr_cons,List.foldr_nil,cx,Act.put,List.setIfInBounds_toArray,List.set_cons_succ,List.set_cons_zero];have hR3:=Chg.no (hdr.out _ hR);have hA3:=hA2.out.keep (hR3.block n hn2);have hC3:=hC2.out.keep (hR3.block (n+1) (by omega));have hD3:=hD2.out.keep (hR3.block wb hs2);have hB3:Below n w w3:=hB2.out.trans (hR3.mono (by omega));have hs3:wb<w3.heap.size:=heap_lt hD3;replace hA3:=LH hA3;replace hC3:=LH hC3;replace hD3:=LH hD3;replace hB3:=LH hB3;clear hR3 hR hdr hA2 hC2 hD2 hB2 hs2 hst ca cb cc cd ce cf cg ck hw yA xC bW sC hn2;go_wp2
 go_loopw [8,9,10,11,12,13,14,15,41] (fun a b c d e f g k i wr=>∃ t:Nat,t≤64∧i=.int .i64 t∧∃ A B C D E F G K:Nat,(A<4294967296∧B<4294967296∧C<4294967296∧D<4294967296∧E<4294967296∧F<4294967296∧G<4294967296∧K<4294967296)∧
   a=.int .u32 A∧b=.int .u32 B∧c=.int .u32 C∧d=.int .u32 D∧e=.int .u32 E∧f=.int .u32 F∧g=.int .u32 G∧k=.int .u32 K∧Hid (mixS h WS t=[A,B,C,D,E,F,G,K])∧
   Below n w wr∧wb<wr.heap.size∧Hid (ArrN wr n 313 h)∧Hid (ArrN wr (n+1) 313 (List.replicate 8 0))∧Hid (ArrN wr wb 314 WS))
  (fun _ _ _ _ _ _ _ _ i _=>64 - (intOf i).toNat)
 case atStart=>exact⟨0,by omega,rfl,a0,b0,c0,d0,e0,f0,g0,k0,⟨la,lb,lc,ld,le,lf,lg,lk⟩,rfl,rfl,rfl,rfl,rfl,rfl,rfl,rfl,mixS_zero.trans h8.out,hB3.out,hs3,hA3.out,hC3.out,hD3.out⟩
 case round=>
  clear hA3 hC3 hD3 hB3 hs3 la lb lc ld le lf lg lk;obtain⟨t,ht,rfl,A,B,C,D,E,F,G,K,⟨lA,lB,lC,lD,lE,lF,lG,lK⟩,rfl,rfl,rfl,rfl,rfl,rfl,rfl,rfl,hm,hbr,hs,HA,HC,HD⟩:=hrel;by_cases hlt2:t<64
  ·obtain⟨e1,he1⟩:∃ x,x=rot32 E 26:=⟨_,rfl⟩;obtain⟨e2,he2⟩:∃ x,x=rot32 E 21:=⟨_,rfl⟩;obtain⟨e3,he3⟩:∃ x,x=rot32 E 7:=⟨_,rfl⟩;obtain⟨e4,he4⟩:∃ x,x=e1 ^^^ e2:=⟨_,rfl⟩;obtain⟨e5,he5⟩:∃ x,x=e4 ^^^ e3:=⟨_,rfl⟩;obtain⟨p1,hp1⟩:∃ x,x=E &&& F:=⟨_,rfl⟩;obtain⟨p2,hp2⟩:∃ x,x=4294967295 - E:=⟨_,rfl⟩;obtain⟨p3,hp3⟩:∃ x,x=p2 &&& G:=⟨_,rfl⟩;obtain⟨p4,hp4⟩:∃ x,x=p1 ^^^ p3:=⟨_,rfl⟩;obtain⟨u1,hu1⟩:∃ x,x=(K+e5) % 4294967296:=⟨_,rfl⟩;obtain⟨u2,hu2⟩:∃ x,x=(u1+p4) % 4294967296:=⟨_,rfl⟩;obtain⟨KK,hKK⟩:∃ x,x=allL.getD t 0:=⟨_,rfl⟩;obtain⟨u3,hu3⟩:∃ x,x=(u2+KK) % 4294967296:=⟨_,rfl⟩;obtain⟨WW,hWW⟩:∃ x,x=WS.getD t 0:=⟨_,rfl⟩;obtain⟨u4,hu4⟩:∃ x,x=(u3+WW) % 4294967296:=⟨_,rfl⟩;obtain⟨a1,ha1⟩:∃ x,x=rot32 A 30:=⟨_,rfl⟩;obtain⟨a2,ha2⟩:∃ x,x=rot32 A 19:=⟨_,rfl⟩;obtain⟨a3,ha3⟩:∃ x,x=rot32 A 10:=⟨_,rfl⟩;obtain⟨a4,ha4⟩:∃ x,x=a1 ^^^ a2:=⟨_,rfl⟩;obtain⟨a5,ha5⟩:∃ x,x=a4 ^^^ a3:=⟨_,rfl⟩;obtain⟨m1,hm1⟩:∃ x,x=A &&& B:=⟨_,rfl⟩;obtain⟨m2,hm2⟩:∃ x,x=A &&& C:=⟨_,rfl⟩;obtain⟨m3,hm3⟩:∃ x,x=m1 ^^^ m2:=⟨_,rfl⟩;obtain⟨m4,hm4⟩:∃ x,x=B &&& C:=⟨_,rfl⟩;obtain⟨m5,hm5⟩:∃ x,x=m3 ^^^ m4:=⟨_,rfl⟩;obtain⟨v9,hv9⟩:∃ x,x=(a5+m5) % 4294967296:=⟨_,rfl⟩;obtain⟨na,hna⟩:∃ x,x=(u4+v9) % 4294967296:=⟨_,rfl⟩;obtain⟨ne,hne⟩:∃ x,x=(D+u4) % 4294967296:=⟨_,rfl⟩;have le1:e1<4294967296:=he1 ▸ rot32_lt lE;have le2:e2<4294967296:=he2 ▸ rot32_lt lE;have le3:e3<4294967296:=he3 ▸ rot32_lt lE;have le4:e4<4294967296:=he4 ▸ xor32 le1 le2;have le5:e5<4294967296:=he5 ▸ xor32 le4 le3;have lp1:p1<4294967296:=hp1 ▸ Nat.lt_of_le_of_lt Nat.and_le_left lE;have lp2:p2<4294967296:=by omega
   have lp3:p3<4294967296:=hp3 ▸ Nat.lt_of_le_of_lt Nat.and_le_left lp2;have lp4:p4<4294967296:=hp4 ▸ xor32 lp1 lp3;have la1:a1<4294967296:=ha1 ▸ rot32_lt lA;have la2:a2<4294967296:=ha2 ▸ rot32_lt lA;have la3:a3<4294967296:=ha3 ▸ rot32_lt lA;have la4:a4<4294967296:=ha4 ▸ xor32 la1 la2;have la5:a5<4294967296:=ha5 ▸ xor32 la4 la3;have lm1:m1<4294967296:=hm1 ▸ Nat.lt_of_le_of_lt Nat.and_le_left lA;have lm2:m2<4294967296:=hm2 ▸ Nat.lt_of_le_of_lt Nat.and_le_left lA;have lm3:m3<4294967296:=hm3 ▸ xor32 lm1 lm2;have lm4:m4<4294967296:=hm4 ▸ Nat.lt_of_le_of_lt Nat.and_le_left lB;have lm5:m5<4294967296:=hm5 ▸ xor32 lm3 lm4;have lKK:KK<4294967296:=hKK ▸ allL_lt t;have lWW:WW<4294967296:=hWW ▸ hWt.out t;have lu1:u1<4294967296:=by omega
   have lu2:u2<4294967296:=by omega
   have lu3:u3<4294967296:=by omega
   have lu4:u4<4294967296:=by omega
   have lv9:v9<4294967296:=by omega
   have lna:na<4294967296:=by omega
   have lne:ne<4294967296:=by omega
   have be4:bits .xor .u32 (e1:Int) (e2:Int)=(e4:Int):=by rw[u32_xor_nat e1 e2 le1 le2,he4]
   have be5:bits .xor .u32 (e4:Int) (e3:Int)=(e5:Int):=by rw[u32_xor_nat e4 e3 le4 le3,he5]
   have bp4:bits .xor .u32 (p1:Int) (p3:Int)=(p4:Int):=by rw[u32_xor_nat p1 p3 lp1 lp3,hp4]
   have ba4:bits .xor .u32 (a1:Int) (a2:Int)=(a4:Int):=by rw[u32_xor_nat a1 a2 la1 la2,ha4]
   have ba5:bits .xor .u32 (a4:Int) (a3:Int)=(a5:Int):=by rw[u32_xor_nat a4 a3 la4 la3,ha5]
   have bm3:bits .xor .u32 (m1:Int) (m2:Int)=(m3:Int):=by rw[u32_xor_nat m1 m2 lm1 lm2,hm3]
   have bm5:bits .xor .u32 (m3:Int) (m4:Int)=(m5:Int):=by rw[u32_xor_nat m3 m4 lm3 lm4,hm5]
   have bp1:bits .and .u32 (E:Int) (F:Int)=(p1:Int):=by rw[u32_and_nat E F lE lF,hp1]
   have bp3:bits .and .u32 (p2:Int) (G:Int)=(p3:Int):=by rw[u32_and_nat p2 G lp2 lG,hp3]
   have bm1:bits .and .u32 (A:Int) (B:Int)=(m1:Int):=by rw[u32_and_nat A B lA lB,hm1]
   have bm2:bits .and .u32 (A:Int) (C:Int)=(m2:Int):=by rw[u32_and_nat A C lA lC,hm2]
   have bm4:bits .and .u32 (B:Int) (C:Int)=(m4:Int):=by rw[u32_and_nat B C lB lC,hm4]
   have sv9:((a5:Int)+(m5:Int)) % 4294967296=(v9:Int):=by omega
   have sna:((u4:Int)+(v9:Int)) % 4294967296=(na:Int):=by omega
   have sne:((D:Int)+(u4:Int)) % 4294967296=(ne:Int):=by omega
   have re1:=LH (fun w=>he1 ▸ rot32_ok E 26 (-6) lE (by omega) (.inr ⟨by omega,by omega⟩) w);have re2:=LH (fun w=>he2 ▸ rot32_ok E 21 (-11) lE (by omega) (.inr ⟨by omega,by omega⟩) w);have re3:=LH (fun w=>he3 ▸ rot32_ok E 7 (-25) lE (by omega) (.inr ⟨by omega,by omega⟩) w);have ra1:=LH (fun w=>ha1 ▸ rot32_ok A 30 (-2) lA (by omega) (.inr ⟨by omega,by omega⟩) w);have ra2:=LH (fun w=>ha2 ▸ rot32_ok A 19 (-13) lA (by omega) (.inr ⟨by omega,by omega⟩) w);have ra3:=LH (fun w=>ha3 ▸ rot32_ok A 10 (-22) lA (by omega) (.inr ⟨by omega,by omega⟩) w)
   have hnext:mixS h WS (t+1)=[na,A,B,C,ne,E,F,G]:=by
    rw[mixS_succ,hm.out,← hKK,← hWW];simp only[rndL,t1F,t2F,eS1,aS0,chF,mjF];rw[← he1,← he2,← he3,← he4,← he5,← hp1,← hp2,← hp3,← hp4,← hu1,← hu2,← hu3,← hu4,← ha1,← ha2,← ha3,← ha4,← ha5,← hm1,← hm2,← hm3,← hm4,← hm5,← hv9,← hna,← hne]
   have cK:=summer_cell (hS.out.keep (hbr.block p (by rw[HN.out];exact hpl))) t hlt2;have cW:=HD.out.cell t (by rw[hWl.out];exact hlt2);rw[← hKK] at cK;rw[← hWW] at cW;have hplr:p<wr.heap.size:=by have:=hbr.size;omega
   clear he1;clear he2;clear he3;clear he4;clear he5;clear hp1;replace hp2:=LH hp2;clear hp3;clear hp4;replace hu1:=LH hu1;replace hu2:=LH hu2;clear hKK;replace hu3:=LH hu3;clear hWW;replace hu4:=LH hu4;clear ha1;clear ha2;clear ha3;clear ha4;clear ha5;clear hm1;clear hm2;clear hm3;clear hm4;clear hm5;clear hv9;clear hna;clear hne;replace hnext:=LH hnext;replace cK:=LH cK;replace cW:=LH cW;replace hbr:=LH hbr;have hdr:∀ w3,Chg No wr.drew w3→Chg No wr w3:=fun w3 h=>⟨h.os,h.tape,h.output,h.size,h.block⟩
   replace hdr:=LH hdr
   go_wp2_with (first
    | ((with_reducible refine (re1.out _).mono ?_);rintro e w' ⟨rfl,rfl⟩)
    | ((with_reducible refine (re2.out _).mono ?_);rintro e w' ⟨rfl,rfl⟩)
    | ((with_reducible refine (re3.out _).mono ?_);rintro e w' ⟨rfl,rfl⟩))
   refine RA.rt (Chg No) [1,1,1,1,1,1,1,1,1,1,1,1,1,1,1,1,1,1,1,1,1,1,1,1] [] (fun _=>True) trivial (fun _=>Chg.refl _ _) (fun _ _ _ h k=>h.trans k) (h:=?_);intro cx
   repeat refine RA.qq (h:=?_)
   refine RA.vk prog (.int .u32 u1) (hr:=fun w hp=>by (try go_simp);rw[hu1.out,IntKind.wrap_u32'];omega) (h:=?_)
   repeat refine RA.qq (h:=?_)
   refine RA.vk prog (.int .u32 p1) (h:=?_)
   repeat refine RA.qq (h:=?_)
   refine RA.vk prog (.int .u32 p2) (hr:=fun w hp=>by (try go_simp);exact not32i lE hp2.out) (h:=?_)
   repeat refine RA.qq (h:=?_)
   refine RA.vk prog (.int .u32 p3) (h:=?_);refine RA.vk prog (.int .u32 p4) (h:=?_);refine RA.vk prog (.int .u32 u2) (hr:=fun w hp=>by (try go_simp);rw[hu2.out,IntKind.wrap_u32'];omega) (h:=?_)
   repeat refine RA.qq (h:=?_)
   refine RA.fk prog (p) (8) (h:=?_);refine RA.ik prog (p) (8+t) (h:=?_);refine RA.lk prog (.int .u32 KK) (hc:=fun w3 hp=>by exact ((hdr.out _ hp.1).cell (p:=⟨p,8+t,none⟩) hplr id).trans cK.out) (h:=?_);refine RA.vk prog (.int .u32 u3) (hr:=fun w hp=>by (try go_simp);rw[hu3.out,IntKind.wrap_u32'];omega) (h:=?_)
   repeat refine RA.qq (h:=?_)
   refine RA.ik prog (wb) (t) (h:=?_);refine RA.lk prog (.int .u32 WW) (hc:=fun w3 hp=>by exact ((hdr.out _ hp.1).cell (p:=⟨wb,t,none⟩) hs id).trans cW.out) (h:=?_);refine RA.vk prog (.int .u32 u4) (hr:=fun w hp=>by (try go_simp);rw[hu4.out,IntKind.wrap_u32'];omega) (h:=?_)
   repeat refine RA.qq (h:=?_)
   refine RA.RA.done rfl (fun w3 hR hF hH=>?_);clear hF hH;simp only[RA.put,List.foldr_cons,List.foldr_nil,cx,Act.put,List.setIfInBounds_toArray,List.set_cons_succ,List.set_cons_zero];have hR3:=Chg.no (hdr.out _ hR);have hA3:=HA.out.keep (hR3.block n (by omega));have hC3:=HC.out.keep (hR3.block (n+1) (by omega));have hD3:=HD.out.keep (hR3.block wb hs);have hB3:Below n w w3:=hbr.out.trans (hR3.mono (by omega));have hs3:wb<w3.heap.size:=heap_lt hD3;replace hA3:=LH hA3;replace hC3:=LH hC3;replace hD3:=LH hD3;replace hB3:=LH hB3;clear hR3 hR hdr HA HC HD hbr hs cK cW re1 re2 re3
   go_wp2_with (first
    | ((with_reducible refine (ra1.out _).mono ?_);rintro e w' ⟨rfl,rfl⟩)
    | ((with_reducible refine (ra2.out _).mono ?_);rintro e w' ⟨rfl,rfl⟩)
    | ((with_reducible refine (ra3.out _).mono ?_);rintro e w' ⟨rfl,rfl⟩))
   go_roundw
   case rel=>exact⟨t+1,by omega,by go_num,na,A,B,C,ne,E,F,G,⟨lna,lA,lB,lC,lne,lE,lF,lG⟩,(by first|rfl|rw[sna]|rw[sv9,sna]),rfl,rfl,rfl,(by first|rfl|rw[sne]),rfl,rfl,rfl,hnext.out,hB3.out,hs3,hA3.out,hC3.out,hD3.out⟩
   case measure=>simp[intOf];omega
  ·have ht6:t=64:=by omega
   rw[ht6] at hm;clear ht6;obtain⟨M,hM⟩:∃ M,M=mixS h WS 64:=⟨_,rfl⟩;rw[← hM] at hm;have hmL:mixL h b=sumL h M 8:=by rw[hmix.out,hM]
   have hl8:=LH (fun w=>run_lit8 w (A:Int) B C D E F G K);replace hM:=LH hM;replace hmL:=LH hmL;replace hbr:=LH hbr;go_wp2;obtain⟨sb,hsb⟩:∃ b,b=wr.heap.size:=⟨_,rfl⟩;rw[← hsb];obtain⟨wq0,hwq⟩:∃ x,x=wr.alloc (.cells #[.int .u32 (A:Int),.int .u32 (B:Int),.int .u32 (C:Int),.int .u32 (D:Int),.int .u32 (E:Int),.int .u32 (F:Int),.int .u32 (G:Int),.int .u32 (K:Int)] 244):=⟨_,rfl⟩;rw[← hwq]
   have hE0:ArrN wq0 sb 244 M:=by
    rw[hwq,hsb,hm];exact heap_alloc_new wr _
   have hA0:ArrN wq0 n 313 h:=hwq ▸ HA.out.keep (Below.heap_alloc _ _ _ (by omega));have hC0:ArrN wq0 (n+1) 313 (List.replicate 8 0):=hwq ▸ HC.out.keep (Below.heap_alloc _ _ _ (by omega));have hB0:Below n w wq0:=hwq ▸ hbr.out.alloc (by omega) _;have hMl:M.length=8:=by rw[hm];rfl
   have hMt:∀ j,M.getD j 0<4294967296:=by
    intro j;rw[hm]
    match j with
    | 0=>exact lA
    | 1=>exact lB
    | 2=>exact lC
    | 3=>exact lD
    | 4=>exact lE
    | 5=>exact lF
    | 6=>exact lG
    | 7=>exact lK
    | j+8=>simp
   have hnsb:n+1<sb:=by omega
   have hs0:sb<wq0.heap.size:=heap_lt hE0;replace hE0:=LH hE0;replace hA0:=LH hA0;replace hC0:=LH hC0;replace hB0:=LH hB0;replace hMt:=LH hMt;replace hMl:=LH hMl;clear hwq hsb HA HC HD hbr hs hm hl8 hlt2 ht;generalize decide ((t:Int)<64)=dd;generalize Value.int .i64 (t:Int)=kk
   go_loopw [119] (fun i wr=>∃ k:Nat,k≤8∧i=.int .i64 k∧Below n w wr∧sb<wr.heap.size∧Hid (ArrN wr n 313 (sumL h M k))∧Hid (ArrN wr (n+1) 313 (List.replicate 8 0))∧Hid (ArrN wr sb 244 M))
    (fun i _=>8 - (intOf i).toNat)
   case atStart=>exact⟨0,by omega,rfl,hB0.out,hs0,(by rw[sumL_zero];exact hA0.out:ArrN _ _ _ _),hC0.out,hE0.out⟩
   case round=>
    clear hE0 hA0 hC0 hB0 hs0;obtain⟨k,hk,rfl,hbr,hs,HA,HC,HE⟩:=hrel;replace hbr:=LH hbr;by_cases hlt3:k<8
    ·obtain⟨X,hX⟩:∃ X,X=h.getD k 0:=⟨_,rfl⟩;obtain⟨Y,hY⟩:∃ Y,Y=M.getD k 0:=⟨_,rfl⟩;obtain⟨Z,hZ⟩:∃ Z,Z=(X+Y) % 4294967296:=⟨_,rfl⟩;have lX:X<4294967296:=hX ▸ hlt.out k;have lY:Y<4294967296:=hY ▸ hMt.out k;have sZ:((X:Int)+(Y:Int)) % 4294967296=(Z:Int):=by omega
     have cX:=HA.out.cell k (by rw[sumL_length,hh.out];exact hlt3);rw[sumL_get (Nat.le_refl k),← hX] at cX;have cY:=HE.out.cell k (by rw[hMl.out];exact hlt3);rw[← hY] at cY;have f0:=HA.out.frozen k;have hset:=HA.out.set k Z;have hnx:sumL h M (k+1)=(sumL h M k).set k Z:=by rw[sumL_succ,← hX,← hY,← hZ]
     rw[← hnx] at hset;replace hset:=LH hset;clear hX hY hZ hnx;go_wp2;go_roundw
     case rel=>
      refine⟨k+1,by omega,by go_num,hbr.out.setCell (p:=⟨n,k,none⟩) (Nat.le_refl n) _,by simpa using hs,hset.out,?_,?_⟩
      ·exact HC.out.keep (setCell_heap_ne _ _ _ (by simp))
      ·exact HE.out.keep (setCell_heap_ne _ _ _ (by simp;omega))
     case measure=>simp[intOf];omega
    ·have hk8:k=8:=by omega
     rw[hk8,← hmL.out] at HA;clear hk8;obtain⟨R,hR⟩:∃ R,R=mixL h b:=⟨_,rfl⟩;rw[← hR] at HA;have hRl:R.length=8:=hR ▸ mixL_length hh.out;have hld:=LH (run_loadAt_arrN (P:=prog) HA.out underlying313 (size8 hRl));have hst:=LH (run_storeAt_arrN (P:=prog) (ty:=313) (x:=R) HC.out (size8 hRl) (by rw[hRl,List.length_replicate]));have hfin:=LH (HC.out.setRow R);have hi:=LH (size8 hRl);have hBf:=LH (below_setRow hbr.out (show n≤n+1 by omega) (n32s R).toArray);replace hR:=LH hR
     go_wp2_with (first|(refine wpList_load rfl 313 _ rfl _ _ rfl hld.out ?_)|(refine wpList_store rfl 313 _ _ rfl _ _ rfl rfl hst.out ?_))
     refine bodyPost_ret (results_cell_row results194 _ _ (n+1) 313 _ (0,0) _ rfl hfin.out underlying313 rfl (by rw[hi.out];simp[n32s_length])) rfl ⟨by rw[hR.out],HN.out ▸ hBf.out⟩
end Go.Proofs.YthmcbgidehjlbaaGreat.Fd

/-
  The document's own sum. No condition beyond what each theorem names.
-/
import Derived.Test.YtbgfdbidbjlaaaaGreatSaQHash
import Derived.Test.YtbgfdbidbjlaaaaGreatSaMixPk
import Derived.Deep.LoopGhost
namespace Go.Proofs.YtbgfdbidbjlaaaaGreat.Fd
open _root_.Go.Proofs.Tryz
open Go Go.RowKit K
set_option maxRecDepth 100000
set_option maxHeartbeats 40000000
def padQ (b:List UInt8):List UInt8:=padF 64 (b++[128])
def msgQ (b:List UInt8):List UInt8:=lenL (padQ b) b.length 8
def eatC (M:List UInt8):Nat→List Nat
 | 0=>startL
 | k+1=>mixL (eatC M k) ((M.drop (64*k)).take 64)
theorem eatC_zero {M:List UInt8}:eatC M 0=startL:=rfl
theorem eatC_succ {M:List UInt8}{k:Nat}:eatC M (k+1)=mixL (eatC M k) ((M.drop (64*k)).take 64):=rfl
theorem eatC_good {M:List UInt8}:∀ k,good (eatC M k)
 | 0=>good_start
 | k+1=>good_mix (eatC_good k)
def sumQ (b:List UInt8):List UInt8:=hashL (eatC (msgQ b) ((msgQ b).length / 64)) 32
attribute [irreducible] eatC
theorem fits_le {a:Nat}(h:a≤1000000):a≤maxLen:=by unfold maxLen;omega
theorem padF_mod:∀ {f:Nat}{r:List UInt8},(∃ d,d≤f∧(r.length+d) % 64=56)→(padF f r).length % 64=56∧(padF f r).length≤r.length+f∧r.length≤(padF f r).length:=by
 intro f
 induction f with
 | zero=>
  rintro r ⟨d,hd,h⟩;obtain rfl:d=0:=by omega
  rw[padF_zero];exact⟨h,Nat.le_refl _,Nat.le_refl _⟩
 | succ f ih=>
  rintro r ⟨d,hd,h⟩;rw[padF_succ];split
  ·rename_i h2;exact⟨h2,by omega,Nat.le_refl _⟩
  ·rename_i h2;cases d with
   | zero=>exact absurd h h2
   | succ d=>
    have h3:=ih (r:=r++[0]) ⟨d,by omega,by rw[List.length_append,List.length_singleton];omega⟩;rw[List.length_append,List.length_singleton] at h3;exact⟨h3.1,by omega,by omega⟩
theorem padQ_mod (b:List UInt8):(padQ b).length % 64=56∧(padQ b).length≤b.length+65∧b.length<(padQ b).length:=by
 have h:=padF_mod (f:=64) (r:=b++[128]) ⟨(56+64 - (b.length+1) % 64) % 64,by omega,by rw[List.length_append,List.length_singleton];omega⟩;rw[List.length_append,List.length_singleton] at h;exact⟨h.1,by show (padF 64 _).length≤_;omega,by show _<(padF 64 _).length;omega⟩
structure QSt (w:World) (n hh:Nat) (va:Option Addr) (L c:Nat) (M:List UInt8) (H:List Nat) (x:World):Prop where
 below:Below n w x
 out:Arr x n 124 (List.replicate 32 0)
 msg:Cells x (fun g=>n+1≤g∧g<hh) (.slice va L c) L 1 (u8s M)
 h:ArrN x hh 81 H
theorem QSt.lt {w:World}{n hh:Nat}{va:Option Addr}{L c:Nat}{M:List UInt8}{H:List Nat}{x:World}(s:QSt w n hh va L c M H x):hh<x.heap.size:=heap_lt s.h
theorem QSt.after {w:World}{n hh:Nat}{va:Option Addr}{L c:Nat}{M:List UInt8}{H:List Nat}{x y:World}(s:QSt w n hh va L c M H x) (hn:n<hh) (hb:Below (hh+1) x y):QSt w n hh va L c M H y:=
 ⟨s.below.trans (hb.mono (by omega)),s.out.keep (hb.block n (by omega)),s.msg.keep hb.size (fun g h _=>hb.block g (by omega)),s.h.keep (hb.block hh (by omega))⟩
theorem QSt.set {w:World}{n hh:Nat}{va:Option Addr}{L c:Nat}{M:List UInt8}{H:List Nat}{x:World}(s:QSt w n hh va L c M H x) (hn:n<hh) (j y:Nat):QSt w n hh va L c M (H.set j y) (x.setCell ⟨hh,j,none⟩ (.int .u32 y)):=
 ⟨s.below.setCell (p:=⟨hh,j,none⟩) (Nat.le_of_lt hn) _,s.out.keep (setCell_heap_ne _ _ _ (by show n≠hh;omega)),s.msg.keep (by simp) (fun g h _=>setCell_heap_ne _ _ _ (by have h2:=h.2;show g≠hh;omega)),s.h.set j y⟩
theorem drop_take_getD {M:List UInt8}{k j:Nat}(hj:j<64):((M.drop (64*k)).take 64).getD j 0=M.getD (64*k+j) 0:=by
 simp only[List.getD,List.getElem?_take,hj,if_true,List.getElem?_drop]
theorem qSum_ok {w:World}{p:Nat}(hS:QHashAt w p){S:Nat→Prop}{v:Value}{b:List UInt8}(hb:Bytes w S v b) (hl:b.length≤5000):
  Calls prog 84 #[.pointer (some ⟨p,0,none⟩),v] w fun e w'=>e=.returned (.agg (u8s (sumQ b)).toArray)∧Below w.heap.size w w':=by
 obtain⟨n,hn⟩:∃ n,n=w.heap.size:=⟨_,rfl⟩;have HN:=LH hn;have hpl:=heap_lt hS;obtain⟨va,vc,rfl,hv1,hv2⟩:=hb.shape;unfold maxLen at hv2;obtain⟨w0,hw0⟩:∃ x,x=(w.alloc (.cells #[.int .u8 0,.int .u8 0,.int .u8 0,.int .u8 0,.int .u8 0,.int .u8 0,.int .u8 0,.int .u8 0,.int .u8 0,.int .u8 0,.int .u8 0,.int .u8 0,.int .u8 0,.int .u8 0,.int .u8 0,.int .u8 0,.int .u8 0,.int .u8 0,.int .u8 0,.int .u8 0,.int .u8 0,.int .u8 0,.int .u8 0,.int .u8 0,.int .u8 0,.int .u8 0,.int .u8 0,.int .u8 0,.int .u8 0,.int .u8 0,.int .u8 0,.int .u8 0] 124)).alloc (.cells #[] 5):=⟨_,rfl⟩;have h0:Arr (w.alloc (.cells #[.int .u8 0,.int .u8 0,.int .u8 0,.int .u8 0,.int .u8 0,.int .u8 0,.int .u8 0,.int .u8 0,.int .u8 0,.int .u8 0,.int .u8 0,.int .u8 0,.int .u8 0,.int .u8 0,.int .u8 0,.int .u8 0,.int .u8 0,.int .u8 0,.int .u8 0,.int .u8 0,.int .u8 0,.int .u8 0,.int .u8 0,.int .u8 0,.int .u8 0,.int .u8 0,.int .u8 0,.int .u8 0,.int .u8 0,.int .u8 0,.int .u8 0,.int .u8 0] 124)) n 124 (List.replicate 32 0):=by rw[hn];exact heap_alloc_new w _
 have s0:w0.heap.size=n+2:=by rw[hw0,hn];simp
 have H0:Arr w0 n 124 (List.replicate 32 0):=h0.keep (by rw[hw0];exact Below.heap_alloc _ _ _ (by rw[hn];simp));have B0:Below n w w0:=by rw[hw0,hn];exact ((Below.refl _ _).alloc (Nat.le_refl _) _).alloc (by simp) _
 have E0:w0.ownsRow (n+1) 5 1 (.slice (some ⟨n+1,0,none⟩) 0 0) 0 []:=by
  have h:=World.ownsRow_made (base:=n+1) (e:=5) (size:=1) (w.alloc (.cells #[.int .u8 0,.int .u8 0,.int .u8 0,.int .u8 0,.int .u8 0,.int .u8 0,.int .u8 0,.int .u8 0,.int .u8 0,.int .u8 0,.int .u8 0,.int .u8 0,.int .u8 0,.int .u8 0,.int .u8 0,.int .u8 0,.int .u8 0,.int .u8 0,.int .u8 0,.int .u8 0,.int .u8 0,.int .u8 0,.int .u8 0,.int .u8 0,.int .u8 0,.int .u8 0,.int .u8 0,.int .u8 0,.int .u8 0,.int .u8 0,.int .u8 0,.int .u8 0] 124)) #[] 0 (by rw[hn];simp) (by omega) rfl;rw[← hw0] at h
  simpa [← hn] using h
 have hb0:Bytes w0 S (.slice va b.length vc) b:=hb.keep (by rw[s0];omega) (fun g _ hg=>B0.block g (by omega));obtain⟨v1,w1,hrun1,r1,c1,o1⟩:=own_push (P:=prog) (bytes:=1) underlying22 infoByte rfl (by decide) E0 (by rw[s0];omega) (Chg.refl _ _) hb0 (u8s_one _) (fits_le (by omega)) (by omega) 22;simp only[List.nil_append,Nat.zero_add] at r1;obtain⟨w1b,hw1b⟩:∃ x,x=w1.alloc (.cells #[.int .u8 128] 5):=⟨_,rfl⟩
 have hu1:Cells w1b (fun _=>True) (.slice (some ⟨w1.heap.size,0,none⟩) 1 1) 1 1 (u8s [128]):=by
  rw[hw1b];exact lit_cells w1 #[.int .u8 128] 5 1 1 rfl (fits_le (by omega))
 have r1b:=r1.alloc (.cells #[.int .u8 128] 5);rw[← hw1b] at r1b;have hs1b:n+1≤w1b.heap.size:=by rw[hw1b];have:=c1.size;simp;omega
 obtain⟨v2,w2,hrun2,r2,c2,o2⟩:=own_push (P:=prog) (bytes:=1) underlying22 infoByte rfl (by decide) r1b hs1b (Chg.refl _ _) hu1 (u8s_one _) (fits_le (by omega)) (by omega) 22;rw[← u8s_append] at r2
 have hC12:Chg (fun g=>n+2≤g∨g=n+1) w0 w2:=by
  have e1:Chg (fun g=>n+2≤g∨g=n+1) w0 w1:=c1.mono (fun g _ h=>.inr (by simp[Value.ownBlock] at h;omega));have e2:Chg (fun g=>n+2≤g∨g=n+1) w1 w1b:=by rw[hw1b];exact (Chg.refl _ _).alloc _
  have e3:Chg (fun g=>n+2≤g∨g=n+1) w1b w2:=c2.mono (fun g _ h=>by have:=(r1b.lt g h).1;omega);exact (e1.trans e2).trans e3
 have H2:Arr w2 n 124 (List.replicate 32 0):=H0.keep (hC12.block n (by omega) (by omega));have B2:Below n w w2:=B0.trans (hC12.below (by omega) (by omega));obtain⟨P0,hP0⟩:∃ P,P=b++[128]:=⟨_,rfl⟩;have hP0l:P0.length=b.length+1:=by rw[hP0];simp
 have r2':w2.ownsRow (n+1) 5 1 v2 P0.length (u8s P0):=by rw[hP0l,hP0];exact r2
 obtain⟨bl,hbl⟩:∃ l,l=b.length:=⟨_,rfl⟩;have hres:sumQ b=hashL (eatC (msgQ b) ((msgQ b).length / 64)) 32:=rfl;have hpad:=padQ_mod b;have hmsg:msgQ b=lenL (padQ b) bl 8:=by rw[hbl];rfl
 have hpq:padF 64 P0=padQ b:=by rw[hP0];rfl
 obtain⟨PT,hPT⟩:∃ P,P=padQ b:=⟨_,rfl⟩;rw[← hPT] at hpad hmsg hpq;rw[← hbl] at hP0l hpad hl hv1 hrun1 ⊢;subst hw0;subst hw1b;have hs2:n+1≤w2.heap.size:=by have:=heap_lt H2;omega
 clear hC12 h0 s0 H0 B0 E0 hb0 r1 c1 o1 r1b hs1b hu1 r2 c2 o2 hb;rw[hn] at hrun1;replace hrun1:=LH hrun1;replace hrun2:=LH hrun2;replace r2':=LH r2';replace H2:=LH H2;replace B2:=LH B2;replace hP0:=LH hP0;replace hP0l:=LH hP0l;replace hpq:=LH hpq;replace hPT:=LH hPT;replace hmsg:=LH hmsg;replace hres:=LH hres;replace hbl:=LH hbl;replace hS:=LH hS;clear hn;go_enter func84,ntmps84
 go_wp2_with (at_builtin;first|(refine wpList_app rfl _ _ 22 rfl _ _ _ rfl rfl hrun1.out ?_)|(refine wpList_app rfl _ _ 22 rfl _ _ _ rfl rfl hrun2.out ?_))
 clear hrun1 hrun2;rw[← HN.out]
 go_loopg [5] 64 (fun f v wr=>∃ R:List UInt8,R.length+f≤bl+65∧Hid (padF f R=PT)∧Hid (wr.ownsRow (n+1) 5 1 v R.length (u8s R))∧Hid (Below n w wr)∧Hid (Arr wr n 124 (List.replicate 32 0)))
 case atStart=>exact⟨P0,by have:=hP0l.out;omega,hpq.out,r2'.out,B2.out,H2.out⟩
 case round=>
  clear r2' B2 H2 hs2 hpq;obtain⟨R,hR,hP,hO,hB,hH⟩:=hrel;obtain⟨ra,rcap,rfl,hr1,hr2⟩:=(Cells.own hO.out).shape;unfold maxLen at hr2;obtain⟨L,hL⟩:∃ L,L=R.length:=⟨_,rfl⟩;have hO':wr.ownsRow (n+1) 5 1 (.slice ra L rcap) L (u8s R):=by rw[hL];exact hO.out
  rw[← hL] at hr1 hR ⊢;obtain⟨q,hq⟩:∃ q,q=L % 64:=⟨_,rfl⟩;have hq1:(L:Int) % 64=q:=by omega
  have hq2:(L:Int).tmod 64=q:=by rw[Int.tmod_eq_emod_of_nonneg (by omega)];exact hq1
  have hns:n+1≤wr.heap.size:=by have:=heap_lt hH.out;omega
  replace hq:=LH hq;replace hO':=LH hO';clear hO;by_cases h56:q=56
  ·subst h56
   have hPR:R=PT:=by
    rw[← hP.out];cases gk with
    | zero=>rw[padF_zero]
    | succ f=>rw[padF_succ,if_pos (by rw[← hL];exact hq.out.symm)]
   replace hq1:(L:Int) % 64=56:=hq1;replace hq2:(L:Int).tmod 64=56:=hq2;subst hPR;clear hP hq1;replace hL:=LH hL;go_wp2
   go_loopg [5,6] 8 (fun g v i wr=>∃ (k:Nat) (R2:List UInt8),k+g=8∧i=.int .i64 (7 - (k:Int))∧R2.length=L+k∧Hid (lenL R bl k=R2)∧Hid (wr.ownsRow (n+1) 5 1 v R2.length (u8s R2))∧Hid (Below n w wr)∧Hid (Arr wr n 124 (List.replicate 32 0)))
   case atStart=>exact⟨0,R,by omega,rfl,hL.out.symm,lenL_zero,by rw[← hL.out];exact hO'.out,hB.out,hH.out⟩
   case round=>
    clear hO' hB hH;obtain⟨k,R2,hkg,rfl,hR2l,hlen,hO,hB,hH⟩:=hrel;obtain⟨ra,rcap,rfl,hr1,hr2⟩:=(Cells.own hO.out).shape;unfold maxLen at hr2;obtain⟨L2,hL2⟩:∃ L,L=R2.length:=⟨_,rfl⟩;have hO':wr.ownsRow (n+1) 5 1 (.slice ra L2 rcap) L2 (u8s R2):=by rw[hL2];exact hO.out
    rw[← hL2] at hr1 hR2l ⊢;have hns:n+1≤wr.heap.size:=by have:=heap_lt hH.out;omega
    replace hO':=LH hO';clear hO;by_cases h8:k<8
    ·obtain⟨g',rfl⟩:∃ j,gk=j+1:=⟨gk - 1,by omega⟩;obtain⟨i,hi⟩:∃ i,i=7 - k:=⟨_,rfl⟩;have hi1:(7:Int) - k=i:=by omega
     obtain⟨sh,hsh⟩:∃ s,s=8*i:=⟨_,rfl⟩;have hsh1:(8:Int)*i=sh:=by omega
     have hsh2:sh≤56:=by omega
     have hsh3:sh=56 - 8*k:=by omega
     have hmin:min sh 64=sh:=by omega
     obtain⟨T,hT⟩:∃ T,T=bl*8:=⟨_,rfl⟩;have hT1:(bl:Int)*8=T:=by omega
     have hTl:T<18446744073709551616:=by omega
     obtain⟨C,hC⟩:∃ C,C=lenB bl k:=⟨_,rfl⟩
     have hCn:(T:Int) / 2 ^ sh % 256=(C.toNat:Int):=by
      rw[hC,lenB,← hsh3,← hT,byte_toNat (by omega)];simp
     have hdv:((T / 2 ^ sh:Nat):Int)=(T:Int) / 2 ^ sh:=by simp
     have hP2:lenL R bl (k+1)=R2++[C]:=by rw[lenL_succ,hlen.out,hC]
     obtain⟨w3,hw3⟩:∃ x,x=wr.alloc (.cells #[.int .u8 C.toNat] 5):=⟨_,rfl⟩
     have hu:Cells w3 (fun _=>True) (.slice (some ⟨wr.heap.size,0,none⟩) 1 1) 1 1 (u8s [C]):=by
      rw[hw3];exact lit_cells wr #[.int .u8 C.toNat] 5 1 1 rfl (fits_le (by omega))
     have r3:=hO'.out.alloc (.cells #[.int .u8 C.toNat] 5);rw[← hw3] at r3;have hs3:n+1≤w3.heap.size:=by rw[hw3];simp;omega
     obtain⟨v',w4,hrun,r4,c4,_⟩:=own_push (P:=prog) (bytes:=1) underlying22 infoByte rfl (by decide) r3 hs3 (Chg.refl _ _) hu (u8s_one _) (fits_le (by omega)) (by omega) 22;rw[← u8s_append] at r4;have e3:Chg No wr w3:=by rw[hw3];exact (Chg.refl _ _).alloc _
     have c5:Chg (fun g=>n+1≤g) wr w4:=(e3.mono (fun _ _ h=>h.elim)).then c4 (fun g _ h=>(r3.lt g h).1);have hB4:Below n w w4:=hB.out.trans (c5.below (by omega) (by omega));have hH4:=hH.out.keep (c5.block n (by omega) (by omega));have hRl:(R2++[C]).length=L2+1:=by rw[List.length_append,hL2];rfl
     have r4':w4.ownsRow (n+1) 5 1 v' (R2++[C]).length (u8s (R2++[C])):=by rw[hRl];exact r4
     subst hw3;replace hrun:=LH hrun;replace r4':=LH r4';replace hB4:=LH hB4;replace hH4:=LH hH4;replace hP2:=LH hP2;replace hRl:=LH hRl;replace hL2:=LH hL2;replace hC:=LH hC;replace hi:=LH hi;replace hsh:=LH hsh;replace hsh3:=LH hsh3;replace hT:=LH hT;clear hO' hB hH hu r3 r4 c4 e3 c5 hs3 hlen hdv
     go_wp2_with (at_builtin;(refine wpList_app rfl _ _ 22 rfl _ _ _ rfl rfl hrun.out ?_))
     go_roundg g'
     case measure=>omega
     case rel=>exact⟨k+1,R2++[C],by omega,by go_num,by rw[hRl.out];omega,hP2.out,r4'.out,hB4.out,hH4.out⟩
    ·have hk8:k=8:=by omega
     have hneg:(7:Int) - k<0:=by omega
     have hMQ:R2=msgQ b:=by rw[hmsg.out,← hlen.out,hk8]
     have hMl:L2=L+8:=by omega
     have hM64:L2 % 64=0:=by rw[hMl];have:=hq.out;omega
     clear hlen hk8;have hg0:good startL:=good_start;have hsz:=heap_lt hH.out;have hplr:p<wr.heap.size:=by have:=hB.out.size;have:=HN.out;omega
     have hld:(Instr.loadAt 81 (.pointer (some ⟨p,0,none⟩))).run prog wr=.ok (.agg (n32s startL).toArray) wr:=by
      have hS3:=hS.out.keep (hB.out.block p (by rw[HN.out];exact hpl));refine run_loadAt_vals (x:=n32s startL) underlying81 (by rw[size8 hg0.1,n32s_length]) (fun j v hv=>?_);have hj:j<(n32s startL).length:=(List.getElem?_eq_some_iff.1 hv).1
      have e:(n32s (startL++allL)).toArray[j]?=(n32s startL)[j]?:=by
       rw[List.getElem?_toArray,show n32s (startL++allL)=n32s startL++n32s allL by simp[n32s],List.getElem?_append_left hj]
      rw[Nat.zero_add,cell_of hS3,e,hv]
     obtain⟨ST,hST⟩:∃ s,s=startL:=⟨_,rfl⟩;have hSTl:ST.length=8:=hST ▸ hg0.1;rw[← hST] at hld;obtain⟨hh,hhh⟩:∃ q,q=wr.heap.size:=⟨_,rfl⟩;have hx0:ArrN (wr.alloc (.cells (n32s (List.replicate 8 0)).toArray 81)) hh 81 (List.replicate 8 0):=by rw[hhh];exact heap_alloc_new wr _
     have hst:=run_storeAt_arrN (P:=prog) (ty:=81) (x:=ST) hx0 (size8 hSTl) (by rw[hSTl];exact List.length_replicate);obtain⟨w5,hw5⟩:∃ x,x=(wr.alloc (.cells (n32s (List.replicate 8 0)).toArray 81)).setRow hh (n32s ST).toArray:=⟨_,rfl⟩;rw[← hw5] at hst;have hX5:ArrN w5 hh 81 ST:=hw5 ▸ hx0.setRow ST
     have b5:Below hh wr w5:=by
      rw[hw5,hhh];exact below_setRow ((Below.refl _ _).alloc (Nat.le_refl _) _) (Nat.le_refl _) _
     have hB5:Below n w w5:=hB.out.trans (b5.mono (by omega));have hH5:=hH.out.keep (b5.block n (by omega))
     have hO5:Cells w5 (fun g=>n+1≤g∧g<hh) (.slice ra L2 rcap) L2 1 (u8s R2):=
      ((Cells.own hO'.out).mono (S':=fun g=>n+1≤g∧g<hh) (fun g hg h=>⟨h.2,by rw[hhh];exact hg⟩)).keep b5.size (fun g h _=>b5.block g h.2)
     have hhn:n+1≤hh:=by omega
     rw[hhh] at hst;replace hld:=LH hld;replace hst:=LH hst;replace hX5:=LH hX5;replace hB5:=LH hB5;replace hH5:=LH hH5;replace hO5:=LH hO5;replace hL2:=LH hL2;replace hMQ:=LH hMQ;replace hST:=LH hST;replace hw5:=LH hw5;replace hhh:=LH hhh;replace hR2l:=LH hR2l;replace hMl:=LH hMl;clear hO' hB hH hx0 b5 hns
     go_wp2_with (first|(refine wpList_load rfl 81 _ rfl _ _ rfl hld.out ?_)|(refine wpList_store rfl 81 _ _ rfl _ _ rfl rfl hst.out ?_))
     rw[← hhh.out];clear hld hst;obtain⟨N,hN⟩:∃ N,N=L2 / 64:=⟨_,rfl⟩;have hN64:L2=64*N:=by omega
     have hS5:QSt w n hh ra L2 rcap R2 startL w5:=⟨hB5.out,hH5.out,hO5.out,by rw[← hST.out];exact hX5.out⟩;replace hS5:=LH hS5;have hNs:N≤100:=by have:=hR2l.out;omega
     clear hB5 hH5 hO5 hX5 hg0 hM64 hMl hR2l hpad hl hv1 hv2;replace hN:=LH hN;replace hN64:=LH hN64
     go_loopg [8] N (fun g at' wr=>∃ k:Nat,k+g=N∧at'=.int .i64 (64*k:Nat)∧Hid (QSt w n hh ra L2 rcap R2 (eatC R2 k) wr))
     case atStart=>exact⟨0,by omega,rfl,by rw[eatC_zero];exact hS5.out⟩
     case round=>
      clear hS5;obtain⟨k,hkg,rfl,hQ⟩:=hrel;obtain⟨at',hat⟩:∃ a,a=64*k:=⟨_,rfl⟩;have hatS:at'≤10000:=by omega
      rw[← hat];by_cases hkN:k<N
      ·have hatL:at'<L2:=by have:=hN64.out;omega
       have hgd:=eatC_good (M:=R2) k;have hnx:=eatC_succ (M:=R2) (k:=k);obtain⟨H,hH⟩:∃ H,H=eatC R2 k:=⟨_,rfl⟩;rw[← hH] at hQ hgd hnx;obtain⟨CH,hCH⟩:∃ C,C=(R2.drop (64*k)).take 64:=⟨_,rfl⟩;rw[← hCH] at hnx;obtain⟨mg,mo,mc,hmv,_,_,hmS,hmg,hmcell⟩:=Cells.at hQ.out.msg (by have:=hN64.out;omega);simp only[Value.slice.injEq] at hmv;obtain⟨rfl,-,-⟩:=hmv
       have hbyte:∀ y,QSt w n hh (some ⟨mg,mo,none⟩) L2 rcap R2 H y→∀ j,j<64→y.cell? ⟨mg,mo+(at'+j),none⟩=some (.int .u8 (CH.getD j 0).toNat):=fun y hy j hj=>by
        obtain⟨mg2,mo2,mc2,hmv2,_,_,_,_,hmcell2⟩:=Cells.at hy.msg (by have:=hN64.out;omega);simp only[Value.slice.injEq,Option.some.injEq,Addr.mk.injEq] at hmv2;obtain⟨⟨rfl,rfl,-⟩,-,-⟩:=hmv2;have hlen:at'+j<R2.length:=by rw[← hL2.out];have:=hN64.out;omega
        rw[hmcell2 _ _ (u8s_get R2 (at'+j) hlen),hCH,drop_take_getD hj,← hat];simp[List.getD,hlen]
       obtain⟨g',rfl⟩:∃ j,gk=j+1:=⟨gk - 1,by omega⟩;have hlt:=hQ.out.lt;replace hbyte:=LH hbyte;replace hnx:=LH hnx;replace hH:=LH hH;replace hCH:=LH hCH;replace hgd:=LH hgd;replace hat:=LH hat;obtain⟨wb,hwb⟩:∃ q,q=wr.heap.size:=⟨_,rfl⟩;have hwbh:hh<wb:=by omega
       have hW0:ArrN (wr.alloc (.cells (n32s (List.replicate 64 0)).toArray 83)) wb 83 (wL CH 0):=by rw[hwb,show wL CH 0=List.replicate 64 0 by rw[wL]];exact heap_alloc_new wr _
       have hQ6:QSt w n hh (some ⟨mg,mo,none⟩) L2 rcap R2 H (wr.alloc (.cells (n32s (List.replicate 64 0)).toArray 83)):=hQ.out.after (by omega) ((Below.refl _ _).alloc (by omega) _);replace hwb:=LH hwb;replace hW0:=LH hW0;replace hQ6:=LH hQ6;clear hmcell hQ hmg hlt;go_wp2;rw[← hwb.out]
       go_loopg [10] 16 (fun g i wr=>∃ I:Nat,I+g=16∧i=.int .i64 I∧Hid (QSt w n hh (some ⟨mg,mo,none⟩) L2 rcap R2 H wr)∧Hid (ArrN wr wb 83 (wL CH I)))
       case atStart=>exact⟨0,by omega,rfl,hQ6.out,hW0.out⟩
       case round=>
        clear hQ6 hW0;obtain⟨I,hIg,rfl,hQ,hW⟩:=hrel;have hlt:=hQ.out.lt;have hwl:=heap_lt hW.out;by_cases hI16:I<16
        ·obtain⟨g2,rfl⟩:∃ j,gk=j+1:=⟨gk - 1,by omega⟩;obtain⟨q,hq⟩:∃ q,q=4*I:=⟨_,rfl⟩;have hq4:4*(I:Int)=q:=by omega
         obtain⟨q1,hq1⟩:∃ j,j=q+1:=⟨_,rfl⟩;obtain⟨q2,hq2⟩:∃ j,j=q+2:=⟨_,rfl⟩;obtain⟨q3,hq3⟩:∃ j,j=q+3:=⟨_,rfl⟩;obtain⟨p0,hp0⟩:∃ j,j=at'+q:=⟨_,rfl⟩;obtain⟨p1,hp1⟩:∃ j,j=at'+q1:=⟨_,rfl⟩;obtain⟨p2,hp2⟩:∃ j,j=at'+q2:=⟨_,rfl⟩;obtain⟨p3,hp3⟩:∃ j,j=at'+q3:=⟨_,rfl⟩;have hp0i:(at':Int)+q=p0:=by omega
         have hp1i:(p0:Int)+1=p1:=by omega
         have hp2i:(p0:Int)+2=p2:=by omega
         have hp3i:(p0:Int)+3=p3:=by omega
         have hatb:at'+64≤L2:=by have:=hat.out;have:=hN64.out;omega
         have lp0:p0<L2:=by omega
         have lp1:p1<L2:=by omega
         have lp2:p2<L2:=by omega
         have lp3:p3<L2:=by omega
         obtain⟨A,hA⟩:∃ A,A=(CH.getD q 0).toNat:=⟨_,rfl⟩;obtain⟨B,hB⟩:∃ B,B=(CH.getD q1 0).toNat:=⟨_,rfl⟩;obtain⟨C,hC⟩:∃ C,C=(CH.getD q2 0).toNat:=⟨_,rfl⟩;obtain⟨D,hD⟩:∃ D,D=(CH.getD q3 0).toNat:=⟨_,rfl⟩;have hcA:=hbyte.out _ hQ.out q (by omega);have hcB:=hbyte.out _ hQ.out q1 (by omega);have hcC:=hbyte.out _ hQ.out q2 (by omega);have hcD:=hbyte.out _ hQ.out q3 (by omega);rw[← hA,← hp0] at hcA;rw[← hB,← hp1] at hcB;rw[← hC,← hp2] at hcC;rw[← hD,← hp3] at hcD;have hAl:A<256:=hA ▸ UInt8.toNat_lt _;have hBl:B<256:=hB ▸ UInt8.toNat_lt _;have hCl:C<256:=hC ▸ UInt8.toNat_lt _;have hDl:D<256:=hD ▸ UInt8.toNat_lt _;have hkW:keyW CH I=w32 A B C D:=by rw[keyW,← hq,← hq1,← hq2,← hq3,← hA,← hB,← hC,← hD]
         clear hA hB hC hD hq1 hq2 hq3 hp0 hp1 hp2 hp3;obtain⟨X1,hX1⟩:∃ X,X=A*16777216:=⟨_,rfl⟩;obtain⟨X2,hX2⟩:∃ X,X=B*65536:=⟨_,rfl⟩;obtain⟨X3,hX3⟩:∃ X,X=X1+X2:=⟨_,rfl⟩;obtain⟨X4,hX4⟩:∃ X,X=C*256:=⟨_,rfl⟩;obtain⟨X5,hX5⟩:∃ X,X=X3+X4:=⟨_,rfl⟩;obtain⟨W,hWW⟩:∃ X,X=X5+D:=⟨_,rfl⟩;have ho1:bits .or .u32 (X1:Int) (X2:Int)=(X3:Int):=by rw[u32_or_nat X1 X2 (by omega) (by omega),nat_join 24 X1 X2 (by omega) (by omega),hX3]
         have ho2:bits .or .u32 (X3:Int) (X4:Int)=(X5:Int):=by rw[u32_or_nat X3 X4 (by omega) (by omega),nat_join 16 X3 X4 (by omega) (by omega),hX5]
         have ho3:bits .or .u32 (X5:Int) (D:Int)=(W:Int):=by rw[u32_or_nat X5 D (by omega) (by omega),nat_join 8 X5 D (by omega) (by omega),hWW]
         have hWl:W<4294967296:=by omega
         have hWe:keyW CH I=W:=by rw[hkW,w32];omega
         obtain⟨LL,hLL⟩:∃ L,L=wL CH I:=⟨_,rfl⟩;have hLLl:LL.length=64:=hLL ▸ wL_length;rw[← hLL] at hW;have hset:wL CH (I+1)=LL.set I W:=by rw[wL,if_pos hI16,hWe,hLL]
         have hdr:∀ w3,Chg No wr.drew w3→Chg No wr w3:=fun w3 h=>⟨h.os,h.tape,h.output,h.size,h.block⟩
         have hmgr:mg<wr.heap.size:=cell_lt hcA;replace hdr:=LH hdr;replace hset:=LH hset;clear hkW hWe;replace hLL:=LH hLL;replace hX1:=LH hX1;replace hX2:=LH hX2;replace hX3:=LH hX3;replace hX4:=LH hX4;replace hX5:=LH hX5;replace hWW:=LH hWW;replace hq:=LH hq;replace hcA:=LH hcA;replace hcB:=LH hcB;replace hcC:=LH hcC;replace hcD:=LH hcD;go_wp2;refine RA.rt (Chg No) [1,1,1,1,1,1,1,1,1,1,1,1,1,1,1,1,1,1,1,1,1,1,1,1,1,1,1,1,1,1,1,7] [31] (fun _=>True) (trivial) (fun _=>Chg.refl _ _) (fun _ _ _ h k=>h.trans k) (h:=?_);intro cx
         repeat refine RA.qq (h:=?_)
         refine RA.ik prog (mg) (mo+p0) (h:=?_);refine RA.lk prog (.int .u8 A) (hc:=fun w3 hp=>by exact ((hdr.out _ hp.1).cell (p:=⟨mg,mo+p0,none⟩) hmgr id).trans hcA.out) (h:=?_);refine RA.vw prog (.int .u32 A) (h:=?_);refine RA.vk prog (.int .u32 X1) (hr:=fun w hp=>by (try go_simp);rw[hX1.out,IntKind.wrap_u32'];omega) (h:=?_)
         repeat refine RA.qq (h:=?_)
         refine RA.ai (by kernel_rfl) (by rfl) (by rfl) (by rfl) ((p1:Int)) (hp1i) (by omega) ?_;refine RA.ik prog (mg) (mo+p1) (h:=?_);refine RA.lk prog (.int .u8 B) (hc:=fun w3 hp=>by exact ((hdr.out _ hp.1).cell (p:=⟨mg,mo+p1,none⟩) hmgr id).trans hcB.out) (h:=?_);refine RA.vw prog (.int .u32 B) (h:=?_);refine RA.vk prog (.int .u32 X2) (hr:=fun w hp=>by (try go_simp);rw[hX2.out,IntKind.wrap_u32'];omega) (h:=?_);refine RA.vk prog (.int .u32 X3) (h:=?_)
         repeat refine RA.qq (h:=?_)
         refine RA.ai (by kernel_rfl) (by rfl) (by rfl) (by rfl) ((p2:Int)) (hp2i) (by omega) ?_;refine RA.ik prog (mg) (mo+p2) (h:=?_);refine RA.lk prog (.int .u8 C) (hc:=fun w3 hp=>by exact ((hdr.out _ hp.1).cell (p:=⟨mg,mo+p2,none⟩) hmgr id).trans hcC.out) (h:=?_);refine RA.vw prog (.int .u32 C) (h:=?_);refine RA.vk prog (.int .u32 X4) (hr:=fun w hp=>by (try go_simp);rw[hX4.out,IntKind.wrap_u32'];omega) (h:=?_);refine RA.vk prog (.int .u32 X5) (h:=?_)
         repeat refine RA.qq (h:=?_)
         refine RA.ai (by kernel_rfl) (by rfl) (by rfl) (by rfl) ((p3:Int)) (hp3i) (by omega) ?_;refine RA.ik prog (mg) (mo+p3) (h:=?_);refine RA.lk prog (.int .u8 D) (hc:=fun w3 hp=>by exact ((hdr.out _ hp.1).cell (p:=⟨mg,mo+p3,none⟩) hmgr id).trans hcD.out) (h:=?_);refine RA.vw prog (.int .u32 D) (h:=?_);refine RA.vk prog (.int .u32 W) (h:=?_);refine RA.ik prog (wb) (I) (h:=?_);refine RA.stt (fun w4=>QSt w n hh (some ⟨mg,mo,none⟩) L2 rcap R2 H w4∧ArrN w4 wb 83 (LL.set I W)) (by rfl) (by rfl) (by kernel_rfl) (fun _ _ h k=>h ▸ k) (fun w3 hp _=>?_) ?_
         ·have hR:=hdr.out _ (hp.first (by kernel_rfl)).1;have A0:=hW.out.keep (hR.block wb hwl id);have f0:=A0.frozen I;have c0:=A0.cell I (by rw[hLLl];omega);have e:(Instr.storeAt 80 (.pointer (some ⟨wb,I,none⟩)) (.int .u32 (W:Int))).run prog w3=.ok () (w3.setCell ⟨wb,I,none⟩ (.int .u32 (W:Int))):=by go_simp
          exact⟨_,RA.ex_store (by rfl) (by rfl) e,hQ.out.after (by omega) (((Chg.no hR).mono (by omega)).setCell (p:=⟨wb,I,none⟩) (by show hh+1≤wb;omega) _),A0.set I W⟩
         refine RA.RA.doneT (fun w3 hH=>?_);simp only[RA.put,List.foldr_cons,List.foldr_nil,cx,Act.put,List.setIfInBounds_toArray,List.set_cons_succ,List.set_cons_zero];replace hH:=LH hH;go_wp2;go_roundg g2
         case measure=>omega
         case rel=>
          refine⟨I+1,by omega,by go_num,hH.out.1,?_⟩;show ArrN _ _ _ _;rw[hset.out];exact hH.out.2
        ·obtain rfl:I=16:=by omega
         clear hI16 hIg;go_wp2
         go_loopg [12,13,14] 48 (fun g i _ _ wr=>∃ I:Nat,I+g=64∧16≤I∧i=.int .i64 I∧Hid (QSt w n hh (some ⟨mg,mo,none⟩) L2 rcap R2 H wr)∧Hid (ArrN wr wb 83 (wL CH I)))
         case atStart=>exact⟨16,by omega,by omega,rfl,hQ.out,hW.out⟩
         case round=>
          clear hQ hW hlt hwl;obtain⟨I,hIg,hI16,rfl,hQ,hW⟩:=hrel;have hlt:=hQ.out.lt;have hs:=heap_lt hW.out;by_cases hI64:I<64
          ·obtain⟨g2,rfl⟩:∃ j,gk=j+1:=⟨gk - 1,by omega⟩;obtain⟨LL,hLL⟩:∃ L,L=wL CH I:=⟨_,rfl⟩;have hLLl:LL.length=64:=hLL ▸ wL_length;have hLt:∀ j,LL.getD j 0<4294967296:=fun j=>hLL ▸ wL_lt
           rw[← hLL] at hW;obtain⟨j15,hj15⟩:∃ j,j=I - 15:=⟨_,rfl⟩;obtain⟨j2,hj2⟩:∃ j,j=I - 2:=⟨_,rfl⟩;obtain⟨j16,hj16⟩:∃ j,j=I - 16:=⟨_,rfl⟩;obtain⟨j7,hj7⟩:∃ j,j=I - 7:=⟨_,rfl⟩;have h15:(I:Int) - 15=j15:=by omega
           have h2:(I:Int) - 2=j2:=by omega
           have h16:(I:Int) - 16=j16:=by omega
           have h7:(I:Int) - 7=j7:=by omega
           have l15:j15<64:=by omega
           have l2:j2<64:=by omega
           have l16:j16<64:=by omega
           have l7:j7<64:=by omega
           obtain⟨X,hX⟩:∃ X,X=LL.getD j15 0:=⟨_,rfl⟩;obtain⟨Y,hY⟩:∃ Y,Y=LL.getD j2 0:=⟨_,rfl⟩;obtain⟨U,hU⟩:∃ U,U=LL.getD j16 0:=⟨_,rfl⟩;obtain⟨V,hV⟩:∃ V,V=LL.getD j7 0:=⟨_,rfl⟩;have hXl:X<4294967296:=hX ▸ hLt _;have hYl:Y<4294967296:=hY ▸ hLt _;have hUl:U<4294967296:=hU ▸ hLt _;have hVl:V<4294967296:=hV ▸ hLt _;have cX:=hW.out.cell j15 (by omega);have cY:=hW.out.cell j2 (by omega);have cU:=hW.out.cell j16 (by omega);have cV:=hW.out.cell j7 (by omega);rw[← hX] at cX;rw[← hY] at cY;rw[← hU] at cU;rw[← hV] at cV;obtain⟨x1,hx1⟩:∃ x,x=rot32 X 25:=⟨_,rfl⟩;obtain⟨x2,hx2⟩:∃ x,x=rot32 X 14:=⟨_,rfl⟩;obtain⟨x3,hx3⟩:∃ x,x=X / 8:=⟨_,rfl⟩;obtain⟨x4,hx4⟩:∃ x,x=x1 ^^^ x2:=⟨_,rfl⟩;obtain⟨x5,hx5⟩:∃ x,x=x4 ^^^ x3:=⟨_,rfl⟩;obtain⟨y1,hy1⟩:∃ x,x=rot32 Y 15:=⟨_,rfl⟩;obtain⟨y2,hy2⟩:∃ x,x=rot32 Y 13:=⟨_,rfl⟩;obtain⟨y3,hy3⟩:∃ x,x=Y / 1024:=⟨_,rfl⟩;obtain⟨y4,hy4⟩:∃ x,x=y1 ^^^ y2:=⟨_,rfl⟩;obtain⟨y5,hy5⟩:∃ x,x=y4 ^^^ y3:=⟨_,rfl⟩;have lx1:x1<4294967296:=hx1 ▸ rot32_lt hXl;have lx2:x2<4294967296:=hx2 ▸ rot32_lt hXl;have ly1:y1<4294967296:=hy1 ▸ rot32_lt hYl;have ly2:y2<4294967296:=hy2 ▸ rot32_lt hYl;have lx4:x4<4294967296:=hx4 ▸ xor32 lx1 lx2;have ly4:y4<4294967296:=hy4 ▸ xor32 ly1 ly2;have lx5:x5<4294967296:=hx5 ▸ xor32 lx4 (by omega);have ly5:y5<4294967296:=hy5 ▸ xor32 ly4 (by omega);have bx4:bits .xor .u32 (x1:Int) (x2:Int)=(x4:Int):=by rw[u32_xor_nat x1 x2 lx1 lx2,hx4]
           have bx5:bits .xor .u32 (x4:Int) (x3:Int)=(x5:Int):=by rw[u32_xor_nat x4 x3 lx4 (by omega),hx5]
           have by4:bits .xor .u32 (y1:Int) (y2:Int)=(y4:Int):=by rw[u32_xor_nat y1 y2 ly1 ly2,hy4]
           have by5:bits .xor .u32 (y4:Int) (y3:Int)=(y5:Int):=by rw[u32_xor_nat y4 y3 ly4 (by omega),hy5]
           have dx3:(X:Int) / 8=x3:=by omega
           have dy3:(Y:Int) / 1024=y3:=by omega
           have rx1:=fun w=>hx1 ▸ qTurn_ok X 7 25 hXl (by omega) (by omega) w
           have rx2:=fun w=>hx2 ▸ qTurn_ok X 18 14 hXl (by omega) (by omega) w
           have ry1:=fun w=>hy1 ▸ qTurn_ok Y 17 15 hYl (by omega) (by omega) w
           have ry2:=fun w=>hy2 ▸ qTurn_ok Y 19 13 hYl (by omega) (by omega) w
           obtain⟨W1,hW1⟩:∃ x,x=(U+x5) % 4294967296:=⟨_,rfl⟩;obtain⟨W2,hW2⟩:∃ x,x=(W1+V) % 4294967296:=⟨_,rfl⟩;obtain⟨W,hWW⟩:∃ x,x=(W2+y5) % 4294967296:=⟨_,rfl⟩
           have hset:wL CH (I+1)=LL.set I W:=by
            rw[wL,if_neg (by omega),← hLL,wNext,← hj15,← hj2,← hj16,← hj7,← hX,← hY,← hU,← hV,sg0,sg1,← hx1,← hx2,← hx3,← hy1,← hy2,← hy3,← hx4,← hx5,← hy4,← hy5,← hW1,← hW2,← hWW]
           have hdr:∀ w3,Chg No wr.drew w3→Chg No wr w3:=fun w3 h=>⟨h.os,h.tape,h.output,h.size,h.block⟩
           replace hdr:=LH hdr;replace hset:=LH hset;replace hLL:=LH hLL;replace hLt:=LH hLt;replace hWW:=LH hWW;replace hW1:=LH hW1;replace hW2:=LH hW2;replace rx1:=LH rx1;replace rx2:=LH rx2;replace ry1:=LH ry1;replace ry2:=LH ry2;replace cX:=LH cX;replace cY:=LH cY;replace cU:=LH cU;replace cV:=LH cV;clear hX hY hU hV hx1 hx2 hx3 hx4 hx5 hy1 hy2 hy3 hy4 hy5 hj15 hj2 hj16 hj7;go_wp2;refine RA.rt (Chg No) [1,1,1,1,1,1,1,1,1,1] [] (fun _=>True) trivial (fun _=>Chg.refl _ _) (fun _ _ _ h k=>h.trans k) (h:=?_);intro cx
           repeat refine RA.qq (h:=?_)
           refine RA.si (by kernel_rfl) (by rfl) (by rfl) (by rfl) ((j15:Int)) (h15) (by omega) ?_;refine RA.ik prog (wb) (j15) (h:=?_);refine RA.lk prog (.int .u32 X) (hc:=fun w3 hp=>by exact ((hdr.out _ hp.1).cell (p:=⟨wb,j15,none⟩) hs id).trans cX.out) (h:=?_)
           repeat refine RA.qq (h:=?_)
           refine RA.si (by kernel_rfl) (by rfl) (by rfl) (by rfl) ((j2:Int)) (h2) (by omega) ?_;refine RA.ik prog (wb) (j2) (h:=?_);refine RA.lk prog (.int .u32 Y) (hc:=fun w3 hp=>by exact ((hdr.out _ hp.1).cell (p:=⟨wb,j2,none⟩) hs id).trans cY.out) (h:=?_)
           repeat refine RA.qq (h:=?_)
           refine RA.RA.done rfl (fun wx hR hF hH=>?_);clear hF hH;simp only[RA.put,List.foldr_cons,List.foldr_nil,cx,Act.put,List.setIfInBounds_toArray,List.set_cons_succ,List.set_cons_zero];have hRx:=hdr.out _ hR;have Hx:ArrN wx wb 83 LL:=hW.out.keep (hRx.block wb hs id);have hbx:QSt w n hh (some ⟨mg,mo,none⟩) L2 rcap R2 H wx:=hQ.out.after (by omega) ((Chg.no hRx).mono (by omega));have hsx:wb<wx.heap.size:=heap_lt Hx;have cUx:=LH ((hRx.cell (p:=⟨wb,j16,none⟩) hs id).trans cU.out);have cVx:=LH ((hRx.cell (p:=⟨wb,j7,none⟩) hs id).trans cV.out);clear hW hQ hs cU cV cX cY hdr hR hRx;have hdr:∀ w3,Chg No wx.drew w3→Chg No wx w3:=fun w3 h=>⟨h.os,h.tape,h.output,h.size,h.block⟩
           replace hdr:=LH hdr;have hW:=LH Hx;have hQ:=LH hbx;have hs:=hsx;clear Hx hbx;go_wp2;refine RA.rt (Chg No) [1,1,1,1,1,1,4,1,4,1,1,1,1,1,1,1,1,1,1,1,4,1,4,1,1,1,1,1,1,7] [29] (fun _=>True) (trivial) (fun _=>Chg.refl _ _) (fun _ _ _ h k=>h.trans k) (h:=?_);intro cx
           repeat refine RA.qq (h:=?_)
           refine RA.si (by kernel_rfl) (by rfl) (by rfl) (by rfl) ((j16:Int)) (h16) (by omega) ?_;refine RA.ik prog (wb) (j16) (h:=?_);refine RA.lk prog (.int .u32 U) (hc:=fun w3 hp=>by exact ((hdr.out _ hp.1).cell (p:=⟨wb,j16,none⟩) hs id).trans cUx.out) (h:=?_)
           repeat refine RA.qq (h:=?_)
           refine RA.kc (P:=prog) [_,_] (.int .u32 x1) (fun _=>True) (fun _ _=>by go_simp) (by kernel_rfl) (by rfl) (by rfl) (by kernel_rfl) (fun _ _ _ h=>h) rfl (fun w3 hp hH=>(rx1.out w3).mono (by rintro e w4 ⟨rfl,h2⟩;exact⟨rfl,Chg.of_below h2 _,trivial⟩)) ?_
           repeat refine RA.qq (h:=?_)
           refine RA.kc (P:=prog) [_,_] (.int .u32 x2) (fun _=>True) (fun _ _=>by go_simp) (by kernel_rfl) (by rfl) (by rfl) (by kernel_rfl) (fun _ _ _ h=>h) rfl (fun w3 hp hH=>(rx2.out w3).mono (by rintro e w4 ⟨rfl,h2⟩;exact⟨rfl,Chg.of_below h2 _,trivial⟩)) ?_;refine RA.vk prog (.int .u32 x4) (h:=?_)
           repeat refine RA.qq (h:=?_)
           refine RA.vk prog (.int .u32 x3) (h:=?_);refine RA.vk prog (.int .u32 x5) (h:=?_);refine RA.vk prog (.int .u32 W1) (hr:=fun w hp=>by (try go_simp);rw[hW1.out,IntKind.wrap_u32'];omega) (h:=?_)
           repeat refine RA.qq (h:=?_)
           refine RA.si (by kernel_rfl) (by rfl) (by rfl) (by rfl) ((j7:Int)) (h7) (by omega) ?_;refine RA.ik prog (wb) (j7) (h:=?_);refine RA.lk prog (.int .u32 V) (hc:=fun w3 hp=>by exact ((hdr.out _ hp.1).cell (p:=⟨wb,j7,none⟩) hs id).trans cVx.out) (h:=?_);refine RA.vk prog (.int .u32 W2) (hr:=fun w hp=>by (try go_simp);rw[hW2.out,IntKind.wrap_u32'];omega) (h:=?_)
           repeat refine RA.qq (h:=?_)
           refine RA.kc (P:=prog) [_,_] (.int .u32 y1) (fun _=>True) (fun _ _=>by go_simp) (by kernel_rfl) (by rfl) (by rfl) (by kernel_rfl) (fun _ _ _ h=>h) rfl (fun w3 hp hH=>(ry1.out w3).mono (by rintro e w4 ⟨rfl,h2⟩;exact⟨rfl,Chg.of_below h2 _,trivial⟩)) ?_
           repeat refine RA.qq (h:=?_)
           refine RA.kc (P:=prog) [_,_] (.int .u32 y2) (fun _=>True) (fun _ _=>by go_simp) (by kernel_rfl) (by rfl) (by rfl) (by kernel_rfl) (fun _ _ _ h=>h) rfl (fun w3 hp hH=>(ry2.out w3).mono (by rintro e w4 ⟨rfl,h2⟩;exact⟨rfl,Chg.of_below h2 _,trivial⟩)) ?_;refine RA.vk prog (.int .u32 y4) (h:=?_)
           repeat refine RA.qq (h:=?_)
           refine RA.vk prog (.int .u32 y3) (h:=?_);refine RA.vk prog (.int .u32 y5) (h:=?_);refine RA.vk prog (.int .u32 W) (hr:=fun w hp=>by (try go_simp);rw[hWW.out,IntKind.wrap_u32'];omega) (h:=?_);refine RA.ik prog (wb) (I) (h:=?_);refine RA.stt (fun w4=>QSt w n hh (some ⟨mg,mo,none⟩) L2 rcap R2 H w4∧ArrN w4 wb 83 (LL.set I W)) (by rfl) (by rfl) (by kernel_rfl) (fun _ _ h k=>h ▸ k) (fun w3 hp _=>?_) ?_
           ·have hR:=hdr.out _ (hp.first (by kernel_rfl)).1;have A0:=hW.out.keep (hR.block wb hs id);have f0:=A0.frozen I;have c0:=A0.cell I (by rw[hLLl];omega);have e:(Instr.storeAt 80 (.pointer (some ⟨wb,I,none⟩)) (.int .u32 (W:Int))).run prog w3=.ok () (w3.setCell ⟨wb,I,none⟩ (.int .u32 (W:Int))):=by go_simp
            have hlx:=hQ.out.lt;exact⟨_,RA.ex_store (by rfl) (by rfl) e,hQ.out.after (by omega) (((Chg.no hR).mono (by omega)).setCell (p:=⟨wb,I,none⟩) (by show hh+1≤wb;omega) _),A0.set I W⟩
           refine RA.RA.doneT (fun w3 hH=>?_);simp only[RA.put,List.foldr_cons,List.foldr_nil,cx,Act.put,List.setIfInBounds_toArray,List.set_cons_succ,List.set_cons_zero];replace hH:=LH hH;go_wp2;go_roundg g2
           case measure=>omega
           case rel=>
            refine⟨I+1,by omega,by omega,by go_num,hH.out.1,?_⟩;show ArrN _ _ _ _;rw[hset.out];exact hH.out.2
          ·obtain rfl:I=64:=by omega
           clear hI64 hIg hI16;obtain⟨WS,hWS⟩:∃ W,W=wL CH 64:=⟨_,rfl⟩;have hWl:WS.length=64:=hWS ▸ wL_length;have hWt:∀ j,WS.getD j 0<4294967296:=fun j=>hWS ▸ wL_lt
           rw[← hWS] at hW;have hmix:mixL H CH=sumL H (mixS H WS 64) 8:=by rw[mixL,hWS]
           obtain⟨vb,hvb⟩:∃ q,q=wr.heap.size:=⟨_,rfl⟩;have hld:=run_loadAt_arrN (P:=prog) hQ.out.h underlying81 (size8 hgd.out.1);have hx0:ArrN (wr.alloc (.cells (n32s (List.replicate 8 0)).toArray 81)) vb 81 (List.replicate 8 0):=by rw[hvb];exact heap_alloc_new wr _
           have hst:=run_storeAt_arrN (P:=prog) (ty:=81) (x:=H) hx0 (size8 hgd.out.1) (by rw[hgd.out.1];exact List.length_replicate);obtain⟨w7,hw7⟩:∃ x,x=(wr.alloc (.cells (n32s (List.replicate 8 0)).toArray 81)).setRow vb (n32s H).toArray:=⟨_,rfl⟩;rw[← hw7] at hst;have hV7:ArrN w7 vb 81 H:=hw7 ▸ hx0.setRow H
           have b7:Below vb wr w7:=by
            rw[hw7,hvb];exact below_setRow ((Below.refl _ _).alloc (Nat.le_refl _) _) (Nat.le_refl _) _
           have hQ7:QSt w n hh (some ⟨mg,mo,none⟩) L2 rcap R2 H w7:=hQ.out.after (by omega) (b7.mono (by omega));have hW7:=hW.out.keep (b7.block wb (by omega));have hvw:wb<vb:=by omega
           rw[hvb] at hst;have hL8:H.length=8:=hgd.out.1;replace hld:=LH hld;replace hst:=LH hst;replace hV7:=LH hV7;replace hQ7:=LH hQ7;replace hW7:=LH hW7;replace hWS:=LH hWS;replace hWt:=LH hWt;replace hmix:=LH hmix;replace hvb:=LH hvb;replace hw7:=LH hw7;replace hWl:=LH hWl;replace hL8:=LH hL8;clear hx0 b7 hQ hW hlt hs
           go_wp2_with (first|(refine wpList_load rfl 81 _ rfl _ _ rfl hld.out ?_)|(refine wpList_store rfl 81 _ _ rfl _ _ rfl rfl hst.out ?_))
           rw[← hvb.out];clear hld hst
           go_loopg [16] 64 (fun g i wr=>∃ t:Nat,t+g=64∧i=.int .i64 t∧Hid (QSt w n hh (some ⟨mg,mo,none⟩) L2 rcap R2 H wr)∧Hid (ArrN wr wb 83 WS)∧Hid (ArrN wr vb 81 (mixS H WS t))∧Hid (good (mixS H WS t)))
           case atStart=>exact⟨0,by omega,rfl,hQ7.out,hW7.out,by show ArrN _ _ _ _;rw[mixS_zero];exact hV7.out,by show good _;rw[mixS_zero];exact hgd.out⟩
           case round=>
            clear hQ7 hW7 hV7;obtain⟨t,htg,rfl,hQ,hW,hV,hGd⟩:=hrel;have hlt:=hQ.out.lt;have hs:=heap_lt hW.out;have hsv:=heap_lt hV.out;obtain⟨M,hM⟩:∃ M,M=mixS H WS t:=⟨_,rfl⟩;rw[← hM] at hV hGd;by_cases ht64:t<64
            ·obtain⟨g2,rfl⟩:∃ j,gk=j+1:=⟨gk - 1,by omega⟩;obtain⟨A,B,C,D,E,F,G,K,hM8⟩:=eight M hGd.out.1;have hMx:=hGd.out.2;rw[hM8] at hMx;have lA:A<4294967296:=hMx 0;have lB:B<4294967296:=hMx 1;have lC:C<4294967296:=hMx 2;have lD:D<4294967296:=hMx 3;have lE:E<4294967296:=hMx 4;have lF:F<4294967296:=hMx 5;have lG:G<4294967296:=hMx 6;have lK:K<4294967296:=hMx 7
             have cc:∀ j x,[A,B,C,D,E,F,G,K][j]?=some x→wr.cell? ⟨vb,j,none⟩=some (.int .u32 (x:Nat)):=fun j x hx=>by
              rw[cell_of hV.out,hM8,List.getElem?_toArray,n32s,List.getElem?_map,hx];rfl
             have cA:=cc 0 A rfl;have cB:=cc 1 B rfl;have cC:=cc 2 C rfl;have cD:=cc 3 D rfl;have cE:=cc 4 E rfl;have cF:=cc 5 F rfl;have cG:=cc 6 G rfl;have cK:=cc 7 K rfl;obtain⟨e1,he1⟩:∃ x,x=rot32 E 26:=⟨_,rfl⟩;obtain⟨e2,he2⟩:∃ x,x=rot32 E 21:=⟨_,rfl⟩;obtain⟨e3,he3⟩:∃ x,x=rot32 E 7:=⟨_,rfl⟩;obtain⟨e4,he4⟩:∃ x,x=e1 ^^^ e2:=⟨_,rfl⟩;obtain⟨e5,he5⟩:∃ x,x=e4 ^^^ e3:=⟨_,rfl⟩;obtain⟨p1,hp1⟩:∃ x,x=E &&& F:=⟨_,rfl⟩;obtain⟨p2,hp2⟩:∃ x,x=4294967295 - E:=⟨_,rfl⟩;obtain⟨p3,hp3⟩:∃ x,x=p2 &&& G:=⟨_,rfl⟩;obtain⟨p4,hp4⟩:∃ x,x=p1 ^^^ p3:=⟨_,rfl⟩;obtain⟨u1,hu1⟩:∃ x,x=(K+e5) % 4294967296:=⟨_,rfl⟩;obtain⟨u2,hu2⟩:∃ x,x=(u1+p4) % 4294967296:=⟨_,rfl⟩;obtain⟨KK,hKK⟩:∃ x,x=allL.getD t 0:=⟨_,rfl⟩;obtain⟨u3,hu3⟩:∃ x,x=(u2+KK) % 4294967296:=⟨_,rfl⟩;obtain⟨WW,hWW⟩:∃ x,x=WS.getD t 0:=⟨_,rfl⟩;obtain⟨u4,hu4⟩:∃ x,x=(u3+WW) % 4294967296:=⟨_,rfl⟩;obtain⟨a1,ha1⟩:∃ x,x=rot32 A 30:=⟨_,rfl⟩;obtain⟨a2,ha2⟩:∃ x,x=rot32 A 19:=⟨_,rfl⟩;obtain⟨a3,ha3⟩:∃ x,x=rot32 A 10:=⟨_,rfl⟩;obtain⟨a4,ha4⟩:∃ x,x=a1 ^^^ a2:=⟨_,rfl⟩;obtain⟨a5,ha5⟩:∃ x,x=a4 ^^^ a3:=⟨_,rfl⟩;obtain⟨m1,hm1⟩:∃ x,x=A &&& B:=⟨_,rfl⟩;obtain⟨m2,hm2⟩:∃ x,x=A &&& C:=⟨_,rfl⟩;obtain⟨m3,hm3⟩:∃ x,x=m1 ^^^ m2:=⟨_,rfl⟩;obtain⟨m4,hm4⟩:∃ x,x=B &&& C:=⟨_,rfl⟩;obtain⟨m5,hm5⟩:∃ x,x=m3 ^^^ m4:=⟨_,rfl⟩;obtain⟨v9,hv9⟩:∃ x,x=(a5+m5) % 4294967296:=⟨_,rfl⟩;obtain⟨na,hna⟩:∃ x,x=(u4+v9) % 4294967296:=⟨_,rfl⟩;obtain⟨ne,hne⟩:∃ x,x=(D+u4) % 4294967296:=⟨_,rfl⟩;have le1:e1<4294967296:=he1 ▸ rot32_lt lE;have le2:e2<4294967296:=he2 ▸ rot32_lt lE;have le3:e3<4294967296:=he3 ▸ rot32_lt lE;have la1:a1<4294967296:=ha1 ▸ rot32_lt lA;have la2:a2<4294967296:=ha2 ▸ rot32_lt lA;have la3:a3<4294967296:=ha3 ▸ rot32_lt lA;have le4:e4<4294967296:=he4 ▸ xor32 le1 le2;have le5:e5<4294967296:=he5 ▸ xor32 le4 le3;have la4:a4<4294967296:=ha4 ▸ xor32 la1 la2;have la5:a5<4294967296:=ha5 ▸ xor32 la4 la3;have lp1:p1<4294967296:=hp1 ▸ Nat.lt_of_le_of_lt Nat.and_le_left lE;have lp2:p2<4294967296:=by omega
             have lp3:p3<4294967296:=hp3 ▸ Nat.lt_of_le_of_lt Nat.and_le_left lp2;have lp4:p4<4294967296:=hp4 ▸ xor32 lp1 lp3;have lm1:m1<4294967296:=hm1 ▸ Nat.lt_of_le_of_lt Nat.and_le_left lA;have lm2:m2<4294967296:=hm2 ▸ Nat.lt_of_le_of_lt Nat.and_le_left lA;have lm3:m3<4294967296:=hm3 ▸ xor32 lm1 lm2;have lm4:m4<4294967296:=hm4 ▸ Nat.lt_of_le_of_lt Nat.and_le_left lB;have lm5:m5<4294967296:=hm5 ▸ xor32 lm3 lm4;have lKK:KK<4294967296:=hKK ▸ allL_lt t;have lWW:WW<4294967296:=hWW ▸ hWt.out t;have lu1:u1<4294967296:=by omega
             have lu2:u2<4294967296:=by omega
             have lu3:u3<4294967296:=by omega
             have lu4:u4<4294967296:=by omega
             have lv9:v9<4294967296:=by omega
             have lna:na<4294967296:=by omega
             have lne:ne<4294967296:=by omega
             have be4:bits .xor .u32 (e1:Int) (e2:Int)=(e4:Int):=by rw[u32_xor_nat e1 e2 le1 le2,he4]
             have be5:bits .xor .u32 (e4:Int) (e3:Int)=(e5:Int):=by rw[u32_xor_nat e4 e3 le4 le3,he5]
             have bp4:bits .xor .u32 (p1:Int) (p3:Int)=(p4:Int):=by rw[u32_xor_nat p1 p3 lp1 lp3,hp4]
             have ba4:bits .xor .u32 (a1:Int) (a2:Int)=(a4:Int):=by rw[u32_xor_nat a1 a2 la1 la2,ha4]
             have ba5:bits .xor .u32 (a4:Int) (a3:Int)=(a5:Int):=by rw[u32_xor_nat a4 a3 la4 la3,ha5]
             have bm3:bits .xor .u32 (m1:Int) (m2:Int)=(m3:Int):=by rw[u32_xor_nat m1 m2 lm1 lm2,hm3]
             have bm5:bits .xor .u32 (m3:Int) (m4:Int)=(m5:Int):=by rw[u32_xor_nat m3 m4 lm3 lm4,hm5]
             have bp1:bits .and .u32 (E:Int) (F:Int)=(p1:Int):=by rw[u32_and_nat E F lE lF,hp1]
             have bp3:bits .and .u32 (p2:Int) (G:Int)=(p3:Int):=by rw[u32_and_nat p2 G lp2 lG,hp3]
             have bm1:bits .and .u32 (A:Int) (B:Int)=(m1:Int):=by rw[u32_and_nat A B lA lB,hm1]
             have bm2:bits .and .u32 (A:Int) (C:Int)=(m2:Int):=by rw[u32_and_nat A C lA lC,hm2]
             have bm4:bits .and .u32 (B:Int) (C:Int)=(m4:Int):=by rw[u32_and_nat B C lB lC,hm4]
             have sna:IntKind.u32.wrap ((u4:Int)+(v9:Int))=(na:Int):=by rw[IntKind.wrap_u32'];omega
             have sne:IntKind.u32.wrap ((D:Int)+(u4:Int))=(ne:Int):=by rw[IntKind.wrap_u32'];omega
             have re1:=LH (fun w=>he1 ▸ qTurn_ok E 6 26 lE (by omega) (by omega) w);have re2:=LH (fun w=>he2 ▸ qTurn_ok E 11 21 lE (by omega) (by omega) w);have re3:=LH (fun w=>he3 ▸ qTurn_ok E 25 7 lE (by omega) (by omega) w);have ra1:=LH (fun w=>ha1 ▸ qTurn_ok A 2 30 lA (by omega) (by omega) w);have ra2:=LH (fun w=>ha2 ▸ qTurn_ok A 13 19 lA (by omega) (by omega) w);have ra3:=LH (fun w=>ha3 ▸ qTurn_ok A 22 10 lA (by omega) (by omega) w)
             have hnext:mixS H WS (t+1)=[na,A,B,C,ne,E,F,G]:=by
              rw[mixS_succ,← hM,hM8,← hKK,← hWW];simp only[rndL,t1F,t2F,eS1,aS0,chF,mjF];rw[← he1,← he2,← he3,← he4,← he5,← hp1,← hp2,← hp3,← hp4,← hu1,← hu2,← hu3,← hu4,← ha1,← ha2,← ha3,← ha4,← ha5,← hm1,← hm2,← hm3,← hm4,← hm5,← hv9,← hna,← hne]
             have hgn:good [na,A,B,C,ne,E,F,G]:=⟨rfl,fun j=>by
              match j with
              | 0=>exact lna
              | 1=>exact lA
              | 2=>exact lB
              | 3=>exact lC
              | 4=>exact lne
              | 5=>exact lE
              | 6=>exact lF
              | 7=>exact lG
              | j+8=>simp⟩
             have hSw:ArrN wr p 86 (startL++allL):=hS.out.keep (hQ.out.below.block p (by rw[HN.out];exact hpl))
             have cK2:wr.cell? ⟨p,8+t,none⟩=some (.int .u32 (KK:Nat)):=by
              rw[ArrN.cell hSw _ (by rw[List.length_append,startL_length,allL_length];omega),hKK];congr 3;simp only[List.getD];rw[List.getElem?_append_right (by rw[startL_length];omega),startL_length,Nat.add_sub_cancel_left]
             have cW:=hW.out.cell t (by rw[hWl.out];exact ht64);rw[← hWW] at cW;have hplr:p<wr.heap.size:=heap_lt hSw;have hdr:∀ w3,Chg No wr.drew w3→Chg No wr w3:=fun w3 h=>⟨h.os,h.tape,h.output,h.size,h.block⟩
             clear he1;clear he2;clear he3;clear he4;clear he5;clear hp1;clear hp3;clear hp4;clear hKK;clear hWW;clear ha1;clear ha2;clear ha3;clear ha4;clear ha5;clear hm1;clear hm2;clear hm3;clear hm4;clear hm5;clear hna;clear hne;clear hSw;clear hMx;clear cc;replace hp2:=LH hp2;replace hu1:=LH hu1;replace hu2:=LH hu2;replace hu3:=LH hu3;replace hu4:=LH hu4;replace hv9:=LH hv9;replace hnext:=LH hnext;replace hgn:=LH hgn;replace cK2:=LH cK2;replace cW:=LH cW;replace hdr:=LH hdr;replace hM8:=LH hM8;replace hM:=LH hM;replace hWt:=LH hWt;replace cA:=LH cA;replace cB:=LH cB;replace cC:=LH cC;replace cD:=LH cD;replace cE:=LH cE;replace cF:=LH cF;replace cG:=LH cG;replace cK:=LH cK;have cE':=cE.out;have cA':=cA.out;go_wp2
             go_region
             clear cE' cA';go_wp2;obtain⟨wx,hwx⟩:∃ x,x=wr.drew:=⟨_,rfl⟩;rw[← hwx];have RX:Chg No wr wx:=by rw[hwx];exact (Chg.refl _ _).drew
             replace hQ:=LH (hQ.out.after (by omega) ((Chg.no RX).mono (by omega)));replace hW:=LH (hW.out.keep (RX.block wb hs id));replace hV:=LH (hV.out.keep (RX.block vb hsv id));replace cK2:=LH ((RX.cell (p:=⟨p,8+t,none⟩) hplr id).trans cK2.out);replace cW:=LH ((RX.cell (p:=⟨wb,t,none⟩) hs id).trans cW.out);replace cA:=LH ((RX.cell (p:=⟨vb,0,none⟩) hsv id).trans cA.out);replace cB:=LH ((RX.cell (p:=⟨vb,1,none⟩) hsv id).trans cB.out);replace cC:=LH ((RX.cell (p:=⟨vb,2,none⟩) hsv id).trans cC.out);replace cD:=LH ((RX.cell (p:=⟨vb,3,none⟩) hsv id).trans cD.out);replace cE:=LH ((RX.cell (p:=⟨vb,4,none⟩) hsv id).trans cE.out);replace cF:=LH ((RX.cell (p:=⟨vb,5,none⟩) hsv id).trans cF.out);replace cG:=LH ((RX.cell (p:=⟨vb,6,none⟩) hsv id).trans cG.out);replace cK:=LH ((RX.cell (p:=⟨vb,7,none⟩) hsv id).trans cK.out);replace hplr:=Nat.lt_of_lt_of_le hplr RX.size;replace hs:=Nat.lt_of_lt_of_le hs RX.size;replace hsv:=Nat.lt_of_lt_of_le hsv RX.size;replace hlt:=Nat.lt_of_lt_of_le hlt RX.size;clear hdr RX hwx;have hdr:∀ w3,Chg No wx.drew w3→Chg No wx w3:=fun w3 h=>⟨h.os,h.tape,h.output,h.size,h.block⟩
             replace hdr:=LH hdr;refine RA.rt (Chg No) [1,1,1,4,1,4,1,1,4,1,1,1,1,1,1,1,1,1,1,1,1,1,1,1,1,1,1,1,1,1,1,1,1,1] [] (fun _=>True) trivial (fun _=>Chg.refl _ _) (fun _ _ _ h k=>h.trans k) (h:=?_);intro cx;refine RA.ik prog (vb) (7) (h:=?_);refine RA.lk prog (.int .u32 K) (hc:=fun w3 hp=>by exact ((hdr.out _ hp.1).cell (p:=⟨vb,7,none⟩) hsv id).trans cK.out) (h:=?_)
             repeat refine RA.qq (h:=?_)
             refine RA.kc (P:=prog) [_,_] (.int .u32 e1) (fun _=>True) (fun _ _=>by go_simp) (by kernel_rfl) (by rfl) (by rfl) (by kernel_rfl) (fun _ _ _ h=>h) rfl (fun w3 hp hH=>(re1.out w3).mono (by rintro e w4 ⟨rfl,h2⟩;exact⟨rfl,Chg.of_below h2 _,trivial⟩)) ?_
             repeat refine RA.qq (h:=?_)
             refine RA.kc (P:=prog) [_,_] (.int .u32 e2) (fun _=>True) (fun _ _=>by go_simp) (by kernel_rfl) (by rfl) (by rfl) (by kernel_rfl) (fun _ _ _ h=>h) rfl (fun w3 hp hH=>(re2.out w3).mono (by rintro e w4 ⟨rfl,h2⟩;exact⟨rfl,Chg.of_below h2 _,trivial⟩)) ?_;refine RA.vk prog (.int .u32 e4) (h:=?_)
             repeat refine RA.qq (h:=?_)
             refine RA.kc (P:=prog) [_,_] (.int .u32 e3) (fun _=>True) (fun _ _=>by go_simp) (by kernel_rfl) (by rfl) (by rfl) (by kernel_rfl) (fun _ _ _ h=>h) rfl (fun w3 hp hH=>(re3.out w3).mono (by rintro e w4 ⟨rfl,h2⟩;exact⟨rfl,Chg.of_below h2 _,trivial⟩)) ?_;refine RA.vk prog (.int .u32 e5) (h:=?_);refine RA.vk prog (.int .u32 u1) (hr:=fun w hp=>by (try go_simp);rw[hu1.out,IntKind.wrap_u32'];omega) (h:=?_)
             repeat refine RA.qq (h:=?_)
             refine RA.ik prog (vb) (5) (h:=?_);refine RA.lk prog (.int .u32 F) (hc:=fun w3 hp=>by exact ((hdr.out _ hp.1).cell (p:=⟨vb,5,none⟩) hsv id).trans cF.out) (h:=?_);refine RA.vk prog (.int .u32 p1) (h:=?_)
             repeat refine RA.qq (h:=?_)
             refine RA.vk prog (.int .u32 p2) (hr:=fun w hp=>by (try go_simp);exact not32i lE hp2.out) (h:=?_);refine RA.ik prog (vb) (6) (h:=?_);refine RA.lk prog (.int .u32 G) (hc:=fun w3 hp=>by exact ((hdr.out _ hp.1).cell (p:=⟨vb,6,none⟩) hsv id).trans cG.out) (h:=?_);refine RA.vk prog (.int .u32 p3) (h:=?_);refine RA.vk prog (.int .u32 p4) (h:=?_);refine RA.vk prog (.int .u32 u2) (hr:=fun w hp=>by (try go_simp);rw[hu2.out,IntKind.wrap_u32'];omega) (h:=?_)
             repeat refine RA.qq (h:=?_)
             refine RA.fk prog (p) (8) (h:=?_);refine RA.ik prog (p) (8+t) (h:=?_);refine RA.lk prog (.int .u32 KK) (hc:=fun w3 hp=>by exact ((hdr.out _ hp.1).cell (p:=⟨p,8+t,none⟩) hplr id).trans cK2.out) (h:=?_);refine RA.vk prog (.int .u32 u3) (hr:=fun w hp=>by (try go_simp);rw[hu3.out,IntKind.wrap_u32'];omega) (h:=?_)
             repeat refine RA.qq (h:=?_)
             refine RA.ik prog (wb) (t) (h:=?_);refine RA.lk prog (.int .u32 WW) (hc:=fun w3 hp=>by exact ((hdr.out _ hp.1).cell (p:=⟨wb,t,none⟩) hs id).trans cW.out) (h:=?_);refine RA.vk prog (.int .u32 u4) (hr:=fun w hp=>by (try go_simp);rw[hu4.out,IntKind.wrap_u32'];omega) (h:=?_)
             repeat refine RA.qq (h:=?_)
             refine RA.RA.done rfl (fun wy hR hF hH=>?_);clear hF hH;simp only[RA.put,List.foldr_cons,List.foldr_nil,cx,Act.put,List.setIfInBounds_toArray,List.set_cons_succ,List.set_cons_zero];have RX:=hdr.out _ hR;replace hQ:=LH (hQ.out.after (by omega) ((Chg.no RX).mono (by omega)));replace hW:=LH (hW.out.keep (RX.block wb hs id));replace hV:=LH (hV.out.keep (RX.block vb hsv id));replace cA:=LH ((RX.cell (p:=⟨vb,0,none⟩) hsv id).trans cA.out);replace cB:=LH ((RX.cell (p:=⟨vb,1,none⟩) hsv id).trans cB.out);replace cC:=LH ((RX.cell (p:=⟨vb,2,none⟩) hsv id).trans cC.out);replace cD:=LH ((RX.cell (p:=⟨vb,3,none⟩) hsv id).trans cD.out);replace cE:=LH ((RX.cell (p:=⟨vb,4,none⟩) hsv id).trans cE.out);replace cF:=LH ((RX.cell (p:=⟨vb,5,none⟩) hsv id).trans cF.out);replace cG:=LH ((RX.cell (p:=⟨vb,6,none⟩) hsv id).trans cG.out);replace cK:=LH ((RX.cell (p:=⟨vb,7,none⟩) hsv id).trans cK.out);replace hs:=Nat.lt_of_lt_of_le hs RX.size;replace hsv:=Nat.lt_of_lt_of_le hsv RX.size;replace hlt:=Nat.lt_of_lt_of_le hlt RX.size;clear hdr RX hR cK2 cW hplr re1 re2 re3;have hdr:∀ w3,Chg No wy.drew w3→Chg No wy w3:=fun w3 h=>⟨h.os,h.tape,h.output,h.size,h.block⟩
             replace hdr:=LH hdr;go_wp2;refine RA.rt (Chg No) [1,4,1,4,1,1,4,1,1,1,1,1,1,1,1,1,1,1,1,1,1,1,1,1,1] [] (fun _=>True) trivial (fun _=>Chg.refl _ _) (fun _ _ _ h k=>h.trans k) (h:=?_);intro cx
             repeat refine RA.qq (h:=?_)
             refine RA.kc (P:=prog) [_,_] (.int .u32 a1) (fun _=>True) (fun _ _=>by go_simp) (by kernel_rfl) (by rfl) (by rfl) (by kernel_rfl) (fun _ _ _ h=>h) rfl (fun w3 hp hH=>(ra1.out w3).mono (by rintro e w4 ⟨rfl,h2⟩;exact⟨rfl,Chg.of_below h2 _,trivial⟩)) ?_
             repeat refine RA.qq (h:=?_)
             refine RA.kc (P:=prog) [_,_] (.int .u32 a2) (fun _=>True) (fun _ _=>by go_simp) (by kernel_rfl) (by rfl) (by rfl) (by kernel_rfl) (fun _ _ _ h=>h) rfl (fun w3 hp hH=>(ra2.out w3).mono (by rintro e w4 ⟨rfl,h2⟩;exact⟨rfl,Chg.of_below h2 _,trivial⟩)) ?_;refine RA.vk prog (.int .u32 a4) (h:=?_)
             repeat refine RA.qq (h:=?_)
             refine RA.kc (P:=prog) [_,_] (.int .u32 a3) (fun _=>True) (fun _ _=>by go_simp) (by kernel_rfl) (by rfl) (by rfl) (by kernel_rfl) (fun _ _ _ h=>h) rfl (fun w3 hp hH=>(ra3.out w3).mono (by rintro e w4 ⟨rfl,h2⟩;exact⟨rfl,Chg.of_below h2 _,trivial⟩)) ?_;refine RA.vk prog (.int .u32 a5) (h:=?_)
             repeat refine RA.qq (h:=?_)
             refine RA.ik prog (vb) (1) (h:=?_);refine RA.lk prog (.int .u32 B) (hc:=fun w3 hp=>by exact ((hdr.out _ hp.1).cell (p:=⟨vb,1,none⟩) hsv id).trans cB.out) (h:=?_);refine RA.vk prog (.int .u32 m1) (h:=?_)
             repeat refine RA.qq (h:=?_)
             refine RA.ik prog (vb) (2) (h:=?_);refine RA.lk prog (.int .u32 C) (hc:=fun w3 hp=>by exact ((hdr.out _ hp.1).cell (p:=⟨vb,2,none⟩) hsv id).trans cC.out) (h:=?_);refine RA.vk prog (.int .u32 m2) (h:=?_);refine RA.vk prog (.int .u32 m3) (h:=?_);refine RA.ik prog (vb) (1) (h:=?_);refine RA.lk prog (.int .u32 B) (hc:=fun w3 hp=>by exact ((hdr.out _ hp.1).cell (p:=⟨vb,1,none⟩) hsv id).trans cB.out) (h:=?_);refine RA.ik prog (vb) (2) (h:=?_);refine RA.lk prog (.int .u32 C) (hc:=fun w3 hp=>by exact ((hdr.out _ hp.1).cell (p:=⟨vb,2,none⟩) hsv id).trans cC.out) (h:=?_);refine RA.vk prog (.int .u32 m4) (h:=?_);refine RA.vk prog (.int .u32 m5) (h:=?_);refine RA.vk prog (.int .u32 v9) (hr:=fun w hp=>by (try go_simp);rw[hv9.out,IntKind.wrap_u32'];omega) (h:=?_)
             repeat refine RA.qq (h:=?_)
             refine RA.RA.done rfl (fun wz hR hF hH=>?_);clear hF hH;simp only[RA.put,List.foldr_cons,List.foldr_nil,cx,Act.put,List.setIfInBounds_toArray,List.set_cons_succ,List.set_cons_zero];have RX:=hdr.out _ hR;replace hQ:=LH (hQ.out.after (by omega) ((Chg.no RX).mono (by omega)));replace hW:=LH (hW.out.keep (RX.block wb hs id));have hVz:=hV.out.keep (RX.block vb hsv id);replace cA:=(RX.cell (p:=⟨vb,0,none⟩) hsv id).trans cA.out;replace cB:=(RX.cell (p:=⟨vb,1,none⟩) hsv id).trans cB.out;replace cC:=(RX.cell (p:=⟨vb,2,none⟩) hsv id).trans cC.out;replace cD:=(RX.cell (p:=⟨vb,3,none⟩) hsv id).trans cD.out;replace cE:=(RX.cell (p:=⟨vb,4,none⟩) hsv id).trans cE.out;replace cF:=(RX.cell (p:=⟨vb,5,none⟩) hsv id).trans cF.out;replace cG:=(RX.cell (p:=⟨vb,6,none⟩) hsv id).trans cG.out;replace cK:=(RX.cell (p:=⟨vb,7,none⟩) hsv id).trans cK.out;have hst:=run_storeAt_arrN (P:=prog) (ty:=81) (x:=[na,A,B,C,ne,E,F,G]) hVz (size8 rfl) (by rw[hM8.out];rfl);obtain⟨w8,hw8⟩:∃ x,x=wz.setRow vb (n32s [na,A,B,C,ne,E,F,G]).toArray:=⟨_,rfl⟩;rw[← hw8] at hst;replace hst:(Instr.storeAt 81 (.pointer (some ⟨vb,0,none⟩)) (.agg #[.int .u32 (na:Nat),.int .u32 (A:Nat),.int .u32 (B:Nat),.int .u32 (C:Nat),.int .u32 (ne:Nat),.int .u32 (E:Nat),.int .u32 (F:Nat),.int .u32 (G:Nat)])).run prog wz=.ok () w8:=hst;have hV8:ArrN w8 vb 81 [na,A,B,C,ne,E,F,G]:=hw8 ▸ hVz.setRow _;have b8:Below vb wz w8:=hw8 ▸ below_setRow (Below.refl _ _) (Nat.le_refl _) _;have hsz:wb<wz.heap.size:=Nat.lt_of_lt_of_le hs RX.size;have hQ8:=hQ.out.after (by omega) (b8.mono (by omega));have hW8:=hW.out.keep (b8.block wb hvw);replace hst:=LH hst;replace hV8:=LH hV8;replace hQ8:=LH hQ8;replace hW8:=LH hW8;replace hw8:=LH hw8;clear hdr RX hR hQ hW hVz hV b8 ra1 ra2 ra3
             go_wp2_with (first|(refine wpList_store rfl 81 _ _ rfl _ _ rfl rfl hst.out ?_))
             go_roundg g2
             case measure=>omega
             case rel=>exact⟨t+1,by omega,by go_num,hQ8.out,hW8.out,by show ArrN _ _ _ _;rw[hnext.out];exact hV8.out,by show good _;rw[hnext.out];exact hgn.out⟩
            ·obtain rfl:t=64:=by omega
             clear ht64 htg;have hMl:M.length=8:=hGd.out.1;have hMx:=hGd.out.2;rw[← hM] at hmix;have hfin:eatC R2 (k+1)=sumL H M 8:=by rw[hnx.out,hmix.out]
             replace hM:=LH hM;replace hMx:=LH hMx;replace hfin:=LH hfin;replace hMl:=LH hMl
             have hQ0:Hid (QSt w n hh (some ⟨mg,mo,none⟩) L2 rcap R2 (sumL H M 0) wr):=by
              show QSt _ _ _ _ _ _ _ _ _;rw[sumL_zero];exact hQ.out
             clear hQ;go_wp2
             go_loopg [21] 8 (fun g i wr=>∃ j:Nat,j+g=8∧i=.int .i64 j∧Hid (QSt w n hh (some ⟨mg,mo,none⟩) L2 rcap R2 (sumL H M j) wr)∧Hid (ArrN wr vb 81 M))
             case atStart=>exact⟨0,by omega,rfl,hQ0.out,hV.out⟩
             case round=>
              clear hQ0 hV hlt hs hsv hW;obtain⟨j,hjg,rfl,hQ,hV⟩:=hrel;have hlt:=hQ.out.lt;by_cases hj8:j<8
              ·obtain⟨g2,rfl⟩:∃ j,gk=j+1:=⟨gk - 1,by omega⟩;obtain⟨SL,hSL⟩:∃ S,S=sumL H M j:=⟨_,rfl⟩;have hSLl:SL.length=8:=by rw[hSL,sumL_length,hL8.out]
               have hSLj:SL.getD j 0=H.getD j 0:=by rw[hSL,sumL_get (Nat.le_refl _)]
               obtain⟨x,hx⟩:∃ x,x=H.getD j 0:=⟨_,rfl⟩;obtain⟨y,hy⟩:∃ y,y=M.getD j 0:=⟨_,rfl⟩;obtain⟨z,hz⟩:∃ z,z=(x+y) % 4294967296:=⟨_,rfl⟩;have iz:IntKind.u32.wrap ((x:Int)+y)=z:=by rw[IntKind.wrap_u32'];omega
               have hnxt:sumL H M (j+1)=SL.set j z:=by rw[sumL_succ,← hSL,← hx,← hy,← hz]
               rw[← hSL] at hQ;have cx:=hQ.out.h.cell j (by rw[hSLl];exact hj8);have fx:=hQ.out.h.frozen j;have cy:=hV.out.cell j (by rw[hMl.out];exact hj8);rw[hSLj,← hx] at cx;rw[← hy] at cy;have hQs:=(hQ.out.set (by omega) j z).after (by omega) ((Below.refl _ _).drew)
               have hVs:ArrN ((wr.setCell ⟨hh,j,none⟩ (.int .u32 z)).drew) vb 81 M:=by
                have h:ArrN (wr.setCell ⟨hh,j,none⟩ (.int .u32 z)) vb 81 M:=hV.out.keep (setCell_heap_ne _ _ _ (by show vb≠hh;omega));exact h
               clear hz hx hy;replace hQs:=LH hQs;replace hVs:=LH hVs;replace hnxt:=LH hnxt;replace hSL:=LH hSL;replace hSLj:=LH hSLj;go_wp2
               go_region
               go_wp2;go_roundg g2
               case measure=>omega
               case rel=>exact⟨j+1,by omega,by go_num,by show QSt _ _ _ _ _ _ _ _ _;rw[hnxt.out];exact hQs.out,hVs.out⟩
              ·obtain rfl:j=8:=by omega
               clear hj8 hjg;rw[← hfin.out] at hQ;go_wp2;go_roundg g'
               case measure=>omega
               case rel=>exact⟨k+1,by omega,by have h:=hat.out;congr 1;omega,hQ.out⟩
      ·obtain rfl:k=N:=by omega
       have hgd:=eatC_good (M:=R2) k;obtain⟨H2,hH2⟩:∃ H,H=eatC R2 k:=⟨_,rfl⟩;rw[← hH2] at hQ hgd;have hres2:sumQ b=hashL H2 32:=by rw[hres.out,← hMQ.out,← hL2.out,← hN.out,← hH2]
       have hat2:L2≤at':=by have:=hN64.out;omega
       have hlt:=hQ.out.lt;obtain⟨ob,hob⟩:∃ q,q=wr.heap.size:=⟨_,rfl⟩;have hO0:Arr (wr.alloc (.cells #[.int .u8 0,.int .u8 0,.int .u8 0,.int .u8 0,.int .u8 0,.int .u8 0,.int .u8 0,.int .u8 0,.int .u8 0,.int .u8 0,.int .u8 0,.int .u8 0,.int .u8 0,.int .u8 0,.int .u8 0,.int .u8 0,.int .u8 0,.int .u8 0,.int .u8 0,.int .u8 0,.int .u8 0,.int .u8 0,.int .u8 0,.int .u8 0,.int .u8 0,.int .u8 0,.int .u8 0,.int .u8 0,.int .u8 0,.int .u8 0,.int .u8 0,.int .u8 0] 124)) ob 124 (hashL H2 0):=by rw[hashL_zero,hob];exact heap_alloc_new wr _
       have hQ9:QSt w n hh ra L2 rcap R2 H2 (wr.alloc (.cells #[.int .u8 0,.int .u8 0,.int .u8 0,.int .u8 0,.int .u8 0,.int .u8 0,.int .u8 0,.int .u8 0,.int .u8 0,.int .u8 0,.int .u8 0,.int .u8 0,.int .u8 0,.int .u8 0,.int .u8 0,.int .u8 0,.int .u8 0,.int .u8 0,.int .u8 0,.int .u8 0,.int .u8 0,.int .u8 0,.int .u8 0,.int .u8 0,.int .u8 0,.int .u8 0,.int .u8 0,.int .u8 0,.int .u8 0,.int .u8 0,.int .u8 0,.int .u8 0] 124)):=hQ.out.after (by omega) ((Below.refl _ _).alloc (by omega) _);have hohh:hh<ob:=by omega
       replace hob:=LH hob;replace hO0:=LH hO0;replace hQ9:=LH hQ9;replace hgd:=LH hgd;replace hH2:=LH hH2;replace hres2:=LH hres2;replace hat:=LH hat;clear hQ;go_wp2;rw[← hob.out]
       go_loopg [23] 32 (fun g i wr=>∃ j:Nat,j+g=32∧i=.int .i64 j∧Hid (QSt w n hh ra L2 rcap R2 H2 wr)∧Hid (Arr wr ob 124 (hashL H2 j)))
       case atStart=>exact⟨0,by omega,rfl,hQ9.out,hO0.out⟩
       case round=>
        clear hQ9 hO0 hlt;obtain⟨k2,hkg2,rfl,hQ,HA⟩:=hrel;by_cases hlt32:k2<32
        ·obtain⟨g2,rfl⟩:∃ j,gk=j+1:=⟨gk - 1,by omega⟩;obtain⟨j,hj⟩:∃ j,j=k2 / 4:=⟨_,rfl⟩;have hj1:(k2:Int) / 4=j:=by omega
         have hj2:(k2:Int).tdiv 4=j:=by rw[Int.tdiv_eq_ediv_of_nonneg (by omega)];exact hj1
         have hj8:j<8:=by omega
         obtain⟨q,hq⟩:∃ q,q=k2 % 4:=⟨_,rfl⟩;have hq1:(k2:Int) % 4=q:=by omega
         have hq2:(k2:Int).tmod 4=q:=by rw[Int.tmod_eq_emod_of_nonneg (by omega)];exact hq1
         have hq4:q<4:=by omega
         obtain⟨s8,hs8⟩:∃ s,s=8*q:=⟨_,rfl⟩;have hs81:(8:Int)*q=s8:=by omega
         obtain⟨sh,hsh⟩:∃ s,s=24 - s8:=⟨_,rfl⟩;have hsh1:(24:Int) - (s8:Int)=sh:=by omega
         have hsh2:sh≤24:=by omega
         have hsh3:sh=24 - 8*q:=by omega
         have hmin:min sh 32=sh:=by omega
         obtain⟨W,hW⟩:∃ W,W=H2.getD j 0:=⟨_,rfl⟩;have hWl:W<4294967296:=hW ▸ hgd.out.2 j;obtain⟨C,hC⟩:∃ C,C=hashB H2 k2:=⟨_,rfl⟩
         have hCn:(W:Int) / 2 ^ sh % 256=(C.toNat:Int):=by
          rw[hC,hashB,← hj,← hq,← hW,← hsh3,byte_toNat (by omega)];simp
         have cW:=hQ.out.h.cell j (by rw[hgd.out.1];exact hj8);rw[← hW] at cW;have f0:=HA.out.frozen k2;have c0:=HA.out.cell k2 (by rw[hashL_length];exact hlt32);have hset:=HA.out.set k2 C;rw[show (hashL H2 k2).set k2 C=hashL H2 (k2+1) by rw[hashL_succ,hC]] at hset;have hQs:=hQ.out.after (by omega) ((Below.refl (hh+1) wr).setCell (p:=⟨ob,k2,none⟩) (by show hh+1≤ob;omega) (.int .u8 C.toNat));replace hset:=LH hset;replace hQs:=LH hQs;replace hsh:=LH hsh;replace hsh3:=LH hsh3;replace hs8:=LH hs8;clear hC hW hj hq;go_wp2;go_roundg g2
         case measure=>omega
         case rel=>exact⟨k2+1,by omega,by go_num,hQs.out,hset.out⟩
        ·obtain rfl:k2=32:=by omega
         clear hlt32 hkg2;rw[← hres2.out] at HA;obtain⟨O,hO⟩:∃ O,O=sumQ b:=⟨_,rfl⟩;have hOl:O.length=32:=by rw[hO,hres2.out];exact hashL_length
         rw[← hO] at HA;have hsz:(prog.info? 124).map (·.size)=some O.length:=by rw[hOl];kernel_rfl
         have hld:=run_loadAt_arr (P:=prog) HA.out underlying124 hsz;have hO2:=hQ.out.out
         have hst:(Instr.storeAt 124 (.pointer (some ⟨n,0,none⟩)) (.agg (u8s O).toArray)).run prog wr=.ok () (wr.setRow n (u8s O).toArray):=by
          simp only[Instr.storeAt,Instr.sureAddr,Sem.run_bind,Sem.run_pure,Result.andThen];exact run_storeVar_row wr n 124 124 _ (u8s O).toArray hO2 (by rw[hsz];simp[u8s_length]) (by simp[u8s_length,hOl]) (by rw[List.all_toArray];exact List.all_eq_true.2 (u8s_one _))
         obtain⟨w9,hw9⟩:∃ x,x=wr.setRow n (u8s O).toArray:=⟨_,rfl⟩;rw[← hw9] at hst;have hF:Arr w9 n 124 O:=hw9 ▸ hO2.setRow O;have hBf:Below n w w9:=hw9 ▸ below_setRow hQ.out.below (Nat.le_refl _) _;replace hld:=LH hld;replace hst:=LH hst;replace hF:=LH hF;replace hBf:=LH hBf;replace hsz:=LH hsz;replace hO:=LH hO;replace hw9:=LH hw9;clear HA hQ hO2
         go_wp2_with (first|(refine wpList_load rfl 124 _ rfl _ _ rfl hld.out ?_)|(refine wpList_store rfl 124 _ _ rfl _ _ rfl rfl hst.out ?_))
         refine bodyPost_ret (results_cell_row results84 _ _ n 124 _ (0,0) _ rfl hF.out underlying124 rfl (by rw[hsz.out];simp[u8s_length])) rfl ⟨by rw[hO.out],HN.out ▸ hBf.out⟩
  ·have e56:((q:Int) != 56)=true:=by simp;omega
   obtain⟨f',rfl⟩:∃ f',gk=f'+1:=⟨gk - 1,by
    have h:=hP.out;cases gk with
    | zero=>
     rw[padF_zero] at h;have:=hpad.1;rw[← h,← hL] at this;have:=hq.out;omega
    | succ f=>omega⟩
   have hP2:padF f' (R++[0])=PT:=by
    have h:=hP.out;rw[padF_succ,if_neg (by rw[← hL];have:=hq.out;omega)] at h;exact h
   obtain⟨w3,hw3⟩:∃ x,x=wr.alloc (.cells #[.int .u8 0] 5):=⟨_,rfl⟩
   have hu:Cells w3 (fun _=>True) (.slice (some ⟨wr.heap.size,0,none⟩) 1 1) 1 1 (u8s [0]):=by
    rw[hw3];exact lit_cells wr #[.int .u8 0] 5 1 1 rfl (fits_le (by omega))
   have r3:=hO'.out.alloc (.cells #[.int .u8 0] 5);rw[← hw3] at r3;have hs3:n+1≤w3.heap.size:=by rw[hw3];simp;omega
   obtain⟨v',w4,hrun,r4,c4,_⟩:=own_push (P:=prog) (bytes:=1) underlying22 infoByte rfl (by decide) r3 hs3 (Chg.refl _ _) hu (u8s_one _) (fits_le (by omega)) (by omega) 22;rw[← u8s_append] at r4;have e3:Chg No wr w3:=by rw[hw3];exact (Chg.refl _ _).alloc _
   have c5:Chg (fun g=>n+1≤g) wr w4:=(e3.mono (fun _ _ h=>h.elim)).then c4 (fun g _ h=>(r3.lt g h).1);have hB4:Below n w w4:=hB.out.trans (c5.below (by omega) (by omega));have hH4:=hH.out.keep (c5.block n (by omega) (by omega));have hRl:(R++[0]).length=L+1:=by rw[List.length_append,hL];rfl
   have r4':w4.ownsRow (n+1) 5 1 v' (R++[0]).length (u8s (R++[0])):=by rw[hRl];exact r4
   subst hw3;replace hrun:=LH hrun;replace r4':=LH r4';replace hB4:=LH hB4;replace hH4:=LH hH4;replace hP2:=LH hP2;replace hRl:=LH hRl;replace hL:=LH hL;clear hO' hB hH hu r3 r4 c4 e3 c5 hP hs3
   go_wp2_with (at_builtin;(refine wpList_app rfl _ _ 22 rfl _ _ _ rfl rfl hrun.out ?_))
   go_roundg f'
   case measure=>omega
   case rel=>exact⟨R++[0],by rw[hRl.out];omega,hP2.out,r4'.out,hB4.out,hH4.out⟩
end Go.Proofs.YtbgfdbidbjlaaaaGreat.Fd

/-
  Texts of this claim, laid together by a program of mine. No condition beyond what each theorem names.
-/
import Derived.Test.YtbgfdbidbjlaaaaGreatSaQSmallPk
import Derived.Test.YtbgfdbidbjlaaaaGreatSaWordPk
/-
  The document's own times, above, cube. No condition beyond what each theorem names.
-/
namespace Go.Proofs.YtbgfdbidbjlaaaaGreat.Fd
open _root_.Go.Proofs.Tryz
open Go Go.RowKit K
set_option maxRecDepth 100000
set_option maxHeartbeats 8000000
theorem n32s_zero (n:Nat):(madeCells #[.int .u32 0] n).toList=n32s (List.replicate n 0):=by
 rw[toList_madeCells_one];simp[n32s]
theorem arrN_cells {w:World}{g:Nat}{t:TypeId}{l:List Nat}(h:ArrN w g t l){S:Nat→Prop}(hS:S g) (hl:l.length≤maxLen):Cells w S (.slice (some ⟨g,0,none⟩) l.length l.length) l.length 1 (n32s l):=
 ⟨by rw[n32s_length,Nat.mul_one],_,_,rfl,Nat.le_refl _,hl,(fun h=>by cases h),.inr ⟨g,0,rfl,hS,heap_lt h,fun j u hu=>by
  rw[Nat.zero_add,cell_of h,← hu];simp⟩⟩
def tIn (x:Nat) (b:List Nat) (i:Nat) (c:List Nat):Nat→List Nat×Nat
 | 0=>(c,0)
 | k+1=>((tIn x b i c k).1.set (i+k) ((((x*b.getD k 0 % 18446744073709551616+(tIn x b i c k).1.getD (i+k) 0) % 18446744073709551616+(tIn x b i c k).2) % 18446744073709551616) % 4294967296),
   ((x*b.getD k 0 % 18446744073709551616+(tIn x b i c k).1.getD (i+k) 0) % 18446744073709551616+(tIn x b i c k).2) % 18446744073709551616 / 4294967296)
def tOut (a b:List Nat):Nat→List Nat
 | 0=>List.replicate (a.length+b.length) 0
 | i+1=>(tIn (a.getD i 0) b i (tOut a b i) b.length).1.set (i+b.length) ((tIn (a.getD i 0) b i (tOut a b i) b.length).2 % 4294967296)
def timesL (a b:List Nat):List Nat:=tOut a b a.length
theorem tIn_zero {x:Nat}{b:List Nat}{i:Nat}{c:List Nat}:tIn x b i c 0=(c,0):=rfl
theorem tIn_succ {x:Nat}{b:List Nat}{i:Nat}{c:List Nat}{k:Nat}:tIn x b i c (k+1)=((tIn x b i c k).1.set (i+k) ((((x*b.getD k 0 % 18446744073709551616+(tIn x b i c k).1.getD (i+k) 0) % 18446744073709551616+(tIn x b i c k).2) % 18446744073709551616) % 4294967296),
   ((x*b.getD k 0 % 18446744073709551616+(tIn x b i c k).1.getD (i+k) 0) % 18446744073709551616+(tIn x b i c k).2) % 18446744073709551616 / 4294967296):=rfl
theorem tOut_zero {a b:List Nat}:tOut a b 0=List.replicate (a.length+b.length) 0:=rfl
theorem tOut_succ {a b:List Nat}{i:Nat}:tOut a b (i+1)=(tIn (a.getD i 0) b i (tOut a b i) b.length).1.set (i+b.length) ((tIn (a.getD i 0) b i (tOut a b i) b.length).2 % 4294967296):=rfl
theorem tIn_length {x:Nat}{b:List Nat}{i:Nat}{c:List Nat}{k:Nat}:(tIn x b i c k).1.length=c.length:=by
 induction k with
 | zero=>rfl
 | succ k ih=>rw[tIn_succ];exact List.length_set.trans ih
theorem set_lt32 {l:List Nat}{i x:Nat}(hl:∀ j,l.getD j 0<4294967296) (hx:x<4294967296) (j:Nat):(l.set i x).getD j 0<4294967296:=by
 simp only[List.getD,List.getElem?_set];split
 ·split
  ·exact hx
  ·simp
 ·exact hl j
theorem tIn_lt {x:Nat}{b:List Nat}{i:Nat}{c:List Nat}(hc:∀ j,c.getD j 0<4294967296){k:Nat}:(∀ j,(tIn x b i c k).1.getD j 0<4294967296)∧(tIn x b i c k).2<4294967296:=by
 induction k with
 | zero=>exact⟨hc,by rw[tIn_zero];omega⟩
 | succ k ih=>rw[tIn_succ];exact⟨set_lt32 ih.1 (by omega),by omega⟩
theorem tOut_lt {a b:List Nat}{i:Nat}:∀ j,(tOut a b i).getD j 0<4294967296:=by
 induction i with
 | zero=>intro j;rw[tOut_zero];simp only[List.getD,List.getElem?_replicate];split<;>simp
 | succ i ih=>rw[tOut_succ];exact set_lt32 (tIn_lt ih).1 (by omega)
theorem tOut_length {a b:List Nat}{i:Nat}:(tOut a b i).length=a.length+b.length:=by
 induction i with
 | zero=>exact List.length_replicate
 | succ i ih=>rw[tOut_succ];exact List.length_set.trans (tIn_length.trans ih)
attribute [irreducible] tIn tOut
theorem qTimes_ok {w:World}{S T:Nat→Prop}{va vb:Value}{a b:List Nat}(ha:Cells w S va a.length 1 (n32s a)) (hb:Cells w T vb b.length 1 (n32s b)) (hal:a.length≤8) (hbl:b.length≤8) (ha0:0<a.length) (hb0:0<b.length) (hax:∀ j,a.getD j 0<4294967296) (hbx:∀ j,b.getD j 0<4294967296):
  Calls prog 85 #[va,vb] w fun e w'=>∃ v,e=.returned v∧Cells w' (fun g=>w.heap.size≤g) v (timesL a b).length 1 (n32s (timesL a b))∧Below w.heap.size w w':=by
 obtain⟨ga,oa,ca,rfl,_,_,_,hga,hca⟩:=Cells.at ha ha0;obtain⟨gb,ob,cb,rfl,_,_,_,hgb,hcb⟩:=Cells.at hb hb0;obtain⟨n,hn⟩:∃ n,n=a.length+b.length:=⟨_,rfl⟩;have hmk:=make_full (P:=prog) w underlying144 (by kernel_rfl:(prog.info? 80).map (fun i=>(i.zero,i.size,i.bytes))=some (some (.int .u32 0),1,4)) rfl n (n:Int) rfl (by omega) (by omega);have cellA:∀ j,j<a.length→w.cell? ⟨ga,oa+j,none⟩=some (.int .u32 (a.getD j 0:Nat)):=fun j hj=>hca j _ (n32s_get a j hj)
 have cellB:∀ j,j<b.length→w.cell? ⟨gb,ob+j,none⟩=some (.int .u32 (b.getD j 0:Nat)):=fun j hj=>hcb j _ (n32s_get b j hj)
 obtain⟨al,hal'⟩:∃ l,l=a.length:=⟨_,rfl⟩;obtain⟨bl,hbl'⟩:∃ l,l=b.length:=⟨_,rfl⟩;rw[← hal'] at hal ha0 hn ⊢;rw[← hbl'] at hbl hb0 hn ⊢;obtain⟨B,hB⟩:∃ B,B=w.heap.size:=⟨_,rfl⟩;obtain⟨W,hW⟩:∃ W,W=w.alloc (.cells (madeCells #[.int .u32 0] n) 80):=⟨_,rfl⟩;have A0:ArrN W B 80 (List.replicate n 0):=by rw[hW,hB];exact ArrN.of (by rw[← n32s_zero]) (heap_alloc_new w _)
 have B0:Below B w W:=by rw[hW,hB];exact (Below.refl _ _).alloc (Nat.le_refl _) _
 rw[← hB] at hga hgb hmk ⊢;replace cellA:=LH cellA;replace cellB:=LH cellB;have hn1:(al:Int)+bl=n:=by omega
 have hn16:n≤16:=by omega
 rw[← hW] at hmk;replace hB:=LH hB;replace hW:=LH hW;replace A0:=LH A0;replace B0:=LH B0;replace hal':=LH hal';replace hax:=LH hax;replace hbx:=LH hbx;replace hbl':=LH hbl';replace hn:=LH hn;clear hca hcb ha hb;go_enter func85,ntmps85;go_wp2;clear hmk
 go_loopw [6,7,8,9] (fun i _ _ _ wr=>∃ I:Nat,I≤al∧i=.int .i64 I∧Hid (Below B w wr)∧Hid (ArrN wr B 80 (tOut a b I)))
  (fun i _ _ _ _=>al - (intOf i).toNat)
 case atStart=>exact⟨0,by omega,rfl,B0.out,by show ArrN _ _ _ _;rw[tOut_zero,← hal'.out,← hbl'.out,← hn.out];exact A0.out⟩
 case round=>
  clear A0 B0;obtain⟨I,hI,rfl,hbr,HA⟩:=hrel;by_cases hlt:I<al
  ·obtain⟨x,hx⟩:∃ x,x=a.getD I 0:=⟨_,rfl⟩;have hxc:=cellA.out I (by rw[← hal'.out];exact hlt);rw[← hx] at hxc;rw[← World.cell?_of_block (w:=w) (hbr.out.block ga hga)] at hxc;have hgar:ga<wr.heap.size:=by have:=hbr.out.size;have:=hB.out;omega
   obtain⟨L0,hL0⟩:∃ L,L=tOut a b I:=⟨_,rfl⟩;have hL0l:L0.length=n:=by rw[hL0,tOut_length,hn.out,hal'.out,hbl'.out]
   rw[← hL0] at HA;have hL0b:∀ j,L0.getD j 0<4294967296:=fun j=>hL0 ▸ tOut_lt j
   have hxl:x<4294967296:=hx ▸ hax.out I;have hnx:=tOut_succ (a:=a) (b:=b) (i:=I);rw[← hx,← hL0] at hnx;replace hx:=LH hx;replace hL0:=LH hL0;replace hnx:=LH hnx;replace hL0b:=LH hL0b;replace hxc:=LH hxc;obtain⟨w1,hw1⟩:∃ x,x=wr:=⟨_,rfl⟩;rw[← hw1] at hxc hbr HA hgar ⊢;replace hw1:=LH hw1;go_wp2
   go_loopw [7,8,9] (fun cy k _ wr=>∃ (K C:Nat) (L:List Nat),K≤bl∧k=.int .i64 K∧cy=.int .u64 C∧C<4294967296∧L.length=n∧Hid (tIn x b I L0 K=(L,C))∧Hid (Below B w wr)∧Hid (ArrN wr B 80 L))
    (fun _ k _ _=>bl - (intOf k).toNat)
   case atStart=>exact⟨0,0,L0,by omega,rfl,rfl,by omega,hL0l,tIn_zero,hbr.out,HA.out⟩
   case round=>
    clear HA hbr;obtain⟨K,C,L,hK,rfl,rfl,hC,hLl,ht,hbr,HA⟩:=hrel
    have hLb:∀ j,L.getD j 0<4294967296:=by
     have h:=(tIn_lt (x:=x) (b:=b) (i:=I) hL0b.out (k:=K)).1;rw[ht.out] at h;exact h
    by_cases hlk:K<bl
    ·obtain⟨y,hy⟩:∃ y,y=b.getD K 0:=⟨_,rfl⟩;have hyc:=cellB.out K (by rw[← hbl'.out];exact hlk);rw[← hy] at hyc;rw[← World.cell?_of_block (w:=w) (hbr.out.block gb hgb)] at hyc
     have hxc2:wr.cell? ⟨ga,oa+I,none⟩=some (.int .u32 x):=by
      have h:=cellA.out I (by rw[← hal'.out];exact hlt);rw[← hx.out] at h;rw[← World.cell?_of_block (w:=w) (hbr.out.block ga hga)] at h;exact h
     have hyl:y<4294967296:=hy ▸ hbx.out K;obtain⟨j,hj⟩:∃ j,j=I+K:=⟨_,rfl⟩;have hji:(I:Int)+K=j:=by omega
     have hjn:j<n:=by have:=hn.out;omega
     obtain⟨z,hz⟩:∃ z,z=L.getD j 0:=⟨_,rfl⟩;have hzl:z<4294967296:=hz ▸ hLb j;have c0:=HA.out.cell j (by rw[hLl];exact hjn);have f0:=HA.out.frozen j;rw[← hz] at c0;obtain⟨m,hm⟩:∃ m,m=x*y % 18446744073709551616:=⟨_,rfl⟩;obtain⟨s1,hs1⟩:∃ m',m'=(m+z) % 18446744073709551616:=⟨_,rfl⟩;obtain⟨t,htt⟩:∃ m',m'=(s1+C) % 18446744073709551616:=⟨_,rfl⟩;obtain⟨lo,hlo⟩:∃ m',m'=t % 4294967296:=⟨_,rfl⟩;obtain⟨hi,hhi⟩:∃ m',m'=t / 4294967296:=⟨_,rfl⟩;have im:IntKind.u64.wrap ((x:Int)*y)=m:=by rw[IntKind.wrap_u64,hm];simp
     have is1:IntKind.u64.wrap ((m:Int)+z)=s1:=by rw[IntKind.wrap_u64,hs1];simp
     have it:IntKind.u64.wrap ((s1:Int)+C)=t:=by rw[IntKind.wrap_u64,htt];simp
     have ilo:IntKind.u32.wrap (t:Int)=lo:=by rw[IntKind.wrap_u32',hlo];simp
     have ihi:(t:Int) / 4294967296=hi:=by omega
     have hhl:hi<4294967296:=by omega
     have hnext:tIn x b I L0 (K+1)=(L.set j lo,hi):=by
      rw[tIn_succ,ht.out];simp only[];rw[← hy,← hj,← hz,← hm,← hs1,← htt,← hlo,← hhi]
     have hset:=HA.out.set j lo;have hgbr:gb<wr.heap.size:=by have:=hbr.out.size;have:=hB.out;omega
     have hgar2:ga<wr.heap.size:=by have:=hbr.out.size;have:=hB.out;omega
     have hmt:m<18446744073709551616:=by omega
     have hst:s1<18446744073709551616:=by omega
     have htl:t<18446744073709551616:=by omega
     clear hm hs1 htt hlo hhi;replace hnext:=LH hnext;replace hset:=LH hset;replace hy:=LH hy;replace hj:=LH hj;replace hz:=LH hz;replace hLb:=LH hLb;go_wp2
     go_region
     go_wp2;go_roundw
     case rel=>exact⟨K+1,hi,L.set j lo,by omega,by go_num,rfl,hhl,by rw[List.length_set];exact hLl,hnext.out,(hbr.out.setCell (p:=⟨B,j,none⟩) (Nat.le_refl B) _).drew,hset.out⟩
     case measure=>simp[intOf];omega
    ·have hKb:K=bl:=by omega
     rw[hKb] at ht;clear hKb;obtain⟨j,hj⟩:∃ j,j=I+bl:=⟨_,rfl⟩;have hji:(I:Int)+bl=j:=by omega
     have hjn:j<n:=by have:=hn.out;omega
     have c0:=HA.out.cell j (by rw[hLl];exact hjn);have f0:=HA.out.frozen j;have ilo:IntKind.u32.wrap (C:Int)=C:=by rw[IntKind.wrap_u32'];omega
     have hset:=HA.out.set j C
     have hnx2:tOut a b (I+1)=L.set j C:=by
      rw[hnx.out,← hbl'.out,ht.out,← hj,Nat.mod_eq_of_lt hC]
     replace hnx2:=LH hnx2;replace hset:=LH hset;replace hj:=LH hj;replace hLb:=LH hLb;clear hnx ht;go_wp2;go_roundw
     case rel=>exact⟨I+1,by omega,by go_num,hbr.out.setCell (p:=⟨B,j,none⟩) (Nat.le_refl B) _,by show ArrN _ _ _ _;rw[hnx2.out];exact hset.out⟩
     case measure=>simp[intOf];omega
  ·have hIa:I=al:=by omega
   rw[hIa] at HA;clear hIa;go_wp2;go_ret;have hT:tOut a b al=timesL a b:=by rw[timesL,hal'.out]
   have hTl:(timesL a b).length=n:=by rw[timesL,tOut_length,hn.out,hal'.out,hbl'.out]
   have HA2:=HA.out;rw[hT] at HA2;refine⟨_,rfl,?_,hbr.out⟩;rw[hTl];exact hTl ▸ arrN_cells HA2 (Nat.le_refl _) (by rw[hTl];unfold maxLen;omega)
end Go.Proofs.YtbgfdbidbjlaaaaGreat.Fd
/-
  The document's own above, cube. No condition beyond what each theorem names.
-/
namespace Go.Proofs.YtbgfdbidbjlaaaaGreat.Fd
open _root_.Go.Proofs.Tryz
open Go Go.RowKit K
set_option maxRecDepth 100000
set_option maxHeartbeats 8000000
def yL (y:Nat):List Nat:=[y % 4294967296,y / 4294967296 % 4294967296]
theorem yL_lt {y:Nat}(j:Nat):(yL y).getD j 0<4294967296:=by
 rcases j with _|_|j
 ·simp[yL];omega
 ·simp[yL];omega
 ·simp[yL]
def wantC (p i:Nat):Nat:=if i=3 then p % 4294967296 else 0
def abF (c:List Nat) (p:Nat):Nat→Bool
 | 0=>false
 | i+1=>if c.getD i 0≠wantC p i then decide (wantC p i<c.getD i 0) else abF c p i
def aboveB (y p:Nat):Bool:=abF (timesL (timesL (yL y) (yL y)) (yL y)) p 6
theorem timesL_length {a b:List Nat}:(timesL a b).length=a.length+b.length:=tOut_length
theorem timesL_lt {a b:List Nat}(j:Nat):(timesL a b).getD j 0<4294967296:=tOut_lt j
theorem two_cells {w:World}{g:Nat}{x y:Nat}{t:TypeId}(h:w.heap[g]?=some (.cells #[.int .u32 x,.int .u32 y] t (0,0))){S:Nat→Prop}(hS:S g):Cells w S (.slice (some ⟨g,0,none⟩) 2 2) 2 1 (n32s [x,y]):=
 arrN_cells (l:=[x,y]) h hS (by unfold maxLen;simp)
attribute [irreducible] abF
theorem qAbove_ok (y p:Nat) (hy:y<18446744073709551616) (w:World):
  Calls prog 76 #[.int .u64 y,.int .u64 p] w fun e w'=>e=.returned (.bool (aboveB y p))∧Below w.heap.size w w':=by
 obtain⟨lo,hlo⟩:∃ lo,lo=y % 4294967296:=⟨_,rfl⟩;obtain⟨mi,hmi⟩:∃ lo,lo=y / 4294967296:=⟨_,rfl⟩;obtain⟨hi,hhi⟩:∃ lo,lo=mi % 4294967296:=⟨_,rfl⟩;have hL:yL y=[lo,hi]:=by rw[yL,hlo,hhi,hmi]
 have ilo:IntKind.u32.wrap (y:Int)=lo:=by rw[IntKind.wrap_u32',hlo];simp
 have imi:(y:Int) / 4294967296=mi:=by omega
 have ihi:IntKind.u32.wrap (mi:Int)=hi:=by rw[IntKind.wrap_u32',hhi];simp
 have hll:∀ j,[lo,hi].getD j 0<4294967296:=fun j=>hL ▸ yL_lt j
 have hml:mi<18446744073709551616:=by omega
 obtain⟨s,hs⟩:∃ s,s=timesL [lo,hi] [lo,hi]:=⟨_,rfl⟩;obtain⟨c,hc⟩:∃ c,c=timesL s [lo,hi]:=⟨_,rfl⟩;have hsl:s.length=4:=by rw[hs,timesL_length];rfl
 have hcl:c.length=6:=by rw[hc,timesL_length,hsl];rfl
 have hab:aboveB y p=abF c p 6:=by rw[aboveB,hL,← hs,← hc]
 have hsx:∀ j,s.getD j 0<4294967296:=fun j=>hs ▸ timesL_lt j
 have hcx:∀ j,c.getD j 0<4294967296:=fun j=>hc ▸ timesL_lt j
 rw[hab];clear hlo hmi hhi hL hab;replace hll:=LH hll;replace hsx:=LH hsx;replace hcx:=LH hcx;replace hs:=LH hs;replace hc:=LH hc;go_enter func76,ntmps76
 go_wp2_with fail
 obtain⟨w1,hw1⟩:∃ x,x=w.alloc (.cells #[.int .u32 lo,.int .u32 hi] 80):=⟨_,rfl⟩;obtain⟨w2,hw2⟩:∃ x,x=w1.alloc (.cells #[.int .u32 lo,.int .u32 hi] 80):=⟨_,rfl⟩;have hc1:Cells w2 (fun _=>True) (.slice (some ⟨w.heap.size,0,none⟩) 2 2) 2 1 (n32s [lo,hi]):=two_cells (by rw[hw2];exact (Below.heap_alloc _ _ _ (by rw[hw1];simp)).trans (by rw[hw1];exact heap_alloc_new w _)) trivial;have hc2:Cells w2 (fun _=>True) (.slice (some ⟨w.heap.size+1,0,none⟩) 2 2) 2 1 (n32s [lo,hi]):=two_cells (by rw[hw2,show w.heap.size+1=w1.heap.size by rw[hw1];simp];exact heap_alloc_new w1 _) trivial;have hB2:Below w.heap.size w w2:=by rw[hw2,hw1];exact ((Below.refl _ _).alloc (Nat.le_refl _) _).alloc (by simp) _
 rw[← hw1,← hw2];refine (qTimes_ok (a:=[lo,hi]) (b:=[lo,hi]) hc1 hc2 (by simp) (by simp) (by simp) (by simp) hll.out hll.out).mono ?_;rintro e w3 ⟨v,rfl,hv,hb⟩;rw[← hs.out,hsl] at hv;have hB3:Below w.heap.size w w3:=hB2.trans (hb.mono hB2.size);obtain⟨va,vc,rfl,hv1,hv2⟩:=hv.shape;unfold maxLen at hv2;replace hv:=LH hv;replace hB3:=LH hB3;clear hc1 hc2 hB2 hb hw1 hw2
 go_wp2_with fail
 obtain⟨w4,hw4⟩:∃ x,x=w3.alloc (.cells #[.int .u32 lo,.int .u32 hi] 80):=⟨_,rfl⟩;have hc1:Cells w4 (fun _=>True) (.slice va 4 vc) 4 1 (n32s s):=(hv.out.mono (fun _ _ _=>trivial)).keep (by rw[hw4];simp) (fun b _ hb=>by rw[hw4];exact Below.heap_alloc _ _ _ hb);have hc2:Cells w4 (fun _=>True) (.slice (some ⟨w3.heap.size,0,none⟩) 2 2) 2 1 (n32s [lo,hi]):=two_cells (by rw[hw4];exact heap_alloc_new w3 _) trivial;have hB4:Below w.heap.size w w4:=by rw[hw4];exact hB3.out.alloc hB3.out.size _
 rw[← hw4];have hq:=qTimes_ok (a:=s) (b:=[lo,hi]) (hsl.symm ▸ hc1) hc2 (by omega) (by simp) (by omega) (by simp) hsx.out hll.out;rw[hsl] at hq;refine hq.mono ?_;rintro e w5 ⟨v,rfl,hv,hb⟩;rw[← hc.out,hcl] at hv;have hB5:Below w.heap.size w w5:=hB4.trans (hb.mono hB4.size);obtain⟨vg,voff,vcap,rfl,_,hv2,_,hvl,hcell⟩:=Cells.at hv (by omega);unfold maxLen at hv2;have hcell2:∀ j,j<6→w5.cell? ⟨vg,voff+j,none⟩=some (.int .u32 (c.getD j 0:Nat)):=fun j hj=>hcell j _ (n32s_get c j (by omega))
 replace hcell2:=LH hcell2;replace hB5:=LH hB5;clear hc1 hc2 hB4 hb hw4 hv hcell hq hB3;go_wp2
 go_loop [7,8] (fun i _=>∃ I:Nat,I≤6∧i=.int .i64 ((I:Int) - 1)∧Hid (abF c p 6=abF c p I))
  (fun i _=>((intOf i)+1).toNat)
 case atStart=>exact⟨6,by omega,rfl,rfl⟩
 case round=>
  obtain⟨I,hI,rfl,hab⟩:=hrel;cases I with
  | zero=>
   have h0:((0:Nat):Int) - 1<0:=by omega
   go_wp2;go_ret;refine⟨ret_bool ?_,hB5.out⟩;rw[hab.out,abF]
  | succ I=>
   have hI1:((I+1:Nat):Int) - 1=I:=by omega
   have hcc:=hcell2.out I (by omega);have hxl:=hcx.out I;have hst:abF c p (I+1)=if c.getD I 0≠wantC p I then decide (wantC p I<c.getD I 0) else abF c p I:=by rw[abF]
   obtain⟨x,hx⟩:∃ x,x=c.getD I 0:=⟨_,rfl⟩;obtain⟨P,hP⟩:∃ P,P=p % 4294967296:=⟨_,rfl⟩;have iP:IntKind.u32.wrap (p:Int)=P:=by rw[IntKind.wrap_u32',hP];simp
   rw[← hx] at hcc hxl hst;replace hx:=LH hx;by_cases h3:I=3
   ·subst h3
    have hst2:abF c p 4=if x≠P then decide (P<x) else abF c p 3:=by
     have h:=hst;rw[wantC,if_pos rfl,← hP] at h;exact h
    replace hst2:=LH hst2;clear hst;replace hP:=LH hP;by_cases hxP:x=P
    ·subst hxP;have h:=hst2.out;rw[if_neg (by simp)] at h;replace h:=LH h;go_wp2
     go_round
     case rel=>exact⟨3,by omega,by go_num,hab.out.trans h.out⟩
     case measure=>simp[intOf]
    ·have hne:((x:Int) != P)=true:=by simp;omega
     have h:=hst2.out;rw[if_pos hxP] at h;replace h:=LH h;go_wp2;go_ret;exact⟨ret_bool (h.out.symm.trans hab.out.symm),hB5.out⟩
   ·have hst2:abF c p (I+1)=if x≠0 then decide (0<x) else abF c p I:=by
     have h:=hst;rw[wantC,if_neg h3] at h;exact h
    have e3:((I:Int) == 3)=false:=by simp;omega
    replace hst2:=LH hst2;clear hst;replace hP:=LH hP;by_cases hxP:x=0
    ·subst hxP;have h:=hst2.out;rw[if_neg (by simp)] at h;replace h:=LH h;go_wp2
     go_round
     case rel=>exact⟨I,by omega,by go_num,hab.out.trans h.out⟩
     case measure=>simp[intOf]
    ·have hne:((x:Int) != 0)=true:=by simp;omega
     have h:=hst2.out;rw[if_pos hxP] at h;replace h:=LH h;go_wp2;go_ret;exact⟨ret_bool (h.out.symm.trans hab.out.symm),hB5.out⟩
def cbS (p:Nat):Nat→Nat
 | 0=>0
 | k+1=>if aboveB (cbS p k ||| 2 ^ (35 - k)) p then cbS p k else cbS p k ||| 2 ^ (35 - k)
theorem cbS_zero {p:Nat}:cbS p 0=0:=rfl
theorem cbS_succ {p k:Nat}:cbS p (k+1)=if aboveB (cbS p k ||| 2 ^ (35 - k)) p then cbS p k else cbS p k ||| 2 ^ (35 - k):=rfl
theorem or36 {x k:Nat}(h:x<2 ^ 36):x ||| 2 ^ (35 - k)<2 ^ 36:=Nat.or_lt_two_pow h (Nat.pow_lt_pow_right (by omega) (by omega))
attribute [irreducible] cbS aboveB
theorem qCube_ok (p:Nat) (w:World):Calls prog 59 #[.int .u64 p] w fun e w'=>e=.returned (.int .u32 (cbS p 36 % 4294967296:Nat))∧Below w.heap.size w w':=by
 go_enter func59,ntmps59;go_wp2
 go_loopw [3,4,5] (fun x y _ wr=>∃ k X:Nat,k≤36∧X<2 ^ 36∧x=.int .u64 X∧y=.int .i64 (35 - (k:Int))∧Hid (cbS p k=X)∧Hid (Below w.heap.size w wr))
  (fun _ y _ _=>((intOf y)+1).toNat)
 case atStart=>exact⟨0,0,by omega,by omega,rfl,rfl,cbS_zero,Below.refl _ _⟩
 case round=>
  obtain⟨k,X,hk,hX,rfl,rfl,hm,hbr⟩:=hrel;by_cases h37:k<36
  ·obtain⟨s,hs⟩:∃ s,s=35 - k:=⟨_,rfl⟩;have hs1:(35:Int) - k=s:=by omega
   have hs7:s≤35:=by omega
   have hmin:min s 64=s:=by omega
   have hS:=cbS_succ (p:=p) (k:=k);have hYl:=or36 (k:=k) hX;rw[hm.out,← hs] at hS;rw[← hs] at hYl;have hp2:2 ^ s<2 ^ 37:=Nat.pow_lt_pow_right (by omega) (by omega);have hpi:(2:Int) ^ s=((2 ^ s:Nat):Int):=by simp
   obtain⟨P2,hP2⟩:∃ P2,P2=2 ^ s:=⟨_,rfl⟩;rw[← hP2] at hS hYl hp2 hpi;have hor:=u64_or_nat X P2 (by omega) (by omega);obtain⟨Y,hY⟩:∃ Y,Y=X ||| P2:=⟨_,rfl⟩
   rw[← hY] at hS hYl hor;have hab:=qAbove_ok Y p (by omega) wr;obtain⟨b,hb⟩:∃ b,b=aboveB Y p:=⟨_,rfl⟩;rw[← hb] at hab hS;replace hab:=LH hab;replace hS:=LH hS;replace hY:=LH hY;replace hP2:=LH hP2;replace hs:=LH hs;replace hb:=LH hb
   go_wp2_with fail
   refine hab.out.mono ?_;rintro e w1 ⟨rfl,h1⟩;have hB1:Below w.heap.size w w1:=hbr.out.trans (h1.mono hbr.out.size);replace hB1:=LH hB1;clear h1 hab;cases b with
   | true=>
    have h:=hS.out;rw[if_pos rfl] at h;replace h:=LH h;go_wp2;go_roundw
    case rel=>exact⟨k+1,X,by omega,hX,rfl,by go_num,h.out,hB1.out⟩
    case measure=>simp[intOf];omega
   | false=>
    have h:=hS.out;rw[if_neg (by simp)] at h;replace h:=LH h;go_wp2;go_roundw
    case rel=>exact⟨k+1,Y,by omega,hYl,rfl,by go_num,h.out,hB1.out⟩
    case measure=>simp[intOf];omega
  ·have hk8:k=36:=by omega
   rw[hk8] at hm;clear hk8;have hneg:(35:Int) - k<0:=by omega
   go_wp2;go_ret;exact⟨ret_int (by rw[hm.out];first|done|omega),hbr.out⟩
end Go.Proofs.YtbgfdbidbjlaaaaGreat.Fd

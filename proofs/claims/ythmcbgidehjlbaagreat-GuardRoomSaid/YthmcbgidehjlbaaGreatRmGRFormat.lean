/-
  ring.Format. No condition beyond what each theorem names.
-/
import Derived.Test.YthmcbgidehjlbaaGreatRmGPut
namespace Go.Proofs.YthmcbgidehjlbaaGreat.Fd
open _root_.Go.Proofs.Tryz
open Go Go.RowKit K
set_option maxRecDepth 100000
set_option maxHeartbeats 8000000
theorem infoSealed:(prog.info? 168).map (fun i=>(i.zero,i.size,i.bytes))=some (some (.agg #[.int .i64 0,.slice none 0 0]),2,32):=by kernel_rfl
theorem ring_built {st:List Value}(hst:st.length=8) (w:World):(Instr.build 176 ([(0,.agg st.toArray),(1,.int .i64 0)]:List (Nat×Value)).toArray).run prog w=.ok (.agg (st++[Value.int .i64 0]).toArray) w:=by
 refine run_build w _ _ _ ?_;rw[built_of (places:=[(0,8),(8,1)]) (z:=.agg #[.pointer none,.pointer none,.string ⟨#[]⟩,.int .i64 0,.int .i64 0,.slice none 0 0,.slice none 0 0,.pointer none,.int .i64 0]) underlying176 (by kernel_rfl) (by kernel_rfl)];show Instr.fill _ #[.pointer none,.pointer none,.string ⟨#[]⟩,.int .i64 0,.int .i64 0,.slice none 0 0,.slice none 0 0,.pointer none,.int .i64 0] [(0,.agg st.toArray),(1,.int .i64 0)]=_;rw[fill_cons (off:=0) (size:=8) rfl (by simp[Value.cells,hst]) (Nat.le_of_ble_eq_true rfl)]
 have e:splice (#[.pointer none,.pointer none,.string ⟨#[]⟩,.int .i64 0,.int .i64 0,.slice none 0 0,.slice none 0 0,.pointer none,.int .i64 0]:Array Value).toList 0 (Value.agg st.toArray).cells.toList=st++[.int .i64 0]:=by
  show List.take 0 _++(st++List.drop (0+st.length) _)=_;rw[hst];rfl
 rw[e,fill_cons (off:=8) (size:=1) rfl rfl (by simp[hst]),Instr.fill];congr 2;show splice (st++[.int .i64 0]) 8 _=_;rw[splice_app _ _ _ 0 (by simp[hst])];rfl
structure RY (N b:Nat) (x y:World):Prop where
 b0:∃ n,Bk x b n
 b1:∃ n,Bk y b n
 os:y.os=x.os
 tape:y.tape=x.tape
 output:y.output=x.output
 size:x.heap.size≤y.heap.size
 old:∀ g,g<N→g<x.heap.size→¬ BkT x b g→y.heap[g]?=x.heap[g]?
 other:∀ (g:Nat) (C:Array Value) (t:TypeId) (m:Nat×Nat),x.heap[g]?=some (.cells C t m)→t≠168→t≠223→t≠145→y.heap[g]?=some (.cells C t m)
 box:∀ (g:Nat) (C:Array Value) (m:Nat×Nat),x.heap[g]?=some (.cells C 168 m)→∃ C',C'.size=C.size∧y.heap[g]?=some (.cells C' 168 m)
section
variable {N b n:Nat}{x y z:World}
theorem RY.trans (h:RY N b x y) (k:RY N b y z):RY N b x z:=by
 refine⟨h.b0,k.b1,k.os.trans h.os,k.tape.trans h.tape,k.output.trans h.output,Nat.le_trans h.size k.size,fun g hg hx hn=>?_,fun g C t m hg h1 h2 h3=>k.other g C t m (h.other g C t m hg h1 h2 h3) h1 h2 h3,fun g C m hg=>?_⟩
 ·have e:=h.old g hg hx hn;rw[k.old g hg (Nat.lt_of_lt_of_le hx h.size) ?_,e];rintro (rfl|⟨hle,cs,m,hc⟩)
  ·exact hn (.inl rfl)
  ·rw[e] at hc;exact hn (.inr ⟨hle,cs,m,hc⟩)
 ·obtain⟨C1,e1,h1⟩:=h.box g C m hg;obtain⟨C2,e2,h2⟩:=k.box g C1 m h1;exact⟨C2,e2.trans e1,h2⟩
theorem RY.of_bkg {k:Nat}(hB:Bk x b n) (hB':Bk y b k) (h:BkG No b x y):RY N b x y:=
 ⟨⟨n,hB⟩,⟨k,hB'⟩,h.os,h.tape,h.output,h.size,fun g _ hx hn=>h.block g hx (fun e=>e.elim id hn),fun g C t m hg _ h2 h3=>h.at hB hg id h2 h3,fun g C m hg=>⟨C,rfl,h.at hB hg id (by decide) (by decide)⟩⟩
theorem RY.own (h:RY N b x y){B:Nat}{v:Value}{k:Nat}{xs:List Value}(ho:x.ownsRow B 5 1 v k xs):y.ownsRow B 5 1 v k xs:=owns_keep ho (fun g hg=>by
 obtain⟨cur,hc⟩:=own_cells' ho hg;rw[hc];exact h.other _ _ _ _ hc (by decide) (by decide) (by decide))
theorem RY.bkg (h:RY N b x y) (hN:N=x.heap.size):BkG No b x y:=⟨h.os,h.tape,h.output,h.size,fun g hg hn=>h.old g (hN ▸ hg) hg (fun e=>hn (.inr e))⟩
theorem RY.store (h:RY N b x y){p:Nat}(hp:N≤p){C C':Array Value}{m:Nat×Nat}(hc:y.heap[p]?=some (.cells C 168 m)) (hs:C'.size=C.size){k:Nat}(hB:Bk y b k):RY N b x (y.setRow p C'):=by
 have hBk:Bk (y.setRow p C') b k:=hB.keep (fun g hg hl=>setRow_other _ _ _ _ (fun e=>BkT.type hB hc (by decide) (by decide) (e ▸ hg)));refine⟨h.b0,⟨k,hBk⟩,by rw[setRow_os];exact h.os,by rw[setRow_tape];exact h.tape,by rw[setRow_output];exact h.output,by rw[setRow_size];exact h.size,fun g hg hx hn=>?_,fun g C t m hg h1 h2 h3=>?_,fun g D m' hg=>?_⟩
 ·rw[setRow_other _ _ _ _ (by omega)];exact h.old g hg hx hn
 ·have h4:=h.other g C t m hg h1 h2 h3
  rw[setRow_other _ _ _ _ (by
   rintro rfl;rw[hc] at h4;simp only[Option.some.injEq,Obj.cells.injEq] at h4;exact h1 h4.2.1.symm)]
  exact h4
 ·obtain⟨C1,e1,h1⟩:=h.box g D m' hg;by_cases hgp:g=p
  ·subst hgp;rw[hc] at h1;simp only[Option.some.injEq,Obj.cells.injEq] at h1;obtain⟨rfl,_,rfl⟩:=h1;exact⟨C',hs.trans e1,setRow_heap _ _ _ _ _ _ hc⟩
  ·exact⟨C1,e1,(setRow_other _ _ _ _ hgp).trans h1⟩
end
theorem riFormat_ok {w:World}{F:Nat→Prop}{d s b n k:Nat}{X:D.Dk}{what:ByteArray}{tp:Option Addr}{S S':Nat→Prop}{dv mv:Value}{A M:List UInt8}(h:D.At w F d X) (hX:DkOk X k) (hk:k<900) (hs:SuiteAt w s none tp) (hB:Bk w b n) (hn:n<900000) (hFB:∀ g,F g→¬ BkT w b g)
  (hd:Bytes w S dv A) (hA:A.length=64) (hm:Bytes w S' mv M) (hM:M.length=32):
  Calls prog 64 #[.pointer (some ⟨d,0,none⟩),.pointer (some ⟨s,0,none⟩),.string what,.agg #[.int .i64 25,.int .i64 35],dv,mv,.pointer (some ⟨b,0,none⟩)] w fun e w'=>∃ r,e=.returned (.tuple #[.pointer (some ⟨r,0,none⟩),.int .i64 0])∧w.heap.size≤r∧(∃ F' X',D.At w' F' d X'∧DkOk X' 0∧∀ g,F' g→F g∨w.heap.size≤g)∧Bk w' b (n+2)∧Chg (fun g=>F g∨BkT w b g) w w':=by
 obtain⟨da,dc,rfl,hdc1,hdc2⟩:=hd.shape;obtain⟨ma,mc,rfl,hmc1,hmc2⟩:=hm.shape;rw[hA,hM];obtain⟨q,hq⟩:∃ q,q=w.heap.size:=⟨_,rfl⟩;obtain⟨w1,hw1⟩:∃ w1,w1=w.alloc (.cells #[.int .i64 25,.int .i64 35] 27):=⟨_,rfl⟩;have b1:Below w.heap.size w w1:=by rw[hw1];exact (Below.refl _ _).alloc (Nat.le_refl _) _
 have x1:w1.heap[q]?=some (.cells #[.int .i64 25,.int .i64 35] 27 (0,0)):=by rw[hw1,hq];exact heap_alloc_new w _
 have hd1:Bytes w1 S (.slice da A.length dc) A:=Cells.keep hd b1.size (fun g _ hg=>b1.block g hg);have hm1:Bytes w1 S' (.slice ma M.length mc) M:=Cells.keep hm b1.size (fun g _ hg=>b1.block g hg);have hc1:=LH (fun w3 (hc:Chg No w1 w3)=>clone_ok (Bytes.chg hd1 hc (fun _ _ _=>id)) (by omega));have hc2:=LH (fun w3 (hc:Chg No w1 w3)=>clone_ok (Bytes.chg hm1 hc (fun _ _ _=>id)) (by omega));have hdr:∀ w3,Chg No w1.drew w3→Chg No w1 w3:=fun w3 h=>⟨h.os,h.tape,h.output,h.size,h.block⟩
 have hla:∀ w3,Chg No w1 w3→(Instr.loadAt 27 (.pointer (some ⟨q,0,none⟩))).run prog w3=.ok (.agg #[.int .i64 25,.int .i64 35]) w3:=fun w3 hc=>
  load_struct (x:=[.int .i64 25,.int .i64 35]) underlying27 (by kernel_rfl) (fun j v hv=>by rw[Nat.zero_add,cell_of ((hc.block q (heap_lt x1) id).trans x1)];simpa using hv)
 rw[hA] at hc1;rw[hM] at hc2;have hB1:=hB.after b1;replace hla:=LH hla;replace hdr:=LH hdr;replace b1:=LH b1;replace hB:=LH hB;replace hs:=LH hs;replace hFB:=LH hFB;replace h:=LH h;replace hX:=LH hX;replace hB1:=LH hB1;clear hd hm hd1 hm1 x1;go_enter func64,ntmps64;go_wp2;rw[← hw1,← hq];replace hw1:=LH hw1;replace hq:=LH hq;refine RA.regionT (Chg No) (Chg No) [1,1,1,1,1,3,1,3,1,1,2,7] [11] (fun _ v w3=>∃ p,v=.pointer (some ⟨p,0,none⟩)∧w1.heap.size≤p∧w3.heap[p]?=some (.cells #[.pointer none,.pointer none,.string ⟨#[]⟩,.int .i64 0,.int .i64 0,.slice none 0 0,.slice none 0 0,.pointer none] 174 (0,0))) (fun _=>True) (by kernel_rfl) (Chg.refl _ _) (fun _ _ h=>h) (fun _ _ _ h k=>h.trans k) (fun _ _ _ _=>trivial) trivial (by kernel_rfl) (by kernel_rfl) ?_;intro cx
 repeat refine RA.qq (h:=?_)
 refine RA.ld (by kernel_rfl) (by rfl) (by rfl) (y':=.agg #[.int .i64 25,.int .i64 35]) (fun w3 hp=>hla.out w3 (hdr.out _ hp.1)) ?_
 repeat refine RA.qq (h:=?_)
 refine RA.qc (P:=prog) [.slice da 64 dc] (fun v w3=>w3.ownsRow w1.heap.size 5 1 v 64 (u8s A)) (fun _ _=>True) (fun _ _=>by go_simp) (by kernel_rfl) (by rfl) (by rfl) (by kernel_rfl) (fun v a b h h2=>owns_keep h2 (fun g hg=>h.block g (owns_lt h2 g hg) id)) (fun _ _ _ _ h=>h) rfl (fun w3 hp hH=>by
  refine (hc1.out w3 (hdr.out _ hp.1)).mono ?_;rintro e w4 ⟨v,rfl,k1,k2,-⟩;exact⟨v,rfl,Chg.of_below k2 _,owns_base k1 (hdr.out _ hp.1).size,trivial⟩) (fun u5=>?_)
 repeat refine RA.qq (h:=?_)
 refine RA.qc (P:=prog) [.slice ma 32 mc] (fun v w3=>w3.ownsRow w1.heap.size 5 1 v 32 (u8s M)) (fun _ _=>True) (fun _ _=>by go_simp) (by kernel_rfl) (by rfl) (by rfl) (by kernel_rfl) (fun v a b h h2=>owns_keep h2 (fun g hg=>h.block g (owns_lt h2 g hg) id)) (fun _ _ _ _ h=>h) rfl (fun w3 hp hH=>by
  refine (hc2.out w3 (hdr.out _ hp.1)).mono ?_;rintro e w4 ⟨v,rfl,k1,k2,-⟩;exact⟨v,rfl,Chg.of_below k2 _,owns_base k1 (hdr.out _ hp.1).size,trivial⟩) (fun u7=>?_)
 repeat refine RA.qq (h:=?_)
 refine RA.vk prog (.agg (stL d s b what u5 u7).toArray) (hr:=fun w3 hp=>by
  obtain⟨g1,cp1,rfl,_⟩:=own_shape (show w3.ownsRow w1.heap.size 5 1 u5 64 (u8s A) from hp.fact 1 rfl (by kernel_rfl)) (by omega);obtain⟨g2,cp2,rfl,_⟩:=own_shape (show w3.ownsRow w1.heap.size 5 1 u7 32 (u8s M) from hp.fact 0 rfl (by kernel_rfl)) (by omega);clear hp;go_simp;rfl) (h:=?_)
 refine RA.fr (by kernel_rfl) (by rfl) (fun v x y hr hk=>by
  obtain⟨p,h1,h2,h3⟩:=hk;exact⟨p,h1,h2,(hr.block p (heap_lt h3) id).trans h3⟩) (fun w4 hp=>⟨.pointer (some ⟨w4.heap.size,0,none⟩),w4.alloc (.cells #[.pointer none,.pointer none,.string ⟨#[]⟩,.int .i64 0,.int .i64 0,.slice none 0 0,.slice none 0 0,.pointer none] 174),by
  show (execOp _ _).run prog w4=_;go_simp,(Chg.refl _ _).alloc _,w4.heap.size,rfl,(hdr.out _ hp.1).size,heap_alloc_new w4 _⟩) (fun u10=>?_)
 refine RA.stt (fun w5=>∃ (p kg kc mg mc':Nat),u10=.pointer (some ⟨p,0,none⟩)∧w1.heap.size≤p∧w5.heap[p]?=some (.cells (stL d s b what (.slice (some ⟨kg,0,none⟩) 64 kc) (.slice (some ⟨mg,0,none⟩) 32 mc')).toArray 174 (0,0))∧w5.ownsRow w1.heap.size 5 1 (.slice (some ⟨kg,0,none⟩) 64 kc) 64 (u8s A)∧w5.ownsRow w1.heap.size 5 1 (.slice (some ⟨mg,0,none⟩) 32 mc') 32 (u8s M)∧Below w1.heap.size w1 w5) (by kernel_rfl) (by rfl) (by kernel_rfl) (fun x y hE hk=>by
  obtain⟨p,kg,kc,mg,mc',h1,h2,h3,h4,h5,h6⟩:=hk;exact⟨p,kg,kc,mg,mc',h1,h2,(hE.block p (heap_lt h3) id).trans h3,owns_keep h4 (fun g hg=>hE.block g (owns_lt h4 g hg) id),owns_keep h5 (fun g hg=>hE.block g (owns_lt h5 g hg) id),h6.trans (hE.no.mono h6.size)⟩) (fun w4 hp0 hH=>by
  have hp:=hp0.first (by kernel_rfl);obtain⟨p,rfl,h2,h3⟩:=hp.fact 0 rfl (by kernel_rfl);have hm7:=(show w4.ownsRow w1.heap.size 5 1 u7 32 (u8s M) from hp.fact 1 rfl (by kernel_rfl));have hd5:=(show w4.ownsRow w1.heap.size 5 1 u5 64 (u8s A) from hp.fact 2 rfl (by kernel_rfl));obtain⟨kg,kc,rfl,_⟩:=own_shape hd5 (by omega);obtain⟨mg,mc',rfl,_⟩:=own_shape hm7 (by omega)
  have hno:∀ {v:Value}{e n:Nat}{xs:List Value}{g:Nat},w4.ownsRow w1.heap.size 5 1 v n xs→v.ownBlock=some g→g≠p:=fun hr hg e=>by
   subst e;exact apartT hr h3 (by decide) hg
  refine⟨w4.setRow p (stL d s b what (.slice (some ⟨kg,0,none⟩) 64 kc) (.slice (some ⟨mg,0,none⟩) 32 mc')).toArray,RA.ex_store (by rfl) (by rfl) (store_struct h3 (by exact sizeStore) rfl stL_one),p,kg,kc,mg,mc',rfl,h2,setRow_heap _ _ _ _ _ _ h3,owns_keep hd5 (fun g hg=>setRow_other _ _ _ _ (hno (e:=0) hd5 hg)),owns_keep hm7 (fun g hg=>setRow_other _ _ _ _ (hno (e:=0) hm7 hg)),below_setRow (hdr.out _ hp.1).no h2 _⟩) ?_
 refine RA.RA.doneT (fun w2 hH=>?_);simp only[RA.put,List.foldr_cons,List.foldr_nil,cx,Act.put,List.setIfInBounds_toArray,List.set_cons_succ,List.set_cons_zero];obtain⟨p,kg,kc,mg,mc',rfl,hp1,x2,hk2,hm2,hb2⟩:=hH;obtain⟨st,hst⟩:∃ st,st=stL d s b what (.slice (some ⟨kg,0,none⟩) 64 kc) (.slice (some ⟨mg,0,none⟩) 32 mc'):=⟨_,rfl⟩;have hbw2:Below w.heap.size w w2:=b1.out.trans (hb2.mono b1.out.size);have h2:D.At w2 F d X:=h.out.chg (Chg.of_below hbw2 No) (fun _ _=>id);have hmay:=LH (riMay_ok (s:=s) (b:=b) h2 hX.out.2.1 what (some ⟨kg,0,none⟩) (some ⟨mg,0,none⟩) kc mc');rw[← hst] at hmay x2;have hld2:=LH ((BoxS.mk x2).load (by rw[hst];rfl));obtain⟨c,hc⟩:∃ c,c=st.toArray:=⟨_,rfl⟩;rw[← hc] at hmay hld2;replace x2:=LH x2;replace hk2:=LH hk2;replace hm2:=LH hm2;replace hbw2:=LH hbw2;replace hst:=LH hst;replace hc:=LH hc;clear hb2 h2 hla hc1 hc2 hdr
 go_wp2_with (first|(refine wpList_load rfl 174 _ rfl _ _ rfl hld2.out ?_)|fail)
 refine hmay.out.mono ?_;rintro e w3 ⟨rfl,hb3⟩;have hbw3:=LH (hbw2.out.trans (hb3.mono hbw2.out.size));have x3:=LH ((hb3.block p (heap_lt x2.out)).trans x2.out);have hk3:=LH (owns_keep hk2.out (fun g hg=>hb3.block g (owns_lt hk2.out g hg)));have hm3:=LH (owns_keep hm2.out (fun g hg=>hb3.block g (owns_lt hm2.out g hg)));have hB3:=LH (hB.out.after hbw3.out);have s3:=LH (show SuiteAt w3 s none tp from (hbw3.out.block s (heap_lt hs.out)).trans hs.out);have hw1s:=b1.out.size;clear hb3 hmay hld2 x2 hk2 hm2 hbw2 hB1 b1;go_wp2
 go_loopg [18,38] 2 (fun g lo ix wr=>∃ (j:Nat) (lv:Value) (ws:List (Nat×Value)),lv=lo∧j+g=2∧ix=.int .i64 j∧ws.length=j∧Hid (PutAt wr w.heap.size 168 lv ws)∧Hid (Bk wr b (n+j))∧Hid (BkG (fun g=>w.heap.size≤g) b w wr)∧Hid (wr.heap[p]?=some (.cells st.toArray 174 (0,0)))∧Hid (wr.ownsRow w1.heap.size 5 1 (.slice (some ⟨kg,0,none⟩) 64 kc) 64 (u8s A))∧Hid (wr.ownsRow w1.heap.size 5 1 (.slice (some ⟨mg,0,none⟩) 32 mc') 32 (u8s M))∧Hid (SuiteAt wr s none tp))
 case atStart=>exact⟨0,_,[],rfl,by omega,rfl,rfl,⟨World.ownsRow_nil _ _ _ _,fun p hp=>absurd hp (by simp)⟩,hB3.out,BkG.of_below hbw3.out,x3.out,hk3.out,hm3.out,s3.out⟩
 case round=>
  obtain⟨j,lv,ws,rfl,hjg,rfl,hwl,HP,HB,HG,HX,HK,HM,HS⟩:=hrel;obtain⟨wo,rfl⟩:∃ wo:World,wo=wr:=⟨_,rfl⟩;by_cases hlt:j<2
  ·obtain⟨g1,rfl⟩:∃ i,gk=i+1:=⟨gk - 1,by omega⟩;have hlI:(j:Int)<2:=by omega
   have hsz:w.heap.size≤wo.heap.size:=HG.out.size;have hBd:Bk wo.drew b (n+j):=HB.out.keep (fun _ _ _=>rfl);have hR0:RY wo.heap.size b wo.drew wo.drew:=RY.of_bkg hBd hBd BkG.refl;have hdr:∀ w4,RY wo.heap.size b wo.drew w4→RY wo.heap.size b wo w4:=fun w4 h=>⟨⟨_,HB.out⟩,h.b1,h.os,h.tape,h.output,h.size,h.old,h.other,h.box⟩
   have hbx:∀ w4,RY wo.heap.size b wo w4→BoxS w4 p st:=fun w4 hr=>⟨hr.other _ _ _ _ HX.out (by decide) (by decide) (by decide)⟩
   have hkx:∀ w4,RY wo.heap.size b wo w4→w4.ownsRow w1.heap.size 5 1 (.slice (some ⟨kg,0,none⟩) 64 kc) 64 (u8s A):=fun w4 hr=>hr.own HK.out
   have hmx:∀ w4,RY wo.heap.size b wo w4→w4.ownsRow w1.heap.size 5 1 (.slice (some ⟨mg,0,none⟩) 32 mc') 32 (u8s M):=fun w4 hr=>hr.own HM.out
   have hux:∀ w4,RY wo.heap.size b wo w4→SuiteAt w4 s none tp:=fun w4 hr=>hr.other _ _ _ _ HS.out (by decide) (by decide) (by decide)
   have hst8:st.length=8:=by rw[hst.out];rfl
   obtain⟨Y,hY⟩:∃ Y,Y=25+j:=⟨_,rfl⟩;replace hBd:=LH hBd;replace hR0:=LH hR0;replace hdr:=LH hdr;replace hbx:=LH hbx;replace hkx:=LH hkx;replace hmx:=LH hmx;replace hux:=LH hux;replace hY:=LH hY;go_wp2;refine RA.region (RY wo.heap.size b) (fun x y=>(∃ n,Bk x b n)∧Chg No x y) [1,1,1,1,3,3,1,1,1,2,4,1] (fun _ v w4=>∃ p',v=.pointer (some ⟨p',0,none⟩)∧wo.heap.size≤p'∧∃ C,C.size=2∧w4.heap[p']?=some (.cells C 168 (0,0))) (fun w4=>Bk w4 b (n+j)) (by kernel_rfl) hR0.out (fun x y h=>by obtain⟨k,hk⟩:=h.1;exact RY.of_bkg hk (hk.after h.2.no) (BkG.of_no h.2)) (fun _ _ _ h k=>h.trans k) (fun _ _ h k=>k.after h.2.no) hBd.out (by kernel_rfl) ?_;intro cx;refine RA.ld (by kernel_rfl) (by rfl) (by rfl) (y':=.agg c) (fun w3 hp=>by rw[hc.out];exact (hbx.out _ (hdr.out _ hp.1)).load hst8) ?_
   repeat refine RA.qq (h:=?_)
   refine RA.ld (by kernel_rfl) (by rfl) (by rfl) (y':=.agg c) (fun w3 hp=>by rw[hc.out];exact (hbx.out _ (hdr.out _ hp.1)).load hst8) ?_
   refine RA.vk prog (.agg (headL 0 0 (List.replicate 16 0)).toArray) (hr:=fun w3 hp=>by
    clear hp;go_simp;rfl) (h:=?_)
   refine RA.qc (P:=prog) [.agg c,.agg (headL 0 0 (List.replicate 16 0)).toArray] (fun _ _=>True) (fun v w4=>Bk w4 b (n+j+1)∧∃ l:List UInt8,l.length=48∧Bytes w4 (fun _=>True) v l) (fun _ _=>by go_simp) (by kernel_rfl) (by rfl) (by rfl) (by kernel_rfl) (fun _ _ _ _ _=>trivial) (fun v x y hE hk=>by
    obtain⟨h1,l,h2,h3⟩:=hk;exact⟨h1.after hE.2.no,l,h2,h3.chg hE.2 (fun _ _ _=>id)⟩) rfl (fun w4 hp hH=>by
    have hH':Bk w4 b (n+j):=hH;have hr:=hdr.out _ hp.1;have hby:=riBytes_ok (w:=w4) (d:=d) (s:=s) (what:=what) (dv:=.slice (some ⟨kg,0,none⟩) 64 kc) hH' (by omega) (owns_base (hmx.out w4 hr) (Nat.zero_le _)) 0 0 (by omega) (by omega) (T:=List.replicate 16 0) (by simp);rw[← hst.out,← hc.out] at hby;refine hby.mono ?_;rintro e w5 ⟨v,rfl,⟨l,k1,k2⟩,k3,k4⟩;exact⟨v,rfl,RY.of_bkg hH' k3 k4,trivial,k3,l,k1,k2⟩) (fun u4=>?_)
   refine RA.qc (P:=prog) [.agg c,.int .i64 j,u4] (fun v w4=>∃ z Z,v=.tuple #[.agg #[.int .i64 Y,z],.int .i64 0]∧List.length Z=64∧w4.ownsRow w.heap.size 5 1 z 64 (u8s Z)) (fun _ w4=>Bk w4 b (n+j+1)) (fun _ _=>by go_simp) (by kernel_rfl) (by rfl) (by rfl) (by kernel_rfl) (fun v x y hr hk=>by
    obtain⟨z,Z,h1,h2,h3⟩:=hk;exact⟨z,Z,h1,h2,hr.own h3⟩) (fun v x y hE hk=>hk.after hE.2.no) rfl (fun w4 hp hH=>by
    obtain⟨hH1,l,k1,k2⟩:=hH;have hr:=hdr.out _ hp.1
    have hkb:Bytes w4 (fun _=>True) (.slice (some ⟨kg,0,none⟩) 64 kc) A:=by
     show Cells w4 _ _ A.length 1 _;rw[hA];exact (Cells.own (hkx.out w4 hr)).mono (fun _ _ _=>trivial)
    have hse:=riSeal_ok (w:=w4) (d:=d) (s:=s) (b:=b) (what:=what) (ma:=some ⟨mg,0,none⟩) (mc:=mc') hkb hA (hux.out w4 hr) j (by omega) k2 (by omega);rw[← hst.out,← hc.out,← hY.out] at hse;refine hse.mono ?_;rintro e w5 ⟨v,rfl,k3,k4⟩;exact⟨_,rfl,RY.of_bkg hH1 (hH1.after k4) (BkG.of_below k4),⟨v,_,rfl,by rw[xtsE_length (by rw[pad_length (by omega)])];exact pad_length (by omega),owns_base k3 (Nat.le_trans hsz hr.size)⟩,hH1.after k4⟩) (fun u5=>?_)
   repeat refine RA.qq (h:=?_)
   refine RA.vk prog (tup u5 0) (hr:=fun w3 hp=>by
    obtain⟨v,Z,rfl,_⟩:=hp.fact 0 rfl (by kernel_rfl);clear hp;go_simp;rfl) (h:=?_)
   refine RA.vk prog (tup u5 1) (hr:=fun w3 hp=>by
    obtain⟨v,Z,rfl,_⟩:=hp.fact 0 rfl (by kernel_rfl);clear hp;go_simp;rfl) (h:=?_)
   refine RA.fr (by kernel_rfl) (by rfl) (fun v x y hr hk=>by
    obtain⟨p',h1,h2,C,h3,h4⟩:=hk;obtain⟨C',h5,h6⟩:=hr.box _ _ _ h4;exact⟨p',h1,h2,C',h5.trans h3,h6⟩) (fun w4 hp=>⟨.pointer (some ⟨w4.heap.size,0,none⟩),w4.alloc (.cells #[.int .i64 0,.slice none 0 0] 168),by
    show (execOp _ _).run prog w4=_;go_simp,⟨(hdr.out _ hp.1).b1,(Chg.refl _ _).alloc _⟩,w4.heap.size,rfl,(hdr.out _ hp.1).size,_,rfl,heap_alloc_new w4 _⟩) (fun u9=>?_)
   refine RA.st (fun w5=>∃ (p' vg vc:Nat) (Z:List UInt8),u9=.pointer (some ⟨p',0,none⟩)∧u5=.tuple #[.agg #[.int .i64 Y,.slice (some ⟨vg,0,none⟩) 64 vc],.int .i64 0]∧Z.length=64∧w5.ownsRow w.heap.size 5 1 (.slice (some ⟨vg,0,none⟩) 64 vc) 64 (u8s Z)∧w5.heap[p']?=some (.cells #[.int .i64 Y,.slice (some ⟨vg,0,none⟩) 64 vc] 168 (0,0))∧Bk w5 b (n+j+1)) (by kernel_rfl) (by rfl) (by kernel_rfl) (fun x y hE hk=>by
    obtain⟨p',vg,vc,Z,h1,h2,h3,h4,h5,h6⟩:=hk;exact⟨p',vg,vc,Z,h1,h2,h3,owns_keep h4 (fun g hg=>hE.2.block g (owns_lt h4 g hg) id),(hE.2.block p' (heap_lt h5) id).trans h5,h6.after hE.2.no⟩) (fun w4 hp hH=>by
    obtain⟨p',rfl,h2,C,hCs,h3⟩:=hp.fact 0 rfl (by kernel_rfl);obtain⟨z,Z,rfl,h5,h6⟩:=hp.fact 1 rfl (by kernel_rfl);obtain⟨vg,vc,rfl,_⟩:=own_shape h6 (by omega);have hH':Bk w4 b (n+j+1):=hH;have hBk:Bk (w4.setRow p' #[.int .i64 Y,.slice (some ⟨vg,0,none⟩) 64 vc]) b (n+j+1):=hH'.keep (fun g hg hl=>setRow_other _ _ _ _ (fun e=>BkT.type hH' h3 (by decide) (by decide) (e ▸ hg)))
    exact⟨w4.setRow p' #[.int .i64 Y,.slice (some ⟨vg,0,none⟩) 64 vc],RA.ex_store (by rfl) (by rfl) (store_struct (P:=prog) (ty:=168) (x:=[.int .i64 Y,.slice (some ⟨vg,0,none⟩) 64 vc]) h3 (by kernel_rfl) hCs (by simp[Value.oneCell'])),(RY.of_bkg hH' hH' BkG.refl).store h2 h3 hCs.symm hH',p',vg,vc,Z,rfl,rfl,h5,owns_keep h6 (fun g hg=>setRow_other _ _ _ _ (by
     rintro rfl;exact apartT h6 h3 (by decide) hg)),setRow_heap _ _ _ _ _ _ h3,hBk⟩) ?_
   repeat refine RA.qq (h:=?_)
   refine RA.RA.done rfl (fun w5 hR hF hH=>?_);clear hF;simp only[RA.put,List.foldr_cons,List.foldr_nil,cx,Act.put,List.setIfInBounds_toArray,List.set_cons_succ,List.set_cons_zero];have hR5:=hdr.out _ hR;clear hR;obtain⟨p',vg,vc,Z,rfl,rfl,hZl,hv5,hp5,hB5⟩:=hH;simp only[tup,Array.getD_eq_getD_getElem?,List.getElem?_toArray,List.getElem?_cons_zero,List.getElem?_cons_succ,Option.getD_some];have hG5:BkG (fun g=>w.heap.size≤g) b w w5:=HG.out.trans ((hR5.bkg rfl).mono (fun _ _ e=>e.elim));have hX5:=(hbx.out _ hR5).at_;have hK5:=hkx.out _ hR5;have hM5:=hmx.out _ hR5;have hU5:=hux.out _ hR5;have hW5:w.heap.size≤w5.heap.size:=Nat.le_trans hsz hR5.size
   have hP5:w5.ownsRow w.heap.size 168 2 lv ws.length (wsL ws):=owns_keep HP.out.1 (fun g hg=>by
    obtain⟨cur,hc⟩:=own_cells' HP.out.1 hg;exact hR5.old g (heap_lt hc) (heap_lt hc) (BkT.type HB.out hc (by decide) (by decide)))
   have hE5:∀ p ∈ ws,p.1<120∧∃ Z:List UInt8,Z.length=64∧w5.ownsRow w.heap.size 5 1 p.2 64 (u8s Z):=fun p hp=>by
    obtain⟨h1,Z,h2,h3⟩:=HP.out.2 p hp;exact⟨h1,Z,h2,hR5.own h3⟩
   rw[hwl] at hP5;obtain⟨la,lc,rfl,_⟩:=(Cells.own hP5).shape;have f0:=cell_of hp5 0;have f1:=cell_of hp5 1;have hP6:=LH (owns_keep hP5 (fun g hg=>Below.heap_alloc w5 (.cells #[.int .i64 Y,.slice (some ⟨vg,0,none⟩) 64 vc] 168) g (owns_lt hP5 g hg)));have HCB:=LH (lit_cells w5 #[.int .i64 Y,.slice (some ⟨vg,0,none⟩) 64 vc] 168 1 2 rfl (by unfold maxLen;omega));have hbs:w.heap.size≤(w5.alloc (.cells #[.int .i64 Y,.slice (some ⟨vg,0,none⟩) 64 vc] 168)).heap.size:=by rw[World.size_alloc];omega
   replace hG5:=LH hG5;replace hX5:=LH hX5;replace hK5:=LH hK5;replace hM5:=LH hM5;replace hU5:=LH hU5;replace hP5:=LH hP5;replace hE5:=LH hE5;replace hv5:=LH hv5;replace hB5:=LH hB5;replace hW5:=LH hW5;clear hR5 hp5 HP HG HX HK HM HS HB hBd hR0 hdr hbx hkx hmx hux
   go_wp2_with (at_builtin;refine K.append ?_ (.tmp 53) (.tmp 55) 166 ?_ w.heap.size 168 (.agg #[.int .i64 0,.slice none 0 0]) 2 32 underlying166 infoSealed rfl (by omega) _ j _ ?_ hP6.out (fun _=>True) _ 1 [.int .i64 Y,.slice (some ⟨vg,0,none⟩) 64 vc] ?_ HCB.out (by simp[Value.oneCell']) (by unfold maxLen;omega) (by omega) ?_ ?_)
   any_goals (first|rfl|omega|exact hbs|exact Nat.le_succ_of_le hW5.out)
   intro v' w6 y1 y2 y3 y4;obtain⟨Wx,hWx⟩:∃ W,W=w5.alloc (.cells #[.int .i64 Y,.slice (some ⟨vg,0,none⟩) 64 vc] 168):=⟨_,rfl⟩;have y2:Wx.grownBy w6 (Value.slice la j lc).ownBlock:=by rw[hWx];exact y2
   have b56:Below w5.heap.size w5 Wx:=by rw[hWx];exact (Below.refl _ _).alloc (Nat.le_refl _) _
   have hkeep:∀ (g:Nat) (cs:Array Value) (ty:TypeId) (m:Nat×Nat),w5.heap[g]?=some (.cells cs ty m)→ty≠168→w6.heap[g]?=some (.cells cs ty m):=fun g cs ty m hg hne=>by
    rw[y2.block g (Nat.lt_of_lt_of_le (heap_lt hg) b56.size) (fun e=>?_),b56.block g (heap_lt hg),hg];obtain⟨cur,hc⟩:=own_cells' hP5.out e.symm;rw[hg] at hc;simp only[Option.some.injEq,Obj.cells.injEq] at hc;exact hne hc.2.1
   have hrow:∀ {B:Nat}{v:Value}{k:Nat}{xs:List Value},w5.ownsRow B 5 1 v k xs→w6.ownsRow B 5 1 v k xs:=fun {B v k xs} ho=>owns_keep ho (fun g hg=>by
    obtain⟨cur,hc⟩:=own_cells' ho hg;rw[hc];exact hkeep _ _ _ _ hc (by decide))
   have hB6:Bk w6 b (n+j+1):=hB5.out.keep (fun g hg _=>by
    rcases hg with rfl|⟨_,cs,m,hc⟩
    ·obtain⟨lv,hc⟩:=hB5.out.box;rw[hc];exact hkeep _ _ _ _ hc (by decide)
    ·rw[hc];exact hkeep _ _ _ _ hc (by decide))
   have hBw:Below w.heap.size w5 w6:=(b56.mono hW5.out).trans (((Chg.refl _ Wx:Chg (fun g=>(Value.slice la j lc).ownBlock=some g) Wx Wx).grown y2 (fun _ h _=>h)).below (Nat.le_trans hW5.out b56.size) (fun g hg e=>by have:=owns_ge hP5.out g e;omega));have hG6:BkG (fun g=>w.heap.size≤g) b w w6:=hG5.out.trans (BkG.of_chg ⟨hBw.os,hBw.tape,hBw.output,hBw.size,fun g _ hg=>hBw.block g (by omega)⟩)
   have hPut:PutAt w6 w.heap.size 168 v' (ws++[(Y,.slice (some ⟨vg,0,none⟩) 64 vc)]):=by
    refine⟨?_,fun p hp=>?_⟩
    ·rw[List.length_append,hwl,wsL_snoc];exact y1
    ·rcases List.mem_append.1 hp with hp|hp
     ·obtain⟨h1,Z',h2,h3⟩:=hE5.out p hp;exact⟨h1,Z',h2,hrow h3⟩
     ·simp only[List.mem_singleton] at hp;subst hp;exact⟨by have:=hY.out;omega,Z,hZl,hrow hv5.out⟩
   have hX6:=hkeep _ _ _ _ hX5.out (by decide);have hK6:=hrow hK5.out;have hM6:=hrow hM5.out;have hU6:SuiteAt w6 s none tp:=hkeep _ _ _ _ hU5.out (by decide);replace hB6:=LH hB6;replace hG6:=LH hG6;replace hPut:=LH hPut;replace hX6:=LH hX6;replace hK6:=LH hK6;replace hM6:=LH hM6;replace hU6:=LH hU6;replace hWx:=LH hWx;clear hkeep hrow hBw b56 y1 y2 y3 y4 hbs HCB hP6 f0 f1;go_wp2;go_roundg g1
   case measure=>omega
   case rel=>exact⟨j+1,_,ws++[((Y:Nat),Value.slice (some ⟨vg,0,none⟩) 64 vc)],rfl,by omega,by go_num,by simp[hwl],LH hPut.out,hB6.out,hG6.out,hX6.out,hK6.out,hM6.out,hU6.out⟩
  ·obtain rfl:gk=0:=by omega
   obtain rfl:j=2:=by omega
   have hFg:∀ g,F g→g<w.heap.size:=fun g hg=>h.out.lim g hg
   have hA2:D.At wo F d X:=h.out.keep HG.out.size (fun g hg hl=>HG.out.block g hl (fun e=>e.elim (fun e=>by have:=hFg g hg;omega) (hFB.out g hg)));obtain⟨la,lc,rfl,_⟩:=(Cells.own HP.out.1).shape;have hput:=riPut_ok (s:=s) (b:=b) (what:=what) (da:=some ⟨kg,0,none⟩) (ma:=some ⟨mg,0,none⟩) (dn:=64) (dc:=kc) (mn:=32) (mc:=mc') hA2 hX.out (by omega) hFg HG.out.size HP.out;rw[← hst.out,← hc.out] at hput;have hst8:st.length=8:=by rw[hst.out];rfl
   have hldo:=(BoxS.mk HX.out).load hst8;rw[← hc.out] at hldo;replace hldo:=LH hldo;replace hput:=LH hput;rw[hwl] at*;clear hA2
   go_wp2_with (first|(refine wpList_load rfl 174 _ rfl _ _ rfl hldo.out ?_)|fail)
   refine hput.out.mono ?_;rintro e w7 ⟨rfl,F7,X7,a1,a2,a3,a4⟩;have hpF:¬ F p:=fun e=>by have:=hFg p e;have:=HG.out.size;omega
   have hp7:=(a3.block p (heap_lt HX.out) hpF).trans HX.out;have hB7:Bk w7 b (n+2):=HB.out.keep (fun g hg hl=>a3.block g hl (fun e=>hFB.out g e (BkT.back HG.out (hFg g e) (by have:=hFg g e;omega) hg)))
   have hC7:Chg (fun g=>F g∨BkT w b g) w w7:=⟨a3.os.trans HG.out.os,a3.tape.trans HG.out.tape,a3.output.trans HG.out.output,Nat.le_trans HG.out.size a3.size,fun g hg hn=>by
    rw[a3.block g (Nat.lt_of_lt_of_le hg HG.out.size) (fun e=>hn (.inl e))];exact HG.out.block g hg (fun e=>e.elim (fun e=>by omega) (fun e=>hn (.inr e)))⟩
   have hld7:=(BoxS.mk hp7).load hst8;have hrb:=ring_built hst8 w7;have hsz7:w.heap.size≤w7.heap.size:=Nat.le_trans HG.out.size a3.size;have hF7:∀ g,F7 g→F g∨w.heap.size≤g:=fun g hg=>(a4 g hg).elim .inl (fun e=>.inr (Nat.le_trans HG.out.size e))
   rw[← hc.out] at hld7 hrb;obtain⟨rc,hrc⟩:∃ rc,rc=(st++[Value.int .i64 0]).toArray:=⟨_,rfl⟩;rw[← hrc] at hrb;have a1':D.At (w7.alloc (.cells rc 176)) F7 d X7:=a1.chg ((Chg.refl No w7).alloc _) (fun _ _=>id);have hB8:Bk (w7.alloc (.cells rc 176)) b (n+2):=hB7.after ((Below.refl _ _).alloc (Nat.le_refl _) _);have hC8:Chg (fun g=>F g∨BkT w b g) w (w7.alloc (.cells rc 176)):=hC7.alloc _;replace hld7:=LH hld7;replace hrb:=LH hrb;replace a1':=LH a1';replace hB8:=LH hB8;replace hC8:=LH hC8;replace hrc:=LH hrc;replace hF7:=LH hF7;clear a1 a3 a4 hp7 hB7 hC7 hput hldo HP HG HX HK HM HS HB
   go_wp2_with (first|(refine wpList_load rfl 174 _ rfl _ _ rfl hld7.out ?_)|(refine wpList_buildL rfl 176 _ rfl _ rfl _ hrb.out ?_)|fail)
   go_ret2;exact⟨_,rfl,hsz7,⟨F7,X7,a1'.out,a2,hF7.out⟩,hB8.out,hC8.out⟩
end Go.Proofs.YthmcbgidehjlbaaGreat.Fd

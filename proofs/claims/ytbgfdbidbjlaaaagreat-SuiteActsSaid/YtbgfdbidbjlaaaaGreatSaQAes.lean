/-
  The document's own New: a cipher of a key of 16 or 32 bytes. No condition beyond what each theorem names.
-/
import Derived.Test.YtbgfdbidbjlaaaaGreatSaQDecPk
import Derived.Test.YtbgfdbidbjlaaaaGreatSaXopenPk
namespace Go.Proofs.YtbgfdbidbjlaaaaGreat.Fd
open _root_.Go.Proofs.Tryz
open Go Go.RowKit K
set_option maxRecDepth 100000
set_option maxHeartbeats 8000000
structure QNewSt (w:World) (n p tb:Nat) (kv:Value) (ks:List UInt32) (x:World):Prop where
 below:Below n w x
 size:n≤x.heap.size
 hp:n≤p
 box:x.heap[p]?=some (.cells #[.pointer (some ⟨tb,0,none⟩),kv] 154 (0,0))
 own:x.ownsRow n 80 1 kv ks.length (u32s ks)
 far:∀ g,kv.ownBlock=some g→g≠p
theorem QNewSt.after {w:World}{n p tb:Nat}{kv:Value}{ks:List UInt32}{x y:World}(h:QNewSt w n p tb kv ks x) (hb:Below x.heap.size x y):QNewSt w n p tb kv ks y:=
 ⟨h.below.trans (hb.mono h.size),Nat.le_trans h.size hb.size,h.hp,(hb.block p (heap_lt h.box)).trans h.box,owns_keep h.own (fun g hg=>hb.block g (h.own.lt g hg).2),h.far⟩
structure QPushMid (w:World) (n p tb:Nat) (kv:Value) (ks:List UInt32) (y:Nat) (v':Value) (x:World):Prop where
 cell:x.cell? ⟨p,1,none⟩=some kv
 frozen:x.frozen? ⟨p,1,none⟩=false
 then_:QNewSt w n p tb v' (ks++[UInt32.ofNat y]) (x.setCell ⟨p,1,none⟩ v')
 shape:∃ g cp,v'=.slice (some ⟨g,0,none⟩) (ks.length+1) cp
theorem QNewSt.push {w:World}{n p tb:Nat}{kv:Value}{ks:List UInt32}{x w3:World}(h:QNewSt w n p tb kv ks x) (hR:Chg No x w3){u:Value}{y:Nat}(hy:y<4294967296)
  (hu:Cells w3 (fun _=>True) u 1 1 [.int .u32 y]) (hk:ks.length≤1000):
  ∃ v' w4,(Builtin.append_ #[144,144] 144 #[kv,u]).run prog w3=.ok v' w4∧QPushMid w n p tb kv ks y v' w4:=by
 obtain⟨v',w4,hr,r1,r2,r3⟩:=own_push (P:=prog) (bytes:=4) underlying144 infoU32 rfl (by decide) h.own h.size hR hu (by simp[Value.oneCell']) (by unfold maxLen;omega) (by omega) 144;have hpl:=heap_lt h.box;have hpk:¬ kv.ownBlock=some p:=fun e=>(h.far p e) rfl
 have hbox:=(r2.block p hpl hpk).trans h.box
 have hfar:∀ g,v'.ownBlock=some g→g≠p:=by
  intro g hg;rcases r3 with e|⟨g',e,hl⟩
  ·exact h.far g (by rw[← e];exact hg)
  ·rw[e] at hg;simp at hg;omega
 refine⟨v',w4,hr,?_,frozen_of hbox 1,⟨?_,?_,h.hp,?_,?_,hfar⟩,?_⟩
 ·rw[cell_of hbox];rfl
 ·refine (h.below.trans (r2.below (B:=n) h.size ?_)).setCell (p:=⟨p,1,none⟩) h.hp _;intro k hk e;have:=(h.own.lt k e).1;omega
 ·have:=r2.size;have:=h.size;simp;omega
 ·rw[setCell_block hbox];rfl
 ·rw[u32s_push _ _ hy,List.length_append];exact owns_keep r1 (fun g hg=>setCell_heap_ne _ _ _ (by have:=(hfar g hg);simp;omega))
 ·obtain⟨g,cp,e,_⟩:=own_shape r1 (by omega);exact⟨g,cp,e⟩
theorem mulQ_round:∀ q,q<20→1≤q→mulQ (round q) 2 8=round (q+1):=by decide +kernel
theorem qAes16_ok {w:World}{S:Nat→Prop}{kv:Value}{key:List UInt8}(hb:Bytes w S kv key) (hl:key.length=16){tb:Nat}(ht:QBoxAt w tb):
  Calls prog 45 #[.pointer (some ⟨tb,0,none⟩),kv] w fun e w'=>∃ p kv',e=.returned (.pointer (some ⟨p,0,none⟩))∧w.heap.size≤p∧QCipherAt w' (fun g=>w.heap.size≤g∨g=tb) p tb kv' (sched key)∧Below w.heap.size w w':=by
 obtain⟨n,hn⟩:∃ n,n=w.heap.size:=⟨_,rfl⟩;have HN:=LH hn;have hc:Cells w S kv 16 1 (u8s key):=by rw[← hl];exact hb
 obtain⟨g,off,cap,rfl,hc1,hc2,_,hgl,hcell⟩:=Cells.at hc (by omega)
 have hbyte:∀ j,j<16→w.cell? ⟨g,off+j,none⟩=some (.int .u8 (key.getD j 0).toNat):=by
  intro j hj;have h:=hcell j _ (u8s_get key j (by omega));rw[h];simp[List.getD,show j<key.length by omega]
 have htl:=heap_lt ht;rw[← hn] at hgl htl;have hbx0:∀ x,Below n w x→QBoxAt x tb:=fun x h=>Arr.keep ht (h.block tb htl)
 have hS0:QNewSt w n n tb (.slice none 0 0) [] (w.alloc (.cells #[.pointer (some ⟨tb,0,none⟩),.slice none 0 0] 154)):=by
  rw[hn];exact⟨(Below.refl _ _).alloc (Nat.le_refl _) _,by simp,Nat.le_refl _,heap_alloc_new w _,World.ownsRow_nil _ _ _ _,by simp[Value.ownBlock]⟩
 replace hbyte:=LH hbyte;replace hl:=LH hl;replace hbx0:=LH hbx0;replace hS0:=LH hS0;replace ht:=LH ht;clear hb hc hcell hn;go_enter func45,ntmps45;go_wp2;rw[← HN.out];obtain⟨w2,hw2⟩:∃ w2,w2=w.alloc (.cells #[.pointer (some ⟨tb,0,none⟩),.slice none 0 0] 154):=⟨_,rfl⟩;rw[← hw2] at hS0 ⊢;clear hw2
 go_loopg [7] 4 (fun gk ii wr=>∃ (k:Nat) (kv':Value),k+gk=4∧ii=.int .i64 k∧Hid (QNewSt w n n tb kv' (keys0 key k) wr))
 case atStart=>exact⟨0,_,by omega,rfl,hS0.out⟩
 case round=>
  clear hS0;obtain⟨k,kv',hkg,rfl,hSt⟩:=hrel;have hdr:∀ w3,Chg No wr.drew w3→Chg No wr w3:=fun w3 h=>⟨h.os,h.tape,h.output,h.size,h.block⟩
  replace hdr:=LH hdr;by_cases hlt:k<4
  ·obtain⟨g1,rfl⟩:∃ j,gk=j+1:=⟨gk - 1,by omega⟩;obtain⟨q,hq⟩:∃ q,q=4*k:=⟨_,rfl⟩;have hq4:4*(k:Int)=q:=by omega
   have hqL:q+3<16:=by omega
   obtain⟨q1,hq1⟩:∃ x,x=q+1:=⟨_,rfl⟩;obtain⟨q2,hq2⟩:∃ x,x=q+2:=⟨_,rfl⟩;obtain⟨q3,hq3⟩:∃ x,x=q+3:=⟨_,rfl⟩;have hi1:(q:Int)+1=q1:=by omega
   have hi2:(q:Int)+2=q2:=by omega
   have hi3:(q:Int)+3=q3:=by omega
   obtain⟨A,hA⟩:∃ A,A=(key.getD q 0).toNat:=⟨_,rfl⟩;obtain⟨B,hB⟩:∃ B,B=(key.getD q1 0).toNat:=⟨_,rfl⟩;obtain⟨C,hC⟩:∃ C,C=(key.getD q2 0).toNat:=⟨_,rfl⟩;obtain⟨D,hD⟩:∃ D,D=(key.getD q3 0).toNat:=⟨_,rfl⟩;have hcA:=hbyte.out q (by omega);have hcB:=hbyte.out q1 (by omega);have hcC:=hbyte.out q2 (by omega);have hcD:=hbyte.out q3 (by omega);rw[← hA] at hcA;rw[← hB] at hcB;rw[← hC] at hcC;rw[← hD] at hcD;have hAl:A<256:=hA ▸ UInt8.toNat_lt _;have hBl:B<256:=hB ▸ UInt8.toNat_lt _;have hCl:C<256:=hC ▸ UInt8.toNat_lt _;have hDl:D<256:=hD ▸ UInt8.toNat_lt _;have hkW:keyW key k=w32 A B C D:=by rw[keyW,← hq,← hq1,← hq2,← hq3,← hA,← hB,← hC,← hD]
   have k0:q<16:=by omega
   have k1:q1<16:=by omega
   have k2:q2<16:=by omega
   have k3:q3<16:=by omega
   clear hA hB hC hD;obtain⟨X1,hX1⟩:∃ X,X=A*16777216:=⟨_,rfl⟩;obtain⟨X2,hX2⟩:∃ X,X=B*65536:=⟨_,rfl⟩;obtain⟨X3,hX3⟩:∃ X,X=X1+X2:=⟨_,rfl⟩;obtain⟨X4,hX4⟩:∃ X,X=C*256:=⟨_,rfl⟩;obtain⟨X5,hX5⟩:∃ X,X=X3+X4:=⟨_,rfl⟩;obtain⟨W,hW⟩:∃ X,X=X5+D:=⟨_,rfl⟩;have ho1:bits .or .u32 (X1:Int) (X2:Int)=(X3:Int):=by rw[u32_or_nat X1 X2 (by omega) (by omega),nat_join 24 X1 X2 (by omega) (by omega),hX3]
   have ho2:bits .or .u32 (X3:Int) (X4:Int)=(X5:Int):=by rw[u32_or_nat X3 X4 (by omega) (by omega),nat_join 16 X3 X4 (by omega) (by omega),hX5]
   have ho3:bits .or .u32 (X5:Int) (D:Int)=(W:Int):=by rw[u32_or_nat X5 D (by omega) (by omega),nat_join 8 X5 D (by omega) (by omega),hW]
   have hWl:W<4294967296:=by omega
   have hWe:keyW key k=W:=by rw[hkW,w32];omega
   replace hWe:=LH hWe;clear hkW;replace hX1:=LH hX1;replace hX2:=LH hX2;replace hX3:=LH hX3;replace hX4:=LH hX4;replace hX5:=LH hX5;replace hW:=LH hW;replace hq:=LH hq;replace hq1:=LH hq1;replace hq2:=LH hq2;replace hq3:=LH hq3;replace hq4:=LH hq4;replace hi1:=LH hi1;replace hi2:=LH hi2;replace hi3:=LH hi3;have hb9:=hSt.out.below;rw[← World.cell?_of_block (w:=w) (hb9.block g hgl)] at hcA hcB hcC hcD;have hglr:g<wr.heap.size:=by have:=hb9.size;have:=HN.out;omega
   have hcP:wr.cell? ⟨n,1,none⟩=some kv':=by rw[cell_of hSt.out.box];rfl
   have hplr:=heap_lt hSt.out.box;replace hb9:=LH hb9;replace hcA:=LH hcA;replace hcB:=LH hcB;replace hcC:=LH hcC;replace hcD:=LH hcD;replace hcP:=LH hcP;go_wp2;refine RA.rt (Chg No) [5,1,1,1,1,1,1,1,1,1,1,1,1,1,1,1,1,1,1,1,1,1,1,1,1,1,1,1,1,1,1,1,1,1,1,1,1,1,3,6,5,5,7] [39,42] (fun _=>True) (trivial) (fun _=>Chg.refl _ _) (fun _ _ _ h k=>h.trans k) (h:=?_);intro cx;refine RA.pmv (by rfl) (by rfl) (by rfl) ?_
   repeat refine RA.qq (h:=?_)
   refine RA.fk prog (n) (1) (h:=?_);refine RA.lk prog (kv') (hc:=fun w3 hp=>by exact ((hdr.out _ hp.1).cell (p:=⟨n,1,none⟩) hplr id).trans hcP.out) (h:=?_)
   repeat refine RA.qq (h:=?_)
   refine RA.mi (by kernel_rfl) (by rfl) (by rfl) (by rfl) ((q:Int)) (hq4.out) (by omega) ?_;refine RA.ik prog (g) (off+q) (h:=?_);refine RA.lk prog (.int .u8 A) (hc:=fun w3 hp=>by exact ((hdr.out _ hp.1).cell (p:=⟨g,off+q,none⟩) hglr id).trans hcA.out) (h:=?_);refine RA.vw prog (.int .u32 A) (h:=?_);refine RA.vk prog (.int .u32 X1) (hr:=fun w hp=>by (try go_simp);rw[hX1.out,IntKind.wrap_u32'];omega) (h:=?_)
   repeat refine RA.qq (h:=?_)
   refine RA.mi (by kernel_rfl) (by rfl) (by rfl) (by rfl) ((q:Int)) (hq4.out) (by omega) ?_;refine RA.ai (by kernel_rfl) (by rfl) (by rfl) (by rfl) ((q1:Int)) (hi1.out) (by omega) ?_;refine RA.ik prog (g) (off+q1) (h:=?_);refine RA.lk prog (.int .u8 B) (hc:=fun w3 hp=>by exact ((hdr.out _ hp.1).cell (p:=⟨g,off+q1,none⟩) hglr id).trans hcB.out) (h:=?_);refine RA.vw prog (.int .u32 B) (h:=?_);refine RA.vk prog (.int .u32 X2) (hr:=fun w hp=>by (try go_simp);rw[hX2.out,IntKind.wrap_u32'];omega) (h:=?_);refine RA.vk prog (.int .u32 X3) (h:=?_)
   repeat refine RA.qq (h:=?_)
   refine RA.mi (by kernel_rfl) (by rfl) (by rfl) (by rfl) ((q:Int)) (hq4.out) (by omega) ?_;refine RA.ai (by kernel_rfl) (by rfl) (by rfl) (by rfl) ((q2:Int)) (hi2.out) (by omega) ?_;refine RA.ik prog (g) (off+q2) (h:=?_);refine RA.lk prog (.int .u8 C) (hc:=fun w3 hp=>by exact ((hdr.out _ hp.1).cell (p:=⟨g,off+q2,none⟩) hglr id).trans hcC.out) (h:=?_);refine RA.vw prog (.int .u32 C) (h:=?_);refine RA.vk prog (.int .u32 X4) (hr:=fun w hp=>by (try go_simp);rw[hX4.out,IntKind.wrap_u32'];omega) (h:=?_);refine RA.vk prog (.int .u32 X5) (h:=?_)
   repeat refine RA.qq (h:=?_)
   refine RA.mi (by kernel_rfl) (by rfl) (by rfl) (by rfl) ((q:Int)) (hq4.out) (by omega) ?_;refine RA.ai (by kernel_rfl) (by rfl) (by rfl) (by rfl) ((q3:Int)) (hi3.out) (by omega) ?_;refine RA.ik prog (g) (off+q3) (h:=?_);refine RA.lk prog (.int .u8 D) (hc:=fun w3 hp=>by exact ((hdr.out _ hp.1).cell (p:=⟨g,off+q3,none⟩) hglr id).trans hcD.out) (h:=?_);refine RA.vw prog (.int .u32 D) (h:=?_);refine RA.vk prog (.int .u32 W) (h:=?_)
   refine RA.bq (fun x w3=>Cells w3 (fun _=>True) x 1 1 [.int .u32 W]) (fun _ _=>True) (by kernel_rfl) (by rfl) (by kernel_rfl) (fun _ _ _ h k=>k.chg h (fun _ _ _=>id)) (fun _ _ _ _ _=>trivial) (fun w3 hp _=>by
    refine⟨.slice (some ⟨w3.heap.size,0,none⟩) 1 1,w3.alloc (.cells #[.int .u32 W] 80),?_,(Chg.refl _ _).alloc _,lit_cells w3 #[.int .u32 W] 80 1 1 rfl (by unfold maxLen;omega),trivial⟩;show (execOp _ _).run prog w3=_;go_simp) (fun x=>?_)
   refine RA.bqt (fun v' w4=>QPushMid w n n tb kv' (keys0 key k) W v' w4) (by kernel_rfl) (by rfl) (by kernel_rfl) (fun _ _ _ h k=>h ▸ k) (fun w3 hp0 _=>by
    have hp:=hp0.first (by kernel_rfl);obtain⟨v',w4,h1,h2⟩:=hSt.out.push (hdr.out _ hp.1) hWl (hp.fact 0 rfl (by kernel_rfl)) (by rw[keys0_length];omega);exact⟨v',w4,RA.ex_append (by rfl) (by rfl) h1,h2⟩) (fun v'=>?_)
   refine RA.pq (h:=?_);refine RA.pk prog (n) (1) (h:=?_)
   refine RA.stt (fun w5=>QNewSt w n n tb v' ((keys0 key k)++[UInt32.ofNat W]) w5) (by rfl) (by rfl) (by kernel_rfl) (fun _ _ h k=>h ▸ k) (fun w4 _ hH=>by
    obtain⟨f1,f2,f3,g',cp,rfl⟩:=hH;refine⟨_,RA.ex_store (by rfl) (by rfl) (w':=w4.setCell ⟨n,1,none⟩ (.slice (some ⟨g',0,none⟩) ((keys0 key k).length+1) cp)) ?_,f3⟩;clear f3;show (Instr.storeAt _ _ _).run prog w4=_;go_simp) ?_
   refine RA.RA.doneT (fun w5 hH=>?_);simp only[RA.put,List.foldr_cons,List.foldr_nil,cx,Act.put,List.setIfInBounds_toArray,List.set_cons_succ,List.set_cons_zero];replace hH:=LH hH;go_wp2;go_roundg g1
   case measure=>omega
   case rel=>
    refine⟨k+1,v',by omega,by go_num,?_⟩;show QNewSt _ _ _ _ _ _ _;rw[keys0,hWe.out];exact hH.out
  ·obtain rfl:k=4:=by omega
   clear hlt hkg hdr;go_wp2
   go_loopg [8,9,10] 40 (fun gk rr ii _ wr=>∃ (m:Nat) (kv':Value),m+gk=40∧ii=.int .i64 (4+m:Nat)∧rr=.int .u8 (round ((2*4+m - 1) / 4))∧Hid (QNewSt w n n tb kv' (keysF key 4 m) wr))
   case atStart=>exact⟨0,_,by omega,rfl,by rfl,hSt.out⟩
   case round=>
    clear hSt;obtain⟨m,kv2,hmg,rfl,rfl,hSt⟩:=hrel;have hdr:∀ w3,Chg No wr.drew w3→Chg No wr w3:=fun w3 h=>⟨h.os,h.tape,h.output,h.size,h.block⟩
    replace hdr:=LH hdr;obtain⟨I,hI⟩:∃ I,I=4+m:=⟨_,rfl⟩;rw[← hI];obtain⟨RQ,hRQ⟩:∃ R,R=(2*4+m - 1) / 4:=⟨_,rfl⟩;rw[← hRQ];have hRQ1:1≤RQ:=by omega
    obtain⟨RD,hRD⟩:∃ R,R=round RQ:=⟨_,rfl⟩;rw[← hRD];have hRl:RD<256:=hRD ▸ round_lt;by_cases hlt:m<40
    ·obtain⟨g1,rfl⟩:∃ j,gk=j+1:=⟨gk - 1,by omega⟩;obtain⟨KS,hKS⟩:∃ KS,KS=keysF key 4 m:=⟨_,rfl⟩;rw[← hKS] at hSt;have hKl:KS.length=I:=by rw[hKS,keysF_length,hI]
     have hown:=hSt.out.own;rw[hKl] at hown;obtain⟨g',cp,rfl,hcp1,hcp2⟩:=own_shape hown (by omega);have hgr:=(hown.lt g' rfl).2;have hcs:=hown.cells (g:=g') rfl
     have hcell2:∀ j,j<I→wr.cell? ⟨g',j,none⟩=some (.int .u32 (KS.getD j 0).toNat):=by
      intro j hj;have h:=hcs j _ (u32s_get KS j (by omega));rw[Addr.add_lit,Nat.zero_add] at h;exact h
     clear hown hcs;replace hKS:=LH hKS;obtain⟨J,hJ⟩:∃ J,J=I - 1:=⟨_,rfl⟩;have hJ1:(I:Int) - 1=J:=by omega
     have hJl:J<I:=by omega
     obtain⟨X,hX⟩:∃ X,X=(KS.getD J 0).toNat:=⟨_,rfl⟩;have hcX:=hcell2 J hJl;rw[← hX] at hcX;have hXl:X<4294967296:=hX ▸ UInt32.toNat_lt _;obtain⟨Y,hY⟩:∃ Y,Y=(KS.getD m 0).toNat:=⟨_,rfl⟩;have hcY:=hcell2 m (by omega);rw[← hY] at hcY;have hYl:Y<4294967296:=hY ▸ UInt32.toNat_lt _;clear hcell2
     have hnx:∀ V,V=turnW 4 I X→UInt32.ofNat (Y ^^^ V)=UInt32.ofNat (nextW KS 4 I):=by
      intro V hV;rw[nextW,show I - 4=m by omega,← hJ,← hX,← hY,← hV]
     replace hnx:=LH hnx;have hcP:wr.cell? ⟨n,1,none⟩=some (.slice (some ⟨g',0,none⟩) I cp):=by rw[cell_of hSt.out.box];rfl
     have hplr:=heap_lt hSt.out.box;have hI1:I<100:=by omega
     have hI0:4≤I:=by omega
     have hIm:(I:Int) - 4=m:=by omega
     have hmI:m<I:=by omega
     have hIM:(I:Int)<44:=by omega
     obtain⟨r,hr⟩:∃ r,r=I % 4:=⟨_,rfl⟩;have hr1:(I:Int) % 4=r:=by omega
     have hr2:(I:Int).tmod 4=r:=by rw[Int.tmod_eq_emod_of_nonneg (by omega)];exact hr1
     obtain⟨RN,hRN⟩:∃ R,R=(2*4+(m+1) - 1) / 4:=⟨_,rfl⟩;by_cases hr0:r=0
     ·have hQ:RQ=I / 4:=by omega
      have hRN1:RN=RQ+1:=by omega
      have hRQ20:RQ<20:=by omega
      have hmr:=mulQ_round RQ hRQ20 hRQ1;rw[← hRD,← hRN1] at hmr;obtain⟨R2,hR2⟩:∃ R,R=mulQ RD 2 8:=⟨_,rfl⟩;rw[← hR2] at hmr;have hVr:=hr;subst hr0;obtain⟨RS,hRS⟩:∃ R,R=RD*16777216:=⟨_,rfl⟩;have hRSl:RS<4294967296:=by omega
      have hRSi:(RD:Int)*16777216 % 4294967296=RS:=by omega
      have hRSw:IntKind.u32.wrap ((RD:Int)*16777216)=RS:=by rw[IntKind.wrap_u32'];omega
      have hRDw:IntKind.u32.wrap (RD:Int)=RD:=by rw[IntKind.wrap_u32'];omega
      obtain⟨A1,hA1⟩:∃ x,x=X*256 % 4294967296:=⟨_,rfl⟩;obtain⟨A2,hA2⟩:∃ x,x=X / 16777216:=⟨_,rfl⟩;have hA1i:(X:Int)*256 % 4294967296=A1:=by omega
      have hA1w:IntKind.u32.wrap ((X:Int)*256)=A1:=by rw[IntKind.wrap_u32'];omega
      have hA2i:(X:Int) / 16777216=A2:=by omega
      have hor:=u32_or_nat A1 A2 (by omega) (by omega);rw[show A1 ||| A2=rot32 X 8 by rw[rot32,hA1,hA2]] at hor;obtain⟨RT,hRT⟩:∃ x,x=rot32 X 8:=⟨_,rfl⟩;rw[← hRT] at hor;have hRTl:RT<4294967296:=hRT ▸ rot32_lt hXl;obtain⟨SW,hSW⟩:∃ S,S=subW RT:=⟨_,rfl⟩;have hSWl:SW<4294967296:=hSW ▸ subW_lt;obtain⟨V,hV⟩:∃ V,V=SW ^^^ RS:=⟨_,rfl⟩;have hVl:V<4294967296:=hV ▸ xor32 hSWl hRSl;have hx1:bits .xor .u32 (SW:Int) (RS:Int)=(V:Int):=by rw[u32_xor_nat SW RS hSWl hRSl,hV]
      have hVt:V=turnW 4 I X:=by rw[turnW,if_pos hr.symm,← hRT,← hSW,← hQ,← hRD,← hRS,hV]
      have hcw:=qWord_ok (hbx0.out wr hSt.out.below) RT hRTl;rw[← hSW] at hcw;replace hcw:=LH hcw;have hmq:=fun x=>qMul_ok RD 2 hRl (by omega) x
      rw[← hR2] at hmq;replace hmq:=LH hmq;replace hVt:=LH hVt;replace hV:=LH hV;replace hSW:=LH hSW;replace hRS:=LH hRS;replace hRT:=LH hRT;replace hA1:=LH hA1;replace hA2:=LH hA2;replace hQ:=LH hQ;replace hRN1:=LH hRN1;replace hR2:=LH hR2;replace hmr:=LH hmr;replace hVr:=LH hVr;replace hX:=LH hX;replace hY:=LH hY;replace hKl:=LH hKl;replace hI:=LH hI;replace hJ:=LH hJ;replace hr:=LH hr;replace hRQ:=LH hRQ;replace hRD:=LH hRD;replace hRN:=LH hRN;replace hIm:=LH hIm
      go_wp2_with (fail)
      refine hcw.out.mono ?_;rintro e wx ⟨rfl,hbxx⟩;have hbx:=LH hbxx;clear hbxx hcw hA1i hA1w hA2i hor
      go_wp2_with (fail)
      refine (hmq.out wx).mono ?_;rintro e wx' ⟨rfl,rfl⟩;clear hmq;have hRR:.int .u8 (R2:Int)=Value.int .u8 (round RN):=by rw[hmr.out]
      replace hRR:=LH hRR;have hSx:=LH (hSt.out.after hbx.out);have hcP5:wx.cell? ⟨n,1,none⟩=some (.slice (some ⟨g',0,none⟩) I cp):=by rw[cell_of hSx.out.box];rfl
      have hplx:=heap_lt hSx.out.box;have hgx:g'<wx.heap.size:=Nat.lt_of_lt_of_le hgr hbx.out.size;have hcY5:=LH ((World.cell?_of_block (w:=wr) (a:=⟨g',m,none⟩) (hbx.out.block g' hgr)).trans hcY);have hdr5:∀ w3,Chg No wx.drew w3→Chg No wx w3:=fun w3 h=>⟨h.os,h.tape,h.output,h.size,h.block⟩
      replace hdr5:=LH hdr5;replace hcP5:=LH hcP5;obtain⟨Z,hZ⟩:∃ Z,Z=Y ^^^ V:=⟨_,rfl⟩;have hxz:bits .xor .u32 (Y:Int) (V:Int)=(Z:Int):=by rw[u32_xor_nat Y V (by omega) (by omega),hZ]
      have hZl:Z<4294967296:=hZ ▸ xor32 hYl hVl;replace hZ:=LH hZ;clear hcX hcY hcP;go_wp2;refine RA.rt (Chg No) [5,1,1,1,1,1,1,1,1,1,1,1,1,1,1,1,3,6,5,5,7] [17,20] (fun _=>True) (trivial) (fun _=>Chg.refl _ _) (fun _ _ _ h k=>h.trans k) (h:=?_);intro cx;refine RA.pq (h:=?_)
      repeat refine RA.qq (h:=?_)
      refine RA.fk prog (n) (1) (h:=?_);refine RA.lk prog (.slice (some ⟨g',0,none⟩) I cp) (hc:=fun w3 hp=>by exact ((hdr5.out _ hp.1).cell (p:=⟨n,1,none⟩) hplx id).trans hcP5.out) (h:=?_)
      repeat refine RA.qq (h:=?_)
      refine RA.fk prog (n) (1) (h:=?_);refine RA.lk prog (.slice (some ⟨g',0,none⟩) I cp) (hc:=fun w3 hp=>by exact ((hdr5.out _ hp.1).cell (p:=⟨n,1,none⟩) hplx id).trans hcP5.out) (h:=?_)
      repeat refine RA.qq (h:=?_)
      refine RA.si (by kernel_rfl) (by rfl) (by rfl) (by rfl) ((m:Int)) (hIm.out) (by omega) ?_;refine RA.ik prog (g') (m) (h:=?_);refine RA.lk prog (.int .u32 Y) (hc:=fun w3 hp=>by exact ((hdr5.out _ hp.1).cell (p:=⟨g',m,none⟩) hgx id).trans hcY5.out) (h:=?_)
      repeat refine RA.qq (h:=?_)
      refine RA.vk prog (.int .u32 Z) (h:=?_)
      refine RA.bq (fun x w3=>Cells w3 (fun _=>True) x 1 1 [.int .u32 Z]) (fun _ _=>True) (by kernel_rfl) (by rfl) (by kernel_rfl) (fun _ _ _ h k=>k.chg h (fun _ _ _=>id)) (fun _ _ _ _ _=>trivial) (fun w3 hp _=>by
       refine⟨.slice (some ⟨w3.heap.size,0,none⟩) 1 1,w3.alloc (.cells #[.int .u32 Z] 80),?_,(Chg.refl _ _).alloc _,lit_cells w3 #[.int .u32 Z] 80 1 1 rfl (by unfold maxLen;omega),trivial⟩;show (execOp _ _).run prog w3=_;go_simp) (fun x=>?_)
      refine RA.bqt (fun v' w4=>QPushMid w n n tb (.slice (some ⟨g',0,none⟩) I cp) KS Z v' w4) (by kernel_rfl) (by rfl) (by kernel_rfl) (fun _ _ _ h k=>h ▸ k) (fun w3 hp0 _=>by
       have hp:=hp0.first (by kernel_rfl);obtain⟨v',w4,h1,h2⟩:=hSx.out.push (hdr5.out _ hp.1) hZl (hp.fact 0 rfl (by kernel_rfl)) (by rw[hKl.out];omega);exact⟨v',w4,RA.ex_append (by rfl) (by rfl) h1,h2⟩) (fun v'=>?_)
      refine RA.pq (h:=?_);refine RA.pk prog (n) (1) (h:=?_)
      refine RA.stt (fun w5=>QNewSt w n n tb v' (KS++[UInt32.ofNat Z]) w5) (by rfl) (by rfl) (by kernel_rfl) (fun _ _ h k=>h ▸ k) (fun w4 _ hH=>by
       obtain⟨f1,f2,f3,g2,cp2,rfl⟩:=hH;refine⟨_,RA.ex_store (by rfl) (by rfl) (w':=w4.setCell ⟨n,1,none⟩ (.slice (some ⟨g2,0,none⟩) (KS.length+1) cp2)) ?_,f3⟩;clear f3;show (Instr.storeAt _ _ _).run prog w4=_;go_simp) ?_
      refine RA.RA.doneT (fun w5 hH=>?_);simp only[RA.put,List.foldr_cons,List.foldr_nil,cx,Act.put,List.setIfInBounds_toArray,List.set_cons_succ,List.set_cons_zero];replace hH:=LH hH;go_wp2;go_roundg g1
      case measure=>omega
      case rel=>
       refine⟨m+1,v',by omega,by have:=hI.out;go_num,by rw[← hRN.out];exact hRR.out,?_⟩;show QNewSt _ _ _ _ _ _ _;rw[keysF,← hKS.out,← hI.out,← hnx.out V hVt.out,← hZ.out];exact hH.out
     ·skip;have hRR:Value.int .u8 (RD:Int)=Value.int .u8 (round RN):=by rw[hRD,show RN=RQ by omega]
      replace hRR:=LH hRR;have e0:((r:Int) == 0)=false:=by simp;omega
      obtain⟨V,hV⟩:∃ V,V=X:=⟨_,rfl⟩;subst hV;have hVl:=hXl;have hVt:V=turnW 4 I V:=by rw[turnW,if_neg (by omega),if_neg (by omega)]
      replace hVt:=LH hVt;replace hX:=LH hX;replace hY:=LH hY;replace hKl:=LH hKl;replace hI:=LH hI;replace hJ:=LH hJ;replace hr:=LH hr;replace hRQ:=LH hRQ;replace hRD:=LH hRD;replace hRN:=LH hRN;replace hIm:=LH hIm;have hbx:=LH (Below.refl wr.heap.size wr);obtain⟨wx,hwx⟩:∃ wx,wx=wr:=⟨_,rfl⟩;rw[show Below wr.heap.size wr wr=Below wr.heap.size wr wx by rw[hwx]] at hbx;go_wp2;rw[← hwx];clear hwx;have hSx:=LH (hSt.out.after hbx.out);have hcP5:wx.cell? ⟨n,1,none⟩=some (.slice (some ⟨g',0,none⟩) I cp):=by rw[cell_of hSx.out.box];rfl
      have hplx:=heap_lt hSx.out.box;have hgx:g'<wx.heap.size:=Nat.lt_of_lt_of_le hgr hbx.out.size;have hcY5:=LH ((World.cell?_of_block (w:=wr) (a:=⟨g',m,none⟩) (hbx.out.block g' hgr)).trans hcY);have hdr5:∀ w3,Chg No wx.drew w3→Chg No wx w3:=fun w3 h=>⟨h.os,h.tape,h.output,h.size,h.block⟩
      replace hdr5:=LH hdr5;replace hcP5:=LH hcP5;obtain⟨Z,hZ⟩:∃ Z,Z=Y ^^^ V:=⟨_,rfl⟩;have hxz:bits .xor .u32 (Y:Int) (V:Int)=(Z:Int):=by rw[u32_xor_nat Y V (by omega) (by omega),hZ]
      have hZl:Z<4294967296:=hZ ▸ xor32 hYl hVl;replace hZ:=LH hZ;clear hcX hcY hcP;go_wp2;refine RA.rt (Chg No) [5,1,1,1,1,1,1,1,1,1,1,1,1,1,1,1,3,6,5,5,7] [17,20] (fun _=>True) (trivial) (fun _=>Chg.refl _ _) (fun _ _ _ h k=>h.trans k) (h:=?_);intro cx;refine RA.pq (h:=?_)
      repeat refine RA.qq (h:=?_)
      refine RA.fk prog (n) (1) (h:=?_);refine RA.lk prog (.slice (some ⟨g',0,none⟩) I cp) (hc:=fun w3 hp=>by exact ((hdr5.out _ hp.1).cell (p:=⟨n,1,none⟩) hplx id).trans hcP5.out) (h:=?_)
      repeat refine RA.qq (h:=?_)
      refine RA.fk prog (n) (1) (h:=?_);refine RA.lk prog (.slice (some ⟨g',0,none⟩) I cp) (hc:=fun w3 hp=>by exact ((hdr5.out _ hp.1).cell (p:=⟨n,1,none⟩) hplx id).trans hcP5.out) (h:=?_)
      repeat refine RA.qq (h:=?_)
      refine RA.si (by kernel_rfl) (by rfl) (by rfl) (by rfl) ((m:Int)) (hIm.out) (by omega) ?_;refine RA.ik prog (g') (m) (h:=?_);refine RA.lk prog (.int .u32 Y) (hc:=fun w3 hp=>by exact ((hdr5.out _ hp.1).cell (p:=⟨g',m,none⟩) hgx id).trans hcY5.out) (h:=?_)
      repeat refine RA.qq (h:=?_)
      refine RA.vk prog (.int .u32 Z) (h:=?_)
      refine RA.bq (fun x w3=>Cells w3 (fun _=>True) x 1 1 [.int .u32 Z]) (fun _ _=>True) (by kernel_rfl) (by rfl) (by kernel_rfl) (fun _ _ _ h k=>k.chg h (fun _ _ _=>id)) (fun _ _ _ _ _=>trivial) (fun w3 hp _=>by
       refine⟨.slice (some ⟨w3.heap.size,0,none⟩) 1 1,w3.alloc (.cells #[.int .u32 Z] 80),?_,(Chg.refl _ _).alloc _,lit_cells w3 #[.int .u32 Z] 80 1 1 rfl (by unfold maxLen;omega),trivial⟩;show (execOp _ _).run prog w3=_;go_simp) (fun x=>?_)
      refine RA.bqt (fun v' w4=>QPushMid w n n tb (.slice (some ⟨g',0,none⟩) I cp) KS Z v' w4) (by kernel_rfl) (by rfl) (by kernel_rfl) (fun _ _ _ h k=>h ▸ k) (fun w3 hp0 _=>by
       have hp:=hp0.first (by kernel_rfl);obtain⟨v',w4,h1,h2⟩:=hSx.out.push (hdr5.out _ hp.1) hZl (hp.fact 0 rfl (by kernel_rfl)) (by rw[hKl.out];omega);exact⟨v',w4,RA.ex_append (by rfl) (by rfl) h1,h2⟩) (fun v'=>?_)
      refine RA.pq (h:=?_);refine RA.pk prog (n) (1) (h:=?_)
      refine RA.stt (fun w5=>QNewSt w n n tb v' (KS++[UInt32.ofNat Z]) w5) (by rfl) (by rfl) (by kernel_rfl) (fun _ _ h k=>h ▸ k) (fun w4 _ hH=>by
       obtain⟨f1,f2,f3,g2,cp2,rfl⟩:=hH;refine⟨_,RA.ex_store (by rfl) (by rfl) (w':=w4.setCell ⟨n,1,none⟩ (.slice (some ⟨g2,0,none⟩) (KS.length+1) cp2)) ?_,f3⟩;clear f3;show (Instr.storeAt _ _ _).run prog w4=_;go_simp) ?_
      refine RA.RA.doneT (fun w5 hH=>?_);simp only[RA.put,List.foldr_cons,List.foldr_nil,cx,Act.put,List.setIfInBounds_toArray,List.set_cons_succ,List.set_cons_zero];replace hH:=LH hH;go_wp2;go_roundg g1
      case measure=>omega
      case rel=>
       refine⟨m+1,v',by omega,by have:=hI.out;go_num,by rw[← hRN.out];exact hRR.out,?_⟩;show QNewSt _ _ _ _ _ _ _;rw[keysF,← hKS.out,← hI.out,← hnx.out V hVt.out,← hZ.out];exact hH.out
    ·obtain rfl:m=40:=by omega
     have hs:sched key=keysF key 4 40:=sched16 hl.out;obtain⟨KS,hKS⟩:∃ KS,KS=keysF key 4 40:=⟨_,rfl⟩;rw[← hKS] at hSt hs;have hKl:KS.length=44:=by rw[hKS,keysF_length]
     replace hKS:=LH hKS;replace hs:=LH hs;replace hRD:=LH hRD;replace hRQ:=LH hRQ;obtain rfl:I=44:=hI;clear hmg hlt hdr;go_wp2;go_ret;refine⟨n,kv2,rfl,Nat.le_of_eq HN.out.symm,?_,HN.out ▸ hSt.out.below⟩;rw[hs.out];exact⟨hSt.out.box,.inl (Nat.le_of_eq HN.out.symm),hbx0.out wr hSt.out.below,.inr rfl,by omega,(Cells.own hSt.out.own).mono (fun b _ h=>.inl (by rw[← HN.out];exact h.2))⟩
theorem qAes32_ok {w:World}{S:Nat→Prop}{kv:Value}{key:List UInt8}(hb:Bytes w S kv key) (hl:key.length=32){tb:Nat}(ht:QBoxAt w tb):
  Calls prog 45 #[.pointer (some ⟨tb,0,none⟩),kv] w fun e w'=>∃ p kv',e=.returned (.pointer (some ⟨p,0,none⟩))∧w.heap.size≤p∧QCipherAt w' (fun g=>w.heap.size≤g∨g=tb) p tb kv' (sched key)∧Below w.heap.size w w':=by
 obtain⟨n,hn⟩:∃ n,n=w.heap.size:=⟨_,rfl⟩;have HN:=LH hn;have hc:Cells w S kv 32 1 (u8s key):=by rw[← hl];exact hb
 obtain⟨g,off,cap,rfl,hc1,hc2,_,hgl,hcell⟩:=Cells.at hc (by omega)
 have hbyte:∀ j,j<32→w.cell? ⟨g,off+j,none⟩=some (.int .u8 (key.getD j 0).toNat):=by
  intro j hj;have h:=hcell j _ (u8s_get key j (by omega));rw[h];simp[List.getD,show j<key.length by omega]
 have htl:=heap_lt ht;rw[← hn] at hgl htl;have hbx0:∀ x,Below n w x→QBoxAt x tb:=fun x h=>Arr.keep ht (h.block tb htl)
 have hS0:QNewSt w n n tb (.slice none 0 0) [] (w.alloc (.cells #[.pointer (some ⟨tb,0,none⟩),.slice none 0 0] 154)):=by
  rw[hn];exact⟨(Below.refl _ _).alloc (Nat.le_refl _) _,by simp,Nat.le_refl _,heap_alloc_new w _,World.ownsRow_nil _ _ _ _,by simp[Value.ownBlock]⟩
 replace hbyte:=LH hbyte;replace hl:=LH hl;replace hbx0:=LH hbx0;replace hS0:=LH hS0;replace ht:=LH ht;clear hb hc hcell hn;go_enter func45,ntmps45;go_wp2;rw[← HN.out];obtain⟨w2,hw2⟩:∃ w2,w2=w.alloc (.cells #[.pointer (some ⟨tb,0,none⟩),.slice none 0 0] 154):=⟨_,rfl⟩;rw[← hw2] at hS0 ⊢;clear hw2
 go_loopg [7] 8 (fun gk ii wr=>∃ (k:Nat) (kv':Value),k+gk=8∧ii=.int .i64 k∧Hid (QNewSt w n n tb kv' (keys0 key k) wr))
 case atStart=>exact⟨0,_,by omega,rfl,hS0.out⟩
 case round=>
  clear hS0;obtain⟨k,kv',hkg,rfl,hSt⟩:=hrel;have hdr:∀ w3,Chg No wr.drew w3→Chg No wr w3:=fun w3 h=>⟨h.os,h.tape,h.output,h.size,h.block⟩
  replace hdr:=LH hdr;by_cases hlt:k<8
  ·obtain⟨g1,rfl⟩:∃ j,gk=j+1:=⟨gk - 1,by omega⟩;obtain⟨q,hq⟩:∃ q,q=4*k:=⟨_,rfl⟩;have hq4:4*(k:Int)=q:=by omega
   have hqL:q+3<32:=by omega
   obtain⟨q1,hq1⟩:∃ x,x=q+1:=⟨_,rfl⟩;obtain⟨q2,hq2⟩:∃ x,x=q+2:=⟨_,rfl⟩;obtain⟨q3,hq3⟩:∃ x,x=q+3:=⟨_,rfl⟩;have hi1:(q:Int)+1=q1:=by omega
   have hi2:(q:Int)+2=q2:=by omega
   have hi3:(q:Int)+3=q3:=by omega
   obtain⟨A,hA⟩:∃ A,A=(key.getD q 0).toNat:=⟨_,rfl⟩;obtain⟨B,hB⟩:∃ B,B=(key.getD q1 0).toNat:=⟨_,rfl⟩;obtain⟨C,hC⟩:∃ C,C=(key.getD q2 0).toNat:=⟨_,rfl⟩;obtain⟨D,hD⟩:∃ D,D=(key.getD q3 0).toNat:=⟨_,rfl⟩;have hcA:=hbyte.out q (by omega);have hcB:=hbyte.out q1 (by omega);have hcC:=hbyte.out q2 (by omega);have hcD:=hbyte.out q3 (by omega);rw[← hA] at hcA;rw[← hB] at hcB;rw[← hC] at hcC;rw[← hD] at hcD;have hAl:A<256:=hA ▸ UInt8.toNat_lt _;have hBl:B<256:=hB ▸ UInt8.toNat_lt _;have hCl:C<256:=hC ▸ UInt8.toNat_lt _;have hDl:D<256:=hD ▸ UInt8.toNat_lt _;have hkW:keyW key k=w32 A B C D:=by rw[keyW,← hq,← hq1,← hq2,← hq3,← hA,← hB,← hC,← hD]
   have k0:q<32:=by omega
   have k1:q1<32:=by omega
   have k2:q2<32:=by omega
   have k3:q3<32:=by omega
   clear hA hB hC hD;obtain⟨X1,hX1⟩:∃ X,X=A*16777216:=⟨_,rfl⟩;obtain⟨X2,hX2⟩:∃ X,X=B*65536:=⟨_,rfl⟩;obtain⟨X3,hX3⟩:∃ X,X=X1+X2:=⟨_,rfl⟩;obtain⟨X4,hX4⟩:∃ X,X=C*256:=⟨_,rfl⟩;obtain⟨X5,hX5⟩:∃ X,X=X3+X4:=⟨_,rfl⟩;obtain⟨W,hW⟩:∃ X,X=X5+D:=⟨_,rfl⟩;have ho1:bits .or .u32 (X1:Int) (X2:Int)=(X3:Int):=by rw[u32_or_nat X1 X2 (by omega) (by omega),nat_join 24 X1 X2 (by omega) (by omega),hX3]
   have ho2:bits .or .u32 (X3:Int) (X4:Int)=(X5:Int):=by rw[u32_or_nat X3 X4 (by omega) (by omega),nat_join 16 X3 X4 (by omega) (by omega),hX5]
   have ho3:bits .or .u32 (X5:Int) (D:Int)=(W:Int):=by rw[u32_or_nat X5 D (by omega) (by omega),nat_join 8 X5 D (by omega) (by omega),hW]
   have hWl:W<4294967296:=by omega
   have hWe:keyW key k=W:=by rw[hkW,w32];omega
   replace hWe:=LH hWe;clear hkW;replace hX1:=LH hX1;replace hX2:=LH hX2;replace hX3:=LH hX3;replace hX4:=LH hX4;replace hX5:=LH hX5;replace hW:=LH hW;replace hq:=LH hq;replace hq1:=LH hq1;replace hq2:=LH hq2;replace hq3:=LH hq3;replace hq4:=LH hq4;replace hi1:=LH hi1;replace hi2:=LH hi2;replace hi3:=LH hi3;have hb9:=hSt.out.below;rw[← World.cell?_of_block (w:=w) (hb9.block g hgl)] at hcA hcB hcC hcD;have hglr:g<wr.heap.size:=by have:=hb9.size;have:=HN.out;omega
   have hcP:wr.cell? ⟨n,1,none⟩=some kv':=by rw[cell_of hSt.out.box];rfl
   have hplr:=heap_lt hSt.out.box;replace hb9:=LH hb9;replace hcA:=LH hcA;replace hcB:=LH hcB;replace hcC:=LH hcC;replace hcD:=LH hcD;replace hcP:=LH hcP;go_wp2;refine RA.rt (Chg No) [5,1,1,1,1,1,1,1,1,1,1,1,1,1,1,1,1,1,1,1,1,1,1,1,1,1,1,1,1,1,1,1,1,1,1,1,1,1,3,6,5,5,7] [39,42] (fun _=>True) (trivial) (fun _=>Chg.refl _ _) (fun _ _ _ h k=>h.trans k) (h:=?_);intro cx;refine RA.pmv (by rfl) (by rfl) (by rfl) ?_
   repeat refine RA.qq (h:=?_)
   refine RA.fk prog (n) (1) (h:=?_);refine RA.lk prog (kv') (hc:=fun w3 hp=>by exact ((hdr.out _ hp.1).cell (p:=⟨n,1,none⟩) hplr id).trans hcP.out) (h:=?_)
   repeat refine RA.qq (h:=?_)
   refine RA.mi (by kernel_rfl) (by rfl) (by rfl) (by rfl) ((q:Int)) (hq4.out) (by omega) ?_;refine RA.ik prog (g) (off+q) (h:=?_);refine RA.lk prog (.int .u8 A) (hc:=fun w3 hp=>by exact ((hdr.out _ hp.1).cell (p:=⟨g,off+q,none⟩) hglr id).trans hcA.out) (h:=?_);refine RA.vw prog (.int .u32 A) (h:=?_);refine RA.vk prog (.int .u32 X1) (hr:=fun w hp=>by (try go_simp);rw[hX1.out,IntKind.wrap_u32'];omega) (h:=?_)
   repeat refine RA.qq (h:=?_)
   refine RA.mi (by kernel_rfl) (by rfl) (by rfl) (by rfl) ((q:Int)) (hq4.out) (by omega) ?_;refine RA.ai (by kernel_rfl) (by rfl) (by rfl) (by rfl) ((q1:Int)) (hi1.out) (by omega) ?_;refine RA.ik prog (g) (off+q1) (h:=?_);refine RA.lk prog (.int .u8 B) (hc:=fun w3 hp=>by exact ((hdr.out _ hp.1).cell (p:=⟨g,off+q1,none⟩) hglr id).trans hcB.out) (h:=?_);refine RA.vw prog (.int .u32 B) (h:=?_);refine RA.vk prog (.int .u32 X2) (hr:=fun w hp=>by (try go_simp);rw[hX2.out,IntKind.wrap_u32'];omega) (h:=?_);refine RA.vk prog (.int .u32 X3) (h:=?_)
   repeat refine RA.qq (h:=?_)
   refine RA.mi (by kernel_rfl) (by rfl) (by rfl) (by rfl) ((q:Int)) (hq4.out) (by omega) ?_;refine RA.ai (by kernel_rfl) (by rfl) (by rfl) (by rfl) ((q2:Int)) (hi2.out) (by omega) ?_;refine RA.ik prog (g) (off+q2) (h:=?_);refine RA.lk prog (.int .u8 C) (hc:=fun w3 hp=>by exact ((hdr.out _ hp.1).cell (p:=⟨g,off+q2,none⟩) hglr id).trans hcC.out) (h:=?_);refine RA.vw prog (.int .u32 C) (h:=?_);refine RA.vk prog (.int .u32 X4) (hr:=fun w hp=>by (try go_simp);rw[hX4.out,IntKind.wrap_u32'];omega) (h:=?_);refine RA.vk prog (.int .u32 X5) (h:=?_)
   repeat refine RA.qq (h:=?_)
   refine RA.mi (by kernel_rfl) (by rfl) (by rfl) (by rfl) ((q:Int)) (hq4.out) (by omega) ?_;refine RA.ai (by kernel_rfl) (by rfl) (by rfl) (by rfl) ((q3:Int)) (hi3.out) (by omega) ?_;refine RA.ik prog (g) (off+q3) (h:=?_);refine RA.lk prog (.int .u8 D) (hc:=fun w3 hp=>by exact ((hdr.out _ hp.1).cell (p:=⟨g,off+q3,none⟩) hglr id).trans hcD.out) (h:=?_);refine RA.vw prog (.int .u32 D) (h:=?_);refine RA.vk prog (.int .u32 W) (h:=?_)
   refine RA.bq (fun x w3=>Cells w3 (fun _=>True) x 1 1 [.int .u32 W]) (fun _ _=>True) (by kernel_rfl) (by rfl) (by kernel_rfl) (fun _ _ _ h k=>k.chg h (fun _ _ _=>id)) (fun _ _ _ _ _=>trivial) (fun w3 hp _=>by
    refine⟨.slice (some ⟨w3.heap.size,0,none⟩) 1 1,w3.alloc (.cells #[.int .u32 W] 80),?_,(Chg.refl _ _).alloc _,lit_cells w3 #[.int .u32 W] 80 1 1 rfl (by unfold maxLen;omega),trivial⟩;show (execOp _ _).run prog w3=_;go_simp) (fun x=>?_)
   refine RA.bqt (fun v' w4=>QPushMid w n n tb kv' (keys0 key k) W v' w4) (by kernel_rfl) (by rfl) (by kernel_rfl) (fun _ _ _ h k=>h ▸ k) (fun w3 hp0 _=>by
    have hp:=hp0.first (by kernel_rfl);obtain⟨v',w4,h1,h2⟩:=hSt.out.push (hdr.out _ hp.1) hWl (hp.fact 0 rfl (by kernel_rfl)) (by rw[keys0_length];omega);exact⟨v',w4,RA.ex_append (by rfl) (by rfl) h1,h2⟩) (fun v'=>?_)
   refine RA.pq (h:=?_);refine RA.pk prog (n) (1) (h:=?_)
   refine RA.stt (fun w5=>QNewSt w n n tb v' ((keys0 key k)++[UInt32.ofNat W]) w5) (by rfl) (by rfl) (by kernel_rfl) (fun _ _ h k=>h ▸ k) (fun w4 _ hH=>by
    obtain⟨f1,f2,f3,g',cp,rfl⟩:=hH;refine⟨_,RA.ex_store (by rfl) (by rfl) (w':=w4.setCell ⟨n,1,none⟩ (.slice (some ⟨g',0,none⟩) ((keys0 key k).length+1) cp)) ?_,f3⟩;clear f3;show (Instr.storeAt _ _ _).run prog w4=_;go_simp) ?_
   refine RA.RA.doneT (fun w5 hH=>?_);simp only[RA.put,List.foldr_cons,List.foldr_nil,cx,Act.put,List.setIfInBounds_toArray,List.set_cons_succ,List.set_cons_zero];replace hH:=LH hH;go_wp2;go_roundg g1
   case measure=>omega
   case rel=>
    refine⟨k+1,v',by omega,by go_num,?_⟩;show QNewSt _ _ _ _ _ _ _;rw[keys0,hWe.out];exact hH.out
  ·obtain rfl:k=8:=by omega
   clear hlt hkg hdr;go_wp2
   go_loopg [8,9,10] 52 (fun gk rr ii _ wr=>∃ (m:Nat) (kv':Value),m+gk=52∧ii=.int .i64 (8+m:Nat)∧rr=.int .u8 (round ((2*8+m - 1) / 8))∧Hid (QNewSt w n n tb kv' (keysF key 8 m) wr))
   case atStart=>exact⟨0,_,by omega,rfl,by rfl,hSt.out⟩
   case round=>
    clear hSt;obtain⟨m,kv2,hmg,rfl,rfl,hSt⟩:=hrel;have hdr:∀ w3,Chg No wr.drew w3→Chg No wr w3:=fun w3 h=>⟨h.os,h.tape,h.output,h.size,h.block⟩
    replace hdr:=LH hdr;obtain⟨I,hI⟩:∃ I,I=8+m:=⟨_,rfl⟩;rw[← hI];obtain⟨RQ,hRQ⟩:∃ R,R=(2*8+m - 1) / 8:=⟨_,rfl⟩;rw[← hRQ];have hRQ1:1≤RQ:=by omega
    obtain⟨RD,hRD⟩:∃ R,R=round RQ:=⟨_,rfl⟩;rw[← hRD];have hRl:RD<256:=hRD ▸ round_lt;by_cases hlt:m<52
    ·obtain⟨g1,rfl⟩:∃ j,gk=j+1:=⟨gk - 1,by omega⟩;obtain⟨KS,hKS⟩:∃ KS,KS=keysF key 8 m:=⟨_,rfl⟩;rw[← hKS] at hSt;have hKl:KS.length=I:=by rw[hKS,keysF_length,hI]
     have hown:=hSt.out.own;rw[hKl] at hown;obtain⟨g',cp,rfl,hcp1,hcp2⟩:=own_shape hown (by omega);have hgr:=(hown.lt g' rfl).2;have hcs:=hown.cells (g:=g') rfl
     have hcell2:∀ j,j<I→wr.cell? ⟨g',j,none⟩=some (.int .u32 (KS.getD j 0).toNat):=by
      intro j hj;have h:=hcs j _ (u32s_get KS j (by omega));rw[Addr.add_lit,Nat.zero_add] at h;exact h
     clear hown hcs;replace hKS:=LH hKS;obtain⟨J,hJ⟩:∃ J,J=I - 1:=⟨_,rfl⟩;have hJ1:(I:Int) - 1=J:=by omega
     have hJl:J<I:=by omega
     obtain⟨X,hX⟩:∃ X,X=(KS.getD J 0).toNat:=⟨_,rfl⟩;have hcX:=hcell2 J hJl;rw[← hX] at hcX;have hXl:X<4294967296:=hX ▸ UInt32.toNat_lt _;obtain⟨Y,hY⟩:∃ Y,Y=(KS.getD m 0).toNat:=⟨_,rfl⟩;have hcY:=hcell2 m (by omega);rw[← hY] at hcY;have hYl:Y<4294967296:=hY ▸ UInt32.toNat_lt _;clear hcell2
     have hnx:∀ V,V=turnW 8 I X→UInt32.ofNat (Y ^^^ V)=UInt32.ofNat (nextW KS 8 I):=by
      intro V hV;rw[nextW,show I - 8=m by omega,← hJ,← hX,← hY,← hV]
     replace hnx:=LH hnx;have hcP:wr.cell? ⟨n,1,none⟩=some (.slice (some ⟨g',0,none⟩) I cp):=by rw[cell_of hSt.out.box];rfl
     have hplr:=heap_lt hSt.out.box;have hI1:I<100:=by omega
     have hI0:8≤I:=by omega
     have hIm:(I:Int) - 8=m:=by omega
     have hmI:m<I:=by omega
     have hIM:(I:Int)<60:=by omega
     obtain⟨r,hr⟩:∃ r,r=I % 8:=⟨_,rfl⟩;have hr1:(I:Int) % 8=r:=by omega
     have hr2:(I:Int).tmod 8=r:=by rw[Int.tmod_eq_emod_of_nonneg (by omega)];exact hr1
     obtain⟨RN,hRN⟩:∃ R,R=(2*8+(m+1) - 1) / 8:=⟨_,rfl⟩;by_cases hr0:r=0
     ·have hQ:RQ=I / 8:=by omega
      have hRN1:RN=RQ+1:=by omega
      have hRQ20:RQ<20:=by omega
      have hmr:=mulQ_round RQ hRQ20 hRQ1;rw[← hRD,← hRN1] at hmr;obtain⟨R2,hR2⟩:∃ R,R=mulQ RD 2 8:=⟨_,rfl⟩;rw[← hR2] at hmr;have hVr:=hr;subst hr0;obtain⟨RS,hRS⟩:∃ R,R=RD*16777216:=⟨_,rfl⟩;have hRSl:RS<4294967296:=by omega
      have hRSi:(RD:Int)*16777216 % 4294967296=RS:=by omega
      have hRSw:IntKind.u32.wrap ((RD:Int)*16777216)=RS:=by rw[IntKind.wrap_u32'];omega
      have hRDw:IntKind.u32.wrap (RD:Int)=RD:=by rw[IntKind.wrap_u32'];omega
      obtain⟨A1,hA1⟩:∃ x,x=X*256 % 4294967296:=⟨_,rfl⟩;obtain⟨A2,hA2⟩:∃ x,x=X / 16777216:=⟨_,rfl⟩;have hA1i:(X:Int)*256 % 4294967296=A1:=by omega
      have hA1w:IntKind.u32.wrap ((X:Int)*256)=A1:=by rw[IntKind.wrap_u32'];omega
      have hA2i:(X:Int) / 16777216=A2:=by omega
      have hor:=u32_or_nat A1 A2 (by omega) (by omega);rw[show A1 ||| A2=rot32 X 8 by rw[rot32,hA1,hA2]] at hor;obtain⟨RT,hRT⟩:∃ x,x=rot32 X 8:=⟨_,rfl⟩;rw[← hRT] at hor;have hRTl:RT<4294967296:=hRT ▸ rot32_lt hXl;obtain⟨SW,hSW⟩:∃ S,S=subW RT:=⟨_,rfl⟩;have hSWl:SW<4294967296:=hSW ▸ subW_lt;obtain⟨V,hV⟩:∃ V,V=SW ^^^ RS:=⟨_,rfl⟩;have hVl:V<4294967296:=hV ▸ xor32 hSWl hRSl;have hx1:bits .xor .u32 (SW:Int) (RS:Int)=(V:Int):=by rw[u32_xor_nat SW RS hSWl hRSl,hV]
      have hVt:V=turnW 8 I X:=by rw[turnW,if_pos hr.symm,← hRT,← hSW,← hQ,← hRD,← hRS,hV]
      have hcw:=qWord_ok (hbx0.out wr hSt.out.below) RT hRTl;rw[← hSW] at hcw;replace hcw:=LH hcw;have hmq:=fun x=>qMul_ok RD 2 hRl (by omega) x
      rw[← hR2] at hmq;replace hmq:=LH hmq;replace hVt:=LH hVt;replace hV:=LH hV;replace hSW:=LH hSW;replace hRS:=LH hRS;replace hRT:=LH hRT;replace hA1:=LH hA1;replace hA2:=LH hA2;replace hQ:=LH hQ;replace hRN1:=LH hRN1;replace hR2:=LH hR2;replace hmr:=LH hmr;replace hVr:=LH hVr;replace hX:=LH hX;replace hY:=LH hY;replace hKl:=LH hKl;replace hI:=LH hI;replace hJ:=LH hJ;replace hr:=LH hr;replace hRQ:=LH hRQ;replace hRD:=LH hRD;replace hRN:=LH hRN;replace hIm:=LH hIm
      go_wp2_with (fail)
      refine hcw.out.mono ?_;rintro e wx ⟨rfl,hbxx⟩;have hbx:=LH hbxx;clear hbxx hcw hA1i hA1w hA2i hor
      go_wp2_with (fail)
      refine (hmq.out wx).mono ?_;rintro e wx' ⟨rfl,rfl⟩;clear hmq;have hRR:.int .u8 (R2:Int)=Value.int .u8 (round RN):=by rw[hmr.out]
      replace hRR:=LH hRR;have hSx:=LH (hSt.out.after hbx.out);have hcP5:wx.cell? ⟨n,1,none⟩=some (.slice (some ⟨g',0,none⟩) I cp):=by rw[cell_of hSx.out.box];rfl
      have hplx:=heap_lt hSx.out.box;have hgx:g'<wx.heap.size:=Nat.lt_of_lt_of_le hgr hbx.out.size;have hcY5:=LH ((World.cell?_of_block (w:=wr) (a:=⟨g',m,none⟩) (hbx.out.block g' hgr)).trans hcY);have hdr5:∀ w3,Chg No wx.drew w3→Chg No wx w3:=fun w3 h=>⟨h.os,h.tape,h.output,h.size,h.block⟩
      replace hdr5:=LH hdr5;replace hcP5:=LH hcP5;obtain⟨Z,hZ⟩:∃ Z,Z=Y ^^^ V:=⟨_,rfl⟩;have hxz:bits .xor .u32 (Y:Int) (V:Int)=(Z:Int):=by rw[u32_xor_nat Y V (by omega) (by omega),hZ]
      have hZl:Z<4294967296:=hZ ▸ xor32 hYl hVl;replace hZ:=LH hZ;clear hcX hcY hcP;go_wp2;refine RA.rt (Chg No) [5,1,1,1,1,1,1,1,1,1,1,1,1,1,1,1,3,6,5,5,7] [17,20] (fun _=>True) (trivial) (fun _=>Chg.refl _ _) (fun _ _ _ h k=>h.trans k) (h:=?_);intro cx;refine RA.pq (h:=?_)
      repeat refine RA.qq (h:=?_)
      refine RA.fk prog (n) (1) (h:=?_);refine RA.lk prog (.slice (some ⟨g',0,none⟩) I cp) (hc:=fun w3 hp=>by exact ((hdr5.out _ hp.1).cell (p:=⟨n,1,none⟩) hplx id).trans hcP5.out) (h:=?_)
      repeat refine RA.qq (h:=?_)
      refine RA.fk prog (n) (1) (h:=?_);refine RA.lk prog (.slice (some ⟨g',0,none⟩) I cp) (hc:=fun w3 hp=>by exact ((hdr5.out _ hp.1).cell (p:=⟨n,1,none⟩) hplx id).trans hcP5.out) (h:=?_)
      repeat refine RA.qq (h:=?_)
      refine RA.si (by kernel_rfl) (by rfl) (by rfl) (by rfl) ((m:Int)) (hIm.out) (by omega) ?_;refine RA.ik prog (g') (m) (h:=?_);refine RA.lk prog (.int .u32 Y) (hc:=fun w3 hp=>by exact ((hdr5.out _ hp.1).cell (p:=⟨g',m,none⟩) hgx id).trans hcY5.out) (h:=?_)
      repeat refine RA.qq (h:=?_)
      refine RA.vk prog (.int .u32 Z) (h:=?_)
      refine RA.bq (fun x w3=>Cells w3 (fun _=>True) x 1 1 [.int .u32 Z]) (fun _ _=>True) (by kernel_rfl) (by rfl) (by kernel_rfl) (fun _ _ _ h k=>k.chg h (fun _ _ _=>id)) (fun _ _ _ _ _=>trivial) (fun w3 hp _=>by
       refine⟨.slice (some ⟨w3.heap.size,0,none⟩) 1 1,w3.alloc (.cells #[.int .u32 Z] 80),?_,(Chg.refl _ _).alloc _,lit_cells w3 #[.int .u32 Z] 80 1 1 rfl (by unfold maxLen;omega),trivial⟩;show (execOp _ _).run prog w3=_;go_simp) (fun x=>?_)
      refine RA.bqt (fun v' w4=>QPushMid w n n tb (.slice (some ⟨g',0,none⟩) I cp) KS Z v' w4) (by kernel_rfl) (by rfl) (by kernel_rfl) (fun _ _ _ h k=>h ▸ k) (fun w3 hp0 _=>by
       have hp:=hp0.first (by kernel_rfl);obtain⟨v',w4,h1,h2⟩:=hSx.out.push (hdr5.out _ hp.1) hZl (hp.fact 0 rfl (by kernel_rfl)) (by rw[hKl.out];omega);exact⟨v',w4,RA.ex_append (by rfl) (by rfl) h1,h2⟩) (fun v'=>?_)
      refine RA.pq (h:=?_);refine RA.pk prog (n) (1) (h:=?_)
      refine RA.stt (fun w5=>QNewSt w n n tb v' (KS++[UInt32.ofNat Z]) w5) (by rfl) (by rfl) (by kernel_rfl) (fun _ _ h k=>h ▸ k) (fun w4 _ hH=>by
       obtain⟨f1,f2,f3,g2,cp2,rfl⟩:=hH;refine⟨_,RA.ex_store (by rfl) (by rfl) (w':=w4.setCell ⟨n,1,none⟩ (.slice (some ⟨g2,0,none⟩) (KS.length+1) cp2)) ?_,f3⟩;clear f3;show (Instr.storeAt _ _ _).run prog w4=_;go_simp) ?_
      refine RA.RA.doneT (fun w5 hH=>?_);simp only[RA.put,List.foldr_cons,List.foldr_nil,cx,Act.put,List.setIfInBounds_toArray,List.set_cons_succ,List.set_cons_zero];replace hH:=LH hH;go_wp2;go_roundg g1
      case measure=>omega
      case rel=>
       refine⟨m+1,v',by omega,by have:=hI.out;go_num,by rw[← hRN.out];exact hRR.out,?_⟩;show QNewSt _ _ _ _ _ _ _;rw[keysF,← hKS.out,← hI.out,← hnx.out V hVt.out,← hZ.out];exact hH.out
     ·skip;have hRR:Value.int .u8 (RD:Int)=Value.int .u8 (round RN):=by rw[hRD,show RN=RQ by omega]
      replace hRR:=LH hRR;have e0:((r:Int) == 0)=false:=by simp;omega
      by_cases hr4:r=4
      ·have e4:((r:Int) == 4)=true:=by simp;omega
       obtain⟨V,hV⟩:∃ V,V=subW X:=⟨_,rfl⟩;have hVl:V<4294967296:=hV ▸ subW_lt;have hVt:V=turnW 8 I X:=by rw[turnW,if_neg (by omega),if_pos (by omega),hV]
       have hcw:=qWord_ok (hbx0.out wr hSt.out.below) X hXl;rw[← hV] at hcw;replace hcw:=LH hcw;replace hVt:=LH hVt;replace hV:=LH hV;have hr4i:(4:Int)=r:=by omega
       replace hr4i:=LH hr4i;replace hr4:=LH hr4;replace hX:=LH hX;replace hY:=LH hY;replace hKl:=LH hKl;replace hI:=LH hI;replace hJ:=LH hJ;replace hr:=LH hr;replace hRQ:=LH hRQ;replace hRD:=LH hRD;replace hRN:=LH hRN;replace hIm:=LH hIm
       go_wp2_with (fail)
       refine hcw.out.mono ?_;rintro e wx ⟨rfl,hbxx⟩;have hbx:=LH hbxx;clear hbxx hcw;have hSx:=LH (hSt.out.after hbx.out);have hcP5:wx.cell? ⟨n,1,none⟩=some (.slice (some ⟨g',0,none⟩) I cp):=by rw[cell_of hSx.out.box];rfl
       have hplx:=heap_lt hSx.out.box;have hgx:g'<wx.heap.size:=Nat.lt_of_lt_of_le hgr hbx.out.size;have hcY5:=LH ((World.cell?_of_block (w:=wr) (a:=⟨g',m,none⟩) (hbx.out.block g' hgr)).trans hcY);have hdr5:∀ w3,Chg No wx.drew w3→Chg No wx w3:=fun w3 h=>⟨h.os,h.tape,h.output,h.size,h.block⟩
       replace hdr5:=LH hdr5;replace hcP5:=LH hcP5;obtain⟨Z,hZ⟩:∃ Z,Z=Y ^^^ V:=⟨_,rfl⟩;have hxz:bits .xor .u32 (Y:Int) (V:Int)=(Z:Int):=by rw[u32_xor_nat Y V (by omega) (by omega),hZ]
       have hZl:Z<4294967296:=hZ ▸ xor32 hYl hVl;replace hZ:=LH hZ;clear hcX hcY hcP;go_wp2;refine RA.rt (Chg No) [5,1,1,1,1,1,1,1,1,1,1,1,1,1,1,1,3,6,5,5,7] [17,20] (fun _=>True) (trivial) (fun _=>Chg.refl _ _) (fun _ _ _ h k=>h.trans k) (h:=?_);intro cx;refine RA.pq (h:=?_)
       repeat refine RA.qq (h:=?_)
       refine RA.fk prog (n) (1) (h:=?_);refine RA.lk prog (.slice (some ⟨g',0,none⟩) I cp) (hc:=fun w3 hp=>by exact ((hdr5.out _ hp.1).cell (p:=⟨n,1,none⟩) hplx id).trans hcP5.out) (h:=?_)
       repeat refine RA.qq (h:=?_)
       refine RA.fk prog (n) (1) (h:=?_);refine RA.lk prog (.slice (some ⟨g',0,none⟩) I cp) (hc:=fun w3 hp=>by exact ((hdr5.out _ hp.1).cell (p:=⟨n,1,none⟩) hplx id).trans hcP5.out) (h:=?_)
       repeat refine RA.qq (h:=?_)
       refine RA.si (by kernel_rfl) (by rfl) (by rfl) (by rfl) ((m:Int)) (hIm.out) (by omega) ?_;refine RA.ik prog (g') (m) (h:=?_);refine RA.lk prog (.int .u32 Y) (hc:=fun w3 hp=>by exact ((hdr5.out _ hp.1).cell (p:=⟨g',m,none⟩) hgx id).trans hcY5.out) (h:=?_)
       repeat refine RA.qq (h:=?_)
       refine RA.vk prog (.int .u32 Z) (h:=?_)
       refine RA.bq (fun x w3=>Cells w3 (fun _=>True) x 1 1 [.int .u32 Z]) (fun _ _=>True) (by kernel_rfl) (by rfl) (by kernel_rfl) (fun _ _ _ h k=>k.chg h (fun _ _ _=>id)) (fun _ _ _ _ _=>trivial) (fun w3 hp _=>by
        refine⟨.slice (some ⟨w3.heap.size,0,none⟩) 1 1,w3.alloc (.cells #[.int .u32 Z] 80),?_,(Chg.refl _ _).alloc _,lit_cells w3 #[.int .u32 Z] 80 1 1 rfl (by unfold maxLen;omega),trivial⟩;show (execOp _ _).run prog w3=_;go_simp) (fun x=>?_)
       refine RA.bqt (fun v' w4=>QPushMid w n n tb (.slice (some ⟨g',0,none⟩) I cp) KS Z v' w4) (by kernel_rfl) (by rfl) (by kernel_rfl) (fun _ _ _ h k=>h ▸ k) (fun w3 hp0 _=>by
        have hp:=hp0.first (by kernel_rfl);obtain⟨v',w4,h1,h2⟩:=hSx.out.push (hdr5.out _ hp.1) hZl (hp.fact 0 rfl (by kernel_rfl)) (by rw[hKl.out];omega);exact⟨v',w4,RA.ex_append (by rfl) (by rfl) h1,h2⟩) (fun v'=>?_)
       refine RA.pq (h:=?_);refine RA.pk prog (n) (1) (h:=?_)
       refine RA.stt (fun w5=>QNewSt w n n tb v' (KS++[UInt32.ofNat Z]) w5) (by rfl) (by rfl) (by kernel_rfl) (fun _ _ h k=>h ▸ k) (fun w4 _ hH=>by
        obtain⟨f1,f2,f3,g2,cp2,rfl⟩:=hH;refine⟨_,RA.ex_store (by rfl) (by rfl) (w':=w4.setCell ⟨n,1,none⟩ (.slice (some ⟨g2,0,none⟩) (KS.length+1) cp2)) ?_,f3⟩;clear f3;show (Instr.storeAt _ _ _).run prog w4=_;go_simp) ?_
       refine RA.RA.doneT (fun w5 hH=>?_);simp only[RA.put,List.foldr_cons,List.foldr_nil,cx,Act.put,List.setIfInBounds_toArray,List.set_cons_succ,List.set_cons_zero];replace hH:=LH hH;go_wp2;go_roundg g1
       case measure=>omega
       case rel=>
        refine⟨m+1,v',by omega,by have:=hI.out;go_num,by rw[← hRN.out];exact hRR.out,?_⟩;show QNewSt _ _ _ _ _ _ _;rw[keysF,← hKS.out,← hI.out,← hnx.out V hVt.out,← hZ.out];exact hH.out
      ·have e4:((r:Int) == 4)=false:=by simp;omega
       obtain⟨V,hV⟩:∃ V,V=X:=⟨_,rfl⟩;subst hV;have hVl:=hXl;have hVt:V=turnW 8 I V:=by rw[turnW,if_neg (by omega),if_neg (by omega)]
       replace hVt:=LH hVt;replace hX:=LH hX;replace hY:=LH hY;replace hKl:=LH hKl;replace hI:=LH hI;replace hJ:=LH hJ;replace hr:=LH hr;replace hRQ:=LH hRQ;replace hRD:=LH hRD;replace hRN:=LH hRN;replace hIm:=LH hIm;have hbx:=LH (Below.refl wr.heap.size wr);obtain⟨wx,hwx⟩:∃ wx,wx=wr:=⟨_,rfl⟩;rw[show Below wr.heap.size wr wr=Below wr.heap.size wr wx by rw[hwx]] at hbx;go_wp2;rw[← hwx];clear hwx;have hSx:=LH (hSt.out.after hbx.out);have hcP5:wx.cell? ⟨n,1,none⟩=some (.slice (some ⟨g',0,none⟩) I cp):=by rw[cell_of hSx.out.box];rfl
       have hplx:=heap_lt hSx.out.box;have hgx:g'<wx.heap.size:=Nat.lt_of_lt_of_le hgr hbx.out.size;have hcY5:=LH ((World.cell?_of_block (w:=wr) (a:=⟨g',m,none⟩) (hbx.out.block g' hgr)).trans hcY);have hdr5:∀ w3,Chg No wx.drew w3→Chg No wx w3:=fun w3 h=>⟨h.os,h.tape,h.output,h.size,h.block⟩
       replace hdr5:=LH hdr5;replace hcP5:=LH hcP5;obtain⟨Z,hZ⟩:∃ Z,Z=Y ^^^ V:=⟨_,rfl⟩;have hxz:bits .xor .u32 (Y:Int) (V:Int)=(Z:Int):=by rw[u32_xor_nat Y V (by omega) (by omega),hZ]
       have hZl:Z<4294967296:=hZ ▸ xor32 hYl hVl;replace hZ:=LH hZ;clear hcX hcY hcP;go_wp2;refine RA.rt (Chg No) [5,1,1,1,1,1,1,1,1,1,1,1,1,1,1,1,3,6,5,5,7] [17,20] (fun _=>True) (trivial) (fun _=>Chg.refl _ _) (fun _ _ _ h k=>h.trans k) (h:=?_);intro cx;refine RA.pq (h:=?_)
       repeat refine RA.qq (h:=?_)
       refine RA.fk prog (n) (1) (h:=?_);refine RA.lk prog (.slice (some ⟨g',0,none⟩) I cp) (hc:=fun w3 hp=>by exact ((hdr5.out _ hp.1).cell (p:=⟨n,1,none⟩) hplx id).trans hcP5.out) (h:=?_)
       repeat refine RA.qq (h:=?_)
       refine RA.fk prog (n) (1) (h:=?_);refine RA.lk prog (.slice (some ⟨g',0,none⟩) I cp) (hc:=fun w3 hp=>by exact ((hdr5.out _ hp.1).cell (p:=⟨n,1,none⟩) hplx id).trans hcP5.out) (h:=?_)
       repeat refine RA.qq (h:=?_)
       refine RA.si (by kernel_rfl) (by rfl) (by rfl) (by rfl) ((m:Int)) (hIm.out) (by omega) ?_;refine RA.ik prog (g') (m) (h:=?_);refine RA.lk prog (.int .u32 Y) (hc:=fun w3 hp=>by exact ((hdr5.out _ hp.1).cell (p:=⟨g',m,none⟩) hgx id).trans hcY5.out) (h:=?_)
       repeat refine RA.qq (h:=?_)
       refine RA.vk prog (.int .u32 Z) (h:=?_)
       refine RA.bq (fun x w3=>Cells w3 (fun _=>True) x 1 1 [.int .u32 Z]) (fun _ _=>True) (by kernel_rfl) (by rfl) (by kernel_rfl) (fun _ _ _ h k=>k.chg h (fun _ _ _=>id)) (fun _ _ _ _ _=>trivial) (fun w3 hp _=>by
        refine⟨.slice (some ⟨w3.heap.size,0,none⟩) 1 1,w3.alloc (.cells #[.int .u32 Z] 80),?_,(Chg.refl _ _).alloc _,lit_cells w3 #[.int .u32 Z] 80 1 1 rfl (by unfold maxLen;omega),trivial⟩;show (execOp _ _).run prog w3=_;go_simp) (fun x=>?_)
       refine RA.bqt (fun v' w4=>QPushMid w n n tb (.slice (some ⟨g',0,none⟩) I cp) KS Z v' w4) (by kernel_rfl) (by rfl) (by kernel_rfl) (fun _ _ _ h k=>h ▸ k) (fun w3 hp0 _=>by
        have hp:=hp0.first (by kernel_rfl);obtain⟨v',w4,h1,h2⟩:=hSx.out.push (hdr5.out _ hp.1) hZl (hp.fact 0 rfl (by kernel_rfl)) (by rw[hKl.out];omega);exact⟨v',w4,RA.ex_append (by rfl) (by rfl) h1,h2⟩) (fun v'=>?_)
       refine RA.pq (h:=?_);refine RA.pk prog (n) (1) (h:=?_)
       refine RA.stt (fun w5=>QNewSt w n n tb v' (KS++[UInt32.ofNat Z]) w5) (by rfl) (by rfl) (by kernel_rfl) (fun _ _ h k=>h ▸ k) (fun w4 _ hH=>by
        obtain⟨f1,f2,f3,g2,cp2,rfl⟩:=hH;refine⟨_,RA.ex_store (by rfl) (by rfl) (w':=w4.setCell ⟨n,1,none⟩ (.slice (some ⟨g2,0,none⟩) (KS.length+1) cp2)) ?_,f3⟩;clear f3;show (Instr.storeAt _ _ _).run prog w4=_;go_simp) ?_
       refine RA.RA.doneT (fun w5 hH=>?_);simp only[RA.put,List.foldr_cons,List.foldr_nil,cx,Act.put,List.setIfInBounds_toArray,List.set_cons_succ,List.set_cons_zero];replace hH:=LH hH;go_wp2;go_roundg g1
       case measure=>omega
       case rel=>
        refine⟨m+1,v',by omega,by have:=hI.out;go_num,by rw[← hRN.out];exact hRR.out,?_⟩;show QNewSt _ _ _ _ _ _ _;rw[keysF,← hKS.out,← hI.out,← hnx.out V hVt.out,← hZ.out];exact hH.out
    ·obtain rfl:m=52:=by omega
     have hs:sched key=keysF key 8 52:=sched32 hl.out;obtain⟨KS,hKS⟩:∃ KS,KS=keysF key 8 52:=⟨_,rfl⟩;rw[← hKS] at hSt hs;have hKl:KS.length=60:=by rw[hKS,keysF_length]
     replace hKS:=LH hKS;replace hs:=LH hs;replace hRD:=LH hRD;replace hRQ:=LH hRQ;obtain rfl:I=60:=hI;clear hmg hlt hdr;go_wp2;go_ret;refine⟨n,kv2,rfl,Nat.le_of_eq HN.out.symm,?_,HN.out ▸ hSt.out.below⟩;rw[hs.out];exact⟨hSt.out.box,.inl (Nat.le_of_eq HN.out.symm),hbx0.out wr hSt.out.below,.inr rfl,by omega,(Cells.own hSt.out.own).mono (fun b _ h=>.inl (by rw[← HN.out];exact h.2))⟩
theorem qAes_ok {w:World}{S:Nat→Prop}{kv:Value}{key:List UInt8}(hb:Bytes w S kv key) (hl:key.length=16∨key.length=32){tb:Nat}(ht:QBoxAt w tb):
  Calls prog 45 #[.pointer (some ⟨tb,0,none⟩),kv] w fun e w'=>∃ p kv',e=.returned (.pointer (some ⟨p,0,none⟩))∧w.heap.size≤p∧QCipherAt w' (fun g=>w.heap.size≤g∨g=tb) p tb kv' (sched key)∧Below w.heap.size w w':=by
 rcases hl with h|h
 ·exact qAes16_ok hb h ht
 ·exact qAes32_ok hb h ht
end Go.Proofs.YtbgfdbidbjlaaaaGreat.Fd

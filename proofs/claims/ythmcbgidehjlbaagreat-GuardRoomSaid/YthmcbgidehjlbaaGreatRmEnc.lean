/-
  aes: a block through all rounds. No condition beyond what each theorem names.
-/
import Derived.Test.YthmcbgidehjlbaaGreatRmTablesPk
namespace Go.Proofs.YthmcbgidehjlbaaGreat.Fd
open _root_.Go.Proofs.Tryz
open Go Go.RowKit K
set_option maxRecDepth 100000
set_option maxHeartbeats 8000000
theorem rounds_ok {w:World}{F:Nat→Prop}{p tb:Nat}{kv:Value}{ks:List UInt32}(h:CipherAt w F p tb kv ks) (h4:4≤ks.length):
  Calls prog 181 #[.pointer (some ⟨p,0,none⟩)] w fun e w'=>e=.returned (.int .i64 (roundsN ks))∧w=w':=by
 have hfew:=h.few;obtain⟨a,cap,rfl,hc1,hc2⟩:=h.keys.shape;have hpb:=cell_of h.box 1;clear h;have hpb2:w.cell? ⟨p,1,none⟩=some (.slice a ks.length cap):=hpb;clear hpb;go_enter func181,ntmps181;go_wp2;go_ret;exact⟨ret_int (by simp[roundsN];omega),rfl⟩
def shL (T:Nat→UInt8) (b:List UInt8):Nat→List UInt8
 | 0=>List.replicate 16 0
 | k+1=>(shL T b k).set k (T (b.getD ((k+4*(k % 4)) % 16) 0).toNat)
theorem shL_length {T:Nat→UInt8}{b:List UInt8}{k:Nat}:(shL T b k).length=16:=by
 induction k with
 | zero=>exact List.length_replicate
 | succ k ih=>exact List.length_set.trans ih
def nextR (mix:Nat→List UInt8) (N t:Nat) (x:List UInt8):List UInt8:=if t<N then colL mix x 16 else x
theorem nextR_length {mix:Nat→List UInt8}{N t:Nat}{x:List UInt8}(h:x.length=16):(nextR mix N t x).length=16:=by
 unfold nextR;split
 ·exact colL_length
 ·exact h
def encR (ks:List UInt32) (b:List UInt8):Nat→List UInt8
 | 0=>addL b ks 0 16
 | t+1=>addL (nextR mixB (roundsN ks) (t+1) (shL sb (encR ks b t) 16)) ks (t+1) 16
theorem encR_length {ks:List UInt32}{b:List UInt8}(hb:b.length=16){t:Nat}:(encR ks b t).length=16:=by
 cases t with
 | zero=>exact addL_length.trans hb
 | succ t=>exact addL_length.trans (nextR_length shL_length)
def encrypt (ks:List UInt32) (b:List UInt8):List UInt8:=encR ks b (roundsN ks)
theorem tab_sub {l:List UInt8}(h:TabL 256 l) (a:Nat) (ha:a<256):l.getD a 0=sb a:=by rw[h.2 a (by omega),tabC,if_pos ha]
theorem tab_mix {l:List UInt8}(h:TabL 256 l) (a j:Nat) (ha:a<256) (hj:j<4):l.getD (512+a*4+j) 0=(mixB a).getD j 0:=by
 rw[h.2 _ (by omega),tabC,if_neg (by omega),if_neg (by omega),if_pos (by omega),if_pos (by omega)];have e1:(512+a*4+j - 512) / 4=a:=by omega
 have e2:(512+a*4+j - 512) % 4=j:=by omega
 rw[e1,e2]
theorem block_store {w:World}{g:Nat}{o:List UInt8}(h:Arr w g 179 o) (ho:o.length=16) (x:List UInt8) (hx:x.length=16):
  (Instr.storeAt 179 (.pointer (some ⟨g,0,none⟩)) (.agg (u8s x).toArray)).run prog w=.ok () (w.setRow g (u8s x).toArray):=by
 have hst:=run_storeAt_at (P:=prog) (off:=0) (x:=x) h (size61 hx) (by omega);rw[splice_all (by omega)] at hst;exact hst
def EncSt (w:World) (n:Nat) (X:List UInt8) (x:World):Prop:=Below n w x∧n+1<x.heap.size∧Arr x n 179 X∧Arr x (n+1) 179 (List.replicate 16 0)
theorem EncSt.after {w:World}{n:Nat}{X:List UInt8}{x y:World}(h:EncSt w n X x) (hb:Below x.heap.size x y):EncSt w n X y:=
 ⟨h.1.trans (hb.mono (by have:=h.2.1;omega)),Nat.lt_of_lt_of_le h.2.1 hb.size,h.2.2.1.keep (hb.block n (by have:=h.2.1;omega)),h.2.2.2.keep (hb.block (n+1) h.2.1)⟩
theorem EncSt.put {w:World}{n:Nat}{X:List UInt8}{x:World}(h:EncSt w n X x) (Y:List UInt8):EncSt w n Y (x.setRow n (u8s Y).toArray):=
 ⟨below_setRow h.1 (Nat.le_refl n) _,by simpa using h.2.1,h.2.2.1.setRow Y,h.2.2.2.keep (setRow_other _ _ _ _ (by omega))⟩
theorem encrypt_ok {w:World}{F:Nat→Prop}{p tb:Nat}{kv:Value}{ks:List UInt32}(h:CipherAt w F p tb kv ks) (h4:8≤ks.length) (hk4:ks.length % 4=0) (b:List UInt8) (hb:b.length=16):
  Calls prog 167 #[.pointer (some ⟨p,0,none⟩),.agg (u8s b).toArray] w fun e w'=>e=.returned (.agg (u8s (encrypt ks b)).toArray)∧Below w.heap.size w w':=by
 obtain⟨n,hn⟩:∃ n,n=w.heap.size:=⟨_,rfl⟩;have HN:=LH hn;have HX:=LH (box2 w 179 b (List.replicate 16 0));obtain⟨N,hNr⟩:∃ N,N=roundsN ks:=⟨_,rfl⟩;have hN1:1≤N:=by rw[hNr];unfold roundsN;omega
 have hNk:4*N+4≤ks.length:=by rw[hNr];unfold roundsN;omega
 have hfew:=h.few;have hcw:∀ wr,Below n w wr→CipherAt wr F p tb kv ks:=fun wr hbr=>h.keep hbr.size (fun g _ hl=>hbr.block g (by rw[hn];exact hl))
 obtain⟨lt,htA,htL⟩:=h.tab;have htb:=heap_lt htA;have hpl:=heap_lt h.box;have hpb:=cell_of h.box 0;have hpb0:w.cell? ⟨p,0,none⟩=some (.pointer (some ⟨tb,0,none⟩)):=hpb;clear hpb;rw[← hn] at htb hpl;obtain⟨V,hV⟩:∃ V,V=(u8s b).toArray:=⟨_,rfl⟩;rw[← hV] at HX ⊢;have hz:(u8s (List.replicate 16 0)).toArray=#[.int .u8 0,.int .u8 0,.int .u8 0,.int .u8 0,.int .u8 0,.int .u8 0,.int .u8 0,.int .u8 0,.int .u8 0,.int .u8 0,.int .u8 0,.int .u8 0,.int .u8 0,.int .u8 0,.int .u8 0,.int .u8 0]:=rfl;rw[hz] at HX;clear hz;replace h:=LH h;replace hcw:=LH hcw;replace htA:=LH htA;replace htL:=LH htL;replace hpb0:=LH hpb0;replace hV:=LH hV;replace hNr:=LH hNr;clear hn;have hz0:=LH (show (List.replicate 16 (0:UInt8)).length=16 from List.length_replicate);go_enter func167,ntmps167
 go_wp2_with fail
 obtain⟨w2,hw2⟩:∃ w2,w2=(w.alloc (.cells V 179)).alloc (.cells #[.int .u8 0,.int .u8 0,.int .u8 0,.int .u8 0,.int .u8 0,.int .u8 0,.int .u8 0,.int .u8 0,.int .u8 0,.int .u8 0,.int .u8 0,.int .u8 0,.int .u8 0,.int .u8 0,.int .u8 0,.int .u8 0] 179):=⟨_,rfl⟩;rw[← hw2] at HX ⊢;rw[← HN.out] at HX ⊢;clear hw2;have hc2:=LH (hcw.out w2 HX.out.2.2.1);refine (rounds_ok hc2.out (by omega)).mono ?_;rintro e w2' ⟨rfl,rfl⟩;rw[← hNr.out];have hl1:=LH (run_loadAt_arr (P:=prog) HX.out.1 underlying179 (size61 hb))
 go_wp2_with (refine wpList_load rfl 179 _ rfl _ _ rfl hl1.out ?_)
 have hE0:EncSt w n b w2:=⟨HX.out.2.2.1,by have:=HX.out.2.2.2;omega,HX.out.1,HX.out.2.1⟩;refine (add_ok hc2.out b hb 0 (by omega)).mono ?_;rintro e w3 ⟨rfl,hb3⟩;have hE1:=hE0.after hb3;obtain⟨X0,hX0⟩:∃ X0,X0=encR ks b 0:=⟨_,rfl⟩;have hX0l:X0.length=16:=hX0 ▸ encR_length hb;have hst:=LH (block_store hE1.2.2.1 hb X0 hX0l);have hE2:=LH (hE1.put X0);have he0:addL b ks 0 16=X0:=hX0.symm;rw[he0];replace hX0:=LH hX0;clear he0 hE0 hE1 hb3 hl1 hc2 HX
 go_wp2_with (refine wpList_store rfl 179 _ _ rfl _ _ rfl rfl hst.out ?_)
 go_loopw [6] (fun i wr=>∃ t:Nat,t≤N∧i=.int .i64 ((t+1:Nat):Int)∧Hid (EncSt w n (encR ks b t) wr))
  (fun i _=>N+1 - (intOf i).toNat)
 case atStart=>exact⟨0,by omega,rfl,hX0.out ▸ hE2.out⟩
 case round=>
  clear hE2 hst;obtain⟨t,ht,rfl,hE⟩:=hrel;obtain⟨s,hs⟩:∃ s,s=t+1:=⟨_,rfl⟩;rw[← hs];have hs1:1≤s:=by omega
  have hts:t<N↔s≤N:=by omega
  replace hs:=LH hs;by_cases hlt:s≤N
  ·obtain⟨X,hX⟩:∃ X,X=encR ks b t:=⟨_,rfl⟩;rw[← hX] at hE;have hXl:X.length=16:=hX ▸ encR_length hb;replace hX:=LH hX;obtain⟨z,hzz⟩:∃ z,z=wr.heap.size:=⟨_,rfl⟩;have hE1:EncSt w n X (wr.alloc (.cells #[.int .u8 0,.int .u8 0,.int .u8 0,.int .u8 0,.int .u8 0,.int .u8 0,.int .u8 0,.int .u8 0,.int .u8 0,.int .u8 0,.int .u8 0,.int .u8 0,.int .u8 0,.int .u8 0,.int .u8 0,.int .u8 0] 179)):=hE.out.after ((Below.refl _ _).alloc (Nat.le_refl _) _)
   have hZ1:Arr (wr.alloc (.cells #[.int .u8 0,.int .u8 0,.int .u8 0,.int .u8 0,.int .u8 0,.int .u8 0,.int .u8 0,.int .u8 0,.int .u8 0,.int .u8 0,.int .u8 0,.int .u8 0,.int .u8 0,.int .u8 0,.int .u8 0,.int .u8 0] 179)) z 179 (List.replicate 16 0):=by
    rw[hzz];exact heap_alloc_new wr _
   have hsz1:z<(wr.alloc (.cells #[.int .u8 0,.int .u8 0,.int .u8 0,.int .u8 0,.int .u8 0,.int .u8 0,.int .u8 0,.int .u8 0,.int .u8 0,.int .u8 0,.int .u8 0,.int .u8 0,.int .u8 0,.int .u8 0,.int .u8 0,.int .u8 0] 179)).heap.size:=by simp[hzz]
   have hzn:n+1<z:=by rw[hzz];exact hE.out.2.1
   replace hzz:=LH hzz;replace hE1:=LH hE1;replace hZ1:=LH hZ1;replace hsz1:=LH hsz1;clear hE;go_wp2;rw[← hzz.out]
   go_loopw [22] (fun i wr=>∃ k:Nat,k≤16∧i=.int .i64 k∧Hid (EncSt w n X wr)∧z<wr.heap.size∧Hid (Arr wr z 179 (shL sb X k)))
    (fun i _=>16 - (intOf i).toNat)
   case atStart=>exact⟨0,by omega,rfl,hE1.out,hsz1.out,hZ1.out⟩
   case round=>
    clear hE1 hZ1 hsz1 hzz;obtain⟨k,hk,rfl,hE,hsz,hZ⟩:=hrel;by_cases hlk:k<16
    ·obtain⟨j,hj⟩:∃ j,j=k % 4:=⟨_,rfl⟩;obtain⟨I,hI⟩:∃ I,I=(k+4*j) % 16:=⟨_,rfl⟩;have hj4:j<4:=by omega
     have hI16:I<16:=by omega
     have hm:(k:Int) % 4=j:=by omega
     have hm2:(k:Int).tmod 4=j:=by rw[Int.tmod_eq_emod_of_nonneg (by omega)];exact hm
     have hn1:((k:Int)+4*(j:Int)) % 16=I:=by omega
     have hn2:((k:Int)+4*(j:Int)).tmod 16=I:=by rw[Int.tmod_eq_emod_of_nonneg (by omega)];exact hn1
     have cX:=hE.out.2.2.1.cell I (by rw[hXl];exact hI16);obtain⟨x,hx⟩:∃ x,x=(X.getD I 0).toNat:=⟨_,rfl⟩;rw[← hx] at cX;have hxl:x<256:=hx ▸ UInt8.toNat_lt _;have cT:=htA.out.cell x (by rw[htL.out.1];omega);rw[tab_sub htL.out x hxl,← World.cell?_of_block (w:=w) (hE.out.1.block tb htb)] at cT;have cP:=hpb0.out;rw[← World.cell?_of_block (w:=w) (hE.out.1.block p hpl)] at cP;obtain⟨Y,hY⟩:∃ Y,Y=(sb x).toNat:=⟨_,rfl⟩;rw[← hY] at cT;have hI16i:(I:Int)<16:=by omega
     have hxli:(x:Int)<256:=by omega
     have hbn:n<wr.heap.size:=by omega
     have hbp:p<wr.heap.size:=by omega
     have hbt:tb<wr.heap.size:=by omega
     replace cX:=LH cX;replace cT:=LH cT;replace cP:=LH cP;replace hj:=LH hj;replace hI:=LH hI;replace hx:=LH hx;replace hY:=LH hY;have hdr:∀ w3,Chg No wr.drew w3→Chg No wr w3:=fun w3 h=>⟨h.os,h.tape,h.output,h.size,h.block⟩
     replace hdr:=LH hdr;go_wp2;refine RA.rt (Chg No) [1,1,1,1,1,1,1,1,1,1,1,1,1,1,1,1,1,1,7] [18] (fun _=>True) (trivial) (fun _=>Chg.refl _ _) (fun _ _ _ h k=>h.trans k) (h:=?_);intro cx
     repeat refine RA.qq (h:=?_)
     refine RA.fk prog (p) (0) (h:=?_);refine RA.lk prog (.pointer (some ⟨tb,0,none⟩)) (hc:=fun w3 hp=>by exact ((hdr.out _ hp.1).cell (p:=⟨p,0,none⟩) hbp id).trans cP.out) (h:=?_)
     repeat refine RA.qq (h:=?_)
     refine RA.vw prog (.int .i64 j) (h:=?_);refine RA.mi (by kernel_rfl) (by rfl) (by rfl) (by rfl) (4*(j:Int)) (rfl) (by omega) ?_;refine RA.ai (by kernel_rfl) (by rfl) (by rfl) (by rfl) ((k:Int)+4*(j:Int)) (rfl) (by omega) ?_;refine RA.vw prog (.int .i64 I) (h:=?_);refine RA.ik prog (n) (I) (h:=?_);refine RA.lk prog (.int .u8 x) (hc:=fun w3 hp=>by exact ((hdr.out _ hp.1).cell (p:=⟨n,I,none⟩) hbn id).trans cX.out) (h:=?_)
     repeat refine RA.qq (h:=?_)
     refine RA.fk prog (tb) (0) (h:=?_);refine RA.ik prog (tb) (x) (h:=?_);refine RA.lk prog (.int .u8 Y) (hc:=fun w3 hp=>by exact ((hdr.out _ hp.1).cell (p:=⟨tb,x,none⟩) hbt id).trans cT.out) (h:=?_);refine RA.ik prog (z) (k) (h:=?_);refine RA.stt (fun w4=>EncSt w n X w4∧z<w4.heap.size∧Arr w4 z 179 (shL sb X (k+1))) (by rfl) (by rfl) (by kernel_rfl) (fun _ _ h k=>h ▸ k) (fun w3 hp _=>?_) ?_
     ·have hR:=hdr.out _ (hp.first (by kernel_rfl)).1;have hE3:=hE.out.after (Chg.no hR);have hZ3:=hZ.out.keep (hR.block z hsz id);have f0:=hZ3.frozen k;have c0:=hZ3.cell k (by rw[shL_length];exact hlk);have hset:=hZ3.set k (sb x);rw[← hY.out] at hset;have e:(Instr.storeAt 5 (.pointer (some ⟨z,k,none⟩)) (.int .u8 Y)).run prog w3=.ok () (w3.setCell ⟨z,k,none⟩ (.int .u8 Y)):=by go_simp
      refine⟨_,RA.ex_store (by rfl) (by rfl) e,⟨hE3.1.setCell (p:=⟨z,k,none⟩) (by show n≤z;omega) _,by simpa using hE3.2.1,hE3.2.2.1.keep (setCell_heap_ne _ _ _ (by simp;omega)),hE3.2.2.2.keep (setCell_heap_ne _ _ _ (by simp;omega))⟩,?_,?_⟩
      ·have:=hR.size;simp;omega
      ·rw[shL,← hj.out,← hI.out,← hx.out];exact hset
     refine RA.RA.doneT (fun w3 hH=>?_);simp only[RA.put,List.foldr_cons,List.foldr_nil,cx,Act.put,List.setIfInBounds_toArray,List.set_cons_succ,List.set_cons_zero];replace hH:=LH hH;go_wp2;go_roundw
     case rel=>exact⟨k+1,by omega,by go_num,hH.out.1,hH.out.2.1,hH.out.2.2⟩
     case measure=>simp[intOf];omega
    ·have hk6:k=16:=by omega
     rw[hk6] at hZ;clear hk6;have hSl:(shL sb X 16).length=16:=shL_length;obtain⟨S,hS⟩:∃ S,S=shL sb X 16:=⟨_,rfl⟩;rw[← hS] at hZ hSl;replace hS:=LH hS;by_cases hsN:s<N
     ·have hl1:=fun (w3:World) (h:Arr w3 z 179 S)=>run_loadAt_arr (P:=prog) h underlying179 (size61 hSl)
      replace hl1:=LH hl1;have cP:=hpb0.out;rw[← World.cell?_of_block (w:=w) (hE.out.1.block p hpl)] at cP;have hbp:p<wr.heap.size:=by have:=hE.out.2.1;omega
      have hbt:tb<wr.heap.size:=by have:=hE.out.2.1;omega
      have hdr:∀ w3,Chg No wr.drew w3→Chg No wr w3:=fun w3 h=>⟨h.os,h.tape,h.output,h.size,h.block⟩
      have hcol:∀ w3,Chg No wr w3→Calls prog 183 #[.agg (u8s S).toArray,.pointer (some ⟨tb,512,none⟩)] w3 fun e w'=>e=.returned (.agg (u8s (colL mixB S 16)).toArray)∧Below w3.heap.size w3 w':=by
       intro w3 hR;refine columns_ok mixB (fun _=>rfl) S hSl tb 512 w3 (Nat.lt_of_lt_of_le hbt hR.size) (fun a ha j hj=>?_);rw[hR.cell (p:=⟨tb,512+a*4+j,none⟩) hbt id,World.cell?_of_block (w:=w) (hE.out.1.block tb htb),htA.out.cell _ (by rw[htL.out.1];omega),tab_mix htL.out a j ha hj]
      replace hcol:=LH hcol;replace cP:=LH cP;replace hdr:=LH hdr;replace hSl:=LH hSl;go_wp2;refine RA.rt (Chg No) [1,1,1,1,1,1,1,4,7] [8] (fun _=>True) (trivial) (fun _=>Chg.refl _ _) (fun _ _ _ h k=>h.trans k) (h:=?_);intro cx;refine RA.ld (by kernel_rfl) (by rfl) (by rfl) (y':=.agg (u8s S).toArray) (fun w3 hp=>hl1.out w3 (hZ.out.keep ((hdr.out _ hp.1).block z hsz id))) ?_
      repeat refine RA.qq (h:=?_)
      refine RA.fk prog (p) (0) (h:=?_);refine RA.lk prog (.pointer (some ⟨tb,0,none⟩)) (hc:=fun w3 hp=>by exact ((hdr.out _ hp.1).cell (p:=⟨p,0,none⟩) hbp id).trans cP.out) (h:=?_)
      repeat refine RA.qq (h:=?_)
      refine RA.fk prog (tb) (512) (h:=?_);refine RA.kc (P:=prog) [_,_] (.agg (u8s (colL mixB S 16)).toArray) (fun _=>True) (fun _ _=>by go_simp) (by kernel_rfl) (by rfl) (by rfl) (by kernel_rfl) (fun _ _ _ h=>h) rfl (fun w3 hp hH=>(hcol.out w3 (hdr.out _ hp.1)).mono (by rintro e w4 ⟨rfl,h2⟩;exact⟨rfl,Chg.of_below h2 _,trivial⟩)) ?_;refine RA.stt (fun w4=>EncSt w n X w4∧z<w4.heap.size∧Arr w4 z 179 (colL mixB S 16)) (by rfl) (by rfl) (by kernel_rfl) (fun _ _ h k=>h ▸ k) (fun w3 hp _=>?_) ?_
      ·have hR:=hdr.out _ (hp.first (by kernel_rfl)).1;have hE3:=hE.out.after (Chg.no hR);have hZ3:=hZ.out.keep (hR.block z hsz id);refine⟨_,RA.ex_store (by rfl) (by rfl) (block_store hZ3 hSl.out _ colL_length),⟨below_setRow hE3.1 (by omega) _,by simpa using hE3.2.1,hE3.2.2.1.keep (setRow_other _ _ _ _ (by omega)),hE3.2.2.2.keep (setRow_other _ _ _ _ (by omega))⟩,?_,hZ3.setRow _⟩;have:=hR.size;simp;omega
      refine RA.RA.doneT (fun w4 hH=>?_);simp only[RA.put,List.foldr_cons,List.foldr_nil,cx,Act.put,List.setIfInBounds_toArray,List.set_cons_succ,List.set_cons_zero];clear hE hZ;have hE:=LH hH.1;have hZ:=LH hH.2.2;clear hH hl1 hcol cP;obtain⟨Y,hY⟩:∃ Y,Y=colL mixB S 16:=⟨_,rfl⟩;rw[← hY] at hZ;have hYl:=LH (show Y.length=16 from hY ▸ colL_length);have hYe:=LH (show Y=nextR mixB N s (shL sb X 16) by rw[nextR,if_pos hsN,hY,hS.out]);clear hY;have hl2:=LH (run_loadAt_arr (P:=prog) hZ.out underlying179 (size61 hYl.out));have hc3:=LH (hcw.out w4 hE.out.1)
      go_wp2_with (first|(refine wpList_load rfl 179 _ rfl _ _ rfl hl2.out ?_)|(go_at_call 182;fail))
      refine (add_ok hc3.out Y hYl.out s (by omega)).mono ?_;rintro e w5 ⟨rfl,hb5⟩;have hE5:=hE.out.after hb5;obtain⟨X2,hX2⟩:∃ X2,X2=addL Y ks s 16:=⟨_,rfl⟩;rw[← hX2];have hX2l:X2.length=16:=hX2 ▸ addL_length.trans hYl.out;have hst5:=LH (block_store hE5.2.2.1 hXl X2 hX2l);have hE6:=LH (hE5.put X2);replace hX2:=LH hX2;clear hE5 hb5 hc3 hl2
      go_wp2_with (refine wpList_store rfl 179 _ _ rfl _ _ rfl rfl hst5.out ?_)
      go_roundw
      case rel=>
       refine⟨t+1,by omega,by have:=hs.out;go_num,?_⟩;show EncSt _ _ _ _;have e:encR ks b (t+1)=X2:=by rw[encR,← hX.out,← hNr.out,← hs.out,← hYe.out,hX2.out]
       rw[e];exact hE6.out
      case measure=>have:=hs.out;simp[intOf];omega
     ·obtain⟨Y,hY⟩:∃ Y,Y=S:=⟨_,rfl⟩;rw[← hY] at hZ;have hYl:=LH (show Y.length=16 from hY ▸ hSl);have hYe:=LH (show Y=nextR mixB N s (shL sb X 16) by rw[nextR,if_neg hsN,hY,hS.out]);clear hY;have hl2:=LH (run_loadAt_arr (P:=prog) hZ.out underlying179 (size61 hYl.out));have hc3:=LH (hcw.out wr hE.out.1)
      go_wp2_with (first|(refine wpList_load rfl 179 _ rfl _ _ rfl hl2.out ?_)|(go_at_call 182;fail))
      refine (add_ok hc3.out Y hYl.out s (by omega)).mono ?_;rintro e w5 ⟨rfl,hb5⟩;have hE5:=hE.out.after hb5;obtain⟨X2,hX2⟩:∃ X2,X2=addL Y ks s 16:=⟨_,rfl⟩;rw[← hX2];have hX2l:X2.length=16:=hX2 ▸ addL_length.trans hYl.out;have hst5:=LH (block_store hE5.2.2.1 hXl X2 hX2l);have hE6:=LH (hE5.put X2);replace hX2:=LH hX2;clear hE5 hb5 hc3 hl2
      go_wp2_with (refine wpList_store rfl 179 _ _ rfl _ _ rfl rfl hst5.out ?_)
      go_roundw
      case rel=>
       refine⟨t+1,by omega,by have:=hs.out;go_num,?_⟩;show EncSt _ _ _ _;have e:encR ks b (t+1)=X2:=by rw[encR,← hX.out,← hNr.out,← hs.out,← hYe.out,hX2.out]
       rw[e];exact hE6.out
      case measure=>have:=hs.out;simp[intOf];omega
  ·have hsN:s=N+1:=by have:=hs.out;omega
   have ht2:t=N:=by have:=hs.out;omega
   rw[ht2] at hE;clear ht2 hsN;obtain⟨R,hR⟩:∃ R,R=encR ks b N:=⟨_,rfl⟩;rw[← hR] at hE;have hRl:R.length=16:=hR ▸ encR_length hb;replace hR:=LH hR;have hl1:=LH (run_loadAt_arr (P:=prog) hE.out.2.2.1 underlying179 (size61 hRl));have hst5:=LH (block_store hE.out.2.2.2 List.length_replicate R hRl);have hfin:=LH (hE.out.2.2.2.setRow R);have hi:=LH (size61 hRl)
   go_wp2_with (first|(refine wpList_load rfl 179 _ rfl _ _ rfl hl1.out ?_)|(refine wpList_store rfl 179 _ _ rfl _ _ rfl rfl hst5.out ?_))
   refine bodyPost_ret (results_cell_row results167 _ _ (n+1) 179 _ (0,0) _ rfl hfin.out underlying179 rfl (by rw[hi.out];simp[u8s_length])) rfl ⟨by rw[encrypt,← hNr.out,← hR.out],HN.out ▸ below_setRow hE.out.1 (by omega) _⟩

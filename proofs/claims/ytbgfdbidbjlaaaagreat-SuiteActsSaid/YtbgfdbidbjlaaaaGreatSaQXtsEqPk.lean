/-
  Texts of this claim, laid together by a program of mine. No condition beyond what each theorem names.
-/
import Derived.Test.YtbgfdbidbjlaaaaGreatSaQAes
import Derived.Test.YtbgfdbidbjlaaaaGreatSaTablesPk
import Derived.Test.YtbgfdbidbjlaaaaGreatSaXdec
/-
  The document's own ciphers are the program's. Plain lists; no program. No condition beyond what each theorem names.
-/
namespace Go.Proofs.YtbgfdbidbjlaaaaGreat.Fd
open Go Go.RowKit K
set_option maxRecDepth 1000000
def mixT (l:List UInt8) (a b c d:UInt8) (i:Nat):Nat:=0 ^^^ mulQ (l.getD ((0+4 - i) % 4) 0).toNat a.toNat 8 ^^^ mulQ (l.getD ((1+4 - i) % 4) 0).toNat b.toNat 8 ^^^ mulQ (l.getD ((2+4 - i) % 4) 0).toNat c.toNat 8 ^^^ mulQ (l.getD ((3+4 - i) % 4) 0).toNat d.toNat 8
theorem mixF_16 (l:List UInt8) (x0 x1 x2 x3 x4 x5 x6 x7 x8 x9 x10 x11 x12 x13 x14 x15:UInt8):mixF l [x0,x1,x2,x3,x4,x5,x6,x7,x8,x9,x10,x11,x12,x13,x14,x15] 16=[byte (mixT l x0 x1 x2 x3 0),byte (mixT l x0 x1 x2 x3 1),byte (mixT l x0 x1 x2 x3 2),byte (mixT l x0 x1 x2 x3 3),byte (mixT l x4 x5 x6 x7 0),byte (mixT l x4 x5 x6 x7 1),byte (mixT l x4 x5 x6 x7 2),byte (mixT l x4 x5 x6 x7 3),byte (mixT l x8 x9 x10 x11 0),byte (mixT l x8 x9 x10 x11 1),byte (mixT l x8 x9 x10 x11 2),byte (mixT l x8 x9 x10 x11 3),byte (mixT l x12 x13 x14 x15 0),byte (mixT l x12 x13 x14 x15 1),byte (mixT l x12 x13 x14 x15 2),byte (mixT l x12 x13 x14 x15 3)]:=by kernel_rfl
def Fits (l:List UInt8) (R:Nat→List UInt8):Prop:=∀ a,a<256→∀ r,r<4→((R a).getD r 0).toNat=mulQ (l.getD ((4 - r) % 4) 0).toNat a 8
theorem fits_all1:((List.range 256).all fun a=>(List.range 4).all fun r=>((mixB a).getD r 0).toNat == mulQ (([2,3,1,1]:List UInt8).getD ((4 - r) % 4) 0).toNat a 8)=true:=by decide +kernel
theorem fits_all2:((List.range 256).all fun a=>(List.range 4).all fun r=>((undoB a).getD r 0).toNat == mulQ (([14,11,13,9]:List UInt8).getD ((4 - r) % 4) 0).toNat a 8)=true:=by decide +kernel
theorem fits_mix:Fits [2,3,1,1] mixB:=fun a ha r hr=>by
 have h:=List.all_eq_true.1 fits_all1 a (List.mem_range.2 ha);have h2:=List.all_eq_true.1 h r (List.mem_range.2 hr)
 simpa using h2
theorem fits_undo:Fits [14,11,13,9] undoB:=fun a ha r hr=>by
 have h:=List.all_eq_true.1 fits_all2 a (List.mem_range.2 ha);have h2:=List.all_eq_true.1 h r (List.mem_range.2 hr)
 simpa using h2
theorem mix_col {l:List UInt8}{R:Nat→List UInt8}(h:Fits l R) (a b c d:UInt8){r:Nat}(hr:r<4):byte (mixT l a b c d r)=colX R a b c d r:=by
 have e:mixT l a b c d r=(colX R a b c d r).toNat:=by
  rw[colX,cx_toNat,h _ (UInt8.toNat_lt a) r hr,h _ (UInt8.toNat_lt b) ((r+3) % 4) (by omega),h _ (UInt8.toNat_lt c) ((r+2) % 4) (by omega),h _ (UInt8.toNat_lt d) ((r+1) % 4) (by omega),mixT];rw[show (0+4 - r) % 4=(4 - r) % 4 by omega,show (1+4 - r) % 4=(4 - (r+3) % 4) % 4 by omega,show (2+4 - r) % 4=(4 - (r+2) % 4) % 4 by omega,show (3+4 - r) % 4=(4 - (r+1) % 4) % 4 by omega,Nat.zero_xor]
 rw[e];refine UInt8.toNat_inj.1 ?_;exact byte_toNat (UInt8.toNat_lt _)
theorem mix_eq {l:List UInt8}{R:Nat→List UInt8}(h:Fits l R){b:List UInt8}(hb:b.length=16):mixF l b 16=colL R b 16:=by
 obtain⟨x0,x1,x2,x3,x4,x5,x6,x7,x8,x9,x10,x11,x12,x13,x14,x15,rfl⟩:=six hb;rw[mixF_16,colL_16];simp only[mix_col h _ _ _ _ (show 0<4 by decide),mix_col h _ _ _ _ (show 1<4 by decide),mix_col h _ _ _ _ (show 2<4 by decide),mix_col h _ _ _ _ (show 3<4 by decide)]
theorem next_eq {l:List UInt8}{R:Nat→List UInt8}(h:Fits l R){N t:Nat}{x:List UInt8}(hx:x.length=16):nextQ l N t x=nextR R N t x:=by
 unfold nextQ nextR;split
 ·exact mix_eq h hx
 ·rfl
theorem encQR_eq {ks:List UInt32}{b:List UInt8}:∀ t,encQR ks b t=encR ks b t
 | 0=>by rw[encQR_zero,encR]
 | t+1=>by rw[encQR_succ,encR,encQR_eq t,next_eq fits_mix shL_length]
theorem decQR_eq {ks:List UInt32}{b:List UInt8}(hb:b.length=16):∀ t,decQR ks b t=decR ks b t
 | 0=>by rw[decQR_zero,decR]
 | t+1=>by rw[decQR_succ,decR,decQR_eq hb t,next_eq fits_undo (addL_length.trans (decR_length hb))]
theorem encQ_eq {ks:List UInt32}{b:List UInt8}:encQR ks b (roundsN ks)=encrypt ks b:=by rw[encrypt,encQR_eq]
theorem decQ_eq {ks:List UInt32}{b:List UInt8}(hb:b.length=16):addL (decQR ks b (roundsN ks)) ks 0 16=decrypt ks b:=by rw[decrypt,decQR_eq hb]
def fillQ (f:Nat→UInt8):Nat→List UInt8
 | 0=>List.replicate 16 0
 | k+1=>(fillQ f k).set k (f k)
theorem fillQ_length {f:Nat→UInt8}:∀ {k:Nat},(fillQ f k).length=16
 | 0=>List.length_replicate
 | _+1=>List.length_set.trans fillQ_length
theorem fillQ_16 (f:Nat→UInt8):fillQ f 16=(List.range 16).map f:=by kernel_rfl
theorem xor2_raw (x0 x1 x2 x3 x4 x5 x6 x7 x8 x9 x10 x11 x12 x13 x14 x15 y0 y1 y2 y3 y4 y5 y6 y7 y8 y9 y10 y11 y12 y13 y14 y15:UInt8):xor2 [x0,x1,x2,x3,x4,x5,x6,x7,x8,x9,x10,x11,x12,x13,x14,x15] [y0,y1,y2,y3,y4,y5,y6,y7,y8,y9,y10,y11,y12,y13,y14,y15]=[byte ((byte ((0:UInt8).toNat ^^^ x0.toNat)).toNat ^^^ y0.toNat),byte ((byte ((0:UInt8).toNat ^^^ x1.toNat)).toNat ^^^ y1.toNat),byte ((byte ((0:UInt8).toNat ^^^ x2.toNat)).toNat ^^^ y2.toNat),byte ((byte ((0:UInt8).toNat ^^^ x3.toNat)).toNat ^^^ y3.toNat),byte ((byte ((0:UInt8).toNat ^^^ x4.toNat)).toNat ^^^ y4.toNat),byte ((byte ((0:UInt8).toNat ^^^ x5.toNat)).toNat ^^^ y5.toNat),byte ((byte ((0:UInt8).toNat ^^^ x6.toNat)).toNat ^^^ y6.toNat),byte ((byte ((0:UInt8).toNat ^^^ x7.toNat)).toNat ^^^ y7.toNat),byte ((byte ((0:UInt8).toNat ^^^ x8.toNat)).toNat ^^^ y8.toNat),byte ((byte ((0:UInt8).toNat ^^^ x9.toNat)).toNat ^^^ y9.toNat),byte ((byte ((0:UInt8).toNat ^^^ x10.toNat)).toNat ^^^ y10.toNat),byte ((byte ((0:UInt8).toNat ^^^ x11.toNat)).toNat ^^^ y11.toNat),byte ((byte ((0:UInt8).toNat ^^^ x12.toNat)).toNat ^^^ y12.toNat),byte ((byte ((0:UInt8).toNat ^^^ x13.toNat)).toNat ^^^ y13.toNat),byte ((byte ((0:UInt8).toNat ^^^ x14.toNat)).toNat ^^^ y14.toNat),byte ((byte ((0:UInt8).toNat ^^^ x15.toNat)).toNat ^^^ y15.toNat)]:=by kernel_rfl
theorem zero_x (x:UInt8):byte ((0:UInt8).toNat ^^^ x.toNat)=x:=by
 refine UInt8.toNat_inj.1 ?_;have h:(0:UInt8).toNat ^^^ x.toNat=x.toNat:=by simp
 rw[h];exact byte_toNat (UInt8.toNat_lt x)
def xorC (a b:List UInt8) (j:Nat):UInt8:=byte ((a.getD j 0).toNat ^^^ (b.getD j 0).toNat)
theorem xor2_map {a b:List UInt8}(ha:a.length=16) (hb:b.length=16):xor2 a b=(List.range 16).map (xorC a b):=by
 obtain⟨x0,x1,x2,x3,x4,x5,x6,x7,x8,x9,x10,x11,x12,x13,x14,x15,rfl⟩:=six ha;obtain⟨y0,y1,y2,y3,y4,y5,y6,y7,y8,y9,y10,y11,y12,y13,y14,y15,rfl⟩:=six hb;rw[xor2_raw];simp only[zero_x];kernel_rfl
end Go.Proofs.YtbgfdbidbjlaaaaGreat.Fd
/-
  The document's own Tweaks. No condition beyond what each theorem names.
-/
namespace Go.Proofs.YtbgfdbidbjlaaaaGreat.Fd
open _root_.Go.Proofs.Tryz
open Go Go.RowKit K
set_option maxRecDepth 100000
set_option maxHeartbeats 8000000
theorem qTweaks_ok {w:World}{S:Nat→Prop}{kv:Value}{key:List UInt8}(hb:Bytes w S kv key) (hl:key.length=32∨key.length=64) (unit m:Nat) (hu:unit≤1099511627776) (hm:m≤1000){tb:Nat}(ht:QBoxAt w tb):
  Calls prog 46 #[.pointer (some ⟨tb,0,none⟩),kv,.int .i64 unit,.int .i64 m] w fun e w'=>∃ v,e=.returned v∧
   w'.ownsRow w.heap.size 73 16 v m (blkCells (twB (encrypt (k2of key) (number unit))) m)∧Below w.heap.size w w':=by
 obtain⟨n,hn⟩:∃ n,n=w.heap.size:=⟨_,rfl⟩;have HN:=LH hn;obtain⟨a,cap,rfl,hc1,hc2⟩:=Cells.shape hb;unfold maxLen at hc2;obtain⟨L,hL⟩:∃ L,L=key.length:=⟨_,rfl⟩;obtain⟨H,hH⟩:∃ H,H=L / 2:=⟨_,rfl⟩;have hH1:(L:Int) / 2=H:=by omega
 have hH2:(L:Int).tdiv 2=H:=by rw[Int.tdiv_eq_ediv_of_nonneg (by omega)];exact hH1
 have hv2:=bytes_cut hb H L (by omega) (by omega);have e2:(key.drop H).take (L - H)=key.drop (key.length / 2):=by rw[List.take_of_length_le (by simp;omega),hH,hL]
 rw[e2] at hv2;have hl2:(key.drop (key.length / 2)).length=16∨(key.drop (key.length / 2)).length=32:=by simp;omega
 have hcut2:∀ w3,(Instr.sliceAt 22 (.slice a L cap) (some (.int .i64 H)) none none).run prog w3=.ok (sliced a H L cap 1) w3:=fun w3=>cut_lo (P:=prog) (s:=1) w3 underlying22 (by kernel_rfl) a L cap H (by omega)
 obtain⟨v2,ev2⟩:∃ v,v=sliced a H L cap 1:=⟨_,rfl⟩;rw[← ev2] at hcut2 hv2;have hkl:=keys_len hl;have hcall:=qAes_ok hv2 hl2 ht;obtain⟨K2,hK2⟩:∃ K,K=k2of key:=⟨_,rfl⟩;rw[show sched (key.drop (key.length / 2))=K2 from hK2.symm] at hcall;rw[← hK2] at hkl ⊢;obtain⟨T,hT⟩:∃ T,T=encrypt K2 (number unit):=⟨_,rfl⟩;have hTl:T.length=16:=hT ▸ encrypt_length number_length;rw[← hT];rw[← hL] at hc1;rw[← hn];rw[← hL];have hL64:L≤64:=by omega
 clear ev2 e2 hb hn hl2;replace hcall:=LH hcall;replace hT:=LH hT;replace hL:=LH hL;replace hH:=LH hH;replace hK2:=LH hK2;replace hv2:=LH hv2;replace ht:=LH ht;replace hl:=LH hl;replace hkl:=LH hkl;go_enter func46,ntmps46
 go_wp2_with (fail)
 refine hcall.out.mono ?_;rintro e w1 ⟨p,kv',rfl,hp,hC,hb1⟩;rw[← HN.out] at hp hb1;replace hC:=LH hC;replace hb1:=LH hb1;clear hcall
 go_wp2_with (fail)
 refine (qNumber_ok unit hu w1).mono ?_;rintro e w2 ⟨rfl,hb2⟩;have hC2:=LH (hC.out.keep hb2.size (fun g _ hg=>hb2.block g hg));have hb12:=LH (hb1.out.trans (hb2.mono (by have:=hb1.out.size;rw[HN.out];exact this)));clear hC hb1 hb2
 go_wp2_with (fail)
 have hEc:=qEnc_ok hC2.out (number unit) number_length (by have:=hkl.out;omega) hkl.out.2.1;rw[encQ_eq,← hT.out] at hEc;refine hEc.mono ?_;rintro e w3 ⟨rfl,hb3⟩;obtain⟨b,hbz⟩:∃ b,b=w3.heap.size:=⟨_,rfl⟩;obtain⟨w5,hst,hA,hb5,hs5⟩:=box_store w3 T hTl;have hn3:n≤w3.heap.size:=by have:=hb12.out.size;have:=hb3.size;have:=HN.out;omega
 have hB5:Below n w w5:=(hb12.out.trans (hb3.mono (by have:=hb12.out.size;have:=HN.out;omega))).trans (hb5.mono hn3);rw[← hbz] at hA hs5;have hnb:n≤b:=by omega
 replace hst:=LH hst;replace hA:=LH hA;replace hB5:=LH hB5;replace hbz:=LH hbz;clear hEc hb3 hb5 hC2 hb12;have hz1:(Value.agg #[.int .u8 0,.int .u8 0,.int .u8 0,.int .u8 0,.int .u8 0,.int .u8 0,.int .u8 0,.int .u8 0,.int .u8 0,.int .u8 0,.int .u8 0,.int .u8 0,.int .u8 0,.int .u8 0,.int .u8 0,.int .u8 0]).cells.size=16:=rfl
 go_wp2_with (first|(refine wpList_store rfl 73 _ _ rfl _ _ rfl rfl hst.out ?_))
 rw[← hbz.out];have hs5':b<w5.heap.size:=by omega
 clear hs5 hst hbz
 go_loopw [10,11] (fun o i wr=>∃ k:Nat,k≤m∧i=.int .i64 k∧Below n w wr∧b<wr.heap.size∧o.ownBlock≠some b∧Hid (Arr wr b 73 (twB T k))∧Hid (wr.ownsRow n 73 16 o k (blkCells (twB T) k)))
  (fun _ i _=>m - (intOf i).toNat)
 case atStart=>exact⟨0,by omega,rfl,hB5.out,hs5',by simp[Value.ownBlock],hA.out,World.ownsRow_nil _ _ _ _⟩
 case round=>
  clear hA hB5 hs5';obtain⟨k,hk,rfl,hbr,hs,hne,HA,HO⟩:=hrel;by_cases hlt:k<m
  ·obtain⟨X,hX⟩:∃ X,X=twB T k:=⟨_,rfl⟩;have hXl:X.length=16:=hX ▸ twB_length hTl k;rw[← hX] at HA;have hld:=LH (run_loadAt_arr (P:=prog) HA.out underlying73 (size61 hXl));have hX1:twB T (k+1)=double X:=by rw[twB,hX]
   have hX2:blkCells (twB T) (k+1)=blkCells (twB T) k++u8s X:=by rw[blkCells_succ,hX]
   obtain⟨C,hC⟩:∃ C,C=blkCells (twB T) k:=⟨_,rfl⟩;rw[← hC] at HO hX2;have HO2:=LH (show (wr.alloc (.cells (u8s X).toArray 73)).ownsRow _ _ _ _ _ _ from owns_keep HO.out (fun g hg=>Below.heap_alloc _ _ _ (owns_lt HO.out g hg)));have HCB:=LH (lit_cells wr (u8s X).toArray 73 1 16 (by simp[u8s_length,hXl]) (by unfold maxLen;omega));have HBK:=LH (fun g=>owns_ge HO.out g);have HNB:=LH hbr.size;replace hbr:=LH hbr;replace hne:=LH hne;replace hX:=LH hX;replace hX1:=LH hX1;replace hX2:=LH hX2;replace hC:=LH hC;clear HO
   go_wp2_with (first
    | (refine wpList_load rfl 73 _ rfl _ _ rfl hld.out ?_)
    | (refine wpList_run rfl _ (ex_lit1 hXl rfl wr) ?_)
    | (at_builtin;refine K.append ?_ (.tmp 27) (.tmp 29) 109 ?_ n 73 (.agg #[.int .u8 0,.int .u8 0,.int .u8 0,.int .u8 0,.int .u8 0,.int .u8 0,.int .u8 0,.int .u8 0,.int .u8 0,.int .u8 0,.int .u8 0,.int .u8 0,.int .u8 0,.int .u8 0,.int .u8 0,.int .u8 0]) 16 16 underlying109 infoBlock hz1 (by omega) _ k _ ?_ HO2.out (fun _=>True) _ 1 (u8s X).toArray.toList ?_ HCB.out (u8s_one X) (by unfold maxLen;omega) (by omega) ?_ ?_))
   ·rfl
   ·rfl
   ·have:=HNB.out;have:=HN.out;omega
   intro v' w2 x1 x2 x3 x4;have hA2:Arr w2 b 73 X:=HA.out.keep ((x2.block b (by simp;omega) (fun h=>hne.out (by rw[← h]))).trans (Below.heap_alloc _ _ _ hs))
   have hb2:Below n w w2:=by
    have hB:=hbr.out.alloc (by have:=HNB.out;have:=HN.out;omega) (.cells (u8s X).toArray 73);refine⟨x2.os.trans hB.os,x2.tape.trans hB.tape,x2.output.trans hB.output,Nat.le_trans hB.size x2.size,fun q hq=>?_⟩;exact (x2.block q (by have:=HNB.out;have:=HN.out;simp;omega) (fun h=>by have:=HBK.out q h.symm;omega)).trans (hB.block q hq)
   have hs2:b<w2.heap.size:=heap_lt hA2
   have hne2:v'.ownBlock≠some b:=by
    rcases x4 with e|⟨g,e,hg⟩
    ·rw[e];exact hne.out
    ·rw[e];simp at hg ⊢;omega
   have hld2:=LH (run_loadAt_arr (P:=prog) hA2 underlying73 (size61 hXl));replace x1:=LH x1;replace hA2:=LH hA2;replace hb2:=LH hb2;replace hne2:=LH hne2;clear x2 x3 x4 HO2 HCB HA hld HBK hne
   go_wp2_with (refine wpList_load rfl 73 _ rfl _ _ rfl hld2.out ?_)
   refine (qDouble_ok X hXl _).mono ?_;rintro e w3 ⟨rfl,hb3⟩;have hA3:=hA2.out.keep (hb3.block b hs2);have hst:=LH (block_store hA3 hXl (double X) double_length);have hO3:=owns_keep x1.out (fun g hg=>hb3.block g (owns_lt x1.out g hg));have hO4:(w3.setRow b (u8s (double X)).toArray).ownsRow n 73 16 v' (k+1) (C++u8s X):=owns_keep hO3 (fun g hg=>setRow_other _ _ _ _ (fun e=>hne2.out (by rw[← e];exact hg)));have hB3:Below n w w3:=hb2.out.trans (hb3.mono (by omega));have hA4:=LH (hA3.setRow (double X));have hB4:=LH (below_setRow hB3 hnb (u8s (double X)).toArray);have hs4:b<(w3.setRow b (u8s (double X)).toArray).heap.size:=heap_lt hA4.out;replace hO4:=LH hO4;clear hA3 hO3 hB3 hb3
   go_wp2_with (refine wpList_store rfl 73 _ _ rfl _ _ rfl rfl hst.out ?_)
   go_roundw
   case rel=>
    refine⟨k+1,by omega,by go_num,hB4.out,hs4,hne2.out,?_,?_⟩
    ·show Arr _ _ _ _;rw[hX1.out];exact hA4.out
    ·show World.ownsRow _ _ _ _ _ _ _;rw[hX2.out];exact hO4.out
   case measure=>simp[intOf];omega
  ·obtain rfl:k=m:=by omega
   have HO2:=HO;replace hbr:=LH hbr;replace hne:=LH hne;clear HA;go_wp2;go_ret;exact⟨_,rfl,HO2.out,hbr.out⟩
end Go.Proofs.YtbgfdbidbjlaaaaGreat.Fd

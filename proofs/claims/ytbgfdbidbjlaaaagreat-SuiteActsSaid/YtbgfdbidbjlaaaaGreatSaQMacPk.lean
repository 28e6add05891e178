/-
  Texts of this claim, laid together by a program of mine. No condition beyond what each theorem names.
-/
import Derived.Test.YtbgfdbidbjlaaaaGreatSaQSumEq
import Derived.Test.YtbgfdbidbjlaaaaGreatSaTagPk
import Derived.Test.YtbgfdbidbjlaaaaGreatSaKeyL
import Derived.Deep.LoopGhost
/-
  The document's own tag. No condition beyond what each theorem names.
-/
namespace Go.Proofs.YtbgfdbidbjlaaaaGreat.Fd
open _root_.Go.Proofs.Tryz
open Go Go.RowKit K
set_option maxRecDepth 100000
set_option maxHeartbeats 20000000
def macQ (key text:List UInt8):List UInt8:=sumQ (padK (keyK key) 92 64++sumQ (padK (keyK key) 54 64++text))
theorem sumQ_length {b:List UInt8}:(sumQ b).length=32:=hashL_length
theorem keyK_le (key:List UInt8):(keyK key).length≤64:=by
 rw[keyK];split
 ·assumption
 ·rw[sha_length];omega
def zerosTo (k:List UInt8):List UInt8:=k++List.replicate (64 - k.length) 0
theorem zerosTo_get {k:List UInt8}(j:Nat):(zerosTo k).getD j 0=k.getD j 0:=by
 simp only[zerosTo,List.getD,List.getElem?_append,List.getElem?_replicate];split
 ·rfl
 ·rename_i h;rw[List.getElem?_eq_none (by omega)];split<;>rfl
def fillP (k:List UInt8) (x i:Nat):List UInt8:=padK k x i++List.replicate (64 - i) 0
theorem fillP_zero {k:List UInt8}{x:Nat}:fillP k x 0=List.replicate 64 0:=by rw[fillP,padK_zero];rfl
theorem fillP_all {k:List UInt8}{x:Nat}:fillP k x 64=padK k x 64:=by simp[fillP]
theorem fillP_length {k:List UInt8}{x i:Nat}(hi:i≤64):(fillP k x i).length=64:=by rw[fillP,List.length_append,padK_length,List.length_replicate];omega
theorem fillP_succ {k:List UInt8}{x i:Nat}(hi:i<64):(fillP k x i).set i (byte ((k.getD i 0).toNat ^^^ x))=fillP k x (i+1):=by
 rw[fillP,fillP,padK_succ,List.set_append_right _ _ (by rw[padK_length];exact Nat.le_refl _),padK_length,Nat.sub_self,show 64 - i=(64 - (i+1))+1 by omega,List.replicate_succ,List.set_cons_zero,List.append_assoc];rfl
theorem heap_alloc_new' {w:World}{Z:Array Value}{t:TypeId}{l:List UInt8}(h:Z=(u8s l).toArray):Arr (w.alloc (.cells Z t)) w.heap.size t l:=by
 rw[h];exact heap_alloc_new w _
theorem qMac_ok {w:World}{p:Nat}(hS:QHashAt w p){S S':Nat→Prop}{kv tv:Value}{key text:List UInt8}(hk:Bytes w S kv key) (ht:Bytes w S' tv text) (hkl:key.length≤3000) (htl:text.length≤3000):
  Calls prog 75 #[.pointer (some ⟨p,0,none⟩),kv,tv] w fun e w'=>e=.returned (.agg (u8s (macQ key text)).toArray)∧Below w.heap.size w w':=by
 obtain⟨n,hn⟩:∃ n,n=w.heap.size:=⟨_,rfl⟩;have HN:=LH hn;have hpl:=heap_lt hS;obtain⟨ka,kc,rfl,hk1,hk2⟩:=hk.shape;obtain⟨ta,tc,rfl,ht1,ht2⟩:=ht.shape;unfold maxLen at hk2 ht2;obtain⟨w0,hw0⟩:∃ x,x=w.alloc (.cells #[.int .u8 0,.int .u8 0,.int .u8 0,.int .u8 0,.int .u8 0,.int .u8 0,.int .u8 0,.int .u8 0,.int .u8 0,.int .u8 0,.int .u8 0,.int .u8 0,.int .u8 0,.int .u8 0,.int .u8 0,.int .u8 0,.int .u8 0,.int .u8 0,.int .u8 0,.int .u8 0,.int .u8 0,.int .u8 0,.int .u8 0,.int .u8 0,.int .u8 0,.int .u8 0,.int .u8 0,.int .u8 0,.int .u8 0,.int .u8 0,.int .u8 0,.int .u8 0] 124):=⟨_,rfl⟩;have H0:Arr w0 n 124 (List.replicate 32 0):=by rw[hw0,hn];exact heap_alloc_new w _
 have B0:Below n w w0:=by rw[hw0,hn];exact (Below.refl _ _).alloc (Nat.le_refl _) _
 have s0:w0.heap.size=n+1:=by rw[hw0,hn];simp
 have hk0:Bytes w0 S (.slice ka key.length kc) key:=hk.keep B0.size (fun g _ hg=>B0.block g (by omega));obtain⟨v1,w1,hrun1,r1,c1⟩:=push_fresh hk0 (by omega);rw[show w0.heap.size=w.heap.size+1 by rw[s0,hn]] at hrun1;have r1':=owns_base r1 (base':=n+1) (by omega);have H1:Arr w1 n 124 (List.replicate 32 0):=H0.keep (c1.block n (by omega) id);have B1:Below n w w1:=B0.trans ((Chg.no c1).mono (by omega));obtain⟨kl,hkl'⟩:∃ l,l=key.length:=⟨_,rfl⟩;have r1'':w1.ownsRow (n+1) 5 1 v1 kl (u8s key):=hkl' ▸ r1';obtain⟨tl,htl'⟩:∃ l,l=text.length:=⟨_,rfl⟩;rw[← hkl'] at hk1 hrun1 hkl ⊢;rw[← htl'] at ht1 htl ⊢;subst hw0;obtain⟨va,vc,rfl,hv1,hv2⟩:=(Cells.own r1'').shape;unfold maxLen at hv2;have hsum:=fun (w1:World) (h:Below n w w1){S:Nat→Prop}{v:Value}{b:List UInt8}(hb:Bytes w1 S v b) (hl:b.length≤5000)=>qSum_ok (hS.keep (h.block p (by rw[hn];exact hpl))) hb hl
 have htx:∀ w1,Below n w w1→Bytes w1 S' (.slice ta tl tc) text:=fun w1 h=>by
  have h2:Bytes w1 S' (.slice ta text.length tc) text:=ht.keep h.size (fun g _ hg=>h.block g (by omega));rw[htl'];exact h2
 clear r1 r1' c1 hk0 H0 B0 s0 hk ht hn;replace hrun1:=LH hrun1;replace r1'':=LH r1'';replace H1:=LH H1;replace B1:=LH B1;replace hsum:=LH @hsum;replace htx:=LH htx;replace hkl':=LH hkl';replace htl':=LH htl';replace hS:=LH hS;go_enter func75,ntmps75;by_cases h64:64<kl
 focus
  go_wp2_with (at_builtin;(refine wpList_app rfl _ _ 22 rfl _ _ _ rfl rfl hrun1.out ?_))
  have hkb:Bytes w1 (fun g=>n+1≤g) (.slice va kl vc) key:=by rw[hkl'.out];exact own_bytes (hkl'.out ▸ r1''.out)
  refine (hsum.out w1 B1.out hkb (by rw[← hkl'.out];omega)).mono ?_;rintro e w2 ⟨rfl,hb2⟩;obtain⟨O,hO⟩:∃ O,O=sumQ key:=⟨_,rfl⟩;have hOl:O.length=32:=by rw[hO];exact sumQ_length
  have hKK:O=keyK key:=by rw[keyK,if_neg (by rw[← hkl'.out];omega),hO,sumQ_eq]
  rw[← hO];replace hO:=LH hO;replace hKK:=LH hKK;have hn1:n+1≤w1.heap.size:=by have:=heap_lt H1.out;omega
  have B2:Below n w w2:=B1.out.trans (hb2.mono (by omega));have H2:=H1.out.keep (hb2.block n (by omega));have hn2:=Nat.le_trans hn1 hb2.size;obtain⟨w3,hw3⟩:∃ x,x=w2.alloc (.cells #[.int .u8 0,.int .u8 0,.int .u8 0,.int .u8 0,.int .u8 0,.int .u8 0,.int .u8 0,.int .u8 0,.int .u8 0,.int .u8 0,.int .u8 0,.int .u8 0,.int .u8 0,.int .u8 0,.int .u8 0,.int .u8 0,.int .u8 0,.int .u8 0,.int .u8 0,.int .u8 0,.int .u8 0,.int .u8 0,.int .u8 0,.int .u8 0,.int .u8 0,.int .u8 0,.int .u8 0,.int .u8 0,.int .u8 0,.int .u8 0,.int .u8 0,.int .u8 0] 124):=⟨_,rfl⟩;have x3:Arr w3 w2.heap.size 124 (List.replicate 32 0):=by rw[hw3];exact heap_alloc_new w2 _
  have b3:Below w2.heap.size w2 w3:=by rw[hw3];exact (Below.refl _ _).alloc (Nat.le_refl _) _
  have hst:=hash_store x3 hOl;obtain⟨w4,hw4⟩:∃ x,x=w3.setRow w2.heap.size (u8s O).toArray:=⟨_,rfl⟩;rw[← hw4] at hst;have x4:Arr w4 w2.heap.size 124 O:=hw4 ▸ x3.setRow O;have b4:Below w2.heap.size w2 w4:=hw4 ▸ below_setRow b3 (Nat.le_refl _) _;have hby:=arr_bytes x4 (fits_lm (by omega));rw[hOl] at hby;obtain⟨v5,w5,hrun5,r5,c5⟩:=push_fresh hby (by omega);have H5:=H2.keep ((b4.block n (by omega)));have H5':=H5.keep (c5.block n (heap_lt H5) id);have B5:Below n w w5:=(B2.trans (b4.mono (by omega))).trans ((Chg.no c5).mono (by have:=heap_lt H5;omega));have r5':=owns_base r5 (base':=n+1) (by have:=b4.size;omega);have h4s:w4.heap.size=w2.heap.size+1:=by rw[hw4,hw3];simp[World.setRow]
  subst hw3;replace hst:=LH hst;replace hrun5:=LH hrun5;replace hw4:=LH hw4;replace h4s:=LH h4s;clear x3 b3
  go_wp2_with (first|(refine wpList_store rfl 124 _ _ rfl _ _ rfl rfl hst.out ?_)|(at_builtin;(refine wpList_app rfl _ _ 22 rfl _ _ _ rfl rfl hrun5.out ?_)))
  rw[hOl] at r5';obtain⟨kv,hkv⟩:∃ v,v=v5:=⟨_,rfl⟩;obtain⟨KK,hKK2⟩:∃ K,K=keyK key:=⟨_,rfl⟩;rw[← hkv]
  have hR:Hid (w5.ownsRow (n+1) 5 1 kv KK.length (u8s KK)):=by
   show World.ownsRow _ _ _ _ _ _ _;rw[hkv,hKK2,← hKK.out,hOl];exact r5'
  have HH:Hid (Arr w5 n 124 (List.replicate 32 0)):=H5';have BB:Hid (Below n w w5):=B5;replace hKK2:=LH hKK2;clear hst hrun5 r5 r5' c5 H5 H5' B5 b4 x4 hby hw4 H2 B2 hb2 hkb hkv h4s hKK hO hOl hn1 hn2
 rotate_left
 focus
  go_wp2_with (at_builtin;(refine wpList_app rfl _ _ 22 rfl _ _ _ rfl rfl hrun1.out ?_))
  obtain⟨kv,hkv⟩:∃ v,v=Value.slice va kl vc:=⟨_,rfl⟩;obtain⟨w5,hw5⟩:∃ x,x=w1:=⟨_,rfl⟩;obtain⟨KK,hKK2⟩:∃ K,K=keyK key:=⟨_,rfl⟩;have hKK:KK=key:=by rw[hKK2,keyK,if_pos (by rw[← hkl'.out];omega)]
  rw[← hkv,← hw5]
  have hR:Hid (w5.ownsRow (n+1) 5 1 kv KK.length (u8s KK)):=by
   show World.ownsRow _ _ _ _ _ _ _;rw[hkv,hKK,hw5,← hkl'.out];exact r1''.out
  have HH:Hid (Arr w5 n 124 (List.replicate 32 0)):=by rw[hw5];exact H1.out
  have BB:Hid (Below n w w5):=by rw[hw5];exact B1.out
  replace hKK2:=LH hKK2;clear hkv hKK hw5
 all_goals clear hrun1 r1'' H1 B1 h64
 all_goals (
  have hK64:KK.length≤64:=by rw[hKK2.out];exact keyK_le key
  go_loopg [7] (64 - KK.length) (fun g v wr=>∃ j:Nat,KK.length+j+g=64∧Hid (wr.ownsRow (n+1) 5 1 v (KK++List.replicate j 0).length (u8s (KK++List.replicate j 0)))∧Hid (Below n w wr)∧Hid (Arr wr n 124 (List.replicate 32 0)))
  case atStart=>exact⟨0,by omega,by show World.ownsRow _ _ _ _ _ _ _;rw[List.replicate_zero,List.append_nil];exact hR.out,BB.out,HH.out⟩
  case round=>
   clear hR BB HH;obtain⟨j,hj,hO,hB,hH⟩:=hrel;obtain⟨R,hR⟩:∃ R,R=KK++List.replicate j 0:=⟨_,rfl⟩;have hRl:R.length=KK.length+j:=by rw[hR,List.length_append,List.length_replicate]
   rw[← hR] at hO;obtain⟨ra,rcap,rfl,hr1,hr2⟩:=(Cells.own hO.out).shape;unfold maxLen at hr2;obtain⟨L,hL⟩:∃ L,L=R.length:=⟨_,rfl⟩;have hO':=hO.out;rw[← hL] at hO' hr1 hRl ⊢;have hn1:n+1≤wr.heap.size:=by have:=heap_lt hH.out;omega
   by_cases hL64:L<64
   ·obtain⟨g',rfl⟩:∃ q,gk=q+1:=⟨gk - 1,by omega⟩;obtain⟨w3,hw3⟩:∃ x,x=wr.alloc (.cells #[.int .u8 0] 5):=⟨_,rfl⟩
    have hu:Bytes w3 (fun _=>True) (.slice (some ⟨wr.heap.size,0,none⟩) 1 1) [0]:=by
     rw[hw3];exact lit_cells wr #[.int .u8 0] 5 1 1 rfl (fits_lm (by omega))
    have r3:=hO.out.alloc (.cells #[.int .u8 0] 5);rw[← hw3] at r3;obtain⟨v',w4,hrun,r4,c4⟩:=push_more r3 (by rw[hw3];simp;omega) hu (by rw[← hL];simp;omega);have e3:Chg No wr w3:=by rw[hw3];exact (Chg.refl _ _).alloc _
    have c5:Chg (fun g=>n+1≤g) wr w4:=(e3.mono (fun _ _ h=>h.elim)).then c4 (fun g _ h=>own_ge r3 h);have hB4:Below n w w4:=hB.out.trans (c5.below (by omega) (by omega));have hH4:=hH.out.keep (c5.block n (by omega) (by omega));have hR2:R++[0]=KK++List.replicate (j+1) 0:=by rw[hR,List.append_assoc,← List.replicate_succ']
    rw[hR2] at r4;rw[← hL] at hrun;subst hw3;replace hrun:=LH hrun;replace r4:=LH r4;replace hB4:=LH hB4;replace hH4:=LH hH4;replace hRl:=LH hRl;replace hR:=LH hR;replace hL:=LH hL;clear hO hO' hB hH hu r3 c4 e3 c5 hR2
    go_wp2_with (at_builtin;(refine wpList_app rfl _ _ 22 rfl _ _ _ rfl rfl hrun.out ?_))
    go_roundg g'
    case measure=>omega
    case rel=>exact⟨j+1,by omega,r4.out,hB4.out,hH4.out⟩
   ·have hj64:L=64:=by omega
    have hRz:R=zerosTo KK:=by rw[hR,zerosTo,show 64 - KK.length=j by omega]
    have hKb:Bytes wr (fun g=>n+1≤g∧g<wr.heap.size) (.slice ra L rcap) R:=by
     rw[hL];exact (Cells.own hO.out).mono (S':=fun g=>n+1≤g∧g<wr.heap.size) (fun g hg h=>⟨h.2,hg⟩)
    obtain⟨U,hU⟩:∃ U,U=wr.heap.size:=⟨_,rfl⟩;have hmk:∀ u:World,_:=fun u=>make_full (P:=prog) u underlying22 infoByte rfl 64 64 rfl (by omega) (by omega)
    obtain⟨Z,hZ⟩:∃ Z,Z=madeCells #[.int .u8 0] 64:=⟨_,rfl⟩;have hZu:Z=(u8s (List.replicate 64 0)).toArray:=by rw[hZ,← u8s_zero 64]
    rw[← hZ] at hmk;have hUh:=heap_lt hH.out;replace hZ:=LH hZ;replace hZu:=LH hZu;replace hKb:=LH hKb;replace hR:=LH hR;replace hRz:=LH hRz;replace hRl:=LH hRl;obtain rfl:L=64:=hj64;replace hL:=LH hL;replace hU:=LH hU;clear hO hO' hL64 hj;go_wp2
    go_region
    focus
     obtain⟨ob,hob⟩:∃ q,q=wr.heap.size+1:=⟨_,rfl⟩;obtain⟨ib,hib⟩:∃ q,q=wr.heap.size:=⟨_,rfl⟩;rw[← hob,← hib];have hio:Hid (ib=U∧ob=U+1∨ib=U+1∧ob=U):=.inl ⟨by rw[hib,hU.out],by rw[hob,hU.out]⟩;clear hob hib
    rotate_left
    focus
     obtain⟨ib,hib⟩:∃ q,q=wr.heap.size+1:=⟨_,rfl⟩;obtain⟨ob,hob⟩:∃ q,q=wr.heap.size:=⟨_,rfl⟩;rw[← hib,← hob];have hio:Hid (ib=U∧ob=U+1∨ib=U+1∧ob=U):=.inr ⟨by rw[hib,hU.out],by rw[hob,hU.out]⟩;clear hob hib
    all_goals (
     obtain⟨w9,hw9⟩:∃ x,x=((wr.alloc (.cells Z 5)).alloc (.cells Z 5)).drew:=⟨_,rfl⟩;rw[← hw9]
     have y0:Arr w9 U 5 (List.replicate 64 0):=by
      rw[hw9,hU.out];exact Arr.keep (heap_alloc_new' hZu.out) (Below.heap_alloc _ _ _ (by simp))
     have y1:Arr w9 (U+1) 5 (List.replicate 64 0):=by
      have h:Arr ((wr.alloc (.cells Z 5)).alloc (.cells Z 5)) (wr.alloc (.cells Z 5)).heap.size 5 (List.replicate 64 0):=heap_alloc_new' hZu.out;rw[show (wr.alloc (.cells Z 5)).heap.size=U+1 by simp[hU.out]] at h;rw[hw9];exact h
     have b9:Below U wr w9:=by
      rw[hw9,hU.out];exact (((Below.refl _ _).alloc (Nat.le_refl _) _).alloc (by simp) _).drew
     have hI9:Arr w9 ib 5 (List.replicate 64 0):=by
      rcases hio.out with h|h
      ·rw[h.1];exact y0
      ·rw[h.1];exact y1
     have hO9:Arr w9 ob 5 (List.replicate 64 0):=by
      rcases hio.out with h|h
      ·rw[h.2];exact y1
      ·rw[h.2];exact y0
     have hne:ib≠ob:=by rcases hio.out with h|h<;>omega
     have hUi:U≤ib:=by rcases hio.out with h|h<;>omega
     have hUo:U≤ob:=by rcases hio.out with h|h<;>omega
     have hnU:n+1≤U:=by rw[hU.out];exact hn1
     have B9:Below n w w9:=hB.out.trans (b9.mono (by omega));have H9:=hH.out.keep (b9.block n (by omega));have hK9:Bytes w9 (fun g=>n+1≤g∧g<U) (.slice ra 64 rcap) R:=(hKb.out.mono (S':=fun g=>n+1≤g∧g<U) (fun g _ h=>by rw[hU.out];exact h)).keep b9.size (fun g h _=>b9.block g h.2);replace hI9:=LH hI9;replace hO9:=LH hO9;replace B9:=LH B9;replace H9:=LH H9;replace hK9:=LH hK9;clear hw9 y0 y1 b9 hB hH hKb hmk;go_wp2
     go_loopg [11] 64 (fun g i wr=>∃ I:Nat,I+g=64∧i=.int .i64 I∧Hid (Arr wr ib 5 (fillP KK 54 I))∧Hid (Arr wr ob 5 (fillP KK 92 I))∧Hid (Below n w wr)∧Hid (Arr wr n 124 (List.replicate 32 0))∧Hid (Bytes wr (fun g=>n+1≤g∧g<U) (.slice ra 64 rcap) R))
     case atStart=>exact⟨0,by omega,rfl,by show Arr _ _ _ _;rw[fillP_zero];exact hI9.out,by show Arr _ _ _ _;rw[fillP_zero];exact hO9.out,B9.out,H9.out,hK9.out⟩
     case round=>
      clear hI9 hO9 B9 H9 hK9;obtain⟨I,hIg,rfl,hI,hO,hB,hH,hK⟩:=hrel
      have hK64':Cells wr (fun g=>n+1≤g∧g<U) (.slice ra 64 rcap) 64 1 (u8s R):=by
       have h:=hK.out;rw[Bytes,← hL.out] at h;exact h
      by_cases hI64:I<64
      ·obtain⟨g2,rfl⟩:∃ q,gk=q+1:=⟨gk - 1,by omega⟩;obtain⟨mg,mo,mc,hmv,_,_,hmS,hmg,hmcell⟩:=Cells.at hK64' (by omega);simp only[Value.slice.injEq] at hmv;obtain⟨rfl,-,-⟩:=hmv;obtain⟨c,hc⟩:∃ c,c=(KK.getD I 0).toNat:=⟨_,rfl⟩;have hRg:(R.getD I 0).toNat=c:=by rw[hRz.out,zerosTo_get,← hc]
       have hcell:=hmcell I _ (u8s_get R I (by rw[← hL.out];exact hI64))
       have hcell2:wr.cell? ⟨mg,mo+I,none⟩=some (.int .u8 c):=by
        rw[hcell,← hRg];simp[List.getD,show I<R.length by rw[← hL.out];exact hI64]
       have hcl:c<256:=hc ▸ UInt8.toNat_lt _;have hx1:bits .xor .u8 (c:Int) 54=((c ^^^ 54:Nat):Int):=u8_xor_nat c 54 hcl (by omega);have hx2:bits .xor .u8 (c:Int) 92=((c ^^^ 92:Nat):Int):=u8_xor_nat c 92 hcl (by omega);have hl1:c ^^^ 54<256:=xor8 hcl (by omega);have hl2:c ^^^ 92<256:=xor8 hcl (by omega);have f1:=hI.out.frozen I;have k1:=hI.out.cell I (by rw[fillP_length (by omega)];exact hI64);have e1:=hI.out.set I (byte (c ^^^ 54));have e2:=hO.out.set I (byte (c ^^^ 92));rw[byte_toNat hl1] at e1;rw[byte_toNat hl2] at e2;rw[hc,fillP_succ hI64,← hc] at e1 e2;have hmne:mg<U:=hmS.2;have hmn2:n+1≤mg:=hmS.1
       have f2:(wr.setCell ⟨ib,I,none⟩ (.int .u8 ((c ^^^ 54:Nat):Int))).frozen? ⟨ob,I,none⟩=false:=by
        have h:Arr (wr.setCell ⟨ib,I,none⟩ (.int .u8 ((c ^^^ 54:Nat):Int))) ob 5 (fillP KK 92 I):=hO.out.keep (setCell_heap_ne _ _ _ (by show ob≠ib;omega));exact h.frozen I
       have k2:(wr.setCell ⟨ib,I,none⟩ (.int .u8 ((c ^^^ 54:Nat):Int))).cell? ⟨ob,I,none⟩=some (.int .u8 ((fillP KK 92 I).getD I 0).toNat):=by
        have h:Arr (wr.setCell ⟨ib,I,none⟩ (.int .u8 ((c ^^^ 54:Nat):Int))) ob 5 (fillP KK 92 I):=hO.out.keep (setCell_heap_ne _ _ _ (by show ob≠ib;omega));exact h.cell I (by rw[fillP_length (by omega)];exact hI64)
       have hcell3:(wr.setCell ⟨ib,I,none⟩ (.int .u8 ((c ^^^ 54:Nat):Int))).cell? ⟨mg,mo+I,none⟩=some (.int .u8 c):=(World.cell?_of_block (w:=wr) (a:=⟨mg,mo+I,none⟩) (setCell_heap_ne _ _ _ (by show mg≠ib;omega))).trans hcell2;obtain⟨x1,hx1d⟩:∃ x,x=c ^^^ 54:=⟨_,rfl⟩;obtain⟨x2,hx2d⟩:∃ x,x=c ^^^ 92:=⟨_,rfl⟩;rw[← hx1d] at hx1 hl1 e1 f2 k2 hcell3;rw[← hx2d] at hx2 hl2 e2;obtain⟨wA,hwA⟩:∃ x,x=wr.setCell ⟨ib,I,none⟩ (.int .u8 (x1:Int)):=⟨_,rfl⟩
       have q1:Arr (wA.setCell ⟨ob,I,none⟩ (.int .u8 (x2:Int))) ib 5 (fillP KK 54 (I+1)):=by
        rw[← hwA] at e1;exact e1.keep (setCell_heap_ne _ _ _ (by show ib≠ob;exact hne))
       have q2:Arr (wA.setCell ⟨ob,I,none⟩ (.int .u8 (x2:Int))) ob 5 (fillP KK 92 (I+1)):=by
        have h:Arr wA ob 5 (fillP KK 92 I):=by rw[hwA];exact hO.out.keep (setCell_heap_ne _ _ _ (by show ob≠ib;omega))
        have h2:=h.set I (byte x2);rw[byte_toNat hl2,hx2d,hc,fillP_succ hI64] at h2;rw[hx2d,hc];exact h2
       have q3:∀ u,u≠ib→u≠ob→(wA.setCell ⟨ob,I,none⟩ (.int .u8 (x2:Int))).heap[u]?=wr.heap[u]?:=fun u h1 h2=>by
        rw[setCell_heap_ne _ _ _ (by exact h2),hwA,setCell_heap_ne _ _ _ (by exact h1)]
       have q4:Below n w (wA.setCell ⟨ob,I,none⟩ (.int .u8 (x2:Int))):=by
        rw[hwA];exact (hB.out.setCell (p:=⟨ib,I,none⟩) (by show n≤ib;omega) _).setCell (p:=⟨ob,I,none⟩) (by show n≤ob;omega) _
       have q5:=hH.out.keep (q3 n (by omega) (by omega));have q6:Bytes (wA.setCell ⟨ob,I,none⟩ (.int .u8 (x2:Int))) (fun g=>n+1≤g∧g<U) (.slice (some ⟨mg,mo,none⟩) 64 rcap) R:=hK.out.keep (by rw[hwA];simp) (fun g h _=>q3 g (by omega) (by omega));rw[hwA] at q1 q2 q4 q5 q6;clear q3 hwA e1 e2 hmcell hcell hK64' hc;replace q1:=LH q1;replace q2:=LH q2;replace q4:=LH q4;replace q5:=LH q5;replace q6:=LH q6;replace hx1d:=LH hx1d;replace hx2d:=LH hx2d;replace hRg:=LH hRg;go_wp2;go_roundg g2
       case measure=>omega
       case rel=>exact⟨I+1,by omega,by go_num,q1.out,q2.out,q4.out,q5.out,q6.out⟩
      ·obtain rfl:I=64:=by omega
       rw[fillP_all] at hI hO;obtain⟨PI,hPI⟩:∃ P,P=padK KK 54 64:=⟨_,rfl⟩;obtain⟨PO,hPO⟩:∃ P,P=padK KK 92 64:=⟨_,rfl⟩;have hPIl:PI.length=64:=by rw[hPI,padK_length]
       have hPOl:PO.length=64:=by rw[hPO,padK_length]
       have hI2:Arr wr ib 5 PI:=by rw[hPI];exact hI.out
       have hO2:Arr wr ob 5 PO:=by rw[hPO];exact hO.out
       have hres:macQ key text=sumQ (PO++sumQ (PI++text)):=by rw[macQ,← hKK2.out,← hPI,← hPO]
       have r1:=arr_owns (n:=n+1) hI2 (by omega) (by omega);have hns:=heap_lt hH.out;have htb:Bytes wr S' (.slice ta tl tc) text:=htx.out wr hB.out;obtain⟨v5,w5,hrun5,r5,c5⟩:=push_more r1 (by omega) htb (by rw[hPIl,← htl'.out];omega);rw[hPIl] at hrun5 c5
       have hown5:∀ g,(Value.slice (some ⟨ib,0,none⟩) 64 64).ownBlock=some g→g=ib:=fun g h=>by
        simp only[Value.ownBlock,Option.some.injEq] at h;exact h.symm
       have hH5:=hH.out.keep (c5.block n hns (fun h=>by have:=hown5 n h;omega));have hO5:=hO2.keep (c5.block ob (heap_lt hO2) (fun h=>by have:=hown5 ob h;omega));have hB5:Below n w w5:=hB.out.trans (c5.below (by omega) (fun g hg h=>by have:=hown5 g h;omega));have hs5:=heap_lt hO5;obtain⟨O1,hO1⟩:∃ O,O=sumQ (PI++text):=⟨_,rfl⟩;have hO1l:O1.length=32:=by rw[hO1];exact sumQ_length
       have hq1:=hsum.out w5 hB5 (own_bytes r5) (by rw[List.length_append,hPIl,← htl'.out];omega);rw[← hO1] at hq1 hres;obtain⟨O2,hO2d⟩:∃ O,O=sumQ (PO++O1):=⟨_,rfl⟩;have hO2l:O2.length=32:=by rw[hO2d];exact sumQ_length
       rw[← hO2d] at hres;replace hrun5:=LH hrun5;replace hq1:=LH hq1;replace hPI:=LH hPI;replace hPO:=LH hPO;replace hPIl:=LH hPIl;replace hPOl:=LH hPOl;replace hO1:=LH hO1;replace hO1l:=LH hO1l;replace hO2d:=LH hO2d;replace hO2l:=LH hO2l;replace hres:=LH hres;replace hH5:=LH hH5;replace hO5:=LH hO5;replace hB5:=LH hB5;clear hI2 hO2 r1 htb r5 c5 hown5 hI hO hB hH hK hK64' hI64 hIg
       go_wp2_with (at_builtin;(refine wpList_app rfl _ _ 22 rfl _ _ _ rfl rfl hrun5.out ?_))
       refine hq1.out.mono ?_;rintro e w6 ⟨rfl,hb6⟩;have hH6:=hH5.out.keep (hb6.block n (by omega));have hO6:=hO5.out.keep (hb6.block ob hs5);have hB6:Below n w w6:=hB5.out.trans (hb6.mono (by omega));have hs6:=heap_lt hO6;obtain⟨w7,hw7⟩:∃ x,x=w6.alloc (.cells #[.int .u8 0,.int .u8 0,.int .u8 0,.int .u8 0,.int .u8 0,.int .u8 0,.int .u8 0,.int .u8 0,.int .u8 0,.int .u8 0,.int .u8 0,.int .u8 0,.int .u8 0,.int .u8 0,.int .u8 0,.int .u8 0,.int .u8 0,.int .u8 0,.int .u8 0,.int .u8 0,.int .u8 0,.int .u8 0,.int .u8 0,.int .u8 0,.int .u8 0,.int .u8 0,.int .u8 0,.int .u8 0,.int .u8 0,.int .u8 0,.int .u8 0,.int .u8 0] 124):=⟨_,rfl⟩;have x7:Arr w7 w6.heap.size 124 (List.replicate 32 0):=by rw[hw7];exact heap_alloc_new w6 _
       have b7:Below w6.heap.size w6 w7:=by rw[hw7];exact (Below.refl _ _).alloc (Nat.le_refl _) _
       have hst:=hash_store x7 hO1l.out;obtain⟨w8,hw8⟩:∃ x,x=w7.setRow w6.heap.size (u8s O1).toArray:=⟨_,rfl⟩;rw[← hw8] at hst;have x8:Arr w8 w6.heap.size 124 O1:=hw8 ▸ x7.setRow O1;have b8:Below w6.heap.size w6 w8:=hw8 ▸ below_setRow b7 (Nat.le_refl _) _;have hby:=arr_bytes x8 (fits_lm (by rw[hO1l.out];omega));rw[hO1l.out] at hby;have hH8:=hH6.keep (b8.block n (by omega));have hO8:=hO6.keep (b8.block ob hs6);have hB8:Below n w w8:=hB6.trans (b8.mono (by omega));have r8:=arr_owns (n:=n+1) hO8 (by omega) (by rw[hPOl.out];omega);obtain⟨v9,w9,hrun9,r9,c9⟩:=push_more r8 (by have:=heap_lt hO8;omega) hby (by rw[hPOl.out,hO1l.out];omega);rw[hPOl.out] at hrun9 c9
       have hown9:∀ g,(Value.slice (some ⟨ob,0,none⟩) 64 64).ownBlock=some g→g=ob:=fun g h=>by
        simp only[Value.ownBlock,Option.some.injEq] at h;exact h.symm
       have hs8:=heap_lt hO8;have hH9:=hH8.keep (c9.block n (by omega) (fun h=>by have:=hown9 n h;omega));have hB9:Below n w w9:=hB8.trans (c9.below (by omega) (fun g hg h=>by have:=hown9 g h;omega));have hs9:=heap_lt hH9;have hq2:=hsum.out w9 hB9 (own_bytes r9) (by rw[List.length_append,hPOl.out,hO1l.out];omega);rw[← hO2d.out] at hq2;subst hw7;replace hst:=LH hst;replace hrun9:=LH hrun9;replace hq2:=LH hq2;replace hH9:=LH hH9;replace hB9:=LH hB9;replace hw8:=LH hw8;clear x7 b7 x8 b8 hby hH8 hO8 hB8 r8 r9 c9 hown9 hH6 hO6 hB6 hb6 hq1 hrun5 hH5 hO5 hB5
       go_wp2_with (first|(refine wpList_store rfl 124 _ _ rfl _ _ rfl rfl hst.out ?_)|(at_builtin;(refine wpList_app rfl _ _ 22 rfl _ _ _ rfl rfl hrun9.out ?_)))
       refine hq2.out.mono ?_;rintro e w10 ⟨rfl,hb10⟩;have hH10:=hH9.out.keep (hb10.block n hs9);have hB10:Below n w w10:=hB9.out.trans (hb10.mono (by omega));have hst2:=hash_store hH10 hO2l.out;obtain⟨w11,hw11⟩:∃ x,x=w10.setRow n (u8s O2).toArray:=⟨_,rfl⟩;rw[← hw11] at hst2;have hF:Arr w11 n 124 O2:=hw11 ▸ hH10.setRow O2;have hBf:Below n w w11:=hw11 ▸ below_setRow hB10 (Nat.le_refl _) _;rw[HN.out] at hst2;replace hst2:=LH hst2;replace hF:=LH hF;replace hBf:=LH hBf;replace hw11:=LH hw11;clear hq2 hst hrun9 hH10 hB10 hb10 hH9 hB9
       go_wp2_with (first|(refine wpList_store rfl 124 _ _ rfl _ _ rfl rfl hst2.out ?_))
       refine bodyPost_ret (results_cell_row results75 _ _ w.heap.size 124 _ (0,0) _ rfl (HN.out ▸ hF.out) underlying124 rfl (by rw[sizeHash];simp[u8s_length,hO2l.out])) rfl ⟨by rw[hres.out],HN.out ▸ hBf.out⟩))
end Go.Proofs.YtbgfdbidbjlaaaaGreat.Fd
/-
  The document's own tag is the program's. Plain. No condition.
-/
namespace Go.Proofs.YtbgfdbidbjlaaaaGreat.Fd
open Go Go.RowKit K
theorem absorb_flat (parts:List (List UInt8)):∀ k,k≤parts.length→absorb parts k=⟨eatK startL (parts.take k).flatten ((parts.take k).flatten.length / 64),(parts.take k).flatten.drop (64*((parts.take k).flatten.length / 64)),(parts.take k).flatten.length⟩
 | 0,_=>by
  rw[absorb_zero,show (parts.take 0).flatten=[] by simp];rfl
 | k+1,hk=>by
  rw[absorb_succ,absorb_flat parts k (by omega)];obtain⟨F,hF⟩:∃ F,F=(parts.take k).flatten:=⟨_,rfl⟩;obtain⟨P,hP⟩:∃ P,P=parts.getD k []:=⟨_,rfl⟩
  have e:(parts.take (k+1)).flatten=F++P:=by
   rw[List.take_succ_eq_append_getElem (by omega),List.flatten_append,hF,hP];simp[List.getD,show k<parts.length by omega]
  rw[e,← hF,← hP];obtain⟨q,hq⟩:∃ q,q=F.length / 64:=⟨_,rfl⟩;have hxl:(F.take (64*q)).length=64*q:=by rw[List.length_take];omega
  simp only[← hq];rw[eat,eatF_eatK (by omega)];have e2:F++P=F.take (64*q)++(F.drop (64*q)++P):=by rw[← List.append_assoc,List.take_append_drop]
  have e3:eatK startL F q=eatK startL (F.take (64*q)) q:=by
   have h:=eatK_left (h:=startL) (y:=F.drop (64*q)) hxl q (Nat.le_refl _);rw[List.take_append_drop] at h;exact h
  have hl:(F++P).length / 64=q+(F.drop (64*q)++P).length / 64:=by
   rw[List.length_append,List.length_append,List.length_drop];omega
  have h1:eatK startL (F++P) ((F++P).length / 64)=eatK (eatK startL F q) (F.drop (64*q)++P) ((F.drop (64*q)++P).length / 64):=by
   rw[hl,e2,eatK_app hxl,e3]
  have h2:(F++P).drop (64*((F++P).length / 64))=(F.drop (64*q)++P).drop (64*((F.drop (64*q)++P).length / 64)):=by
   rw[hl]
   conv=>lhs;rw[e2]
   rw[show 64*(q+(F.drop (64*q)++P).length / 64)=(F.take (64*q)).length+64*((F.drop (64*q)++P).length / 64) by rw[hxl];omega,← List.drop_drop,List.drop_left]
  rw[h1,h2];simp only[List.length_append]
theorem sha_flat (parts:List (List UInt8)):sha parts=sumQ parts.flatten:=by
 have h1:=absorb_flat parts parts.length (Nat.le_refl _);have h2:=absorb_flat [parts.flatten] 1 (Nat.le_refl _);rw[List.take_length] at h1;have e:([parts.flatten].take 1).flatten=parts.flatten:=by simp
 rw[e] at h2;rw[sumQ_eq,sha,sha,h1,List.length_singleton,h2]
theorem macQ_eq {key text:List UInt8}{parts:List (List UInt8)}(h:text=parts.flatten):macQ key text=tagL (keyK key) parts:=by
 rw[tagL_eq,sha_flat,sha_flat,macQ,h];simp
end Go.Proofs.YtbgfdbidbjlaaaaGreat.Fd
/-
  The document's own block of a stretched key. No condition beyond what each theorem names.
-/
namespace Go.Proofs.YtbgfdbidbjlaaaaGreat.Fd
open _root_.Go.Proofs.Tryz
open Go Go.RowKit K
set_option maxRecDepth 100000
set_option maxHeartbeats 20000000
structure QBk (w:World) (n ub tb:Nat) (U T:List UInt8) (x:World):Prop where
 below:Below n w x
 out:Arr x n 124 (List.replicate 32 0)
 u:Arr x ub 124 U
 t:Arr x tb 124 T
theorem QBk.after {w:World}{n ub tb:Nat}{U T:List UInt8}{x y:World}(s:QBk w n ub tb U T x) (hb:Below x.heap.size x y):QBk w n ub tb U T y:=
 ⟨s.below.trans (hb.mono (by have:=heap_lt s.out;omega)),s.out.keep (hb.block n (heap_lt s.out)),s.u.keep (hb.block ub (heap_lt s.u)),s.t.keep (hb.block tb (heap_lt s.t))⟩
theorem QBk.putU {w:World}{n ub tb:Nat}{U T:List UInt8}{x:World}(s:QBk w n ub tb U T x) (h1:n<ub) (h2:ub<tb) (V:List UInt8):QBk w n ub tb V T (x.setRow ub (u8s V).toArray):=
 ⟨below_setRow s.below (by omega) _,s.out.keep (setRow_other _ _ _ _ (by omega)),s.u.setRow V,s.t.keep (setRow_other _ _ _ _ (by omega))⟩
theorem QBk.putT {w:World}{n ub tb:Nat}{U T:List UInt8}{x:World}(s:QBk w n ub tb U T x) (h1:n<ub) (h2:ub<tb) (j:Nat) (c:UInt8):QBk w n ub tb U (T.set j c) (x.setCell ⟨tb,j,none⟩ (.int .u8 c.toNat)):=
 ⟨s.below.setCell (p:=⟨tb,j,none⟩) (by show n≤tb;omega) _,s.out.keep (setCell_heap_ne _ _ _ (by show n≠tb;omega)),s.u.keep (setCell_heap_ne _ _ _ (by show ub≠tb;omega)),s.t.set j c⟩
theorem qBlock_ok {w:World}{p:Nat}(hS:QHashAt w p){S S':Nat→Prop}{pv sv:Value}{pass salt:List UInt8}(hp:Bytes w S pv pass) (hs:Bytes w S' sv salt) (hpl':pass.length≤3000) (hsl:salt.length≤2000) (N i:Nat) (hN:N≤1000000) (hN1:1≤N) (_hi:i≤1000000):
  Calls prog 56 #[.pointer (some ⟨p,0,none⟩),pv,sv,.int .i64 N,.int .i64 i] w fun e w'=>e=.returned (.agg (u8s (blkT (keyK pass) salt i (N - 1))).toArray)∧Below w.heap.size w w':=by
 obtain⟨n,hn⟩:∃ n,n=w.heap.size:=⟨_,rfl⟩;have HN:=LH hn;have hpl:=heap_lt hS;obtain⟨sa,sc,rfl,hs1,hs2⟩:=hs.shape;unfold maxLen at hs2;obtain⟨w0,hw0⟩:∃ x,x=w.alloc (.cells #[.int .u8 0,.int .u8 0,.int .u8 0,.int .u8 0,.int .u8 0,.int .u8 0,.int .u8 0,.int .u8 0,.int .u8 0,.int .u8 0,.int .u8 0,.int .u8 0,.int .u8 0,.int .u8 0,.int .u8 0,.int .u8 0,.int .u8 0,.int .u8 0,.int .u8 0,.int .u8 0,.int .u8 0,.int .u8 0,.int .u8 0,.int .u8 0,.int .u8 0,.int .u8 0,.int .u8 0,.int .u8 0,.int .u8 0,.int .u8 0,.int .u8 0,.int .u8 0] 124):=⟨_,rfl⟩;have H0:Arr w0 n 124 (List.replicate 32 0):=by rw[hw0,hn];exact heap_alloc_new w _
 have B0:Below n w w0:=by rw[hw0,hn];exact (Below.refl _ _).alloc (Nat.le_refl _) _
 have s0:w0.heap.size=n+1:=by rw[hw0,hn];simp
 have hk0:Bytes w0 S' (.slice sa salt.length sc) salt:=hs.keep B0.size (fun g _ hg=>B0.block g (by omega));obtain⟨v1,w1,hrun1,r1,c1⟩:=push_fresh hk0 (by omega);rw[show w0.heap.size=w.heap.size+1 by rw[s0,hn]] at hrun1;have r1':=owns_base r1 (base':=n+1) (by omega);have H1:Arr w1 n 124 (List.replicate 32 0):=H0.keep (c1.block n (by omega) id);have B1:Below n w w1:=B0.trans ((Chg.no c1).mono (by omega));have hs1':=heap_lt H1;obtain⟨a1,ha1⟩:∃ a,a=i / 16777216:=⟨_,rfl⟩;obtain⟨a2,ha2⟩:∃ a,a=i / 65536:=⟨_,rfl⟩;obtain⟨a3,ha3⟩:∃ a,a=i / 256:=⟨_,rfl⟩;have ia1:(i:Int) / 16777216=a1:=by omega
 have ia2:(i:Int) / 65536=a2:=by omega
 have ia3:(i:Int) / 256=a3:=by omega
 obtain⟨c1',hc1'⟩:∃ c,c=a1 % 256:=⟨_,rfl⟩;obtain⟨c2',hc2'⟩:∃ c,c=a2 % 256:=⟨_,rfl⟩;obtain⟨c3',hc3'⟩:∃ c,c=a3 % 256:=⟨_,rfl⟩;obtain⟨c4',hc4'⟩:∃ c,c=i % 256:=⟨_,rfl⟩;have ic1:IntKind.u8.wrap (a1:Int)=c1':=by rw[IntKind.wrap_u8'];omega
 have ic2:IntKind.u8.wrap (a2:Int)=c2':=by rw[IntKind.wrap_u8'];omega
 have ic3:IntKind.u8.wrap (a3:Int)=c3':=by rw[IntKind.wrap_u8'];omega
 have ic4:IntKind.u8.wrap (i:Int)=c4':=by rw[IntKind.wrap_u8'];omega
 have hbe:u8s (be4 i)=[.int .u8 (c1':Nat),.int .u8 (c2':Nat),.int .u8 (c3':Nat),.int .u8 (c4':Nat)]:=by
  simp only[be4,← ha1,← ha2,← ha3,← hc1',← hc2',← hc3',← hc4',u8s,List.map_cons,List.map_nil,u8];rw[byte_toNat (by omega),byte_toNat (by omega),byte_toNat (by omega),byte_toNat (by omega)]
 obtain⟨w2,hw2⟩:∃ x,x=w1.alloc (.cells #[.int .u8 (c1':Nat),.int .u8 (c2':Nat),.int .u8 (c3':Nat),.int .u8 (c4':Nat)] 5):=⟨_,rfl⟩
 have hu:Bytes w2 (fun _=>True) (.slice (some ⟨w1.heap.size,0,none⟩) 4 4) (be4 i):=by
  have h:=lit_cells w1 #[.int .u8 (c1':Nat),.int .u8 (c2':Nat),.int .u8 (c3':Nat),.int .u8 (c4':Nat)] 5 4 1 rfl (fits_lm (by omega));rw[← hw2] at h;rw[Bytes,hbe];exact h
 have r2:=r1'.alloc (.cells #[.int .u8 (c1':Nat),.int .u8 (c2':Nat),.int .u8 (c3':Nat),.int .u8 (c4':Nat)] 5);rw[← hw2] at r2;have hs2':n+1≤w2.heap.size:=by rw[hw2];simp;omega
 obtain⟨v3,w3,hrun3,r3,c3⟩:=push_more r2 hs2' hu (by rw[be4_length];omega);have e12:Chg No w1 w2:=by rw[hw2];exact (Chg.refl _ _).alloc _
 have c13:Chg (fun g=>n+1≤g) w1 w3:=(e12.mono (fun _ _ h=>h.elim)).then c3 (fun g _ h=>own_ge r2 h);have H3:=H1.keep (c13.block n (by omega) (by omega));have B3:Below n w w3:=B1.trans (c13.below (by omega) (by omega));have hs3':=heap_lt H3;have hmac:=fun (w1:World) (h:Below n w w1){T:Nat→Prop}{v:Value}{b:List UInt8}(hb:Bytes w1 T v b) (hl:b.length≤3000)=>qMac_ok (hS.keep (h.block p (by rw[hn];exact hpl))) (hp.keep h.size (fun g _ hg=>h.block g (by rw[hn];exact hg))) hb hpl' hl
 obtain⟨K,hK⟩:∃ K,K=keyK pass:=⟨_,rfl⟩;have hm0:=hmac w3 B3 (own_bytes r3) (by rw[List.length_append,be4_length];omega);rw[macQ_eq (parts:=[salt,be4 i]) (by simp),← hK,← blkU_zero] at hm0
 have hmq:∀ (w1:World),Below n w w1→∀ {T:Nat→Prop}{v:Value}{b:List UInt8},Bytes w1 T v b→b.length=32→Calls prog 75 #[.pointer (some ⟨p,0,none⟩),pv,v] w1 fun e w'=>e=.returned (.agg (u8s (tagL K [b])).toArray)∧Below w1.heap.size w1 w':=fun w1 h1 T v b hb hl=>by
  have h:=hmac w1 h1 hb (by omega);rw[macQ_eq (parts:=[b]) (by simp),← hK] at h;exact h
 rw[← hK];obtain⟨sl,hsl'⟩:∃ l,l=salt.length:=⟨_,rfl⟩;rw[← hsl'] at hs1 hrun1 hsl ⊢;subst hw0;subst hw2;clear r1 r1' c1 hk0 H0 B0 s0 hp hs hn r2 c3 e12 c13 H1 B1 hs1' hs2' hu hbe ha1 ha2 ha3 hc1' hc2' hc3' hc4' hmac r3;replace hrun1:=LH hrun1;replace hrun3:=LH hrun3;replace hm0:=LH hm0;replace hmq:=LH @hmq;replace H3:=LH H3;replace B3:=LH B3;replace hK:=LH hK;replace hsl':=LH hsl';replace hS:=LH hS;go_enter func56,ntmps56
 go_wp2_with (at_builtin;first|(refine wpList_app rfl _ _ 22 rfl _ _ _ rfl rfl hrun1.out ?_)|(refine wpList_app rfl _ _ 22 rfl _ _ _ rfl rfl hrun3.out ?_))
 refine hm0.out.mono ?_;rintro e w4 ⟨rfl,hb4⟩;obtain⟨U0,hU0⟩:∃ U,U=blkU K salt i 0:=⟨_,rfl⟩;have hU0l:U0.length=32:=by rw[hU0,blkU_length]
 rw[← hU0];have H4:=H3.out.keep (hb4.block n (by omega));have B4:Below n w w4:=B3.out.trans (hb4.mono (by omega));have hs4:=heap_lt H4;obtain⟨ub,hub⟩:∃ q,q=w4.heap.size:=⟨_,rfl⟩;obtain⟨w5,hw5⟩:∃ x,x=w4.alloc (.cells #[.int .u8 0,.int .u8 0,.int .u8 0,.int .u8 0,.int .u8 0,.int .u8 0,.int .u8 0,.int .u8 0,.int .u8 0,.int .u8 0,.int .u8 0,.int .u8 0,.int .u8 0,.int .u8 0,.int .u8 0,.int .u8 0,.int .u8 0,.int .u8 0,.int .u8 0,.int .u8 0,.int .u8 0,.int .u8 0,.int .u8 0,.int .u8 0,.int .u8 0,.int .u8 0,.int .u8 0,.int .u8 0,.int .u8 0,.int .u8 0,.int .u8 0,.int .u8 0] 124):=⟨_,rfl⟩;have x5:Arr w5 ub 124 (List.replicate 32 0):=by rw[hw5,hub];exact heap_alloc_new w4 _
 have b5:Below ub w4 w5:=by rw[hw5,hub];exact (Below.refl _ _).alloc (Nat.le_refl _) _
 have hst5:=hash_store x5 hU0l;obtain⟨w6,hw6⟩:∃ x,x=w5.setRow ub (u8s U0).toArray:=⟨_,rfl⟩;rw[← hw6] at hst5;have x6:Arr w6 ub 124 U0:=hw6 ▸ x5.setRow U0;have b6:Below ub w4 w6:=hw6 ▸ below_setRow b5 (Nat.le_refl _) _;have hs6:w6.heap.size=ub+1:=by rw[hw6,hw5];simp[World.setRow,hub]
 have hld6:=hash_load x6 hU0l;obtain⟨w7,hw7⟩:∃ x,x=w6.alloc (.cells #[.int .u8 0,.int .u8 0,.int .u8 0,.int .u8 0,.int .u8 0,.int .u8 0,.int .u8 0,.int .u8 0,.int .u8 0,.int .u8 0,.int .u8 0,.int .u8 0,.int .u8 0,.int .u8 0,.int .u8 0,.int .u8 0,.int .u8 0,.int .u8 0,.int .u8 0,.int .u8 0,.int .u8 0,.int .u8 0,.int .u8 0,.int .u8 0,.int .u8 0,.int .u8 0,.int .u8 0,.int .u8 0,.int .u8 0,.int .u8 0,.int .u8 0,.int .u8 0] 124):=⟨_,rfl⟩;have x7:Arr w7 (ub+1) 124 (List.replicate 32 0):=by rw[hw7,← hs6];exact heap_alloc_new w6 _
 have b7:Below (ub+1) w6 w7:=by rw[hw7,← hs6];exact (Below.refl _ _).alloc (Nat.le_refl _) _
 have hst7:=hash_store x7 hU0l;obtain⟨w8,hw8⟩:∃ x,x=w7.setRow (ub+1) (u8s U0).toArray:=⟨_,rfl⟩;rw[← hw8] at hst7;have x8:Arr w8 (ub+1) 124 U0:=hw8 ▸ x7.setRow U0;have b8:Below (ub+1) w6 w8:=hw8 ▸ below_setRow b7 (Nat.le_refl _) _
 have hQ8:QBk w n ub (ub+1) (blkU K salt i 0) (blkT K salt i 0) w8:=
  ⟨(B4.trans (b6.mono (by omega))).trans (b8.mono (by omega)),(H4.keep (b6.block n (by omega))).keep (b8.block n (by omega)),by rw[← hU0];exact x6.keep (b8.block ub (by omega)),by rw[blkT_zero,← hU0];exact x8⟩
 have hnub:n<ub:=by omega
 obtain⟨tb,htb⟩:∃ t,t=ub+1:=⟨_,rfl⟩;rw[← htb] at hQ8 hst7;have hutb:ub<tb:=by omega
 have htbs:tb=w6.heap.size:=by rw[hs6,htb]
 rw[hub] at hst5 hld6;rw[htbs] at hst7;subst hw5;subst hw7;replace hst5:=LH hst5;replace hst7:=LH hst7;replace hld6:=LH hld6;replace hQ8:=LH hQ8;replace hub:=LH hub;replace htb:=LH htb;replace htbs:=LH htbs;replace hU0:=LH hU0;replace hw6:=LH hw6;replace hw8:=LH hw8;replace hs6:=LH hs6;clear x5 b5 x6 b6 x7 b7 x8 b8 H4 B4 hb4 H3 B3 hrun1 hrun3 hm0
 go_wp2_with (first|(refine wpList_store rfl 124 _ _ rfl _ _ rfl rfl hst5.out ?_)|(refine wpList_load rfl 124 _ rfl _ _ rfl hld6.out ?_)|(refine wpList_store rfl 124 _ _ rfl _ _ rfl rfl hst7.out ?_))
 rw[← htbs.out,← hub.out];clear hst5 hst7 hld6
 go_loopg [14,15] (N - 1) (fun g r _ wr=>∃ k:Nat,k+1+g=N∧r=.int .i64 ((k:Int)+1)∧Hid (QBk w n ub tb (blkU K salt i k) (blkT K salt i k) wr))
 case atStart=>exact⟨0,by omega,rfl,hQ8.out⟩
 case round=>
  clear hQ8;obtain⟨k,hkg,rfl,hQ⟩:=hrel;have hns:=heap_lt hQ.out.out;by_cases hkN:k+1<N
  ·obtain⟨g',rfl⟩:∃ q,gk=q+1:=⟨gk - 1,by omega⟩;obtain⟨U,hU⟩:∃ U,U=blkU K salt i k:=⟨_,rfl⟩;obtain⟨T,hT⟩:∃ T,T=blkT K salt i k:=⟨_,rfl⟩;have hUl:U.length=32:=by rw[hU,blkU_length]
   have hTl:T.length=32:=by rw[hT,blkT_length]
   have hUn:blkU K salt i (k+1)=tagL K [U]:=by rw[blkU_succ,hU]
   rw[← hU,← hT] at hQ;obtain⟨V,hV⟩:∃ V,V=tagL K [U]:=⟨_,rfl⟩;have hVl:V.length=32:=by rw[hV,tagL_length]
   have hTn:blkT K salt i (k+1)=xorH T V 32:=by rw[blkT_succ,hUn,← hT,← hV]
   have hby:=arr_bytes hQ.out.u (fits_lm (by omega));have hm:=hmq.out wr hQ.out.below hby hUl;rw[hUl,← hV] at hm;rw[← hV] at hUn;replace hm:=LH hm;replace hU:=LH hU;replace hT:=LH hT;replace hUn:=LH hUn;replace hTn:=LH hTn;replace hV:=LH hV;clear hby;have hnk:(k:Int)+1<N:=by omega
   go_wp2_with fail
   refine hm.out.mono ?_;rintro e w5 ⟨rfl,hb5⟩;have hQ5:=hQ.out.after hb5;have hst:=hash_store' hQ5.u hUl hVl;obtain⟨w6,hw6⟩:∃ x,x=w5.setRow ub (u8s V).toArray:=⟨_,rfl⟩;rw[← hw6] at hst;have hQ6:QBk w n ub tb V (xorH T V 0) w6:=by rw[xorH_zero,hw6];exact hQ5.putU hnub hutb V
   replace hst:=LH hst;replace hQ6:=LH hQ6;replace hw6:=LH hw6;clear hQ hQ5 hb5 hm hns
   go_wp2_with (first|(refine wpList_store rfl 124 _ _ rfl _ _ rfl rfl hst.out ?_))
   clear hst
   go_loopg [15] 32 (fun g r wr=>∃ j:Nat,j+g=32∧r=.int .i64 j∧Hid (QBk w n ub tb V (xorH T V j) wr))
   case atStart=>exact⟨0,by omega,rfl,hQ6.out⟩
   case round=>
    clear hQ6;obtain⟨j,hjg,rfl,hQ⟩:=hrel;by_cases hj:j<32
    ·obtain⟨g2,rfl⟩:∃ q,gk=q+1:=⟨gk - 1,by omega⟩;obtain⟨X,hX⟩:∃ X,X=xorH T V j:=⟨_,rfl⟩;have hXl:X.length=32:=by rw[hX,xorH_length,hTl]
     have hXj:X.getD j 0=T.getD j 0:=by rw[hX,xorH_get (Nat.le_refl _)]
     rw[← hX] at hQ;obtain⟨a,ha⟩:∃ a,a=(T.getD j 0).toNat:=⟨_,rfl⟩;obtain⟨b,hb⟩:∃ b,b=(V.getD j 0).toNat:=⟨_,rfl⟩;have hal:a<256:=ha ▸ UInt8.toNat_lt _;have hbl:b<256:=hb ▸ UInt8.toNat_lt _;have hx:=u8_xor_nat a b hal hbl;have hxl:=xor8 hal hbl;have ct:=hQ.out.t.cell j (by omega);have ft:=hQ.out.t.frozen j;have cu:=hQ.out.u.cell j (by omega);rw[hXj,← ha] at ct;rw[← hb] at cu;have hst:=(hQ.out.putT hnub hutb j (byte (a ^^^ b))).after ((Below.refl _ _).drew);have hXn:xorH T V (j+1)=X.set j (byte (a ^^^ b)):=by rw[xorH_succ,← hX,← ha,← hb]
     rw[byte_toNat hxl] at hst;obtain⟨x,hxd⟩:∃ x,x=a ^^^ b:=⟨_,rfl⟩;rw[← hxd] at hx hxl hst hXn;clear ha hb hXj;replace hX:=LH hX;replace hst:=LH hst;replace hXn:=LH hXn;replace hxd:=LH hxd;go_wp2
     go_region
     go_wp2;go_roundg g2
     case measure=>omega
     case rel=>exact⟨j+1,by omega,by go_num,by show QBk _ _ _ _ _ _ _;rw[hXn.out];exact hst.out⟩
    ·obtain rfl:j=32:=by omega
     clear hj hjg;go_wp2;go_roundg g'
     case measure=>omega
     case rel=>exact⟨k+1,by omega,by go_num,by show QBk _ _ _ _ _ _ _;rw[hUn.out,hTn.out];exact hQ.out⟩
  ·obtain rfl:N=k+1:=by omega
   have hres:blkT K salt i (k+1 - 1)=blkT K salt i k:=by rw[Nat.add_sub_cancel]
   obtain⟨T,hT⟩:∃ T,T=blkT K salt i k:=⟨_,rfl⟩;have hTl:T.length=32:=by rw[hT,blkT_length]
   rw[← hT] at hQ hres;have hld:=hash_load hQ.out.t hTl;have hst:=hash_store hQ.out.out hTl;obtain⟨w9,hw9⟩:∃ x,x=wr.setRow n (u8s T).toArray:=⟨_,rfl⟩;rw[← hw9] at hst;have hF:Arr w9 n 124 T:=hw9 ▸ hQ.out.out.setRow T;have hBf:Below n w w9:=hw9 ▸ below_setRow hQ.out.below (Nat.le_refl _) _;rw[HN.out] at hst;replace hld:=LH hld;replace hst:=LH hst;replace hF:=LH hF;replace hBf:=LH hBf;replace hw9:=LH hw9;replace hT:=LH hT;replace hres:=LH hres;clear hQ
   go_wp2_with (first|(refine wpList_load rfl 124 _ rfl _ _ rfl hld.out ?_)|(refine wpList_store rfl 124 _ _ rfl _ _ rfl rfl hst.out ?_))
   refine bodyPost_ret (results_cell_row results56 _ _ w.heap.size 124 _ (0,0) _ rfl (HN.out ▸ hF.out) underlying124 rfl (by rw[sizeHash];simp[u8s_length,hTl])) rfl ⟨by rw[hres.out],HN.out ▸ hBf.out⟩
end Go.Proofs.YtbgfdbidbjlaaaaGreat.Fd
/-
  The document's own stretched key. No condition beyond what each theorem names.
-/
namespace Go.Proofs.YtbgfdbidbjlaaaaGreat.Fd
open _root_.Go.Proofs.Tryz
open Go Go.RowKit K
set_option maxRecDepth 100000
set_option maxHeartbeats 20000000
theorem qKey_ok {w:World}{p:Nat}(hS:QHashAt w p){S S':Nat→Prop}{pv sv:Value}{pass salt:List UInt8}(hp:Bytes w S pv pass) (hs:Bytes w S' sv salt) (hpl':pass.length≤3000) (hsl:salt.length≤2000) (r m:Nat) (hr:r≤1000000) (hr1:1≤r) (hm:m≤256):
  Calls prog 34 #[.pointer (some ⟨p,0,none⟩),pv,sv,.int .i64 r,.int .i64 m] w fun e w'=>∃ v,e=.returned v∧Bytes w' (fun g=>w.heap.size≤g) v (keyL (keyK pass) salt r m)∧Below w.heap.size w w':=by
 obtain⟨n,hn⟩:∃ n,n=w.heap.size:=⟨_,rfl⟩;have HN:=LH hn;have hpl:=heap_lt hS;obtain⟨K,hK⟩:∃ K,K=keyK pass:=⟨_,rfl⟩
 have hblk:∀ (w1:World),Below n w w1→∀ i:Nat,i≤1000→Calls prog 56 #[.pointer (some ⟨p,0,none⟩),pv,sv,.int .i64 r,.int .i64 i] w1 fun e w'=>e=.returned (.agg (u8s (blkT K salt i (r - 1))).toArray)∧Below w1.heap.size w1 w':=fun w1 h i hi=>by
  rw[hK];exact qBlock_ok (hS.keep (h.block p (by rw[hn];exact hpl))) (hp.keep h.size (fun g _ hg=>h.block g (by rw[hn];exact hg))) (hs.keep h.size (fun g _ hg=>h.block g (by rw[hn];exact hg))) hpl' hsl r i hr hr1 (by omega)
 rw[← hK,← hn];clear hp hs hn;replace hblk:=LH hblk;replace hK:=LH hK;replace hS:=LH hS;go_enter func34,ntmps34;go_wp2
 go_loopg [11,12] ((m+31) / 32) (fun g o i wr=>∃ k:Nat,k+g=(m+31) / 32∧i=.int .i64 ((k:Int)+1)∧Hid (wr.ownsRow n 5 1 o (outB K salt r k).length (u8s (outB K salt r k)))∧Hid (Below n w wr))
 case atStart=>exact⟨0,by omega,rfl,by show World.ownsRow _ _ _ _ _ _ _;rw[outB_zero];exact World.ownsRow_nil _ _ _ _,Below.refl _ _⟩
 case round=>
  obtain⟨k,hkg,rfl,hO,hB⟩:=hrel;obtain⟨R,hR⟩:∃ R,R=outB K salt r k:=⟨_,rfl⟩;have hRl:R.length=32*k:=by rw[hR,outB_length]
  rw[← hR] at hO;have hns:n≤wr.heap.size:=by have:=hB.out.size;have:=HN.out;omega
  obtain⟨ra,rcap,rfl,hr1',hr2⟩:=(Cells.own hO.out).shape;unfold maxLen at hr2;obtain⟨L,hL⟩:∃ L,L=R.length:=⟨_,rfl⟩;have hO':wr.ownsRow n 5 1 (.slice ra L rcap) R.length (u8s R):=by rw[hL];exact hO.out
  rw[← hL] at hr1' hRl ⊢;by_cases hLm:L<m
  ·obtain⟨g',rfl⟩:∃ q,gk=q+1:=⟨gk - 1,by omega⟩;obtain⟨T,hT⟩:∃ T,T=blkT K salt (k+1) (r - 1):=⟨_,rfl⟩;have hTl:T.length=32:=by rw[hT,blkT_length]
   have hb:=hblk.out wr hB.out (k+1) (by omega);rw[← hT] at hb;have hki:((k+1:Nat):Int)=(k:Int)+1:=by omega
   rw[hki] at hb;have hnx:outB K salt r (k+1)=R++T:=by rw[outB_succ,← hR,← hT]
   replace hb:=LH hb;replace hT:=LH hT;replace hR:=LH hR;replace hRl:=LH hRl;replace hO':=LH hO';replace hnx:=LH hnx;replace hL:=LH hL;clear hO hki
   go_wp2_with fail
   refine hb.out.mono ?_;rintro e w3 ⟨rfl,hb3⟩;have hO3:=owns_keep hO'.out (fun g hg=>hb3.block g (hO'.out.lt g hg).2);have hB3:Below n w w3:=hB.out.trans (hb3.mono hns);have hn3:=Nat.le_trans hns hb3.size;obtain⟨tb,htb⟩:∃ q,q=w3.heap.size:=⟨_,rfl⟩;obtain⟨w4,hw4⟩:∃ x,x=w3.alloc (.cells #[.int .u8 0,.int .u8 0,.int .u8 0,.int .u8 0,.int .u8 0,.int .u8 0,.int .u8 0,.int .u8 0,.int .u8 0,.int .u8 0,.int .u8 0,.int .u8 0,.int .u8 0,.int .u8 0,.int .u8 0,.int .u8 0,.int .u8 0,.int .u8 0,.int .u8 0,.int .u8 0,.int .u8 0,.int .u8 0,.int .u8 0,.int .u8 0,.int .u8 0,.int .u8 0,.int .u8 0,.int .u8 0,.int .u8 0,.int .u8 0,.int .u8 0,.int .u8 0] 124):=⟨_,rfl⟩;have x4:Arr w4 tb 124 (List.replicate 32 0):=by rw[hw4,htb];exact heap_alloc_new w3 _
   have b4:Below tb w3 w4:=by rw[hw4,htb];exact (Below.refl _ _).alloc (Nat.le_refl _) _
   have hst:=hash_store x4 hTl;obtain⟨w5,hw5⟩:∃ x,x=w4.setRow tb (u8s T).toArray:=⟨_,rfl⟩;rw[← hw5] at hst;have x5:Arr w5 tb 124 T:=hw5 ▸ x4.setRow T;have b5:Below tb w3 w5:=hw5 ▸ below_setRow b4 (Nat.le_refl _) _;have hO5:=owns_keep hO3 (fun g hg=>b5.block g (by rw[htb];exact (hO3.lt g hg).2));have hby:=arr_bytes x5 (fits_lm (by omega));rw[hTl] at hby;obtain⟨v6,w6,hrun,r6,c6⟩:=push_more hO5 (Nat.le_trans hn3 b5.size) hby (by rw[← hL.out,hTl];have:=hRl.out;omega);have hB5:Below n w w5:=hB3.trans (b5.mono (by omega));have hB6:Below n w w6:=hB5.trans (c6.below (Nat.le_trans hn3 b5.size) (fun g hg h=>by have:=own_ge hO5 h;omega));rw[htb] at hst hrun;rw[← hnx.out] at r6;subst hw4;replace hst:=LH hst;replace hrun:=LH hrun;replace r6:=LH r6;replace hB6:=LH hB6;replace htb:=LH htb;replace hw5:=LH hw5;clear hO3 hB3 x4 b4 x5 b5 hO5 hby c6 hB5 hb3 hB hO' hb
   go_wp2_with (first|(refine wpList_store rfl 124 _ _ rfl _ _ rfl rfl hst.out ?_)|(at_builtin;(refine wpList_app rfl _ _ 22 rfl _ _ _ rfl rfl hrun.out ?_)))
   go_roundg g'
   case measure=>omega
   case rel=>exact⟨k+1,by omega,by go_num,r6.out,hB6.out⟩
  ·have hmL:m≤L:=by omega
   have hKm:keyL K salt r m=R.take m:=by
    rw[keyL_eq,hR];obtain⟨q,hq⟩:∃ q,q=(m+31) / 32:=⟨_,rfl⟩;rw[← hq] at hkg ⊢;have:k=q∨k<q:=by omega
    rcases this with h|h
    ·rw[h]
    ·exfalso;omega
   have hbo:Bytes wr (fun g=>n≤g) (.slice ra R.length rcap) R:=by
    have h:=own_bytes hO.out;exact h
   have hcb:=bytes_cut hbo 0 m (by omega) (by omega);rw[List.drop_zero,Nat.sub_zero,← hKm] at hcb
   have hs0:sliced ra 0 m rcap 1=.slice ra m rcap:=by
    cases ra with
    | none=>simp[Go.sliced]
    | some x=>simp[Go.sliced,Addr.add]
   rw[hs0] at hcb;have hmc:m≤rcap:=by omega
   replace hcb:=LH hcb;replace hKm:=LH hKm;replace hR:=LH hR;replace hRl:=LH hRl;replace hL:=LH hL;clear hbo hO hO'
   have hcut:∀ w5,(Instr.sliceAt 22 (.slice ra L rcap) none (some (.int .i64 m)) none).run prog w5=.ok (.slice ra m rcap) w5:=fun w5=>by
    rw[cut_hi (P:=prog) (s:=1) w5 underlying22 (by kernel_rfl) _ _ _ m hmc];rw[hs0]
   clear hs0;go_wp2;go_ret;exact⟨_,rfl,hcb.out,hB.out⟩
end Go.Proofs.YtbgfdbidbjlaaaaGreat.Fd

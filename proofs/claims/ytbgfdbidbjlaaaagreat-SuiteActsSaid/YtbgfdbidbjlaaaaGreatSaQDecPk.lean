/-
  Texts of this claim, laid together by a program of mine. No condition beyond what each theorem names.
-/
import Derived.Test.YtbgfdbidbjlaaaaGreatSaQTweakPk
import Derived.Test.YtbgfdbidbjlaaaaGreatSaTablesPk
/-
  The document's own Decrypt. No condition beyond what each theorem names.
-/
namespace Go.Proofs.YtbgfdbidbjlaaaaGreat.Fd
open _root_.Go.Proofs.Tryz
open Go Go.RowKit K
set_option maxRecDepth 100000
set_option maxHeartbeats 8000000
def decQR (ks:List UInt32) (b:List UInt8):Nat→List UInt8
 | 0=>b
 | t+1=>unL bk (nextQ [14,11,13,9] (roundsN ks) (roundsN ks - t) (addL (decQR ks b t) ks (roundsN ks - t) 16)) 16
theorem decQR_zero {ks:List UInt32}{b:List UInt8}:decQR ks b 0=b:=rfl
theorem decQR_succ {ks:List UInt32}{b:List UInt8}{t:Nat}:decQR ks b (t+1)=unL bk (nextQ [14,11,13,9] (roundsN ks) (roundsN ks - t) (addL (decQR ks b t) ks (roundsN ks - t) 16)) 16:=rfl
theorem decQR_length {ks:List UInt32}{b:List UInt8}(hb:b.length=16):∀ t,(decQR ks b t).length=16
 | 0=>hb
 | _+1=>unL_length
attribute [irreducible] decQR
theorem qMixed4' (b:List UInt8) (hb:b.length=16) (w:World):
  Calls prog 70 #[.agg (u8s b).toArray,.agg #[.int .u8 14,.int .u8 11,.int .u8 13,.int .u8 9]] w fun e w'=>e=.returned (.agg (u8s (mixF [14,11,13,9] b 16)).toArray)∧Below w.heap.size w w':=qMixed_ok b [14,11,13,9] hb rfl w
theorem qDec_ok {w:World}{F:Nat→Prop}{p tb:Nat}{kv:Value}{ks:List UInt32}(h:QCipherAt w F p tb kv ks) (b:List UInt8) (hb:b.length=16) (hN:4≤ks.length) (h4:ks.length % 4=0):
  Calls prog 47 #[.pointer (some ⟨p,0,none⟩),.agg (u8s b).toArray] w fun e w'=>e=.returned (.agg (u8s (addL (decQR ks b (roundsN ks)) ks 0 16)).toArray)∧Below w.heap.size w w':=by
 obtain⟨n,hn⟩:∃ n,n=w.heap.size:=⟨_,rfl⟩;have HN:=LH hn;have hC:∀ w1,Below n w w1→QCipherAt w1 F p tb kv ks:=fun w1 h1=>h.keep h1.size (fun g _ hg=>h1.block g (by omega))
 have hpl:=heap_lt h.box;have htl:=heap_lt h.tab;obtain⟨ka,kc,rfl,hk1,hk2⟩:=h.keys.shape;unfold maxLen at hk2;obtain⟨N,hNd⟩:∃ N,N=roundsN ks:=⟨_,rfl⟩;have hNl:ks.length=4*(N+1):=by rw[hNd,roundsN];omega
 have hfew:=h.few;have hadd:∀ w1,Below n w w1→∀ (x:List UInt8) (r:Nat),x.length=16→r≤N→Calls prog 69 #[.pointer (some ⟨p,0,none⟩),.agg (u8s x).toArray,.int .i64 r] w1 fun e w'=>e=.returned (.agg (u8s (addL x ks r 16)).toArray)∧Below w1.heap.size w1 w':=fun w1 h1 x r hx hr=>qAdded_ok (hC w1 h1) x hx r (by omega)
 have HX:=box2 w 73 b (List.replicate 16 0);obtain⟨V,hV⟩:∃ V,V=(u8s b).toArray:=⟨_,rfl⟩;have hz:(u8s (List.replicate 16 0)).toArray=#[.int .u8 0,.int .u8 0,.int .u8 0,.int .u8 0,.int .u8 0,.int .u8 0,.int .u8 0,.int .u8 0,.int .u8 0,.int .u8 0,.int .u8 0,.int .u8 0,.int .u8 0,.int .u8 0,.int .u8 0,.int .u8 0]:=rfl;rw[hz,← hV,← hn] at HX;obtain⟨w0,hw0⟩:∃ x,x=(w.alloc (.cells V 73)).alloc (.cells #[.int .u8 0,.int .u8 0,.int .u8 0,.int .u8 0,.int .u8 0,.int .u8 0,.int .u8 0,.int .u8 0,.int .u8 0,.int .u8 0,.int .u8 0,.int .u8 0,.int .u8 0,.int .u8 0,.int .u8 0,.int .u8 0] 73):=⟨_,rfl⟩;rw[← hw0] at HX;have hQ0:QEn w n b w0:=⟨HX.2.2.1,HX.1,HX.2.1⟩;have cW:w0.cell? ⟨p,1,none⟩=some (.slice ka ks.length kc):=by rw[cell_of (hC w0 hQ0.below).box];rfl
 have hld0:=run_loadAt_arr (P:=prog) hQ0.inp underlying73 (size61 hb);rw[← hV] at hld0 ⊢;rw[hn] at hld0;subst hw0;have hKl:(ks.length:Int) / 4 - 1=N:=by omega
 have hKl1:(ks.length:Int) / 4=((N+1:Nat):Int):=by omega
 obtain⟨KL,hKL⟩:∃ L,L=ks.length:=⟨_,rfl⟩;rw[← hKL] at cW hKl hKl1 hNl hfew hk1 hN h4;have hKl2:(KL:Int).tdiv 4=((N+1:Nat):Int):=by rw[Int.tdiv_eq_ediv_of_nonneg (by omega)];exact hKl1
 have hNp:((N+1:Nat):Int) - 1=N:=by omega
 clear HX hz h hn;replace hC:=LH hC;replace hadd:=LH hadd;replace hQ0:=LH hQ0;replace hV:=LH hV;replace hNd:=LH hNd;replace hKL:=LH hKL;replace hNl:=LH hNl;clear hKl hld0;go_enter func47,ntmps47
 go_wp2_with (fail)
 replace hKl1:=LH hKl1;replace hKl2:=LH hKl2;replace hNp:=LH hNp;rw[← HN.out];have hN100:N≤1000:=by have:=hNl.out;omega
 go_loopg [6,7,8] N (fun g rr _ _ wr=>∃ t:Nat,t+g=N∧rr=.int .i64 ((N - t:Nat):Int)∧Hid (QEn w n (decQR ks b t) wr))
 case atStart=>exact⟨0,by omega,rfl,by rw[decQR_zero];exact hQ0.out⟩
 case round=>
  clear hQ0;obtain⟨t,htg,rfl,hQ⟩:=hrel;have hsz:=hQ.out.size;obtain⟨s,hs⟩:∃ s,s=N - t:=⟨_,rfl⟩;rw[← hs];obtain⟨X,hX⟩:∃ X,X=decQR ks b t:=⟨_,rfl⟩;have hXl:X.length=16:=by rw[hX];exact decQR_length hb t
  rw[← hX] at hQ;have hl1:=LH (run_loadAt_arr (P:=prog) hQ.out.inp underlying73 (size61 hXl));have hs0:s≤N:=by omega
  by_cases hs1:1≤s
  ·obtain⟨g1,rfl⟩:∃ j,gk=j+1:=⟨gk - 1,by omega⟩;have hsucc:=decQR_succ (ks:=ks) (b:=b) (t:=t);rw[← hX,← hNd.out,← hs] at hsucc;have ha:=LH (hadd.out wr hQ.out.below X s hXl hs0);replace hX:=LH hX;replace hs:=LH hs;replace hsucc:=LH hsucc
   go_wp2_with (first|(refine wpList_load rfl 73 _ rfl _ _ rfl hl1.out ?_))
   refine ha.out.mono ?_;rintro e w3 ⟨rfl,hb3⟩;have hQ3:=hQ.out.after (hb3.mono hsz);obtain⟨Y,hY⟩:∃ Y,Y=addL X ks s 16:=⟨_,rfl⟩;rw[← hY];have hYl:Y.length=16:=hY ▸ addL_length.trans hXl;have hst:=block_store' hQ3.inp hXl Y hYl;have hQ4:=hQ3.put Y;obtain⟨w4,hw4⟩:∃ a,a=w3.setRow n (u8s Y).toArray:=⟨_,rfl⟩;rw[← hw4] at hst hQ4;replace hQ4:=LH hQ4;replace hst:=LH hst;replace hw4:=LH hw4;replace hY:=LH hY;clear hQ hQ3 hb3 hl1 ha;by_cases hsN:s<N
   ·have hl2:=LH (run_loadAt_arr (P:=prog) hQ4.out.inp underlying73 (size61 hYl));have hmx:=LH (qMixed4' Y hYl w4)
    go_wp2_with (first|(refine wpList_store rfl 73 _ _ rfl _ _ rfl rfl hst.out ?_)|(refine wpList_load rfl 73 _ rfl _ _ rfl hl2.out ?_))
    refine hmx.out.mono ?_;rintro e w5 ⟨rfl,hb5⟩;have hQ5:=hQ4.out.after (hb5.mono hQ4.out.size);clear hst hl2 hmx hb5 hQ4;obtain⟨S,hS'⟩:∃ S,S=mixF [14,11,13,9] Y 16:=⟨_,rfl⟩;rw[← hS'];have hSl:S.length=16:=hS' ▸ mixF_length;have hst:=block_store' hQ5.inp hYl S hSl;have hQ6:=hQ5.put S;obtain⟨w6,hw6⟩:∃ a,a=w5.setRow n (u8s S).toArray:=⟨_,rfl⟩;rw[← hw6] at hst hQ6;have hSe:S=nextQ [14,11,13,9] N s Y:=by rw[nextQ,if_pos hsN,hS']
    replace hQ6:=LH hQ6;replace hst:=LH hst;replace hw6:=LH hw6;replace hSe:=LH hSe;clear hQ5 hS';obtain⟨sq,hsq⟩:∃ q,q=w6.heap.size:=⟨_,rfl⟩;have hS0:Arr (w6.alloc (.cells #[.int .u8 0,.int .u8 0,.int .u8 0,.int .u8 0,.int .u8 0,.int .u8 0,.int .u8 0,.int .u8 0,.int .u8 0,.int .u8 0,.int .u8 0,.int .u8 0,.int .u8 0,.int .u8 0,.int .u8 0,.int .u8 0] 73)) sq 73 (unL bk S 0):=by rw[hsq,unL];exact heap_alloc_new w6 _
    have hQ7:QEn w n S (w6.alloc (.cells #[.int .u8 0,.int .u8 0,.int .u8 0,.int .u8 0,.int .u8 0,.int .u8 0,.int .u8 0,.int .u8 0,.int .u8 0,.int .u8 0,.int .u8 0,.int .u8 0,.int .u8 0,.int .u8 0,.int .u8 0,.int .u8 0] 73)):=hQ6.out.after ((Below.refl _ _).alloc (by have:=hQ6.out.size;omega) _);have hsn:n+2≤sq:=by have:=hQ6.out.size;omega
    replace hS0:=LH hS0;replace hQ7:=LH hQ7;replace hsq:=LH hsq;clear hQ6
    go_wp2_with (first|(refine wpList_store rfl 73 _ _ rfl _ _ rfl rfl hst.out ?_))
    rw[← hsq.out];clear hst
    go_loopg [8] 16 (fun g ii wr=>∃ k:Nat,k+g=16∧ii=.int .i64 k∧Hid (QEn w n S wr)∧Hid (Arr wr sq 73 (unL bk S k)))
    case atStart=>exact⟨0,by omega,rfl,hQ7.out,hS0.out⟩
    case round=>
     clear hQ7 hS0 hsz;obtain⟨k,hkg,rfl,hQ,hS⟩:=hrel;have hsz:=hQ.out.size;by_cases hk:k<16
     ·obtain⟨g2,rfl⟩:∃ j,gk=j+1:=⟨gk - 1,by omega⟩;obtain⟨q,hq⟩:∃ q,q=k % 4:=⟨_,rfl⟩;have hq1:(k:Int) % 4=q:=by omega
      have hq2:(k:Int).tmod 4=q:=by rw[Int.tmod_eq_emod_of_nonneg (by omega)];exact hq1
      have hq4:q<4:=by omega
      obtain⟨m,hm⟩:∃ m,m=k+4*q:=⟨_,rfl⟩;have hmi:(k:Int)+4*q=m:=by omega
      obtain⟨r,hr⟩:∃ r,r=m % 16:=⟨_,rfl⟩;have hr1:(m:Int) % 16=r:=by omega
      have hr2:(m:Int).tmod 16=r:=by rw[Int.tmod_eq_emod_of_nonneg (by omega)];exact hr1
      have hr16:r<16:=by omega
      obtain⟨B,hB⟩:∃ B,B=(S.getD k 0).toNat:=⟨_,rfl⟩;have hBl:B<256:=hB ▸ UInt8.toNat_lt _;have cB:=hQ.out.inp.cell k (by omega);rw[← hB] at cB;have hCw:=hC.out wr hQ.out.below;have cX:wr.cell? ⟨p,0,none⟩=some (.pointer (some ⟨tb,0,none⟩)):=by rw[cell_of hCw.box];rfl
      have cT:=hCw.tab.from B hBl;obtain⟨Z,hZ⟩:∃ Z,Z=(bk B).toNat:=⟨_,rfl⟩;rw[← hZ] at cT;have f0:=hS.out.frozen r;have c0:=hS.out.cell r (by rw[unL_length];exact hr16);have hset:=hS.out.set r (bk B);have hnx:(unL bk S k).set r (bk B)=unL bk S (k+1):=by rw[unL,← hq,← hm,← hr,← hB]
      rw[hnx,← hZ] at hset;have hQs:=hQ.out.after ((Below.refl (n+2) wr).setCell (p:=⟨sq,r,none⟩) (by show n+2≤sq;omega) (.int .u8 Z));have hpr:p<wr.heap.size:=heap_lt hCw.box;have htr:tb<wr.heap.size:=heap_lt hCw.tab;have hset2:Arr (wr.setCell ⟨sq,r,none⟩ (.int .u8 Z)).drew sq 73 (unL bk S (k+1)):=hset.keep rfl;have hQs2:QEn w n S (wr.setCell ⟨sq,r,none⟩ (.int .u8 Z)).drew:=hQs.after ((Below.refl _ _).drew);clear hset hQs hCw hZ hB hnx;replace hset2:=LH hset2;replace hQs2:=LH hQs2;replace hq:=LH hq;replace hm:=LH hm;replace hr:=LH hr;go_wp2
      go_region
      go_wp2;go_roundg g2
      case measure=>omega
      case rel=>exact⟨k+1,by omega,by go_num,hQs2.out,hset2.out⟩
     ·obtain rfl:k=16:=by omega
      clear hk hkg;obtain⟨U,hU⟩:∃ U,U=unL bk S 16:=⟨_,rfl⟩;rw[← hU] at hS;have hUl:U.length=16:=hU ▸ unL_length;have hl9:=LH (run_loadAt_arr (P:=prog) hS.out underlying73 (size61 hUl));have hst9:=LH (block_store' hQ.out.inp hSl U hUl);have hQ9:=LH (hQ.out.put U);have he:decQR ks b (t+1)=U:=by rw[hsucc.out,← hY.out,← hSe.out,hU]
      replace he:=LH he;clear hU hQ hS
      go_wp2_with (first|(refine wpList_load rfl 73 _ rfl _ _ rfl hl9.out ?_)|(refine wpList_store rfl 73 _ _ rfl _ _ rfl rfl hst9.out ?_))
      go_roundg g1
      case measure=>omega
      case rel=>exact⟨t+1,by omega,by have:=hs.out;have e:((N - (t+1):Nat):Int)=(s:Int) - 1:=(by omega);rw[e],he.out ▸ hQ9.out⟩
   ·obtain⟨S,hS'⟩:∃ S,S=Y:=⟨_,rfl⟩;have hSl:S.length=16:=hS' ▸ hYl;have hSe:S=nextQ [14,11,13,9] N s Y:=by rw[nextQ,if_neg hsN,hS']
    rw[← hS'] at hst hQ4;obtain⟨w6,hw6⟩:∃ a,a=w4:=⟨_,rfl⟩;rw[← hw6] at hst hQ4;have hQ6:=hQ4;rw[show Y=S from hS'.symm];replace hSe:=LH hSe;clear hQ4 hS' hw6 hw4;obtain⟨sq,hsq⟩:∃ q,q=w6.heap.size:=⟨_,rfl⟩;have hS0:Arr (w6.alloc (.cells #[.int .u8 0,.int .u8 0,.int .u8 0,.int .u8 0,.int .u8 0,.int .u8 0,.int .u8 0,.int .u8 0,.int .u8 0,.int .u8 0,.int .u8 0,.int .u8 0,.int .u8 0,.int .u8 0,.int .u8 0,.int .u8 0] 73)) sq 73 (unL bk S 0):=by rw[hsq,unL];exact heap_alloc_new w6 _
    have hQ7:QEn w n S (w6.alloc (.cells #[.int .u8 0,.int .u8 0,.int .u8 0,.int .u8 0,.int .u8 0,.int .u8 0,.int .u8 0,.int .u8 0,.int .u8 0,.int .u8 0,.int .u8 0,.int .u8 0,.int .u8 0,.int .u8 0,.int .u8 0,.int .u8 0] 73)):=hQ6.out.after ((Below.refl _ _).alloc (by have:=hQ6.out.size;omega) _);have hsn:n+2≤sq:=by have:=hQ6.out.size;omega
    replace hS0:=LH hS0;replace hQ7:=LH hQ7;replace hsq:=LH hsq;clear hQ6
    go_wp2_with (first|(refine wpList_store rfl 73 _ _ rfl _ _ rfl rfl hst.out ?_))
    rw[← hsq.out];clear hst
    go_loopg [8] 16 (fun g ii wr=>∃ k:Nat,k+g=16∧ii=.int .i64 k∧Hid (QEn w n S wr)∧Hid (Arr wr sq 73 (unL bk S k)))
    case atStart=>exact⟨0,by omega,rfl,hQ7.out,hS0.out⟩
    case round=>
     clear hQ7 hS0 hsz;obtain⟨k,hkg,rfl,hQ,hS⟩:=hrel;have hsz:=hQ.out.size;by_cases hk:k<16
     ·obtain⟨g2,rfl⟩:∃ j,gk=j+1:=⟨gk - 1,by omega⟩;obtain⟨q,hq⟩:∃ q,q=k % 4:=⟨_,rfl⟩;have hq1:(k:Int) % 4=q:=by omega
      have hq2:(k:Int).tmod 4=q:=by rw[Int.tmod_eq_emod_of_nonneg (by omega)];exact hq1
      have hq4:q<4:=by omega
      obtain⟨m,hm⟩:∃ m,m=k+4*q:=⟨_,rfl⟩;have hmi:(k:Int)+4*q=m:=by omega
      obtain⟨r,hr⟩:∃ r,r=m % 16:=⟨_,rfl⟩;have hr1:(m:Int) % 16=r:=by omega
      have hr2:(m:Int).tmod 16=r:=by rw[Int.tmod_eq_emod_of_nonneg (by omega)];exact hr1
      have hr16:r<16:=by omega
      obtain⟨B,hB⟩:∃ B,B=(S.getD k 0).toNat:=⟨_,rfl⟩;have hBl:B<256:=hB ▸ UInt8.toNat_lt _;have cB:=hQ.out.inp.cell k (by omega);rw[← hB] at cB;have hCw:=hC.out wr hQ.out.below;have cX:wr.cell? ⟨p,0,none⟩=some (.pointer (some ⟨tb,0,none⟩)):=by rw[cell_of hCw.box];rfl
      have cT:=hCw.tab.from B hBl;obtain⟨Z,hZ⟩:∃ Z,Z=(bk B).toNat:=⟨_,rfl⟩;rw[← hZ] at cT;have f0:=hS.out.frozen r;have c0:=hS.out.cell r (by rw[unL_length];exact hr16);have hset:=hS.out.set r (bk B);have hnx:(unL bk S k).set r (bk B)=unL bk S (k+1):=by rw[unL,← hq,← hm,← hr,← hB]
      rw[hnx,← hZ] at hset;have hQs:=hQ.out.after ((Below.refl (n+2) wr).setCell (p:=⟨sq,r,none⟩) (by show n+2≤sq;omega) (.int .u8 Z));have hpr:p<wr.heap.size:=heap_lt hCw.box;have htr:tb<wr.heap.size:=heap_lt hCw.tab;have hset2:Arr (wr.setCell ⟨sq,r,none⟩ (.int .u8 Z)).drew sq 73 (unL bk S (k+1)):=hset.keep rfl;have hQs2:QEn w n S (wr.setCell ⟨sq,r,none⟩ (.int .u8 Z)).drew:=hQs.after ((Below.refl _ _).drew);clear hset hQs hCw hZ hB hnx;replace hset2:=LH hset2;replace hQs2:=LH hQs2;replace hq:=LH hq;replace hm:=LH hm;replace hr:=LH hr;go_wp2
      go_region
      go_wp2;go_roundg g2
      case measure=>omega
      case rel=>exact⟨k+1,by omega,by go_num,hQs2.out,hset2.out⟩
     ·obtain rfl:k=16:=by omega
      clear hk hkg;obtain⟨U,hU⟩:∃ U,U=unL bk S 16:=⟨_,rfl⟩;rw[← hU] at hS;have hUl:U.length=16:=hU ▸ unL_length;have hl9:=LH (run_loadAt_arr (P:=prog) hS.out underlying73 (size61 hUl));have hst9:=LH (block_store' hQ.out.inp hSl U hUl);have hQ9:=LH (hQ.out.put U);have he:decQR ks b (t+1)=U:=by rw[hsucc.out,← hY.out,← hSe.out,hU]
      replace he:=LH he;clear hU hQ hS
      go_wp2_with (first|(refine wpList_load rfl 73 _ rfl _ _ rfl hl9.out ?_)|(refine wpList_store rfl 73 _ _ rfl _ _ rfl rfl hst9.out ?_))
      go_roundg g1
      case measure=>omega
      case rel=>exact⟨t+1,by omega,by have:=hs.out;have e:((N - (t+1):Nat):Int)=(s:Int) - 1:=(by omega);rw[e],he.out ▸ hQ9.out⟩
  ·obtain rfl:t=N:=by omega
   obtain rfl:s=0:=by omega
   have ha:=LH (hadd.out wr hQ.out.below X 0 hXl (by omega));replace hX:=LH hX;replace hs:=LH hs;clear htg hs1
   go_wp2_with (first|(refine wpList_load rfl 73 _ rfl _ _ rfl hl1.out ?_))
   refine ha.out.mono ?_;rintro e w3 ⟨rfl,hb3⟩;have hQ3:=hQ.out.after (hb3.mono hsz);obtain⟨Y,hY⟩:∃ Y,Y=addL X ks 0 16:=⟨_,rfl⟩;rw[← hY];have hYl:Y.length=16:=hY ▸ addL_length.trans hXl;have hst5:=LH (block_store' hQ3.res List.length_replicate Y hYl);have hfin:=LH (hQ3.res.setRow Y);have hi:=LH (size61 hYl);have hbw:=LH (below_setRow hQ3.below (g:=n+1) (by omega) (u8s Y).toArray);replace hY:=LH hY;clear hQ hQ3 hb3 hl1 ha
   go_wp2_with (first|(refine wpList_store rfl 73 _ _ rfl _ _ rfl rfl hst5.out ?_))
   refine bodyPost_ret (results_cell_row results47 _ _ (n+1) 73 _ (0,0) _ rfl hfin.out underlying73 rfl (by rw[hi.out];simp[u8s_length])) rfl ⟨by rw[hY.out,hX.out,← hNd.out],HN.out ▸ hbw.out⟩
end Go.Proofs.YtbgfdbidbjlaaaaGreat.Fd
/-
  The document's own NewBox. No condition beyond what each theorem names.
-/
namespace Go.Proofs.YtbgfdbidbjlaaaaGreat.Fd
open _root_.Go.Proofs.Tryz
open Go Go.RowKit K
set_option maxRecDepth 1000000
set_option maxHeartbeats 8000000
def n64s (l:List Nat):List Value:=l.map fun (x:Nat)=>.int .i64 x
theorem n64s_set (l:List Nat) (i x:Nat):n64s (l.set i x)=(n64s l).set i (.int .i64 x):=by simp[n64s,List.map_set]
def ArrI (w:World) (b:Nat) (t:TypeId) (l:List Nat):Prop:=w.heap[b]?=some (.cells (n64s l).toArray t (0,0))
theorem ArrI.cell {w:World}{b:Nat}{t:TypeId}{l:List Nat}(h:ArrI w b t l) (j:Nat) (hj:j<l.length):w.cell? ⟨b,j,none⟩=some (.int .i64 (l.getD j 0:Nat)):=by
 rw[cell_of h];simp[n64s,List.getD,hj]
theorem ArrI.frozen {w:World}{b:Nat}{t:TypeId}{l:List Nat}(h:ArrI w b t l) (j:Nat):w.frozen? ⟨b,j,none⟩=false:=frozen_of h j
theorem ArrI.set {w:World}{b:Nat}{t:TypeId}{l:List Nat}(h:ArrI w b t l) (j x:Nat):ArrI (w.setCell ⟨b,j,none⟩ (.int .i64 x)) b t (l.set j x):=by
 unfold ArrI;rw[setCell_block h,n64s_set];simp
theorem ArrI.keep {w w':World}{b:Nat}{t:TypeId}{l:List Nat}(h:ArrI w b t l) (e:w'.heap[b]?=w.heap[b]?):ArrI w' b t l:=e.trans h
theorem ArrI.of {w:World}{b:Nat}{t:TypeId}{l:List Nat}{cs:Array Value}(e:cs=(n64s l).toArray) (h:w.heap[b]?=some (.cells cs t (0,0))):ArrI w b t l:=by
 subst e;exact h
theorem zeroQBox:Tryz.zeroCells89=(u8s (List.replicate 512 0)).toArray:=by kernel_rfl
theorem zeroI256:Tryz.zeroCells91=(n64s (List.replicate 256 0)).toArray:=by kernel_rfl
theorem mod8 (j c:Nat):((j:Int)+c) % 8=((j+c) % 8:Nat):=by omega
theorem tmod8 (j c:Nat):((j:Int)+c).tmod 8=((j+c) % 8:Nat):=by rw[Int.tmod_eq_emod_of_nonneg (by omega)];omega
theorem sh_lt {x j:Nat}(hj:j<8):x % 2*2 ^ j<256:=by
 have h1:2 ^ j≤2 ^ 7:=Nat.pow_le_pow_right (by omega) (by omega);have h2:x % 2*2 ^ j≤1*2 ^ 7:=Nat.mul_le_mul (by omega) h1;omega
theorem u8_same {v:Nat}(h:v<256):IntKind.u8.wrap (v:Int)=v:=by rw[IntKind.wrap_u8'];omega
theorem mod_same {v:Nat}(h:v<256):(v:Int) % 256=v:=by omega
def atL:Nat→List Nat
 | 0=>List.replicate 256 0
 | k+1=>(atL k).set (pwX k).toNat k
theorem atL_length:∀ {k:Nat},(atL k).length=256
 | 0=>List.length_replicate
 | _+1=>List.length_set.trans atL_length
theorem atL_lt:∀ {k:Nat},k≤255→∀ j,(atL k).getD j 0<255
 | 0,_,j=>by
  simp only[atL,List.getD,List.getElem?_replicate];split<;>simp
 | k+1,hk,j=>by
  by_cases h:(pwX k).toNat=j
  ·subst h;have hl:=UInt8.toNat_lt (pwX k);simp only[atL,List.getD];rw[List.getElem?_set_self (by rw[atL_length];omega)];show k<255;omega
  ·simp only[atL,List.getD,List.getElem?_set_ne h];exact atL_lt (by omega) j
theorem atL_succ {k:Nat}:(atL k).set (pwX k).toNat k=atL (k+1):=rfl
theorem mulQ_3:∀ a,a<256→mulQ a 3 8=a ^^^ twice a:=by decide +kernel
def affX (b i:Nat):Nat:=b / 2 ^ i ^^^ b / 2 ^ ((i+4) % 8) ^^^ b / 2 ^ ((i+5) % 8) ^^^ b / 2 ^ ((i+6) % 8) ^^^ b / 2 ^ ((i+7) % 8) ^^^ 99 / 2 ^ i
def affQ (b:Nat):Nat→Nat
 | 0=>0
 | i+1=>(affQ b i ||| affX b i % 2*2 ^ i) % 256
theorem affQ_zero {b:Nat}:affQ b 0=0:=rfl
theorem affQ_lt {b i:Nat}:affQ b i<256:=by
 cases i with
 | zero=>rw[affQ_zero];omega
 | succ i=>exact Nat.mod_lt _ (by omega)
theorem affQ_succ8 {b i:Nat}(hi:i<8):affQ b (i+1)=affQ b i ||| affX b i % 2*2 ^ i:=by
 show (affQ b i ||| affX b i % 2*2 ^ i) % 256=_;refine Nat.mod_eq_of_lt (Nat.or_lt_two_pow (n:=8) affQ_lt ?_);have h1:2 ^ i≤2 ^ 7:=Nat.pow_le_pow_right (by omega) (by omega);have h2:affX b i % 2*2 ^ i≤1*2 ^ 7:=Nat.mul_le_mul (by omega) h1;omega
def bQ (k:Nat):Nat:=if k=0 then 0 else ((pwL 255).getD ((255 - (atL 255).getD k 0) % 255) 0).toNat
def rQ (k:Nat):Nat:=affQ (bQ k) 8
def boxL:Nat→List UInt8
 | 0=>List.replicate 512 0
 | k+1=>((boxL k).set k (byte (rQ k))).set (256+rQ k) (byte k)
theorem boxL_zero:boxL 0=List.replicate 512 0:=rfl
theorem boxL_succ {k:Nat}:boxL (k+1)=((boxL k).set k (byte (rQ k))).set (256+rQ k) (byte k):=rfl
theorem boxL_length:∀ {k:Nat},(boxL k).length=512
 | 0=>List.length_replicate
 | _+1=>List.length_set.trans (List.length_set.trans boxL_length)
theorem box_eq:boxL 256=sbL 255++bkL 256:=by decide +kernel
attribute [irreducible] affX affQ atL boxL bQ
structure QBx (w:World) (n:Nat) (u:List UInt8) (a:List Nat) (x:List UInt8) (y:World):Prop where
 below:Below n w y
 box:Arr y n 89 x
 up:Arr y (n+1) 90 u
 att:ArrI y (n+2) 91 a
theorem QBx.drew {w:World}{n:Nat}{u:List UInt8}{a:List Nat}{x:List UInt8}{y:World}(s:QBx w n u a x y):QBx w n u a x y.drew:=
 ⟨s.below.drew,s.box.keep rfl,s.up.keep rfl,s.att.keep rfl⟩
theorem QBx.setBox {w:World}{n:Nat}{u:List UInt8}{a:List Nat}{x:List UInt8}{y:World}(s:QBx w n u a x y) (j:Nat) (c:UInt8):QBx w n u a (x.set j c) (y.setCell ⟨n,j,none⟩ (.int .u8 c.toNat)):=
 ⟨s.below.setCell (p:=⟨n,j,none⟩) (Nat.le_refl n) _,s.box.set j c,s.up.keep (setCell_heap_ne _ _ _ (by show n+1≠n;omega)),s.att.keep (setCell_heap_ne _ _ _ (by show n+2≠n;omega))⟩
theorem QBx.setUp {w:World}{n:Nat}{u:List UInt8}{a:List Nat}{x:List UInt8}{y:World}(s:QBx w n u a x y) (j:Nat) (c:UInt8):QBx w n (u.set j c) a x (y.setCell ⟨n+1,j,none⟩ (.int .u8 c.toNat)):=
 ⟨s.below.setCell (p:=⟨n+1,j,none⟩) (by show n≤n+1;omega) _,s.box.keep (setCell_heap_ne _ _ _ (by show n≠n+1;omega)),s.up.set j c,s.att.keep (setCell_heap_ne _ _ _ (by show n+2≠n+1;omega))⟩
theorem QBx.setAt {w:World}{n:Nat}{u:List UInt8}{a:List Nat}{x:List UInt8}{y:World}(s:QBx w n u a x y) (j c:Nat):QBx w n u (a.set j c) x (y.setCell ⟨n+2,j,none⟩ (.int .i64 c)):=
 ⟨s.below.setCell (p:=⟨n+2,j,none⟩) (by show n≤n+2;omega) _,s.box.keep (setCell_heap_ne _ _ _ (by show n≠n+2;omega)),s.up.keep (setCell_heap_ne _ _ _ (by show n+1≠n+2;omega)),s.att.set j c⟩
theorem qBox_ok (w:World):Calls prog 21 #[] w fun e w'=>e=.returned (.pointer (some ⟨w.heap.size,0,none⟩))∧QBoxAt w' w.heap.size∧Below w.heap.size w w':=by
 obtain⟨n,hn⟩:∃ n,n=w.heap.size:=⟨_,rfl⟩;have HN:=LH hn
 have HX:QBx w n (pwL 0) (atL 0) (boxL 0) (((w.alloc (.cells Tryz.zeroCells89 89)).alloc (.cells Tryz.zeroCells90 90)).alloc (.cells Tryz.zeroCells91 91)):=by
  obtain⟨w1,h1⟩:∃ x,x=w.alloc (.cells Tryz.zeroCells89 89):=⟨_,rfl⟩;obtain⟨w2,h2⟩:∃ x,x=w1.alloc (.cells Tryz.zeroCells90 90):=⟨_,rfl⟩;obtain⟨w3,h3⟩:∃ x,x=w2.alloc (.cells Tryz.zeroCells91 91):=⟨_,rfl⟩;rw[← h1,← h2,← h3];have s1:w1.heap.size=n+1:=by rw[h1,hn];simp
  have s2:w2.heap.size=n+2:=by rw[h2];simp[s1]
  have a1:Arr w1 n 89 (boxL 0):=by rw[h1,hn,boxL_zero];exact Arr.of zeroQBox (heap_alloc_new w _)
  have a2:Arr w2 (n+1) 90 (pwL 0):=by rw[h2,← s1,pwL];exact Arr.of zero145 (heap_alloc_new w1 _)
  have a3:ArrI w3 (n+2) 91 (atL 0):=by rw[h3,← s2,atL];exact ArrI.of zeroI256 (heap_alloc_new w2 _)
  have b1:Below n w w1:=by rw[h1,hn];exact (Below.refl _ _).alloc (Nat.le_refl _) _
  have b2:Below (n+1) w1 w2:=by rw[h2,← s1];exact (Below.refl _ _).alloc (Nat.le_refl _) _
  have b3:Below (n+2) w2 w3:=by rw[h3,← s2];exact (Below.refl _ _).alloc (Nat.le_refl _) _
  exact⟨(b1.trans (b2.mono (by omega))).trans (b3.mono (by omega)),(a1.keep (b2.block n (by omega))).keep (b3.block n (by omega)),a2.keep (b3.block _ (by omega)),a3⟩
 replace HX:=LH HX;clear hn;go_enter func21,ntmps21;go_wp2;rw[← HN.out]
 go_loopg [4,5] 255 (fun g vv ii wr=>∃ k:Nat,k+g=255∧ii=.int .i64 k∧vv=.int .u8 (pwX k).toNat∧Hid (QBx w n (pwL k) (atL k) (boxL 0) wr))
 case atStart=>exact⟨0,by omega,rfl,rfl,HX.out⟩
 case round=>
  clear HX;obtain⟨k,hkg,rfl,rfl,hQ⟩:=hrel;by_cases hk:k<255
  ·obtain⟨g1,rfl⟩:∃ j,gk=j+1:=⟨gk - 1,by omega⟩;obtain⟨X,hX⟩:∃ X,X=pwX k:=⟨_,rfl⟩;rw[← hX];have hXl:=X.toNat_lt;have f0:=hQ.out.up.frozen k;have c0:=hQ.out.up.cell k (by rw[pwL_length];omega);have hs1:=hQ.out.setUp k X;rw[show (pwL k).set k X=pwL (k+1) by rw[pwL,hX]] at hs1;obtain⟨x,hx⟩:∃ x,x=X.toNat:=⟨_,rfl⟩;rw[← hx] at hXl hs1 ⊢;have hxi:(x:Int)<256:=by omega
   obtain⟨w2,hw2⟩:∃ a,a=wr.setCell ⟨n+1,k,none⟩ (.int .u8 x):=⟨_,rfl⟩;rw[← hw2] at hs1;have f1:=hs1.att.frozen x;have c1:=hs1.att.cell x (by rw[atL_length];omega);have hs2:=hs1.setAt x k;rw[hx,hX,atL_succ,← hX,← hx] at hs2
   have hmul:mulQ x 3 8=(pwX (k+1)).toNat:=by
    rw[mulQ_3 x hXl,pwX,← hX,← hx,byte_toNat (xor8 hXl twice_lt)]
   obtain⟨w3,hw3⟩:∃ a,a=w2.setCell ⟨n+2,x,none⟩ (.int .i64 k):=⟨_,rfl⟩;rw[← hw3] at hs2;have hcall:=LH (qMul_ok x 3 hXl (by omega) w3);rw[hw2] at f1 c1 hw3;have hw3':=LH hw3;replace hs2:=LH hs2;replace hw2:=LH hw2;replace hX:=LH hX;replace hx:=LH hx;replace hmul:=LH hmul;clear hs1 hQ hw3
   go_wp2_with (fail)
   rw[← hw3'.out];refine hcall.out.mono ?_;rintro e w4 ⟨rfl,rfl⟩;clear hcall hw3' c1 f1 c0 f0;go_wp2;go_roundg g1
   case measure=>omega
   case rel=>exact⟨k+1,by omega,by go_num,by rw[hmul.out],hs2.out⟩
  ·obtain rfl:k=255:=by omega
   obtain⟨X,hX⟩:∃ X,X=(pwX 255).toNat:=⟨_,rfl⟩;rw[← hX];clear hX hk hkg;go_wp2
   go_loopg [6,7,8,9,10] 256 (fun g aa _ _ _ _ wr=>∃ k:Nat,k+g=256∧aa=.int .i64 k∧Hid (QBx w n (pwL 255) (atL 255) (boxL k) wr))
   case atStart=>exact⟨0,by omega,rfl,hQ.out⟩
   case round=>
    clear hQ;obtain⟨k,hkg,rfl,hQ⟩:=hrel;by_cases hk2:k<256
    ·obtain⟨g1,rfl⟩:∃ j,gk=j+1:=⟨gk - 1,by omega⟩;by_cases hk0:k=0
     ·obtain⟨B,hB⟩:∃ B:Nat,B=0:=⟨_,rfl⟩;have hBk:B=bQ k:=by rw[bQ,if_pos hk0,hB]
      have hBl:B<256:=by omega
      have hBz:(0:Int)=B:=by omega
      have hkz:(0:Int)=k:=by omega
      clear hBz hkz;subst hk0;replace hBk:=LH hBk;replace hB:=LH hB;go_wp2
      go_loopg [8,9,10] 8 (fun g rr ii _ wr=>∃ j:Nat,j+g=8∧ii=.int .i64 j∧rr=.int .u8 (affQ B j)∧Hid (QBx w n (pwL 255) (atL 255) (boxL 0) wr))
      case atStart=>exact⟨0,by omega,rfl,by rw[affQ_zero];rfl,hQ.out⟩
      case round=>
       clear hQ;obtain⟨j,hjg,rfl,rfl,hQ⟩:=hrel;obtain⟨R,hR⟩:∃ R,R=affQ B j:=⟨_,rfl⟩;rw[← hR];have hRl:R<256:=hR ▸ affQ_lt;by_cases hj8:j<8
       ·obtain⟨g2,rfl⟩:∃ q,gk=q+1:=⟨gk - 1,by omega⟩;have hsucc:=affQ_succ8 (b:=B) (i:=j) hj8;rw[← hR] at hsucc;obtain⟨x,hx⟩:∃ x,x=affX B j:=⟨_,rfl⟩;rw[← hx] at hsucc;rw[affX] at hx;have m0:min j 8=j:=Nat.min_eq_left (Nat.le_of_lt hj8);obtain⟨y9,g9⟩:∃ x,x=99 / 2 ^ j:=⟨_,rfl⟩;have z9:y9<256:=g9 ▸ Nat.lt_of_le_of_lt (Nat.div_le_self _ _) (by decide);have d9:(99:Int) / 2 ^ j=y9:=by rw[g9];simp
        have hx9:x=y9:=by
         rw[hx,hB.out,g9];simp
        have wx:x<256:=hx9 ▸ z9;have bz:bits .xor .u8 (0:Int) (0:Int)=0:=by decide
        have b9:bits .xor .u8 (0:Int) (y9:Int)=x:=by rw[hx9];have h:=u8_xor_nat 0 y9 (by omega) z9;simpa using h
        replace hx9:=LH hx9;have ha:bits .and .u8 (x:Int) 1=((x % 2:Nat):Int):=by have h:=u8_and_nat x 1 wx (by omega);rw[nat_mask1] at h;exact h
        obtain⟨c,hc⟩:∃ c,c=x % 2:=⟨_,rfl⟩;rw[← hc] at ha hsucc;obtain⟨v,hv⟩:∃ v,v=c*2 ^ j:=⟨_,rfl⟩;rw[← hv] at hsucc;have hvl:v<256:=by rw[hv,hc];exact sh_lt hj8
        have hvi:(c:Int)*2 ^ j=v:=by rw[hv];simp
        have hvw:IntKind.u8.wrap ((c:Int)*2 ^ j)=v:=by rw[hvi];exact u8_same hvl
        have hv2:((c:Int)*2 ^ j) % 256=v:=by rw[hvi];exact mod_same hvl
        have hvv:(v:Int) % 256=v:=mod_same hvl;have ho:bits .or .u8 (R:Int) (v:Int)=((R ||| v:Nat):Int):=u8_or_nat R v hRl hvl;obtain⟨R2,hR2⟩:∃ R2,R2=R ||| v:=⟨_,rfl⟩
        rw[← hR2] at ho hsucc;replace hsucc:=LH hsucc;replace hx:=LH hx;replace g9:=LH g9;replace hc:=LH hc;replace hv:=LH hv;replace hR2:=LH hR2;replace hR:=LH hR;have hQd:=LH (hQ.out.drew);go_wp2
        go_region
        go_wp2;go_roundg g2
        case measure=>omega
        case rel=>exact⟨j+1,by omega,by go_num,by rw[hsucc.out],hQd.out⟩
       ·obtain rfl:j=8:=by omega
        have hRQ:R=rQ 0:=by rw[hR,hBk.out];rfl
        have hRi:(R:Int)<256:=by omega
        have f0:=hQ.out.box.frozen 0;have c0:=hQ.out.box.cell 0 (by rw[boxL_length];omega);have hset:=hQ.out.setBox 0 (byte R);rw[byte_toNat hRl] at hset;obtain⟨w2,hw2⟩:∃ a,a=wr.setCell ⟨n,0,none⟩ (.int .u8 R):=⟨_,rfl⟩;rw[← hw2] at hset;have f1:=hset.box.frozen (256+R);have c1:=hset.box.cell (256+R) (by rw[List.length_set,boxL_length];omega);have hset2:=hset.setBox (256+R) (byte 0);rw[byte_toNat hk2,hRQ,← boxL_succ,← hRQ] at hset2;have hnw:n<wr.heap.size:=heap_lt hQ.out.box;rw[hw2] at f1 c1 hset2;replace hset2:=LH hset2;replace hw2:=LH hw2;replace hRQ:=LH hRQ;replace hR:=LH hR;clear hset hQ;go_wp2;go_roundg g1
        case measure=>omega
        case rel=>exact⟨0+1,by omega,by go_num,hset2.out⟩
     ·have hkp:(0:Int)<k:=by omega
      obtain⟨q,hq⟩:∃ q,q=(atL 255).getD k 0:=⟨_,rfl⟩;have hq255:q<255:=hq ▸ atL_lt (Nat.le_refl _) k;have cq:=hQ.out.att.cell k (by rw[atL_length];omega);rw[← hq] at cq;obtain⟨M,hM⟩:∃ M,M=(255 - q) % 255:=⟨_,rfl⟩;have hM1:(255 - (q:Int)) % 255=M:=by omega
      have hM2:(255 - (q:Int)).tmod 255=M:=by rw[Int.tmod_eq_emod_of_nonneg (by omega)];exact hM1
      have hMl:M<255:=by omega
      have cM:=hQ.out.up.cell M (by rw[pwL_length];omega);obtain⟨B,hB⟩:∃ B,B=((pwL 255).getD M 0).toNat:=⟨_,rfl⟩;rw[← hB] at cM;have hBl:B<256:=hB ▸ UInt8.toNat_lt _;have hBk:B=bQ k:=by rw[bQ,if_neg hk0,← hq,← hM,hB]
      replace hBk:=LH hBk;replace hB:=LH hB;replace hM:=LH hM;replace hq:=LH hq;go_wp2
      go_loopg [8,9,10] 8 (fun g rr ii _ wr=>∃ j:Nat,j+g=8∧ii=.int .i64 j∧rr=.int .u8 (affQ B j)∧Hid (QBx w n (pwL 255) (atL 255) (boxL k) wr))
      case atStart=>exact⟨0,by omega,rfl,by rw[affQ_zero];rfl,hQ.out⟩
      case round=>
       clear hQ;obtain⟨j,hjg,rfl,rfl,hQ⟩:=hrel;obtain⟨R,hR⟩:∃ R,R=affQ B j:=⟨_,rfl⟩;rw[← hR];have hRl:R<256:=hR ▸ affQ_lt;by_cases hj8:j<8
       ·obtain⟨g2,rfl⟩:∃ q,gk=q+1:=⟨gk - 1,by omega⟩;have hsucc:=affQ_succ8 (b:=B) (i:=j) hj8;rw[← hR] at hsucc;obtain⟨x,hx⟩:∃ x,x=affX B j:=⟨_,rfl⟩;rw[← hx] at hsucc;rw[affX] at hx;obtain⟨j4,h4⟩:∃ x,x=(j+4) % 8:=⟨_,rfl⟩;obtain⟨j5,h5⟩:∃ x,x=(j+5) % 8:=⟨_,rfl⟩;obtain⟨j6,h6⟩:∃ x,x=(j+6) % 8:=⟨_,rfl⟩;obtain⟨j7,h7⟩:∃ x,x=(j+7) % 8:=⟨_,rfl⟩;rw[← h4,← h5,← h6,← h7] at hx;have t4:((j:Int)+4).tmod 8=j4:=h4 ▸ tmod8 j 4;have t5:((j:Int)+5).tmod 8=j5:=h5 ▸ tmod8 j 5;have t6:((j:Int)+6).tmod 8=j6:=h6 ▸ tmod8 j 6;have t7:((j:Int)+7).tmod 8=j7:=h7 ▸ tmod8 j 7;have s4:((j:Int)+4) % 8=j4:=h4 ▸ mod8 j 4;have s5:((j:Int)+5) % 8=j5:=h5 ▸ mod8 j 5;have s6:((j:Int)+6) % 8=j6:=h6 ▸ mod8 j 6;have s7:((j:Int)+7) % 8=j7:=h7 ▸ mod8 j 7;have l4:j4<8:=h4 ▸ Nat.mod_lt _ (by decide);have l5:j5<8:=h5 ▸ Nat.mod_lt _ (by decide);have l6:j6<8:=h6 ▸ Nat.mod_lt _ (by decide);have l7:j7<8:=h7 ▸ Nat.mod_lt _ (by decide);have m0:min j 8=j:=Nat.min_eq_left (Nat.le_of_lt hj8);have m4:min j4 8=j4:=Nat.min_eq_left (Nat.le_of_lt l4);have m5:min j5 8=j5:=Nat.min_eq_left (Nat.le_of_lt l5);have m6:min j6 8=j6:=Nat.min_eq_left (Nat.le_of_lt l6);have m7:min j7 8=j7:=Nat.min_eq_left (Nat.le_of_lt l7);obtain⟨y0,g0⟩:∃ x,x=B / 2 ^ j:=⟨_,rfl⟩;obtain⟨y4,g4⟩:∃ x,x=B / 2 ^ j4:=⟨_,rfl⟩;obtain⟨y5,g5⟩:∃ x,x=B / 2 ^ j5:=⟨_,rfl⟩;obtain⟨y6,g6⟩:∃ x,x=B / 2 ^ j6:=⟨_,rfl⟩;obtain⟨y7,g7⟩:∃ x,x=B / 2 ^ j7:=⟨_,rfl⟩;obtain⟨y9,g9⟩:∃ x,x=99 / 2 ^ j:=⟨_,rfl⟩;rw[← g0,← g4,← g5,← g6,← g7,← g9] at hx;have z0:y0<256:=g0 ▸ Nat.lt_of_le_of_lt (Nat.div_le_self _ _) hBl;have z4:y4<256:=g4 ▸ Nat.lt_of_le_of_lt (Nat.div_le_self _ _) hBl;have z5:y5<256:=g5 ▸ Nat.lt_of_le_of_lt (Nat.div_le_self _ _) hBl;have z6:y6<256:=g6 ▸ Nat.lt_of_le_of_lt (Nat.div_le_self _ _) hBl;have z7:y7<256:=g7 ▸ Nat.lt_of_le_of_lt (Nat.div_le_self _ _) hBl;have z9:y9<256:=g9 ▸ Nat.lt_of_le_of_lt (Nat.div_le_self _ _) (by decide);have d0:(B:Int) / 2 ^ j=y0:=by rw[g0];simp
        have d4:(B:Int) / 2 ^ j4=y4:=by rw[g4];simp
        have d5:(B:Int) / 2 ^ j5=y5:=by rw[g5];simp
        have d6:(B:Int) / 2 ^ j6=y6:=by rw[g6];simp
        have d7:(B:Int) / 2 ^ j7=y7:=by rw[g7];simp
        have d9:(99:Int) / 2 ^ j=y9:=by rw[g9];simp
        obtain⟨x4,e4⟩:∃ x,x=y0 ^^^ y4:=⟨_,rfl⟩;obtain⟨x5,e5⟩:∃ x,x=x4 ^^^ y5:=⟨_,rfl⟩;obtain⟨x6,e6⟩:∃ x,x=x5 ^^^ y6:=⟨_,rfl⟩;obtain⟨x7,e7⟩:∃ x,x=x6 ^^^ y7:=⟨_,rfl⟩;rw[← e4,← e5,← e6,← e7] at hx;have w4:x4<256:=e4 ▸ xor8 z0 z4;have w5:x5<256:=e5 ▸ xor8 w4 z5;have w6:x6<256:=e6 ▸ xor8 w5 z6;have w7:x7<256:=e7 ▸ xor8 w6 z7;have wx:x<256:=hx ▸ xor8 w7 z9;have b4:bits .xor .u8 (y0:Int) (y4:Int)=x4:=by rw[u8_xor_nat _ _ z0 z4,e4]
        have b5:bits .xor .u8 (x4:Int) (y5:Int)=x5:=by rw[u8_xor_nat _ _ w4 z5,e5]
        have b6:bits .xor .u8 (x5:Int) (y6:Int)=x6:=by rw[u8_xor_nat _ _ w5 z6,e6]
        have b7:bits .xor .u8 (x6:Int) (y7:Int)=x7:=by rw[u8_xor_nat _ _ w6 z7,e7]
        have b9:bits .xor .u8 (x7:Int) (y9:Int)=x:=by rw[u8_xor_nat _ _ w7 z9,hx]
        have ha:bits .and .u8 (x:Int) 1=((x % 2:Nat):Int):=by have h:=u8_and_nat x 1 wx (by omega);rw[nat_mask1] at h;exact h
        obtain⟨c,hc⟩:∃ c,c=x % 2:=⟨_,rfl⟩;rw[← hc] at ha hsucc;obtain⟨v,hv⟩:∃ v,v=c*2 ^ j:=⟨_,rfl⟩;rw[← hv] at hsucc;have hvl:v<256:=by rw[hv,hc];exact sh_lt hj8
        have hvi:(c:Int)*2 ^ j=v:=by rw[hv];simp
        have hvw:IntKind.u8.wrap ((c:Int)*2 ^ j)=v:=by rw[hvi];exact u8_same hvl
        have hv2:((c:Int)*2 ^ j) % 256=v:=by rw[hvi];exact mod_same hvl
        have hvv:(v:Int) % 256=v:=mod_same hvl;have ho:bits .or .u8 (R:Int) (v:Int)=((R ||| v:Nat):Int):=u8_or_nat R v hRl hvl;obtain⟨R2,hR2⟩:∃ R2,R2=R ||| v:=⟨_,rfl⟩
        rw[← hR2] at ho hsucc;replace hsucc:=LH hsucc;replace hx:=LH hx;replace h4:=LH h4;replace h5:=LH h5;replace h6:=LH h6;replace h7:=LH h7;replace g0:=LH g0;replace g4:=LH g4;replace g5:=LH g5;replace g6:=LH g6;replace g7:=LH g7;replace g9:=LH g9;replace e4:=LH e4;replace e5:=LH e5;replace e6:=LH e6;replace e7:=LH e7;replace hc:=LH hc;replace hv:=LH hv;replace hR2:=LH hR2;replace hR:=LH hR;have hQd:=LH (hQ.out.drew);go_wp2
        go_region
        go_wp2;go_roundg g2
        case measure=>omega
        case rel=>exact⟨j+1,by omega,by go_num,by rw[hsucc.out],hQd.out⟩
       ·obtain rfl:j=8:=by omega
        have hRQ:R=rQ k:=by rw[hR,hBk.out];rfl
        have hRi:(R:Int)<256:=by omega
        have f0:=hQ.out.box.frozen k;have c0:=hQ.out.box.cell k (by rw[boxL_length];omega);have hset:=hQ.out.setBox k (byte R);rw[byte_toNat hRl] at hset;obtain⟨w2,hw2⟩:∃ a,a=wr.setCell ⟨n,k,none⟩ (.int .u8 R):=⟨_,rfl⟩;rw[← hw2] at hset;have f1:=hset.box.frozen (256+R);have c1:=hset.box.cell (256+R) (by rw[List.length_set,boxL_length];omega);have hset2:=hset.setBox (256+R) (byte k);rw[byte_toNat hk2,hRQ,← boxL_succ,← hRQ] at hset2;have hkw:IntKind.u8.wrap (k:Int)=k:=by rw[IntKind.wrap_u8'];omega
        have hkm:(k:Int) % 256=k:=by omega
        have hnw:n<wr.heap.size:=heap_lt hQ.out.box;rw[hw2] at f1 c1 hset2;replace hset2:=LH hset2;replace hw2:=LH hw2;replace hRQ:=LH hRQ;replace hR:=LH hR;clear hset hQ;go_wp2;go_roundg g1
        case measure=>omega
        case rel=>exact⟨k+1,by omega,by go_num,hset2.out⟩
    ·obtain rfl:k=256:=by omega
     clear hk2 hkg;rw[box_eq] at hQ;go_wp2;go_ret;exact⟨by rw[HN.out];rfl,HN.out ▸ hQ.out.box,HN.out ▸ hQ.out.below⟩
end Go.Proofs.YtbgfdbidbjlaaaaGreat.Fd

/-
  mac.New and stretch.Key of passwords of up to 128 bytes. No condition beyond what each theorem names.
-/
import Derived.Test.YtbgfdbidbjlaaaaGreatSaTagPk
namespace Go.Proofs.YtbgfdbidbjlaaaaGreat.Fd
open _root_.Go.Proofs.Tryz
open Go Go.RowKit K
set_option maxRecDepth 100000
set_option maxHeartbeats 4000000
def keyK (pass:List UInt8):List UInt8:=if pass.length≤64 then pass else sha [pass]
theorem macNew_any {w:World}{S:Nat→Prop}{kv:Value}{K:List UInt8}(hb:Bytes w S kv K) (hl:K.length≤100000):
  Calls prog 54 #[kv] w fun e w'=>∃ p s iv ov,e=.returned (.pointer (some ⟨p,0,none⟩))∧KeyedAt w' (fun g=>w.heap.size≤g) p s iv ov (keyK K)∧Below w.heap.size w w':=by
 by_cases h:K.length≤64
 ·rw[keyK,if_pos h];exact macNew_ok hb h
 ·rw[keyK,if_neg h];exact macNew_long hb (by omega) hl
theorem key_any {w:World}{S S':Nat→Prop}{pv sv:Value}{pass salt:List UInt8}(hp:Bytes w S pv pass) (hs:Bytes w S' sv salt) (hpl:pass.length≤128) (hsl:salt.length≤64) (r n:Nat) (hr1:1≤r) (hr2:r≤10000) (hn:n≤256):
  Calls prog 31 #[pv,sv,.int .i64 r,.int .i64 n] w fun e w'=>∃ v,e=.returned (.tuple #[v,.int .i64 0])∧w'.ownsRow w.heap.size 5 1 v n (u8s (keyL (keyK pass) salt r n))∧Below w.heap.size w w':=by
 obtain⟨B0,hB0⟩:∃ b,b=w.heap.size:=⟨_,rfl⟩;have HB0:=LH hB0;have hmac:=LH (macNew_any hp (by omega));obtain⟨pa,pc,rfl,hp1,hp2⟩:=hp.shape;obtain⟨sa,sc,rfl,hs1,hs2⟩:=hs.shape;unfold maxLen at hp2 hs2;have M:=may_ok pa sa pass.length pc salt.length sc r w;have hm:mayB pass.length salt.length (r:Int)=true:=by simp[mayB];omega
 rw[hm] at M;replace M:=LH M;clear hm hp;obtain⟨pl,hpl'⟩:∃ l,l=pass.length:=⟨_,rfl⟩;obtain⟨sl,hsl'⟩:∃ l,l=salt.length:=⟨_,rfl⟩
 have hsb:∀ w3,Below B0 w w3→B0≤w3.heap.size→Bytes w3 (fun _=>True) (.slice sa sl sc) salt:=fun w3 h3 h4=>by
  rw[hsl'];exact (hs.keep (w':=w3) (HB0.out ▸ h4) (fun b _ hb=>h3.block b (by have:=HB0.out;omega))).mono (S':=fun _=>True) (fun _ _ _=>trivial)
 rw[← hpl'] at hp1 hmac M hpl ⊢;have hsl2:salt.length≤100000:=by omega
 rw[← hsl'] at hs1 M hsl ⊢;replace hsl2:=LH hsl2;replace hpl':=LH hpl';replace hsl':=LH hsl';replace hsb:=LH hsb;rw[← hB0] at hmac;clear hs hB0;go_enter func31,ntmps31
 go_wp2_with (first|(go_at_call 53;refine M.out.mono ?_;rintro e w' ⟨rfl,rfl⟩)|fail)
 refine hmac.out.mono ?_;rintro e w1 ⟨p,s,iv,ov,rfl,hk,hb1⟩;obtain⟨B,hB⟩:∃ b,b=w1.heap.size:=⟨_,rfl⟩;have hBB:B0≤B:=by rw[hB,HB0.out];rw[HB0.out] at hb1;exact hb1.size
 replace hk:=LH hk;replace hb1:=LH hb1;replace hB:=LH hB;clear hmac M;go_wp2
 go_loopw [10,12] (fun o' i' wr=>∃ k:Nat,32*k<n+32∧i'=.int .i64 ((k:Int)+1)∧Hid (Mid wr B o' (outB (keyK pass) salt r k))∧Hid (Below B w1 wr)∧B≤wr.heap.size)
  (fun _ i' _=>20 - (intOf i').toNat)
 case atStart=>exact⟨0,by omega,rfl,by rw[outB_zero];exact Mid.nil _ _,Below.refl _ _,by rw[hB.out];exact Nat.le_refl _⟩
 case round=>
  obtain⟨k,hk32,rfl,hM,hW,hBs⟩:=hrel;obtain⟨oa,oc,rfl,ho1,ho2⟩:=hM.out.shape;unfold maxLen at ho2;have hol:=outB_length (pass:=keyK pass) (salt:=salt) (r:=r) (k:=k);rw[hol] at hM ho1 ⊢;have hwb:Below B0 w wr:=hb1.out.trans (hW.out.mono hBB);have hk2:=hk.out.keep (w':=wr) (by rw[← hB.out];exact hBs) (fun g _ hg=>hW.out.block g (by rw[hB.out];exact hg));by_cases hlt:32*k<n
  ·obtain⟨T,hT⟩:∃ t,t=blkT (keyK pass) salt (k+1) (r - 1):=⟨_,rfl⟩;have hTl:T.length=32:=hT ▸ blkT_length;have hcall:=block_ok hk2 (hsb.out wr hwb (by omega)) hsl2.out r (k+1) (by omega) hr1 (by omega);rw[← hT] at hcall;have hnx:outB (keyK pass) salt r (k+1)=outB (keyK pass) salt r k++T:=by rw[outB_succ,hT]
   replace hcall:=LH hcall;replace hnx:=LH hnx;replace hT:=LH hT;clear hk2 hwb hol
   go_wp2_with fail
   refine hcall.out.mono ?_;rintro e w3 ⟨rfl,hb3⟩;obtain⟨g,hg⟩:∃ g,g=w3.heap.size:=⟨_,rfl⟩;have hgB:B≤g:=by have:=hb3.size;omega
   have m3:=hM.out.keep hb3;obtain⟨W4,hW4⟩:∃ x,x=w3.alloc (.cells (u8s (List.replicate 32 0)).toArray 124):=⟨_,rfl⟩;have b4:Below g w3 W4:=by rw[hW4,hg];exact (Below.refl _ _).alloc (Nat.le_refl _) _
   have a4:Arr W4 g 124 (List.replicate 32 0):=by rw[hW4,hg];exact heap_alloc_new w3 _
   have t4:=hash_store a4 hTl;obtain⟨W5,hW5⟩:∃ x,x=W4.setRow g (u8s T).toArray:=⟨_,rfl⟩;rw[← hW5] at t4;have b5:Below g w3 W5:=hW5 ▸ below_setRow b4 (Nat.le_refl _) _;have a5:Arr W5 g 124 T:=hW5 ▸ a4.setRow _;have m5:Mid W5 B (.slice oa (32*k) oc) (outB (keyK pass) salt r k):=m3.keep (hg ▸ b5);have o5:=arr_bytes a5 (by rw[hTl];unfold maxLen;omega);rw[hTl] at o5;have hs5:B≤W5.heap.size:=by have:=b5.size;omega
   obtain⟨v',w6,hrun,m6,b6⟩:=m5.append hs5 o5 (by rw[outB_length,hTl];omega) 22;rw[← hnx.out] at m6;have bF:Below B w1 w6:=((hW.out.trans (hb3.mono hBs)).trans (b5.mono hgB)).trans b6;have hs6:B≤w6.heap.size:=Nat.le_trans hs5 b6.size;subst hW4;rw[hg] at t4 hrun;replace hrun:=LH hrun;replace hg:=LH hg;replace t4:=LH t4;replace m6:=LH m6;replace bF:=LH bF;replace hW5:=LH hW5;clear b6 m5 a5 b5 a4 b4 m3 hb3 hcall hW hM o5 hs5
   go_wp2_with (first|(refine wpList_store rfl 124 _ _ rfl _ _ rfl rfl t4.out ?_)|(at_builtin;(refine wpList_app rfl _ _ 22 rfl _ _ _ rfl rfl hrun.out ?_)))
   go_roundw
   case rel=>exact⟨k+1,by omega,by go_num,m6.out,bF.out,hs6⟩
   case measure=>simp[intOf];omega
  ·have hkk:(n+31) / 32=k:=by omega
   have hbo:=hM.out.bytes;rw[← hol] at hbo;have hcb:=bytes_cut hbo 0 n (by omega) (by omega);rw[List.drop_zero,Nat.sub_zero] at hcb;have hkl:(outB (keyK pass) salt r k).take n=keyL (keyK pass) salt r n:=by rw[keyL_eq,hkk]
   rw[hkl] at hcb
   have hs0:sliced oa 0 n oc 1=.slice oa n oc:=by
    cases oa with
    | none=>simp[Go.sliced]
    | some x=>simp[Go.sliced,Addr.add]
   rw[hs0] at hcb;have hcl:=clone_ok hcb (by rw[keyL_length];omega);rw[keyL_length] at hcl;have hwB:B0≤wr.heap.size:=Nat.le_trans hBB hBs;replace hcl:=LH hcl;replace hwb:=LH hwb;clear hs0 hcb hkl hbo hM hW hol hk2 hkk
   go_wp2_with fail
   refine hcl.out.mono ?_;rintro e w4 ⟨v,rfl,hv1,hv2,_⟩;replace hv1:=LH hv1;replace hv2:=LH hv2;clear hcl;go_wp2;go_ret2;exact⟨v,rfl,owns_base hv1.out (HB0.out ▸ hwB),HB0.out ▸ hwb.out.trans (hv2.out.mono hwB)⟩
end Go.Proofs.YtbgfdbidbjlaaaaGreat.Fd

/-
  xts.Encrypt. No condition beyond what each theorem names.
-/
import Derived.Test.YthmcbgidehjlbaaGreatRmXopenPk
namespace Go.Proofs.YthmcbgidehjlbaaGreat.Fd
open _root_.Go.Proofs.Tryz
open Go Go.RowKit K
set_option maxRecDepth 100000
set_option maxHeartbeats 4000000
theorem e1_ok {w:World}{F:Nat→Prop}{p1 p2:Nat}{k1 k2:List UInt32}(h:PairAt w F p1 p2 k1 k2) (h8:8≤k1.length) (h4:k1.length % 4=0) (b:List UInt8) (hb:b.length=16):
  Calls prog 166 #[.agg #[.pointer (some ⟨p1,0,none⟩),.pointer (some ⟨p2,0,none⟩)],.agg (u8s b).toArray] w fun e w'=>e=.returned (.agg (u8s (encrypt k1 b)).toArray)∧Below w.heap.size w w':=by
 obtain⟨n,hn⟩:∃ n,n=w.heap.size:=⟨_,rfl⟩;have HN:=LH hn;obtain⟨⟨tb,kv,hc⟩,_⟩:=h;obtain⟨wA,hwA⟩:∃ x,x=w.alloc (.cells #[.pointer (some ⟨p1,0,none⟩),.pointer (some ⟨p2,0,none⟩)] 261):=⟨_,rfl⟩;obtain⟨wB,hwB⟩:∃ x,x=wA.alloc (.cells (u8s b).toArray 179):=⟨_,rfl⟩;obtain⟨wC,hwC⟩:∃ x,x=wB.alloc (.cells #[.int .u8 0,.int .u8 0,.int .u8 0,.int .u8 0,.int .u8 0,.int .u8 0,.int .u8 0,.int .u8 0,.int .u8 0,.int .u8 0,.int .u8 0,.int .u8 0,.int .u8 0,.int .u8 0,.int .u8 0,.int .u8 0] 179):=⟨_,rfl⟩;have sA:wA.heap.size=n+1:=by rw[hwA,hn];simp
 have sB:wB.heap.size=n+2:=by rw[hwB];simp[sA]
 have sC:wC.heap.size=n+3:=by rw[hwC];simp[sB]
 have bA:Below n w wA:=by rw[hwA,hn];exact (Below.refl _ _).alloc (Nat.le_refl _) _
 have bB:Below (n+1) wA wB:=by rw[hwB,← sA];exact (Below.refl _ _).alloc (Nat.le_refl _) _
 have bC:Below (n+2) wB wC:=by rw[hwC,← sB];exact (Below.refl _ _).alloc (Nat.le_refl _) _
 have xA:wA.heap[n]?=some (.cells #[.pointer (some ⟨p1,0,none⟩),.pointer (some ⟨p2,0,none⟩)] 261 (0,0)):=by rw[hwA,hn];exact heap_alloc_new w _
 have xB:Arr wB (n+1) 179 b:=by rw[hwB,← sA];exact heap_alloc_new wA _
 have xC:Arr wC (n+2) 179 (List.replicate 16 0):=by rw[hwC,← sB];exact heap_alloc_new wB _
 have yA:=(bC.block n (by omega)).trans ((bB.block n (by omega)).trans xA);have yB:Arr wC (n+1) 179 b:=xB.keep (bC.block (n+1) (by omega));have bW:Below n w wC:=bA.trans ((bB.mono (by omega)).trans (bC.mono (by omega)));have hcC:CipherAt wC F p1 tb kv k1:=hc.keep bW.size (fun g _ hl=>bW.block g (by omega));have c0:=cell_of yA 0;have c00:wC.cell? ⟨n,0,none⟩=some (.pointer (some ⟨p1,0,none⟩)):=c0;have hld:=run_loadAt_arr (P:=prog) yB underlying179 (size61 hb);have hE:=encrypt_ok hcC h8 h4 b hb;obtain⟨Z,hZ⟩:∃ Z,Z=encrypt k1 b:=⟨_,rfl⟩;have hZl:Z.length=16:=hZ ▸ encrypt_length hb;rw[← hZ] at hE ⊢;obtain⟨V,hV⟩:∃ V,V=(u8s b).toArray:=⟨_,rfl⟩;rw[← hV] at hld hE hwB ⊢;subst hwA;subst hwB;subst hwC;subst hn;replace c00:=LH c00;replace hld:=LH hld;replace hE:=LH hE;replace xC:=LH (show Arr _ (w.heap.size+1+1) 179 _ from xC);replace bW:=LH bW;clear hZ hc hcC yA yB xA xB bA bB bC c0 hV sA sB sC HN;go_enter func166,ntmps166
 go_wp2_with (refine wpList_load rfl 179 _ rfl _ _ rfl hld.out ?_)
 refine hE.out.mono ?_;rintro e w1 ⟨rfl,hb1⟩;have x1:=xC.out.keep (hb1.block _ (heap_lt xC.out));have hst:=LH (block_store x1 List.length_replicate Z hZl);have hfin:=LH (x1.setRow Z);have hi:=LH (size61 hZl);have hB1:=LH (below_setRow (bW.out.trans (hb1.mono bW.out.size)) (show w.heap.size≤w.heap.size+1+1 by omega) (u8s Z).toArray);clear x1 hb1
 go_wp2_with (refine wpList_store rfl 179 _ _ rfl _ _ rfl rfl hst.out ?_)
 refine bodyPost_ret (results_cell_row results166 _ _ (w.heap.size+1+1) 179 _ (0,0) _ rfl hfin.out underlying179 rfl (by rw[hi.out];simp[u8s_length])) rfl ⟨rfl,hB1.out⟩
def xtsE (key:List UInt8) (unit:Nat) (data:List UInt8):List UInt8:=thru (encrypt (k1of key)) (encrypt (k2of key) (number unit)) data (data.length / 16)
theorem xtsE_length {key data:List UInt8}{unit:Nat}(h:data.length % 16=0):(xtsE key unit data).length=data.length:=by rw[xtsE,thru_length];omega
theorem xtsEnc_ok {w:World}{S S':Nat→Prop}{kv dv:Value}{key data:List UInt8}(hb:Bytes w S kv key) (unit:Nat) (hk:keyOk key.length unit)
  (hd:Bytes w S' dv data) (h16:data.length % 16=0) (hmost:data.length≤4096):
  Calls prog 144 #[kv,.int .i64 unit,dv] w fun e w'=>∃ v,e=.returned (.tuple #[v,.int .i64 0])∧w'.ownsRow w.heap.size 5 1 v data.length (u8s (xtsE key unit data))∧Below w.heap.size w w':=by
 have hkl:=keys_len (ok_of hk).1;have ht:=through_ok (f:=166) (encrypt (k1of key)) (fun b hb=>encrypt_length hb) hb unit hk hd h16 hmost (fun _ _=>by go_simp) (fun w3 F p1 p2 b h hb=>e1_ok h hkl.2.2.1 hkl.2.2.2 b hb);replace ht:=LH ht;obtain⟨R,hR⟩:∃ R,R=xtsE key unit data:=⟨_,rfl⟩;rw[show thru (encrypt (k1of key)) (encrypt (k2of key) (number unit)) data (data.length / 16)=R from hR.symm] at ht;rw[← hR];clear hR hkl hk;go_enter func144,ntmps144
 go_wp2_with fail
 refine ht.out.mono ?_;rintro e w1 ⟨v,rfl,h1,h2⟩;replace h1:=LH h1;replace h2:=LH h2;go_wp2;go_ret2;exact⟨v,rfl,h1.out,h2.out⟩
end Go.Proofs.YthmcbgidehjlbaaGreat.Fd

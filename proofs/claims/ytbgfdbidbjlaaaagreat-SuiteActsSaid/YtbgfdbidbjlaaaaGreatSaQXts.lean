/-
  The document's own Xts. No condition beyond what each theorem names.
-/
import Derived.Test.YtbgfdbidbjlaaaaGreatSaQXtsEqPk
import Derived.Test.YtbgfdbidbjlaaaaGreatSaTagPk
namespace Go.Proofs.YtbgfdbidbjlaaaaGreat.RA
open _root_.Go.Proofs.Tryz
open Go Go.RowKit
set_option maxRecDepth 100000
set_option maxHeartbeats 16000000
section
variable {c:Cx}{Z:Act→World→Prop}{os:List Oper}{i:Nat}{K:List (Nat×Value)}{G:List (Nat×(World→Prop))}{U:List Nat}{H:World→Prop}
theorem pasX {d:Nat}{x:Operand}{y:Value}{ty:TypeId}{ps:String}{af:Array Edge}{gu:Option (Nat×Bool)}(hk:kindOf c i=5) (hg:gd c.ops c.a0 K ⟨some d,.assign x,ty,ps,af,gu⟩=true) (hx:evo c K x=some y) (h:RA c Z os (i+1) ((d,y)::K) G U H):RA c Z (⟨some d,.assign x,ty,ps,af,gu⟩::os) i K G U H:=
 pw hk hg (fun w=>by simp[go_sem,execOp,evo_ev hx]) h
end
end Go.Proofs.YtbgfdbidbjlaaaaGreat.RA
namespace Go.Proofs.YtbgfdbidbjlaaaaGreat.Fd
open _root_.Go.Proofs.Tryz
open Go Go.RowKit K
set_option maxRecDepth 100000
set_option maxHeartbeats 16000000
theorem owns_lower {w:World}{B n:Nat}{e:TypeId}{sz:Nat}{v:Value}{k:Nat}{xs:List Value}(h:w.ownsRow B e sz v k xs) (hn:n≤B):w.ownsRow n e sz v k xs:=
 ⟨h.1,h.2.imp id fun ⟨g,cap,cur,hv,hb,r⟩=>⟨g,cap,cur,hv,by omega,r⟩⟩
structure QOut (wB:World) (B:Nat) (o:Value) (R:List UInt8) (x:World):Prop where
 below:Below B wB x
 size:B≤x.heap.size
 own:x.ownsRow B 5 1 o R.length (u8s R)
structure QXt (wB:World) (B b:Nat) (o:Value) (R A:List UInt8) (x:World):Prop where
 out:QOut wB B o R x
 box:Arr x b 73 A
 far:o.ownBlock≠some b
 hb:B≤b
theorem QOut.after {wB:World}{B:Nat}{o:Value}{R:List UInt8}{x y:World}(s:QOut wB B o R x) (h:Below x.heap.size x y):QOut wB B o R y:=
 ⟨s.below.trans (h.mono s.size),Nat.le_trans s.size h.size,owns_keep s.own (fun g hg=>h.block g (s.own.lt g hg).2)⟩
theorem QOut.box {wB:World}{B:Nat}{o:Value}{R:List UInt8}{x:World}(s:QOut wB B o R x):QXt wB B x.heap.size o R (List.replicate 16 0) (x.alloc (.cells #[.int .u8 0,.int .u8 0,.int .u8 0,.int .u8 0,.int .u8 0,.int .u8 0,.int .u8 0,.int .u8 0,.int .u8 0,.int .u8 0,.int .u8 0,.int .u8 0,.int .u8 0,.int .u8 0,.int .u8 0,.int .u8 0] 73)):=
 ⟨s.after ((Below.refl _ _).alloc (Nat.le_refl _) _),heap_alloc_new x _,fun h=>by have:=(s.own.lt _ h).2;omega,s.size⟩
theorem QXt.after {wB:World}{B b:Nat}{o:Value}{R A:List UInt8}{x y:World}(s:QXt wB B b o R A x) (h:Below x.heap.size x y):QXt wB B b o R A y:=
 ⟨s.out.after h,s.box.keep (h.block b (heap_lt s.box)),s.far,s.hb⟩
theorem QXt.at_b {wB:World}{B b:Nat}{o:Value}{R A A':List UInt8}{x y:World}(s:QXt wB B b o R A x) (hs:x.heap.size≤y.heap.size) (hb:Below B x y) (hk:∀ g,g≠b→y.heap[g]?=x.heap[g]?) (h:Arr y b 73 A'):QXt wB B b o R A' y:=
 ⟨⟨s.out.below.trans hb,Nat.le_trans s.out.size hs,owns_keep s.out.own (fun g hg=>hk g (fun e=>s.far (e ▸ hg)))⟩,h,s.far,s.hb⟩
theorem QXt.set {wB:World}{B b:Nat}{o:Value}{R A:List UInt8}{x:World}(s:QXt wB B b o R A x) (j:Nat) (c:UInt8):QXt wB B b o R (A.set j c) (x.setCell ⟨b,j,none⟩ (.int .u8 c.toNat)).drew:=
 s.at_b (by simp[World.setCell,World.drew]) ((Below.refl B x).setCell (p:=⟨b,j,none⟩) s.hb _).drew (fun g hg=>setCell_heap_ne _ _ _ hg) (s.box.set j c)
theorem QXt.put {wB:World}{B b:Nat}{o:Value}{R A:List UInt8}{x:World}(s:QXt wB B b o R A x) (A':List UInt8):QXt wB B b o R A' (x.setRow b (u8s A').toArray):=
 s.at_b (by simp) (below_setRow (Below.refl B x) s.hb _) (fun g hg=>setRow_other _ _ _ _ hg) (s.box.setRow A')
theorem QXt.push {wB:World}{B b:Nat}{o:Value}{R A:List UInt8}{x w3:World}(s:QXt wB B b o R A x) (hR:Chg No x w3) (c:UInt8){u:Value}(hu:Cells w3 (fun _=>True) u 1 1 [.int .u8 c.toNat]) (hk:R.length≤5000):
  ∃ v' w4,(Builtin.append_ #[22,22] 22 #[o,u]).run prog w3=.ok v' w4∧QXt wB B b v' (R++[c]) A w4:=by
 obtain⟨v',w4,hr,r1,r2,r3⟩:=own_push (P:=prog) (bytes:=1) underlying22 infoByte rfl (by decide) s.out.own s.out.size hR hu (by simp[Value.oneCell']) (by unfold maxLen;omega) (by omega) 22;refine⟨v',w4,hr,⟨⟨s.out.below.trans (r2.below s.out.size fun k hk e=>by have:=(s.out.own.lt k e).1;omega),Nat.le_trans s.out.size r2.size,?_⟩,s.box.keep (r2.block b (heap_lt s.box) (fun e=>s.far e)),?_,s.hb⟩⟩
 ·rw[List.length_append,u8s_append];exact r1
 ·rcases r3 with e|⟨g,e,hg⟩
  ·rw[e];exact s.far
  ·rw[e];have:=heap_lt s.box;simp;omega
theorem keyB_ok {n unit:Nat}(h:keyOk n unit):keyB n (unit:Int)=true:=decide_eq_true ⟨h.1,h.2.1,h.2.2⟩
theorem range_succ_map (f:Nat→UInt8) (j:Nat):(List.range (j+1)).map f=(List.range j).map f++[f j]:=by rw[List.range_succ,List.map_append];rfl
theorem qXtsE_ok {w:World}{S S':Nat→Prop}{kv dv:Value}{key data:List UInt8}(hb:Bytes w S kv key) (unit:Nat) (hk:keyOk key.length unit)
  (hd:Bytes w S' dv data) (h16:data.length % 16=0) (hmost:data.length≤4096){tb:Nat}(ht:QBoxAt w tb):
  Calls prog 26 #[.pointer (some ⟨tb,0,none⟩),kv,.int .i64 unit,dv,.bool false] w fun e w'=>∃ v,e=.returned (.tuple #[v,.bool true])∧
   w'.ownsRow w.heap.size 5 1 v data.length (u8s (thru (encrypt (k1of key)) (encrypt (k2of key) (number unit)) data (data.length / 16)))∧Below w.heap.size w w':=by
 obtain⟨n,hn⟩:∃ n,n=w.heap.size:=⟨_,rfl⟩;have HN:=LH hn;obtain⟨da,dcap,rfl,hdc1,hdc2⟩:=hd.shape;unfold maxLen at hdc2;obtain⟨ka,kcap,rfl,hkc1,hkc2⟩:=hb.shape;unfold maxLen at hkc2;have hkl:=keys_len (ok_of hk).1;have hul:=(ok_of hk).2;have hmay:=qMayXts_ok ka key.length kcap (unit:Int) w;rw[keyB_ok hk] at hmay;have htw0:=fun (w1:World) (h:Bytes w1 S (.slice ka key.length kcap) key) (ht:QBoxAt w1 tb) (m:Nat) (hm:m≤1000)=>qTweaks_ok h (ok_of hk).1 unit m hul hm ht
 obtain⟨KL,hKL⟩:∃ L,L=key.length:=⟨_,rfl⟩;obtain⟨H,hH⟩:∃ H,H=KL / 2:=⟨_,rfl⟩;have hH1:(KL:Int) / 2=H:=by omega
 have hH2:(KL:Int).tdiv 2=H:=by rw[Int.tdiv_eq_ediv_of_nonneg (by omega)];exact hH1
 have hKL64:KL≤64:=by have:=(ok_of hk).1;omega
 have hv1:=bytes_cut hb 0 H (by omega) (by omega);have e1:(key.drop 0).take (H - 0)=key.take (key.length / 2):=by rw[hH,hKL];simp
 rw[e1] at hv1;have hl1:(key.take (key.length / 2)).length=16∨(key.take (key.length / 2)).length=32:=by have:=(ok_of hk).1;simp;omega
 have hcut1:∀ w3,(Instr.sliceAt 22 (.slice ka KL kcap) none (some (.int .i64 H)) none).run prog w3=.ok (sliced ka 0 H kcap 1) w3:=fun w3=>cut_hi (P:=prog) (s:=1) w3 underlying22 (by kernel_rfl) ka KL kcap H (by omega)
 obtain⟨v1,ev1⟩:∃ v,v=sliced ka 0 H kcap 1:=⟨_,rfl⟩;rw[← ev1] at hcut1 hv1;have hcall:=qAes_ok hv1 hl1 ht;obtain⟨K1,hK1⟩:∃ K,K=k1of key:=⟨_,rfl⟩;obtain⟨K2,hK2⟩:∃ K,K=k2of key:=⟨_,rfl⟩;rw[show sched (key.take (key.length / 2))=K1 from hK1.symm] at hcall;rw[← hK1,← hK2] at hkl ⊢;rw[← hK2] at htw0;obtain⟨T,hT⟩:∃ T,T=encrypt K2 (number unit):=⟨_,rfl⟩;have hTl:T.length=16:=hT ▸ encrypt_length number_length;rw[← hT] at htw0 ⊢;obtain⟨L,hL⟩:∃ L,L=data.length:=⟨_,rfl⟩;obtain⟨m,hm⟩:∃ m,m=L / 16:=⟨_,rfl⟩;have hm1:(L:Int) / 16=m:=by omega
 have hm2:(L:Int).tdiv 16=m:=by rw[Int.tdiv_eq_ediv_of_nonneg (by omega)];exact hm1
 have hLm:L=16*m:=by omega
 have hm3:m≤256:=by omega
 have hLz:(L:Int) % 16=0:=by omega
 have hLz2:(L:Int).tmod 16=0:=by rw[Int.tmod_eq_emod_of_nonneg (by omega)];exact hLz
 have hL4:L≤4096:=by omega
 have hb0:=hb;rw[← hKL] at hmay hkc1 hb0 ⊢;rw[← hL] at hdc1 ⊢
 have htw:∀ w1,Bytes w1 S (.slice ka KL kcap) key→QBoxAt w1 tb→Calls prog 46 #[.pointer (some ⟨tb,0,none⟩),.slice ka KL kcap,.int .i64 unit,.int .i64 m] w1 fun e w'=>∃ v,e=.returned v∧w'.ownsRow w1.heap.size 73 16 v m (blkCells (twB T) m)∧Below w1.heap.size w1 w':=by
  intro w1 h ht;have h2:=htw0 w1 (by rw[← hKL];exact h) ht m (by omega);rw[← hKL] at h2;exact h2
 clear htw0;rw[← hm,← hn];have hd':Cells w S' (.slice da L dcap) L 1 (u8s data):=by rw[hL];exact hd
 have hD:∀ (w3:World) (F:Nat→Prop) p kv' (b:List UInt8),QCipherAt w3 F p tb kv' K1→b.length=16→Calls prog 48 #[.pointer (some ⟨p,0,none⟩),.agg (u8s b).toArray] w3 fun e w'=>e=.returned (.agg (u8s (encrypt K1 b)).toArray)∧Below w3.heap.size w3 w':=by
  intro w3 F p kv' b h hb;have h2:=qEnc_ok h b hb (by omega) hkl.2.2.2;rw[encQ_eq] at h2;exact h2
 have hDl:∀ b:List UInt8,b.length=16→(encrypt K1 b).length=16:=fun b hb=>encrypt_length hb
 obtain⟨D,hDd⟩:∃ D,D=encrypt K1:=⟨_,rfl⟩;simp only[← hDd] at hD hDl ⊢;replace hDd:=LH hDd;replace hD:=LH hD;replace hDl:=LH hDl;clear ev1 e1 hn hl1 hb hd;replace hmay:=LH hmay;replace hcall:=LH hcall;replace htw:=LH htw;replace hT:=LH hT;replace hL:=LH hL;replace hm:=LH hm;replace hLm:=LH hLm;replace hKL:=LH hKL;replace hH:=LH hH;replace hK1:=LH hK1;replace hK2:=LH hK2;replace hv1:=LH hv1;replace ht:=LH ht;replace hk:=LH hk;replace hkl:=LH hkl;replace hd':=LH hd';replace hb0:=LH hb0;replace h16:=LH h16;replace hmost:=LH hmost;go_enter func26,ntmps26
 go_wp2_with (fail)
 refine hmay.out.mono ?_;rintro e w0 ⟨rfl,rfl⟩;clear hmay
 go_wp2_with (fail)
 refine hcall.out.mono ?_;rintro e w1 ⟨p,kv',rfl,hp,hC,hb1⟩;rw[← HN.out] at hp hb1;have ht1:=LH (show QBoxAt w1 tb from Arr.keep ht.out (hb1.block tb (by rw[HN.out];exact heap_lt ht.out)));have hbk1:=LH (hb0.out.keep (w':=w1) (by have:=hb1.size;exact this) (fun g _ hg=>hb1.block g (by rw[HN.out];exact hg)));replace hC:=LH hC;replace hb1:=LH hb1;clear hcall
 go_wp2_with (fail)
 refine (htw.out w1 hbk1.out ht1.out).mono ?_;rintro e w4 ⟨tv,rfl,hto,hb4⟩;clear htw;have hC4:=LH (hC.out.keep hb4.size (fun g _ hg=>hb4.block g hg));have hB4:=LH (hb1.out.trans (hb4.mono (by have:=hb1.out.size;rw[HN.out];exact this)));obtain⟨B,hBz⟩:∃ B,B=w4.heap.size:=⟨_,rfl⟩;have hnB:n≤B:=by have:=hB4.out.size;have:=HN.out;omega
 obtain⟨ta,tcap,rfl,htc1,htc2⟩:=(Cells.own hto).shape;unfold maxLen at htc2;have hO0:QOut w4 B (.slice none 0 0) [] w4:=⟨Below.refl _ _,by omega,World.ownsRow_nil _ _ _ _⟩
 have hfin:∀ (o:Value) (k:Nat) x,QOut w4 B o (thru D T data k) x→k=m→x.ownsRow n 5 1 o L (u8s (thru D T data m))∧Below n w x:=by
  intro o k x h hkm;subst hkm;have h1:=h.own;rw[thru_length,← hLm.out] at h1;exact⟨owns_lower h1 hnB,hB4.out.trans (h.below.mono hnB)⟩
 replace hfin:=LH hfin;replace hto:=LH hto;replace hBz:=LH hBz;replace hO0:=LH hO0;clear hb4 hC hb1 hbk1 ht1;go_wp2
 go_loopg [14,15,16,17,18] m (fun g o i _ _ _ wr=>∃ (k:Nat) (ov:Value),k+g=m∧i=.int .i64 k∧ov=o∧Hid (QOut w4 B ov (thru D T data k) wr))
 case atStart=>exact⟨0,_,by omega,rfl,rfl,hO0.out⟩
 case round=>
  clear hO0;obtain⟨k,ov,hkg,rfl,rfl,hO⟩:=hrel;by_cases hlt:k<m
  ·obtain⟨g1,rfl⟩:∃ j,gk=j+1:=⟨gk - 1,by omega⟩;obtain⟨gd,doff,dcap',hde,_,_,_,hgd,hdcell⟩:=hd'.out.at (by have:=hLm.out;omega);cases hde
   obtain⟨gt,tcp,hte,_,_⟩:=own_shape hto.out (by omega);cases hte
   have hgt:=hto.out.lt gt rfl;have htcell:=hto.out.cells (g:=gt) rfl
   have hDat:∀ (x:World),Below B w4 x→∀ j,j<16→x.cell? ⟨gd,doff+(16*k+j),none⟩=some (.int .u8 (data.getD (16*k+j) 0).toNat):=by
    intro x hx j hj;have hgB:gd<B:=by have:=HN.out;omega
    have hwB:w4.heap[gd]?=w.heap[gd]?:=hB4.out.block gd (by rw[HN.out];exact hgd);have h:=hdcell (16*k+j) _ (u8s_get data (16*k+j) (by have:=hL.out;have:=hLm.out;omega));rw[World.cell?_of_block (w:=w4) (hx.block gd hgB),World.cell?_of_block (w:=w) hwB,h];have hlt2:16*k+j<data.length:=by have:=hL.out;have:=hLm.out;omega
    simp[List.getD,hlt2]
   have hTat:∀ (x:World),Below B w4 x→∀ j,j<16→x.cell? ⟨gt,k*16+j,none⟩=some (.int .u8 ((twB T k).getD j 0).toNat):=by
    intro x hx j hj;have h:=htcell (k*16+j) _ (blkCells_get (fun q=>twB_length hTl q) hlt hj);rw[World.cell?_of_block (w:=w4) (hx.block gt (by rw[hBz.out];exact hgt.2))];rw[Addr.add_lit,Nat.zero_add] at h;exact h
   have hgtx:∀ (x:World),Below B w4 x→gt<x.heap.size:=fun x hx=>Nat.lt_of_lt_of_le hgt.2 hx.size
   have hgdx:∀ (x:World),Below B w4 x→gd<x.heap.size:=fun x hx=>Nat.lt_of_lt_of_le hgd (Nat.le_trans hB4.out.size hx.size)
   obtain⟨TK,hTK⟩:∃ X,X=twB T k:=⟨_,rfl⟩;have hTKl:TK.length=16:=hTK ▸ twB_length hTl k;rw[← hTK] at hTat;obtain⟨BK,hBK⟩:∃ X,X=blk data k:=⟨_,rfl⟩;have hBKl:BK.length=16:=by rw[hBK];exact blk_length (by have:=hL.out;have:=hLm.out;omega)
   have hBKg:∀ j,j<16→BK.getD j 0=data.getD (16*k+j) 0:=fun j hj=>by rw[hBK];exact blk_get hj
   have hsucc:thru D T data (k+1)=thru D T data k++xor2 (D (xor2 BK TK)) TK:=by rw[thru,thruB,← hTK,← hBK]
   obtain⟨R,hR⟩:∃ R,R=thru D T data k:=⟨_,rfl⟩;have hRl:R.length=16*k:=by rw[hR,thru_length]
   rw[← hR] at hO hsucc;have hbx:=hO.out.box;obtain⟨b,hbz⟩:∃ b,b=wr.heap.size:=⟨_,rfl⟩;rw[← hbz] at hbx;replace hbx:=LH hbx;replace hbz:=LH hbz;replace hTK:=LH hTK;replace hBK:=LH hBK;replace hBKg:=LH hBKg;replace hsucc:=LH hsucc;replace hR:=LH hR;replace hRl:=LH hRl;replace hDat:=LH hDat;replace hTat:=LH hTat;replace hgtx:=LH hgtx;replace hgdx:=LH hgdx;obtain⟨q,hq⟩:∃ q,q=16*k:=⟨_,rfl⟩;have hqi:16*(k:Int)=q:=by omega
   have hqL:q+16≤L:=by have:=hLm.out;omega
   have hqz:(k:Int)<256:=by omega
   replace hq:=LH hq;clear hO hdcell htcell;go_wp2;rw[← hbz.out]
   go_loopg [17] 16 (fun g j wr=>∃ i:Nat,i+g=16∧j=.int .i64 i∧Hid (QXt w4 B b ov R (fillQ (xorC BK TK) i) wr))
   case atStart=>exact⟨0,by omega,rfl,hbx.out⟩
   case round=>
    clear hbx;obtain⟨i,hig,rfl,hX⟩:=hrel;by_cases hi:i<16
    ·obtain⟨g2,rfl⟩:∃ j,gk=j+1:=⟨gk - 1,by omega⟩;have hxb:=hX.out.out.below;have cD:=hDat.out wr hxb i hi;have cT:=hTat.out wr hxb i hi;rw[← hq.out] at cD;obtain⟨qi,hqi2⟩:∃ x,x=q+i:=⟨_,rfl⟩;have hqii:(q:Int)+i=qi:=by omega
     rw[← hqi2] at cD;have hx:=hBKg.out i hi;rw[← hq.out,← hqi2] at hx;rw[← hx] at cD;obtain⟨d,hdd⟩:∃ d,d=(BK.getD i 0).toNat:=⟨_,rfl⟩;obtain⟨t,htt⟩:∃ d,d=(TK.getD i 0).toNat:=⟨_,rfl⟩;rw[← hdd] at cD;rw[← htt] at cT;have hdl:d<256:=hdd ▸ UInt8.toNat_lt _;have htl:t<256:=htt ▸ UInt8.toNat_lt _;have hxx:bits .xor .u8 (d:Int) (t:Int)=((d ^^^ t:Nat):Int):=u8_xor_nat d t hdl htl;have hset:=hX.out.set i (xorC BK TK i);have hxe:(xorC BK TK i).toNat=d ^^^ t:=by rw[xorC,← hdd,← htt];exact byte_toNat (xor8 hdl htl)
     rw[hxe] at hset;obtain⟨x,hxd⟩:∃ x,x=d ^^^ t:=⟨_,rfl⟩;rw[← hxd] at hset hxx;have f0:=hX.out.box.frozen i;have c0:=hX.out.box.cell i (by rw[fillQ_length];exact hi);have hgdw:=hgdx.out wr hxb;have hgtw:=hgtx.out wr hxb;have hbw:b<wr.heap.size:=heap_lt hX.out.box;have hset2:QXt w4 B b ov R (fillQ (xorC BK TK) (i+1)) (wr.setCell ⟨b,i,none⟩ (.int .u8 x)).drew:=hset;have hdm:qi<L:=by omega
     replace hset2:=LH hset2;replace hqi2:=LH hqi2;replace hdd:=LH hdd;replace htt:=LH htt;replace hxd:=LH hxd;clear hset hX hxe hx hxb;go_wp2
     go_region
     go_wp2;go_roundg g2
     case measure=>omega
     case rel=>exact⟨i+1,by omega,by go_num,hset2.out⟩
    ·obtain rfl:i=16:=by omega
     clear hi hig;obtain⟨A1,hA1⟩:∃ A,A=fillQ (xorC BK TK) 16:=⟨_,rfl⟩;have hA1e:A1=xor2 BK TK:=by rw[hA1,fillQ_16,xor2_map hBKl hTKl]
     have hA1l:A1.length=16:=hA1 ▸ fillQ_length;rw[← hA1] at hX;have hl1:=LH (run_loadAt_arr (P:=prog) hX.out.box underlying73 (size61 hA1l));have hC5:=hC4.out.keep hX.out.out.below.size (fun g _ hg=>hX.out.out.below.block g (by rw[hBz.out];exact hg));have hcl:=LH (hD.out wr _ p kv' A1 hC5 hA1l);replace hA1:=LH hA1;replace hA1e:=LH hA1e;clear hC5
     go_wp2_with (first|(refine wpList_load rfl 73 _ rfl _ _ rfl hl1.out ?_))
     refine hcl.out.mono ?_;rintro e w5 ⟨rfl,hb5⟩;have hX5:=hX.out.after hb5;obtain⟨A2,hA2⟩:∃ A,A=D A1:=⟨_,rfl⟩;rw[← hA2];have hA2l:A2.length=16:=hA2 ▸ hDl.out A1 hA1l;have hst:=block_store' hX5.box hA1l A2 hA2l;have hX6:=hX5.put A2;obtain⟨w6,hw6⟩:∃ a,a=w5.setRow b (u8s A2).toArray:=⟨_,rfl⟩;rw[← hw6] at hst hX6;have hs2:thru D T data (k+1)=R++(List.range 16).map (xorC A2 TK):=by rw[hsucc.out,← hA1e.out,← hA2,xor2_map hA2l hTKl]
     replace hs2:=LH hs2;clear hA1e;replace hst:=LH hst;replace hX6:=LH hX6;replace hw6:=LH hw6;replace hA2:=LH hA2;clear hX hX5 hb5 hl1 hcl
     go_wp2_with (first|(refine wpList_store rfl 73 _ _ rfl _ _ rfl rfl hst.out ?_))
     clear hst
     go_loopg [14,18] 16 (fun g o j wr=>∃ i:Nat,i+g=16∧j=.int .i64 i∧Hid (QXt w4 B b o (R++(List.range i).map (xorC A2 TK)) A2 wr))
     case atStart=>exact⟨0,by omega,rfl,by show QXt _ _ _ _ _ _ _;rw[List.range_zero,List.map_nil,List.append_nil];exact hX6.out⟩
     case round=>
      clear hX6;obtain⟨i,hig,rfl,hX⟩:=hrel;by_cases hi:i<16
      ·obtain⟨g2,rfl⟩:∃ j,gk=j+1:=⟨gk - 1,by omega⟩;have hxb:=hX.out.out.below;have cT:=hTat.out wr hxb i hi;have cA:=hX.out.box.cell i (by omega);obtain⟨d,hdd⟩:∃ d,d=(A2.getD i 0).toNat:=⟨_,rfl⟩;obtain⟨t,htt⟩:∃ d,d=(TK.getD i 0).toNat:=⟨_,rfl⟩;rw[← hdd] at cA;rw[← htt] at cT;have hdl:d<256:=hdd ▸ UInt8.toNat_lt _;have htl:t<256:=htt ▸ UInt8.toNat_lt _;have hxx:bits .xor .u8 (d:Int) (t:Int)=((d ^^^ t:Nat):Int):=u8_xor_nat d t hdl htl;have hxe:d ^^^ t=(xorC A2 TK i).toNat:=by rw[xorC,← hdd,← htt];exact (byte_toNat (xor8 hdl htl)).symm
       rw[hxe] at hxx;obtain⟨c9,hxd⟩:∃ c9,c9=xorC A2 TK i:=⟨_,rfl⟩;rw[← hxd] at hxx hxe;have hRs:R++(List.range (i+1)).map (xorC A2 TK)=(R++(List.range i).map (xorC A2 TK))++[c9]:=by rw[range_succ_map,← List.append_assoc,hxd]
       have hRll:(R++(List.range i).map (xorC A2 TK)).length≤5000:=by rw[List.length_append,hRl.out];simp;omega
       obtain⟨Q,hQ⟩:∃ Q,Q=R++(List.range i).map (xorC A2 TK):=⟨_,rfl⟩;rw[← hQ] at hX hRs hRll;have hgtw:=hgtx.out wr hxb;have hbw:b<wr.heap.size:=heap_lt hX.out.box;have hdr:∀ w3,Chg No wr.drew w3→Chg No wr w3:=fun w3 h=>⟨h.os,h.tape,h.output,h.size,h.block⟩
       replace hdr:=LH hdr;replace hxe:=LH hxe;replace hxd:=LH hxd;replace hdd:=LH hdd;replace htt:=LH htt;replace hQ:=LH hQ;replace hRs:=LH hRs;replace cA:=LH cA;replace cT:=LH cT;clear hxb;go_wp2;refine RA.rt (Chg No) [1,1,1,1,1,1,1,1,1,1,1,3,6,5] [12] (fun _=>True) (trivial) (fun _=>Chg.refl _ _) (fun _ _ _ h k=>h.trans k) (h:=?_);intro cx
       repeat refine RA.qq (h:=?_)
       refine RA.ik prog (b) (i) (h:=?_);refine RA.lk prog (.int .u8 d) (hc:=fun w3 hp=>by exact ((hdr.out _ hp.1).cell (p:=⟨b,i,none⟩) hbw id).trans cA.out) (h:=?_)
       repeat refine RA.qq (h:=?_)
       refine RA.ik prog (gt) (k*16) (h:=?_);refine RA.ik prog (gt) (k*16+i) (h:=?_);refine RA.lk prog (.int .u8 t) (hc:=fun w3 hp=>by exact ((hdr.out _ hp.1).cell (p:=⟨gt,k*16+i,none⟩) hgtw id).trans cT.out) (h:=?_);refine RA.vk prog (.int .u8 c9.toNat) (h:=?_)
       refine RA.bq (fun x w3=>Cells w3 (fun _=>True) x 1 1 [.int .u8 c9.toNat]) (fun _ _=>True) (by kernel_rfl) (by rfl) (by kernel_rfl) (fun _ _ _ h k=>k.chg h (fun _ _ _=>id)) (fun _ _ _ _ _=>trivial) (fun w3 hp _=>by
        refine⟨.slice (some ⟨w3.heap.size,0,none⟩) 1 1,w3.alloc (.cells #[.int .u8 c9.toNat] 5),?_,(Chg.refl _ _).alloc _,lit_cells w3 #[.int .u8 c9.toNat] 5 1 1 rfl (by unfold maxLen;omega),trivial⟩;show (execOp _ _).run prog w3=_;go_simp) (fun x=>?_)
       refine RA.bqt (fun v' w5=>QXt w4 B b v' (Q++[c9]) A2 w5) (by kernel_rfl) (by rfl) (by kernel_rfl) (fun _ _ _ h k=>h ▸ k) (fun w3 hp0 _=>by
        have hp:=hp0.first (by kernel_rfl);obtain⟨v',w5,h1,h2⟩:=hX.out.push (hdr.out _ hp.1) c9 (hp.fact 0 rfl (by kernel_rfl)) hRll;exact⟨v',w5,RA.ex_append (by rfl) (by rfl) h1,h2⟩) (fun v'=>?_)
       refine RA.pasX (by rfl) (by rfl) (by rfl) ?_;refine RA.RA.doneT (fun w5 hH=>?_);simp only[RA.put,List.foldr_cons,List.foldr_nil,cx,Act.put,List.setIfInBounds_toArray,List.set_cons_succ,List.set_cons_zero];replace hH:=LH hH;go_wp2;go_roundg g2
       case measure=>omega
       case rel=>exact⟨i+1,by omega,by go_num,by rw[hRs.out];exact hH.out⟩
      ·obtain rfl:i=16:=by omega
       clear hi hig;rw[← hs2.out] at hX;have hO9:=LH hX.out.out;clear hX;go_wp2;go_roundg g1
       case measure=>omega
       case rel=>exact⟨k+1,_,by omega,by go_num,rfl,hO9.out⟩
  ·obtain rfl:k=m:=by omega
   have hf:=hfin.out _ k wr hO.out rfl;replace hf:=LH hf;clear hO hfin hlt hkg;go_wp2;go_ret2;exact⟨_,rfl,hf.out.1,hf.out.2⟩
theorem qXtsD_ok {w:World}{S S':Nat→Prop}{kv dv:Value}{key data:List UInt8}(hb:Bytes w S kv key) (unit:Nat) (hk:keyOk key.length unit)
  (hd:Bytes w S' dv data) (h16:data.length % 16=0) (hmost:data.length≤4096){tb:Nat}(ht:QBoxAt w tb):
  Calls prog 26 #[.pointer (some ⟨tb,0,none⟩),kv,.int .i64 unit,dv,.bool true] w fun e w'=>∃ v,e=.returned (.tuple #[v,.bool true])∧
   w'.ownsRow w.heap.size 5 1 v data.length (u8s (thru (decrypt (k1of key)) (encrypt (k2of key) (number unit)) data (data.length / 16)))∧Below w.heap.size w w':=by
 obtain⟨n,hn⟩:∃ n,n=w.heap.size:=⟨_,rfl⟩;have HN:=LH hn;obtain⟨da,dcap,rfl,hdc1,hdc2⟩:=hd.shape;unfold maxLen at hdc2;obtain⟨ka,kcap,rfl,hkc1,hkc2⟩:=hb.shape;unfold maxLen at hkc2;have hkl:=keys_len (ok_of hk).1;have hul:=(ok_of hk).2;have hmay:=qMayXts_ok ka key.length kcap (unit:Int) w;rw[keyB_ok hk] at hmay;have htw0:=fun (w1:World) (h:Bytes w1 S (.slice ka key.length kcap) key) (ht:QBoxAt w1 tb) (m:Nat) (hm:m≤1000)=>qTweaks_ok h (ok_of hk).1 unit m hul hm ht
 obtain⟨KL,hKL⟩:∃ L,L=key.length:=⟨_,rfl⟩;obtain⟨H,hH⟩:∃ H,H=KL / 2:=⟨_,rfl⟩;have hH1:(KL:Int) / 2=H:=by omega
 have hH2:(KL:Int).tdiv 2=H:=by rw[Int.tdiv_eq_ediv_of_nonneg (by omega)];exact hH1
 have hKL64:KL≤64:=by have:=(ok_of hk).1;omega
 have hv1:=bytes_cut hb 0 H (by omega) (by omega);have e1:(key.drop 0).take (H - 0)=key.take (key.length / 2):=by rw[hH,hKL];simp
 rw[e1] at hv1;have hl1:(key.take (key.length / 2)).length=16∨(key.take (key.length / 2)).length=32:=by have:=(ok_of hk).1;simp;omega
 have hcut1:∀ w3,(Instr.sliceAt 22 (.slice ka KL kcap) none (some (.int .i64 H)) none).run prog w3=.ok (sliced ka 0 H kcap 1) w3:=fun w3=>cut_hi (P:=prog) (s:=1) w3 underlying22 (by kernel_rfl) ka KL kcap H (by omega)
 obtain⟨v1,ev1⟩:∃ v,v=sliced ka 0 H kcap 1:=⟨_,rfl⟩;rw[← ev1] at hcut1 hv1;have hcall:=qAes_ok hv1 hl1 ht;obtain⟨K1,hK1⟩:∃ K,K=k1of key:=⟨_,rfl⟩;obtain⟨K2,hK2⟩:∃ K,K=k2of key:=⟨_,rfl⟩;rw[show sched (key.take (key.length / 2))=K1 from hK1.symm] at hcall;rw[← hK1,← hK2] at hkl ⊢;rw[← hK2] at htw0;obtain⟨T,hT⟩:∃ T,T=encrypt K2 (number unit):=⟨_,rfl⟩;have hTl:T.length=16:=hT ▸ encrypt_length number_length;rw[← hT] at htw0 ⊢;obtain⟨L,hL⟩:∃ L,L=data.length:=⟨_,rfl⟩;obtain⟨m,hm⟩:∃ m,m=L / 16:=⟨_,rfl⟩;have hm1:(L:Int) / 16=m:=by omega
 have hm2:(L:Int).tdiv 16=m:=by rw[Int.tdiv_eq_ediv_of_nonneg (by omega)];exact hm1
 have hLm:L=16*m:=by omega
 have hm3:m≤256:=by omega
 have hLz:(L:Int) % 16=0:=by omega
 have hLz2:(L:Int).tmod 16=0:=by rw[Int.tmod_eq_emod_of_nonneg (by omega)];exact hLz
 have hL4:L≤4096:=by omega
 have hb0:=hb;rw[← hKL] at hmay hkc1 hb0 ⊢;rw[← hL] at hdc1 ⊢
 have htw:∀ w1,Bytes w1 S (.slice ka KL kcap) key→QBoxAt w1 tb→Calls prog 46 #[.pointer (some ⟨tb,0,none⟩),.slice ka KL kcap,.int .i64 unit,.int .i64 m] w1 fun e w'=>∃ v,e=.returned v∧w'.ownsRow w1.heap.size 73 16 v m (blkCells (twB T) m)∧Below w1.heap.size w1 w':=by
  intro w1 h ht;have h2:=htw0 w1 (by rw[← hKL];exact h) ht m (by omega);rw[← hKL] at h2;exact h2
 clear htw0;rw[← hm,← hn];have hd':Cells w S' (.slice da L dcap) L 1 (u8s data):=by rw[hL];exact hd
 have hD:∀ (w3:World) (F:Nat→Prop) p kv' (b:List UInt8),QCipherAt w3 F p tb kv' K1→b.length=16→Calls prog 47 #[.pointer (some ⟨p,0,none⟩),.agg (u8s b).toArray] w3 fun e w'=>e=.returned (.agg (u8s (decrypt K1 b)).toArray)∧Below w3.heap.size w3 w':=by
  intro w3 F p kv' b h hb;have h2:=qDec_ok h b hb (by omega) hkl.2.2.2;rw[decQ_eq hb] at h2;exact h2
 have hDl:∀ b:List UInt8,b.length=16→(decrypt K1 b).length=16:=fun b hb=>decrypt_length hb
 obtain⟨D,hDd⟩:∃ D,D=decrypt K1:=⟨_,rfl⟩;simp only[← hDd] at hD hDl ⊢;replace hDd:=LH hDd;replace hD:=LH hD;replace hDl:=LH hDl;clear ev1 e1 hn hl1 hb hd;replace hmay:=LH hmay;replace hcall:=LH hcall;replace htw:=LH htw;replace hT:=LH hT;replace hL:=LH hL;replace hm:=LH hm;replace hLm:=LH hLm;replace hKL:=LH hKL;replace hH:=LH hH;replace hK1:=LH hK1;replace hK2:=LH hK2;replace hv1:=LH hv1;replace ht:=LH ht;replace hk:=LH hk;replace hkl:=LH hkl;replace hd':=LH hd';replace hb0:=LH hb0;replace h16:=LH h16;replace hmost:=LH hmost;go_enter func26,ntmps26
 go_wp2_with (fail)
 refine hmay.out.mono ?_;rintro e w0 ⟨rfl,rfl⟩;clear hmay
 go_wp2_with (fail)
 refine hcall.out.mono ?_;rintro e w1 ⟨p,kv',rfl,hp,hC,hb1⟩;rw[← HN.out] at hp hb1;have ht1:=LH (show QBoxAt w1 tb from Arr.keep ht.out (hb1.block tb (by rw[HN.out];exact heap_lt ht.out)));have hbk1:=LH (hb0.out.keep (w':=w1) (by have:=hb1.size;exact this) (fun g _ hg=>hb1.block g (by rw[HN.out];exact hg)));replace hC:=LH hC;replace hb1:=LH hb1;clear hcall
 go_wp2_with (fail)
 refine (htw.out w1 hbk1.out ht1.out).mono ?_;rintro e w4 ⟨tv,rfl,hto,hb4⟩;clear htw;have hC4:=LH (hC.out.keep hb4.size (fun g _ hg=>hb4.block g hg));have hB4:=LH (hb1.out.trans (hb4.mono (by have:=hb1.out.size;rw[HN.out];exact this)));obtain⟨B,hBz⟩:∃ B,B=w4.heap.size:=⟨_,rfl⟩;have hnB:n≤B:=by have:=hB4.out.size;have:=HN.out;omega
 obtain⟨ta,tcap,rfl,htc1,htc2⟩:=(Cells.own hto).shape;unfold maxLen at htc2;have hO0:QOut w4 B (.slice none 0 0) [] w4:=⟨Below.refl _ _,by omega,World.ownsRow_nil _ _ _ _⟩
 have hfin:∀ (o:Value) (k:Nat) x,QOut w4 B o (thru D T data k) x→k=m→x.ownsRow n 5 1 o L (u8s (thru D T data m))∧Below n w x:=by
  intro o k x h hkm;subst hkm;have h1:=h.own;rw[thru_length,← hLm.out] at h1;exact⟨owns_lower h1 hnB,hB4.out.trans (h.below.mono hnB)⟩
 replace hfin:=LH hfin;replace hto:=LH hto;replace hBz:=LH hBz;replace hO0:=LH hO0;clear hb4 hC hb1 hbk1 ht1;go_wp2
 go_loopg [14,15,16,17,18] m (fun g o i _ _ _ wr=>∃ (k:Nat) (ov:Value),k+g=m∧i=.int .i64 k∧ov=o∧Hid (QOut w4 B ov (thru D T data k) wr))
 case atStart=>exact⟨0,_,by omega,rfl,rfl,hO0.out⟩
 case round=>
  clear hO0;obtain⟨k,ov,hkg,rfl,rfl,hO⟩:=hrel;by_cases hlt:k<m
  ·obtain⟨g1,rfl⟩:∃ j,gk=j+1:=⟨gk - 1,by omega⟩;obtain⟨gd,doff,dcap',hde,_,_,_,hgd,hdcell⟩:=hd'.out.at (by have:=hLm.out;omega);cases hde
   obtain⟨gt,tcp,hte,_,_⟩:=own_shape hto.out (by omega);cases hte
   have hgt:=hto.out.lt gt rfl;have htcell:=hto.out.cells (g:=gt) rfl
   have hDat:∀ (x:World),Below B w4 x→∀ j,j<16→x.cell? ⟨gd,doff+(16*k+j),none⟩=some (.int .u8 (data.getD (16*k+j) 0).toNat):=by
    intro x hx j hj;have hgB:gd<B:=by have:=HN.out;omega
    have hwB:w4.heap[gd]?=w.heap[gd]?:=hB4.out.block gd (by rw[HN.out];exact hgd);have h:=hdcell (16*k+j) _ (u8s_get data (16*k+j) (by have:=hL.out;have:=hLm.out;omega));rw[World.cell?_of_block (w:=w4) (hx.block gd hgB),World.cell?_of_block (w:=w) hwB,h];have hlt2:16*k+j<data.length:=by have:=hL.out;have:=hLm.out;omega
    simp[List.getD,hlt2]
   have hTat:∀ (x:World),Below B w4 x→∀ j,j<16→x.cell? ⟨gt,k*16+j,none⟩=some (.int .u8 ((twB T k).getD j 0).toNat):=by
    intro x hx j hj;have h:=htcell (k*16+j) _ (blkCells_get (fun q=>twB_length hTl q) hlt hj);rw[World.cell?_of_block (w:=w4) (hx.block gt (by rw[hBz.out];exact hgt.2))];rw[Addr.add_lit,Nat.zero_add] at h;exact h
   have hgtx:∀ (x:World),Below B w4 x→gt<x.heap.size:=fun x hx=>Nat.lt_of_lt_of_le hgt.2 hx.size
   have hgdx:∀ (x:World),Below B w4 x→gd<x.heap.size:=fun x hx=>Nat.lt_of_lt_of_le hgd (Nat.le_trans hB4.out.size hx.size)
   obtain⟨TK,hTK⟩:∃ X,X=twB T k:=⟨_,rfl⟩;have hTKl:TK.length=16:=hTK ▸ twB_length hTl k;rw[← hTK] at hTat;obtain⟨BK,hBK⟩:∃ X,X=blk data k:=⟨_,rfl⟩;have hBKl:BK.length=16:=by rw[hBK];exact blk_length (by have:=hL.out;have:=hLm.out;omega)
   have hBKg:∀ j,j<16→BK.getD j 0=data.getD (16*k+j) 0:=fun j hj=>by rw[hBK];exact blk_get hj
   have hsucc:thru D T data (k+1)=thru D T data k++xor2 (D (xor2 BK TK)) TK:=by rw[thru,thruB,← hTK,← hBK]
   obtain⟨R,hR⟩:∃ R,R=thru D T data k:=⟨_,rfl⟩;have hRl:R.length=16*k:=by rw[hR,thru_length]
   rw[← hR] at hO hsucc;have hbx:=hO.out.box;obtain⟨b,hbz⟩:∃ b,b=wr.heap.size:=⟨_,rfl⟩;rw[← hbz] at hbx;replace hbx:=LH hbx;replace hbz:=LH hbz;replace hTK:=LH hTK;replace hBK:=LH hBK;replace hBKg:=LH hBKg;replace hsucc:=LH hsucc;replace hR:=LH hR;replace hRl:=LH hRl;replace hDat:=LH hDat;replace hTat:=LH hTat;replace hgtx:=LH hgtx;replace hgdx:=LH hgdx;obtain⟨q,hq⟩:∃ q,q=16*k:=⟨_,rfl⟩;have hqi:16*(k:Int)=q:=by omega
   have hqL:q+16≤L:=by have:=hLm.out;omega
   have hqz:(k:Int)<256:=by omega
   replace hq:=LH hq;clear hO hdcell htcell;go_wp2;rw[← hbz.out]
   go_loopg [17] 16 (fun g j wr=>∃ i:Nat,i+g=16∧j=.int .i64 i∧Hid (QXt w4 B b ov R (fillQ (xorC BK TK) i) wr))
   case atStart=>exact⟨0,by omega,rfl,hbx.out⟩
   case round=>
    clear hbx;obtain⟨i,hig,rfl,hX⟩:=hrel;by_cases hi:i<16
    ·obtain⟨g2,rfl⟩:∃ j,gk=j+1:=⟨gk - 1,by omega⟩;have hxb:=hX.out.out.below;have cD:=hDat.out wr hxb i hi;have cT:=hTat.out wr hxb i hi;rw[← hq.out] at cD;obtain⟨qi,hqi2⟩:∃ x,x=q+i:=⟨_,rfl⟩;have hqii:(q:Int)+i=qi:=by omega
     rw[← hqi2] at cD;have hx:=hBKg.out i hi;rw[← hq.out,← hqi2] at hx;rw[← hx] at cD;obtain⟨d,hdd⟩:∃ d,d=(BK.getD i 0).toNat:=⟨_,rfl⟩;obtain⟨t,htt⟩:∃ d,d=(TK.getD i 0).toNat:=⟨_,rfl⟩;rw[← hdd] at cD;rw[← htt] at cT;have hdl:d<256:=hdd ▸ UInt8.toNat_lt _;have htl:t<256:=htt ▸ UInt8.toNat_lt _;have hxx:bits .xor .u8 (d:Int) (t:Int)=((d ^^^ t:Nat):Int):=u8_xor_nat d t hdl htl;have hset:=hX.out.set i (xorC BK TK i);have hxe:(xorC BK TK i).toNat=d ^^^ t:=by rw[xorC,← hdd,← htt];exact byte_toNat (xor8 hdl htl)
     rw[hxe] at hset;obtain⟨x,hxd⟩:∃ x,x=d ^^^ t:=⟨_,rfl⟩;rw[← hxd] at hset hxx;have f0:=hX.out.box.frozen i;have c0:=hX.out.box.cell i (by rw[fillQ_length];exact hi);have hgdw:=hgdx.out wr hxb;have hgtw:=hgtx.out wr hxb;have hbw:b<wr.heap.size:=heap_lt hX.out.box;have hset2:QXt w4 B b ov R (fillQ (xorC BK TK) (i+1)) (wr.setCell ⟨b,i,none⟩ (.int .u8 x)).drew:=hset;have hdm:qi<L:=by omega
     replace hset2:=LH hset2;replace hqi2:=LH hqi2;replace hdd:=LH hdd;replace htt:=LH htt;replace hxd:=LH hxd;clear hset hX hxe hx hxb;go_wp2
     go_region
     go_wp2;go_roundg g2
     case measure=>omega
     case rel=>exact⟨i+1,by omega,by go_num,hset2.out⟩
    ·obtain rfl:i=16:=by omega
     clear hi hig;obtain⟨A1,hA1⟩:∃ A,A=fillQ (xorC BK TK) 16:=⟨_,rfl⟩;have hA1e:A1=xor2 BK TK:=by rw[hA1,fillQ_16,xor2_map hBKl hTKl]
     have hA1l:A1.length=16:=hA1 ▸ fillQ_length;rw[← hA1] at hX;have hl1:=LH (run_loadAt_arr (P:=prog) hX.out.box underlying73 (size61 hA1l));have hC5:=hC4.out.keep hX.out.out.below.size (fun g _ hg=>hX.out.out.below.block g (by rw[hBz.out];exact hg));have hcl:=LH (hD.out wr _ p kv' A1 hC5 hA1l);replace hA1:=LH hA1;replace hA1e:=LH hA1e;clear hC5
     go_wp2_with (first|(refine wpList_load rfl 73 _ rfl _ _ rfl hl1.out ?_))
     refine hcl.out.mono ?_;rintro e w5 ⟨rfl,hb5⟩;have hX5:=hX.out.after hb5;obtain⟨A2,hA2⟩:∃ A,A=D A1:=⟨_,rfl⟩;rw[← hA2];have hA2l:A2.length=16:=hA2 ▸ hDl.out A1 hA1l;have hst:=block_store' hX5.box hA1l A2 hA2l;have hX6:=hX5.put A2;obtain⟨w6,hw6⟩:∃ a,a=w5.setRow b (u8s A2).toArray:=⟨_,rfl⟩;rw[← hw6] at hst hX6;have hs2:thru D T data (k+1)=R++(List.range 16).map (xorC A2 TK):=by rw[hsucc.out,← hA1e.out,← hA2,xor2_map hA2l hTKl]
     replace hs2:=LH hs2;clear hA1e;replace hst:=LH hst;replace hX6:=LH hX6;replace hw6:=LH hw6;replace hA2:=LH hA2;clear hX hX5 hb5 hl1 hcl
     go_wp2_with (first|(refine wpList_store rfl 73 _ _ rfl _ _ rfl rfl hst.out ?_))
     clear hst
     go_loopg [14,18] 16 (fun g o j wr=>∃ i:Nat,i+g=16∧j=.int .i64 i∧Hid (QXt w4 B b o (R++(List.range i).map (xorC A2 TK)) A2 wr))
     case atStart=>exact⟨0,by omega,rfl,by show QXt _ _ _ _ _ _ _;rw[List.range_zero,List.map_nil,List.append_nil];exact hX6.out⟩
     case round=>
      clear hX6;obtain⟨i,hig,rfl,hX⟩:=hrel;by_cases hi:i<16
      ·obtain⟨g2,rfl⟩:∃ j,gk=j+1:=⟨gk - 1,by omega⟩;have hxb:=hX.out.out.below;have cT:=hTat.out wr hxb i hi;have cA:=hX.out.box.cell i (by omega);obtain⟨d,hdd⟩:∃ d,d=(A2.getD i 0).toNat:=⟨_,rfl⟩;obtain⟨t,htt⟩:∃ d,d=(TK.getD i 0).toNat:=⟨_,rfl⟩;rw[← hdd] at cA;rw[← htt] at cT;have hdl:d<256:=hdd ▸ UInt8.toNat_lt _;have htl:t<256:=htt ▸ UInt8.toNat_lt _;have hxx:bits .xor .u8 (d:Int) (t:Int)=((d ^^^ t:Nat):Int):=u8_xor_nat d t hdl htl;have hxe:d ^^^ t=(xorC A2 TK i).toNat:=by rw[xorC,← hdd,← htt];exact (byte_toNat (xor8 hdl htl)).symm
       rw[hxe] at hxx;obtain⟨c9,hxd⟩:∃ c9,c9=xorC A2 TK i:=⟨_,rfl⟩;rw[← hxd] at hxx hxe;have hRs:R++(List.range (i+1)).map (xorC A2 TK)=(R++(List.range i).map (xorC A2 TK))++[c9]:=by rw[range_succ_map,← List.append_assoc,hxd]
       have hRll:(R++(List.range i).map (xorC A2 TK)).length≤5000:=by rw[List.length_append,hRl.out];simp;omega
       obtain⟨Q,hQ⟩:∃ Q,Q=R++(List.range i).map (xorC A2 TK):=⟨_,rfl⟩;rw[← hQ] at hX hRs hRll;have hgtw:=hgtx.out wr hxb;have hbw:b<wr.heap.size:=heap_lt hX.out.box;have hdr:∀ w3,Chg No wr.drew w3→Chg No wr w3:=fun w3 h=>⟨h.os,h.tape,h.output,h.size,h.block⟩
       replace hdr:=LH hdr;replace hxe:=LH hxe;replace hxd:=LH hxd;replace hdd:=LH hdd;replace htt:=LH htt;replace hQ:=LH hQ;replace hRs:=LH hRs;replace cA:=LH cA;replace cT:=LH cT;clear hxb;go_wp2;refine RA.rt (Chg No) [1,1,1,1,1,1,1,1,1,1,1,3,6,5] [12] (fun _=>True) (trivial) (fun _=>Chg.refl _ _) (fun _ _ _ h k=>h.trans k) (h:=?_);intro cx
       repeat refine RA.qq (h:=?_)
       refine RA.ik prog (b) (i) (h:=?_);refine RA.lk prog (.int .u8 d) (hc:=fun w3 hp=>by exact ((hdr.out _ hp.1).cell (p:=⟨b,i,none⟩) hbw id).trans cA.out) (h:=?_)
       repeat refine RA.qq (h:=?_)
       refine RA.ik prog (gt) (k*16) (h:=?_);refine RA.ik prog (gt) (k*16+i) (h:=?_);refine RA.lk prog (.int .u8 t) (hc:=fun w3 hp=>by exact ((hdr.out _ hp.1).cell (p:=⟨gt,k*16+i,none⟩) hgtw id).trans cT.out) (h:=?_);refine RA.vk prog (.int .u8 c9.toNat) (h:=?_)
       refine RA.bq (fun x w3=>Cells w3 (fun _=>True) x 1 1 [.int .u8 c9.toNat]) (fun _ _=>True) (by kernel_rfl) (by rfl) (by kernel_rfl) (fun _ _ _ h k=>k.chg h (fun _ _ _=>id)) (fun _ _ _ _ _=>trivial) (fun w3 hp _=>by
        refine⟨.slice (some ⟨w3.heap.size,0,none⟩) 1 1,w3.alloc (.cells #[.int .u8 c9.toNat] 5),?_,(Chg.refl _ _).alloc _,lit_cells w3 #[.int .u8 c9.toNat] 5 1 1 rfl (by unfold maxLen;omega),trivial⟩;show (execOp _ _).run prog w3=_;go_simp) (fun x=>?_)
       refine RA.bqt (fun v' w5=>QXt w4 B b v' (Q++[c9]) A2 w5) (by kernel_rfl) (by rfl) (by kernel_rfl) (fun _ _ _ h k=>h ▸ k) (fun w3 hp0 _=>by
        have hp:=hp0.first (by kernel_rfl);obtain⟨v',w5,h1,h2⟩:=hX.out.push (hdr.out _ hp.1) c9 (hp.fact 0 rfl (by kernel_rfl)) hRll;exact⟨v',w5,RA.ex_append (by rfl) (by rfl) h1,h2⟩) (fun v'=>?_)
       refine RA.pasX (by rfl) (by rfl) (by rfl) ?_;refine RA.RA.doneT (fun w5 hH=>?_);simp only[RA.put,List.foldr_cons,List.foldr_nil,cx,Act.put,List.setIfInBounds_toArray,List.set_cons_succ,List.set_cons_zero];replace hH:=LH hH;go_wp2;go_roundg g2
       case measure=>omega
       case rel=>exact⟨i+1,by omega,by go_num,by rw[hRs.out];exact hH.out⟩
      ·obtain rfl:i=16:=by omega
       clear hi hig;rw[← hs2.out] at hX;have hO9:=LH hX.out.out;clear hX;go_wp2;go_roundg g1
       case measure=>omega
       case rel=>exact⟨k+1,_,by omega,by go_num,rfl,hO9.out⟩
  ·obtain rfl:k=m:=by omega
   have hf:=hfin.out _ k wr hO.out rfl;replace hf:=LH hf;clear hO hfin hlt hkg;go_wp2;go_ret2;exact⟨_,rfl,hf.out.1,hf.out.2⟩
end Go.Proofs.YtbgfdbidbjlaaaaGreat.Fd

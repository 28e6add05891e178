/-
  aes.New: a cipher of a key of 16 or 32 bytes. No condition beyond what each theorem names.
-/
import Derived.Test.YthmcbgidehjlbaaGreatRmPush
namespace Go.Proofs.YthmcbgidehjlbaaGreat.Fd
open _root_.Go.Proofs.Tryz
open Go Go.RowKit K
set_option maxRecDepth 100000
set_option maxHeartbeats 8000000
theorem infoU32:(prog.info? 244).map (fun i=>(i.zero,i.size,i.bytes))=some (some (.int .u32 0),1,4):=by kernel_rfl
def keyW (key:List UInt8) (i:Nat):Nat:=w32 (key.getD (4*i) 0).toNat (key.getD (4*i+1) 0).toNat (key.getD (4*i+2) 0).toNat (key.getD (4*i+3) 0).toNat
theorem keyW_lt {key:List UInt8}{i:Nat}:keyW key i<4294967296:=w32_lt (UInt8.toNat_lt _) (UInt8.toNat_lt _) (UInt8.toNat_lt _) (UInt8.toNat_lt _)
def keys0 (key:List UInt8):Nat→List UInt32
 | 0=>[]
 | i+1=>keys0 key i++[UInt32.ofNat (keyW key i)]
theorem keys0_length {key:List UInt8}{i:Nat}:(keys0 key i).length=i:=by
 induction i with
 | zero=>rfl
 | succ i ih=>simp[keys0,ih]
def turnW (n i x:Nat):Nat:=if i % n=0 then subW (rot32 x 8) ^^^ round (i / n)*16777216 else if 6<n∧i % n=4 then subW x else x
theorem xor32 {a b:Nat}(ha:a<4294967296) (hb:b<4294967296):a ^^^ b<4294967296:=Nat.xor_lt_two_pow (n:=32) ha hb
def nextW (ks:List UInt32) (n i:Nat):Nat:=(ks.getD (i - n) 0).toNat ^^^ turnW n i (ks.getD (i - 1) 0).toNat
def keysF (key:List UInt8) (n:Nat):Nat→List UInt32
 | 0=>keys0 key n
 | m+1=>keysF key n m++[UInt32.ofNat (nextW (keysF key n m) n (n+m))]
theorem keysF_length {key:List UInt8}{n m:Nat}:(keysF key n m).length=n+m:=by
 induction m with
 | zero=>exact keys0_length
 | succ m ih=>simp[keysF,ih];omega
def sched (key:List UInt8):List UInt32:=keysF key (key.length / 4) (3*(key.length / 4)+28)
theorem sched16 {key:List UInt8}(h:key.length=16):sched key=keysF key 4 40:=by rw[sched,h]
theorem sched32 {key:List UInt8}(h:key.length=32):sched key=keysF key 8 52:=by rw[sched,h]
theorem u32s_push (l:List UInt32) (n:Nat) (h:n<4294967296):u32s (l++[UInt32.ofNat n])=u32s l++[.int .u32 n]:=by simp[u32s];omega
structure NewSt (w:World) (n p tb:Nat) (kv:Value) (ks:List UInt32) (x:World):Prop where
 below:Below n w x
 size:n≤x.heap.size
 hp:n≤p
 ht:n≤tb
 ne:p≠tb
 box:x.heap[p]?=some (.cells #[.pointer (some ⟨tb,0,none⟩),kv] 294 (0,0))
 tab:Tabs x tb 256
 own:x.ownsRow n 244 1 kv ks.length (u32s ks)
 far:∀ g,kv.ownBlock=some g→g≠p∧g≠tb
theorem NewSt.after {w:World}{n p tb:Nat}{kv:Value}{ks:List UInt32}{x y:World}(h:NewSt w n p tb kv ks x) (hb:Below x.heap.size x y):NewSt w n p tb kv ks y:=by
 obtain⟨l,hA,hL⟩:=h.tab
 exact⟨h.below.trans (hb.mono h.size),Nat.le_trans h.size hb.size,h.hp,h.ht,h.ne,(hb.block p (heap_lt h.box)).trans h.box,⟨l,hA.keep (hb.block tb (heap_lt hA)),hL⟩,
  owns_keep h.own (fun g hg=>hb.block g (h.own.lt g hg).2),h.far⟩
structure PushMid (w:World) (n p tb:Nat) (kv:Value) (ks:List UInt32) (y:Nat) (v':Value) (x:World):Prop where
 cell:x.cell? ⟨p,1,none⟩=some kv
 frozen:x.frozen? ⟨p,1,none⟩=false
 then_:NewSt w n p tb v' (ks++[UInt32.ofNat y]) (x.setCell ⟨p,1,none⟩ v')
 shape:∃ g cp,v'=.slice (some ⟨g,0,none⟩) (ks.length+1) cp
theorem NewSt.push {w:World}{n p tb:Nat}{kv:Value}{ks:List UInt32}{x w3:World}(h:NewSt w n p tb kv ks x) (hR:Chg No x w3){u:Value}{y:Nat}(hy:y<4294967296)
  (hu:Cells w3 (fun _=>True) u 1 1 [.int .u32 y]) (hk:ks.length≤1000):
  ∃ v' w4,(Builtin.append_ #[292,292] 292 #[kv,u]).run prog w3=.ok v' w4∧PushMid w n p tb kv ks y v' w4:=by
 obtain⟨v',w4,hr,r1,r2,r3⟩:=own_push (P:=prog) (bytes:=4) underlying292 infoU32 rfl (by decide) h.own h.size hR hu (by simp[Value.oneCell']) (by unfold maxLen;omega) (by omega) 292;have hpl:=heap_lt h.box;have hpk:¬ kv.ownBlock=some p:=fun e=>(h.far p e).1 rfl
 obtain⟨l,hA,hL⟩:=h.tab;have htl:=heap_lt hA;have htk:¬ kv.ownBlock=some tb:=fun e=>(h.far tb e).2 rfl
 have hbox:=(r2.block p hpl hpk).trans h.box
 have hfar:∀ g,v'.ownBlock=some g→g≠p∧g≠tb:=by
  intro g hg;rcases r3 with e|⟨g',e,hl⟩
  ·exact h.far g (by rw[← e];exact hg)
  ·rw[e] at hg;simp at hg;omega
 refine⟨v',w4,hr,?_,frozen_of hbox 1,⟨?_,?_,h.hp,h.ht,h.ne,?_,⟨l,(hA.keep (r2.block tb htl htk)).keep (setCell_heap_ne _ _ _ (by have:=h.ne;simp;omega)),hL⟩,?_,hfar⟩,?_⟩
 ·rw[cell_of hbox];rfl
 ·refine (h.below.trans (r2.below (B:=n) h.size ?_)).setCell (p:=⟨p,1,none⟩) h.hp _;intro k hk e;have:=(h.own.lt k e).1;omega
 ·have:=r2.size;have:=h.size;simp;omega
 ·rw[setCell_block hbox];rfl
 ·rw[u32s_push _ _ hy,List.length_append];exact owns_keep r1 (fun g hg=>setCell_heap_ne _ _ _ (by have:=(hfar g hg).1;simp;omega))
 ·obtain⟨g,cp,e,_⟩:=own_shape r1 (by omega);exact⟨g,cp,e⟩
theorem new16_ok {w:World}{S:Nat→Prop}{kv:Value}{key:List UInt8}(hb:Bytes w S kv key) (hl:key.length=16):
  Calls prog 189 #[kv] w fun e w'=>∃ p tb kv',e=.returned (.tuple #[.pointer (some ⟨p,0,none⟩),.int .i64 0])∧CipherAt w' (fun g=>w.heap.size≤g) p tb kv' (sched key)∧Below w.heap.size w w':=by
 obtain⟨n,hn⟩:∃ n,n=w.heap.size:=⟨_,rfl⟩;have HN:=LH hn;have hc:Cells w S kv 16 1 (u8s key):=by rw[← hl];exact hb
 obtain⟨g,off,cap,rfl,hc1,hc2,_,hgl,hcell⟩:=Cells.at hc (by omega)
 have hcut:∀ (w3:World) (q:Nat),q<16→(Instr.sliceAt 42 (.slice (some ⟨g,off,none⟩) 16 cap) (some (.int .i64 q)) none none).run prog w3=.ok (.slice (some ⟨g,off+q,none⟩) (16 - q) (cap - q)) w3:=by
  intro w3 q hq;rw[cut_lo (P:=prog) (s:=1) w3 underlying42 (by kernel_rfl) _ _ _ _ (by omega),sliced_in _ _ _ _ _ _ (by omega),Nat.mul_one]
 have hbyte:∀ j,j<16→w.cell? ⟨g,off+j,none⟩=some (.int .u8 (key.getD j 0).toNat):=by
  intro j hj;have h:=hcell j _ (u8s_get key j (by omega));rw[h];simp[List.getD,show j<key.length by omega]
 rw[← hn] at hgl;replace hcut:=LH hcut;replace hbyte:=LH hbyte;replace hl:=LH hl;clear hb hc hcell hn;go_enter func189,ntmps189
 go_wp2_with fail
 refine (made_ok w).mono ?_;rintro e w1 ⟨tb,rfl,htb,htabs,hb1⟩;rw[← HN.out] at htb hb1;obtain⟨p,hp⟩:∃ p,p=w1.heap.size:=⟨_,rfl⟩;obtain⟨lt,htA,htL⟩:=htabs;have htl:=heap_lt htA
 have hS0:NewSt w n p tb (.slice none 0 0) [] (w1.alloc (.cells #[.pointer (some ⟨tb,0,none⟩),.slice none 0 0] 294)):=by
  subst hp;have hz1:=hb1.size;rw[← HN.out] at hz1;refine⟨hb1.alloc hz1 _,by simp;omega,hz1,htb,by omega,heap_alloc_new w1 _,⟨lt,htA.keep (Below.heap_alloc _ _ _ htl),htL⟩,World.ownsRow_nil _ _ _ _,by simp[Value.ownBlock]⟩
 replace hS0:=LH hS0;have hp':=LH hp;clear htA htL htl hb1 htb;go_wp2;obtain⟨w2,hw2⟩:∃ w2,w2=w1.alloc (.cells #[.pointer (some ⟨tb,0,none⟩),.slice none 0 0] 294):=⟨_,rfl⟩;rw[← hw2] at hS0 ⊢;rw[← hp'.out];clear hw2 hp' hp
 go_loopw [25] (fun i wr=>∃ k:Nat,k≤4∧i=.int .i64 k∧∃ kv',Hid (NewSt w n p tb kv' (keys0 key k) wr))
  (fun i _=>4 - (intOf i).toNat)
 case atStart=>exact⟨0,by omega,rfl,_,hS0.out⟩
 case round=>
  clear hS0;obtain⟨k,hk,rfl,kv',hSt⟩:=hrel;have hdr:∀ w3,Chg No wr.drew w3→Chg No wr w3:=fun w3 h=>⟨h.os,h.tape,h.output,h.size,h.block⟩
  replace hdr:=LH hdr;by_cases hlt:k<4
  ·obtain⟨q,hq⟩:∃ q,q=4*k:=⟨_,rfl⟩;have hq4:4*(k:Int)=q:=by omega
   have hqL:q+3<16:=by omega
   have hcut2:=fun w3=>hcut.out w3 q (by omega)
   obtain⟨R,hR⟩:∃ R,R=16 - q:=⟨_,rfl⟩;have hR3:3<R:=by omega
   rw[← hR] at hcut2;replace hR:=LH hR;obtain⟨A,hA⟩:∃ A,A=(key.getD q 0).toNat:=⟨_,rfl⟩;obtain⟨B,hB⟩:∃ B,B=(key.getD (q+1) 0).toNat:=⟨_,rfl⟩;obtain⟨C,hC⟩:∃ C,C=(key.getD (q+2) 0).toNat:=⟨_,rfl⟩;obtain⟨D,hD⟩:∃ D,D=(key.getD (q+3) 0).toNat:=⟨_,rfl⟩;have hcA:=hbyte.out q (by omega);have hcB:=hbyte.out (q+1) (by omega);have hcC:=hbyte.out (q+2) (by omega);have hcD:=hbyte.out (q+3) (by omega);rw[← Nat.add_assoc] at hcB hcC hcD;rw[← hA] at hcA;rw[← hB] at hcB;rw[← hC] at hcC;rw[← hD] at hcD;have hAl:A<256:=hA ▸ UInt8.toNat_lt _;have hBl:B<256:=hB ▸ UInt8.toNat_lt _;have hCl:C<256:=hC ▸ UInt8.toNat_lt _;have hDl:D<256:=hD ▸ UInt8.toNat_lt _;have hkW:keyW key k=w32 A B C D:=by rw[keyW,← hq,← hA,← hB,← hC,← hD]
   clear hA hB hC hD;obtain⟨X1,hX1⟩:∃ X,X=A*16777216:=⟨_,rfl⟩;obtain⟨X2,hX2⟩:∃ X,X=B*65536:=⟨_,rfl⟩;obtain⟨X3,hX3⟩:∃ X,X=X1+X2:=⟨_,rfl⟩;obtain⟨X4,hX4⟩:∃ X,X=C*256:=⟨_,rfl⟩;obtain⟨X5,hX5⟩:∃ X,X=X3+X4:=⟨_,rfl⟩;obtain⟨W,hW⟩:∃ X,X=X5+D:=⟨_,rfl⟩;have ho1:bits .or .u32 (X1:Int) (X2:Int)=(X3:Int):=by rw[u32_or_nat X1 X2 (by omega) (by omega),nat_join 24 X1 X2 (by omega) (by omega),hX3]
   have ho2:bits .or .u32 (X3:Int) (X4:Int)=(X5:Int):=by rw[u32_or_nat X3 X4 (by omega) (by omega),nat_join 16 X3 X4 (by omega) (by omega),hX5]
   have ho3:bits .or .u32 (X5:Int) (D:Int)=(W:Int):=by rw[u32_or_nat X5 D (by omega) (by omega),nat_join 8 X5 D (by omega) (by omega),hW]
   have hWl:W<4294967296:=by omega
   have hWe:keyW key k=W:=by rw[hkW,w32];omega
   replace hWe:=LH hWe;clear hkW;replace hX1:=LH hX1;replace hX2:=LH hX2;replace hX3:=LH hX3;replace hX4:=LH hX4;replace hX5:=LH hX5;replace hW:=LH hW;replace hq:=LH hq;have hb9:=hSt.out.below;rw[← World.cell?_of_block (w:=w) (hb9.block g hgl)] at hcA hcB hcC hcD;have hglr:g<wr.heap.size:=by have:=hb9.size;have:=HN.out;omega
   have hcP:wr.cell? ⟨p,1,none⟩=some kv':=by rw[cell_of hSt.out.box];rfl
   have hplr:=heap_lt hSt.out.box;replace hb9:=LH hb9;replace hcA:=LH hcA;replace hcB:=LH hcB;replace hcC:=LH hcC;replace hcD:=LH hcD;replace hcP:=LH hcP;go_wp2;refine RA.rt (Chg No) [5,1,1,1,1,1,1,1,1,1,1,1,1,1,1,1,1,1,1,1,1,1,1,1,1,1,1,3,6,5,5,7] [28,31] (fun _=>True) (trivial) (fun _=>Chg.refl _ _) (fun _ _ _ h k=>h.trans k) (h:=?_);intro cx;refine RA.pmv (by rfl) (by rfl) (by rfl) ?_
   repeat refine RA.qq (h:=?_)
   refine RA.fk prog (p) (1) (h:=?_);refine RA.lk prog (kv') (hc:=fun w3 hp=>by exact ((hdr.out _ hp.1).cell (p:=⟨p,1,none⟩) hplr id).trans hcP.out) (h:=?_)
   repeat refine RA.qq (h:=?_)
   refine RA.ik prog (g) (off+q) (h:=?_);refine RA.lk prog (.int .u8 A) (hc:=fun w3 hp=>by exact ((hdr.out _ hp.1).cell (p:=⟨g,off+q,none⟩) hglr id).trans hcA.out) (h:=?_);refine RA.vw prog (.int .u32 A) (h:=?_);refine RA.vk prog (.int .u32 X1) (hr:=fun w hp=>by (try go_simp);rw[hX1.out,IntKind.wrap_u32'];omega) (h:=?_)
   repeat refine RA.qq (h:=?_)
   refine RA.ik prog (g) (off+q+1) (h:=?_);refine RA.lk prog (.int .u8 B) (hc:=fun w3 hp=>by exact ((hdr.out _ hp.1).cell (p:=⟨g,off+q+1,none⟩) hglr id).trans hcB.out) (h:=?_);refine RA.vw prog (.int .u32 B) (h:=?_);refine RA.vk prog (.int .u32 X2) (hr:=fun w hp=>by (try go_simp);rw[hX2.out,IntKind.wrap_u32'];omega) (h:=?_);refine RA.vk prog (.int .u32 X3) (h:=?_)
   repeat refine RA.qq (h:=?_)
   refine RA.ik prog (g) (off+q+2) (h:=?_);refine RA.lk prog (.int .u8 C) (hc:=fun w3 hp=>by exact ((hdr.out _ hp.1).cell (p:=⟨g,off+q+2,none⟩) hglr id).trans hcC.out) (h:=?_);refine RA.vw prog (.int .u32 C) (h:=?_);refine RA.vk prog (.int .u32 X4) (hr:=fun w hp=>by (try go_simp);rw[hX4.out,IntKind.wrap_u32'];omega) (h:=?_);refine RA.vk prog (.int .u32 X5) (h:=?_)
   repeat refine RA.qq (h:=?_)
   refine RA.ik prog (g) (off+q+3) (h:=?_);refine RA.lk prog (.int .u8 D) (hc:=fun w3 hp=>by exact ((hdr.out _ hp.1).cell (p:=⟨g,off+q+3,none⟩) hglr id).trans hcD.out) (h:=?_);refine RA.vw prog (.int .u32 D) (h:=?_);refine RA.vk prog (.int .u32 W) (h:=?_)
   refine RA.bq (fun x w3=>Cells w3 (fun _=>True) x 1 1 [.int .u32 W]) (fun _ _=>True) (by kernel_rfl) (by rfl) (by kernel_rfl) (fun _ _ _ h k=>k.chg h (fun _ _ _=>id)) (fun _ _ _ _ _=>trivial) (fun w3 hp _=>by
    refine⟨.slice (some ⟨w3.heap.size,0,none⟩) 1 1,w3.alloc (.cells #[.int .u32 W] 244),?_,(Chg.refl _ _).alloc _,lit_cells w3 #[.int .u32 W] 244 1 1 rfl (by unfold maxLen;omega),trivial⟩;show (execOp _ _).run prog w3=_;go_simp) (fun x=>?_)
   refine RA.bqt (fun v' w4=>PushMid w n p tb kv' (keys0 key k) W v' w4) (by kernel_rfl) (by rfl) (by kernel_rfl) (fun _ _ _ h k=>h ▸ k) (fun w3 hp0 _=>by
    have hp:=hp0.first (by kernel_rfl);obtain⟨v',w4,h1,h2⟩:=hSt.out.push (hdr.out _ hp.1) hWl (hp.fact 0 rfl (by kernel_rfl)) (by rw[keys0_length];omega);exact⟨v',w4,RA.ex_append (by rfl) (by rfl) h1,h2⟩) (fun v'=>?_)
   refine RA.pq (h:=?_);refine RA.pk prog (p) (1) (h:=?_)
   refine RA.stt (fun w5=>NewSt w n p tb v' ((keys0 key k)++[UInt32.ofNat W]) w5) (by rfl) (by rfl) (by kernel_rfl) (fun _ _ h k=>h ▸ k) (fun w4 _ hH=>by
    obtain⟨f1,f2,f3,g',cp,rfl⟩:=hH;refine⟨_,RA.ex_store (by rfl) (by rfl) (w':=w4.setCell ⟨p,1,none⟩ (.slice (some ⟨g',0,none⟩) ((keys0 key k).length+1) cp)) ?_,f3⟩;clear f3;show (Instr.storeAt _ _ _).run prog w4=_;go_simp) ?_
   refine RA.RA.doneT (fun w5 hH=>?_);simp only[RA.put,List.foldr_cons,List.foldr_nil,cx,Act.put,List.setIfInBounds_toArray,List.set_cons_succ,List.set_cons_zero];replace hH:=LH hH;go_wp2;go_roundw
   case rel=>
    refine⟨k+1,by omega,by go_num,v',?_⟩;show NewSt _ _ _ _ _ _ _;rw[keys0,hWe.out];exact hH.out
   case measure=>simp[intOf];omega
  ·have hkN:k=4:=by omega
   subst hkN;go_wp2;rw[show ((4:Nat):Int)=4 from rfl]
   go_loopw [8] (fun i wr=>∃ m:Nat,m≤40∧i=.int .i64 (4+m:Nat)∧∃ kv',Hid (NewSt w n p tb kv' (keysF key 4 m) wr))
    (fun i _=>4+40 - (intOf i).toNat)
   case atStart=>exact⟨0,by omega,rfl,_,hSt.out⟩
   case round=>
    clear hSt hdr hlt hk;obtain⟨m,hm,rfl,kv2,hSt⟩:=hrel;have hdr:∀ w3,Chg No wr.drew w3→Chg No wr w3:=fun w3 h=>⟨h.os,h.tape,h.output,h.size,h.block⟩
    replace hdr:=LH hdr;obtain⟨I,hI⟩:∃ I,I=4+m:=⟨_,rfl⟩;rw[← hI];by_cases hlt:m<40
    ·obtain⟨KS,hKS⟩:∃ KS,KS=keysF key 4 m:=⟨_,rfl⟩;rw[← hKS] at hSt;have hKl:KS.length=I:=by rw[hKS,keysF_length,hI]
     have hown:=hSt.out.own;rw[hKl] at hown;obtain⟨g',cp,rfl,hcp1,hcp2⟩:=own_shape hown (by omega);have hgr:=(hown.lt g' rfl).2;have hcs:=hown.cells (g:=g') rfl
     have hcell2:∀ j,j<I→wr.cell? ⟨g',j,none⟩=some (.int .u32 (KS.getD j 0).toNat):=by
      intro j hj;have h:=hcs j _ (u32s_get KS j (by omega));rw[Addr.add_lit,Nat.zero_add] at h;exact h
     clear hown hcs;replace hKS:=LH hKS;obtain⟨J,hJ⟩:∃ J,J=I - 1:=⟨_,rfl⟩;have hJ1:(I:Int) - 1=J:=by omega
     have hJl:J<I:=by omega
     obtain⟨X,hX⟩:∃ X,X=(KS.getD J 0).toNat:=⟨_,rfl⟩;have hcX:=hcell2 J hJl;rw[← hX] at hcX;have hXl:X<4294967296:=hX ▸ UInt32.toNat_lt _;obtain⟨Y,hY⟩:∃ Y,Y=(KS.getD m 0).toNat:=⟨_,rfl⟩;have hcY:=hcell2 m (by omega);rw[← hY] at hcY;have hYl:Y<4294967296:=hY ▸ UInt32.toNat_lt _;clear hcell2
     have hnx:∀ V,V=turnW 4 I X→UInt32.ofNat (Y ^^^ V)=UInt32.ofNat (nextW KS 4 I):=by
      intro V hV;rw[nextW,show I - 4=m by omega,← hJ,← hX,← hY,← hV]
     replace hnx:=LH hnx;have hcP:wr.cell? ⟨p,1,none⟩=some (.slice (some ⟨g',0,none⟩) I cp):=by rw[cell_of hSt.out.box];rfl
     have hplr:=heap_lt hSt.out.box;have hI1:I<100:=by omega
     have hI0:4≤I:=by omega
     have hIm:(I:Int) - 4=m:=by omega
     have hmI:m<I:=by omega
     replace hX:=LH hX;replace hY:=LH hY;replace hKl:=LH hKl;replace hI:=LH hI;replace hJ:=LH hJ;obtain⟨r,hr⟩:∃ r,r=I % 4:=⟨_,rfl⟩;have hr1:(I:Int) % 4=r:=by omega
     have hr2:(I:Int).tmod 4=r:=by rw[Int.tmod_eq_emod_of_nonneg (by omega)];exact hr1
     obtain⟨Q,hQ⟩:∃ Q,Q=I / 4:=⟨_,rfl⟩;have hQ1:(I:Int) / 4=Q:=by omega
     have hQ2:(I:Int).tdiv 4=Q:=by rw[Int.tdiv_eq_ediv_of_nonneg (by omega)];exact hQ1
     have hQl:Q<200:=by omega
     replace hQ:=LH hQ;replace hr:=LH hr;by_cases hr0:r=0
     ·subst hr0;have hRl:=@round_lt Q;obtain⟨RD,hRD⟩:∃ R,R=round Q:=⟨_,rfl⟩;rw[← hRD] at hRl;obtain⟨RS,hRS⟩:∃ R,R=RD*16777216:=⟨_,rfl⟩;obtain⟨SW,hSW⟩:∃ S,S=subW (rot32 X 8):=⟨_,rfl⟩;have hSWl:SW<4294967296:=hSW ▸ subW_lt;obtain⟨V,hV⟩:∃ V,V=SW ^^^ RS:=⟨_,rfl⟩;have hVl:V<4294967296:=hV ▸ xor32 hSWl (by omega);have hx1:bits .xor .u32 (SW:Int) (RS:Int)=(V:Int):=by rw[u32_xor_nat SW RS (by omega) (by omega),hV]
      have hVt:V=turnW 4 I X:=by rw[turnW,if_pos hr.out.symm,← hQ.out,← hRD,← hRS,← hSW,hV]
      replace hVt:=LH hVt;replace hV:=LH hV;replace hSW:=LH hSW;replace hRS:=LH hRS;replace hRD:=LH hRD;go_wp2;refine RA.rt (Chg No) [1,4,4,1,1,1,4,1,1,1,1] [] (fun _=>True) trivial (fun _=>Chg.refl _ _) (fun _ _ _ h k=>h.trans k) (h:=?_);intro cx
      repeat refine RA.qq (h:=?_)
      refine RA.kc (P:=prog) [_,_] (.int .u32 (rot32 X 8)) (fun _=>True) (fun _ _=>by go_simp) (by kernel_rfl) (by rfl) (by rfl) (by kernel_rfl) (fun _ _ _ h=>h) rfl (fun w3 hp hH=>(rot32_ok X 8 8 hXl (by omega) (.inl rfl) w3).mono (by rintro e w4 ⟨rfl,rfl⟩;exact⟨rfl,Chg.refl _ _,trivial⟩)) ?_;refine RA.kc (P:=prog) [_] (.int .u32 SW) (fun _=>True) (fun _ _=>by go_simp) (by kernel_rfl) (by rfl) (by rfl) (by kernel_rfl) (fun _ _ _ h=>h) rfl (fun w3 hp hH=>(word_ok (rot32 X 8) (rot32_lt hXl) w3).mono (by rintro e w4 ⟨rfl,h2⟩;exact⟨by rw[hSW.out],Chg.of_below h2 _,trivial⟩)) ?_
      repeat refine RA.qq (h:=?_)
      refine RA.vw prog (.int .i64 Q) (h:=?_);refine RA.kc (P:=prog) [_] (.int .u8 RD) (fun _=>True) (fun _ _=>by go_simp) (by kernel_rfl) (by rfl) (by rfl) (by kernel_rfl) (fun _ _ _ h=>h) rfl (fun w3 hp hH=>(round_ok Q hQl w3).mono (by rintro e w4 ⟨rfl,rfl⟩;exact⟨by rw[hRD.out],Chg.refl _ _,trivial⟩)) ?_;refine RA.vw prog (.int .u32 RD) (h:=?_);refine RA.vk prog (.int .u32 RS) (hr:=fun w hp=>by (try go_simp);rw[hRS.out,IntKind.wrap_u32'];omega) (h:=?_);refine RA.vk prog (.int .u32 V) (h:=?_)
      repeat refine RA.qq (h:=?_)
      refine RA.RA.done rfl (fun wx hR hF hH=>?_);clear hF hH;simp only[RA.put,List.foldr_cons,List.foldr_nil,cx,Act.put,List.setIfInBounds_toArray,List.set_cons_succ,List.set_cons_zero];have hbx:=LH (Chg.no (hdr.out _ hR));have hSx:=LH (hSt.out.after hbx.out);clear hR;have hcP5:wx.cell? ⟨p,1,none⟩=some (.slice (some ⟨g',0,none⟩) I cp):=by rw[cell_of hSx.out.box];rfl
      have hplx:=heap_lt hSx.out.box;have hgx:g'<wx.heap.size:=Nat.lt_of_lt_of_le hgr hbx.out.size;have hcY5:=LH ((World.cell?_of_block (w:=wr) (a:=⟨g',m,none⟩) (hbx.out.block g' hgr)).trans hcY);have hdr5:∀ w3,Chg No wx.drew w3→Chg No wx w3:=fun w3 h=>⟨h.os,h.tape,h.output,h.size,h.block⟩
      replace hdr5:=LH hdr5;replace hcP5:=LH hcP5;obtain⟨Z,hZ⟩:∃ Z,Z=Y ^^^ V:=⟨_,rfl⟩;have hxz:bits .xor .u32 (Y:Int) (V:Int)=(Z:Int):=by rw[u32_xor_nat Y V (by omega) (by omega),hZ]
      have hZl:Z<4294967296:=hZ ▸ xor32 hYl hVl;replace hZ:=LH hZ;clear hcX hcY hcP;go_wp2;refine RA.rt (Chg No) [5,1,1,1,1,1,1,1,1,1,1,1,1,1,1,1,3,6,5,5,7] [17,20] (fun _=>True) (trivial) (fun _=>Chg.refl _ _) (fun _ _ _ h k=>h.trans k) (h:=?_);intro cx;refine RA.pq (h:=?_)
      repeat refine RA.qq (h:=?_)
      refine RA.fk prog (p) (1) (h:=?_);refine RA.lk prog (.slice (some ⟨g',0,none⟩) I cp) (hc:=fun w3 hp=>by exact ((hdr5.out _ hp.1).cell (p:=⟨p,1,none⟩) hplx id).trans hcP5.out) (h:=?_)
      repeat refine RA.qq (h:=?_)
      refine RA.fk prog (p) (1) (h:=?_);refine RA.lk prog (.slice (some ⟨g',0,none⟩) I cp) (hc:=fun w3 hp=>by exact ((hdr5.out _ hp.1).cell (p:=⟨p,1,none⟩) hplx id).trans hcP5.out) (h:=?_)
      repeat refine RA.qq (h:=?_)
      refine RA.si (by kernel_rfl) (by rfl) (by rfl) (by rfl) ((m:Int)) (hIm) (by omega) ?_;refine RA.ik prog (g') (m) (h:=?_);refine RA.lk prog (.int .u32 Y) (hc:=fun w3 hp=>by exact ((hdr5.out _ hp.1).cell (p:=⟨g',m,none⟩) hgx id).trans hcY5.out) (h:=?_)
      repeat refine RA.qq (h:=?_)
      refine RA.vk prog (.int .u32 Z) (h:=?_)
      refine RA.bq (fun x w3=>Cells w3 (fun _=>True) x 1 1 [.int .u32 Z]) (fun _ _=>True) (by kernel_rfl) (by rfl) (by kernel_rfl) (fun _ _ _ h k=>k.chg h (fun _ _ _=>id)) (fun _ _ _ _ _=>trivial) (fun w3 hp _=>by
       refine⟨.slice (some ⟨w3.heap.size,0,none⟩) 1 1,w3.alloc (.cells #[.int .u32 Z] 244),?_,(Chg.refl _ _).alloc _,lit_cells w3 #[.int .u32 Z] 244 1 1 rfl (by unfold maxLen;omega),trivial⟩;show (execOp _ _).run prog w3=_;go_simp) (fun x=>?_)
      refine RA.bqt (fun v' w4=>PushMid w n p tb (.slice (some ⟨g',0,none⟩) I cp) KS Z v' w4) (by kernel_rfl) (by rfl) (by kernel_rfl) (fun _ _ _ h k=>h ▸ k) (fun w3 hp0 _=>by
       have hp:=hp0.first (by kernel_rfl);obtain⟨v',w4,h1,h2⟩:=hSx.out.push (hdr5.out _ hp.1) hZl (hp.fact 0 rfl (by kernel_rfl)) (by rw[hKl.out];omega);exact⟨v',w4,RA.ex_append (by rfl) (by rfl) h1,h2⟩) (fun v'=>?_)
      refine RA.pq (h:=?_);refine RA.pk prog (p) (1) (h:=?_)
      refine RA.stt (fun w5=>NewSt w n p tb v' (KS++[UInt32.ofNat Z]) w5) (by rfl) (by rfl) (by kernel_rfl) (fun _ _ h k=>h ▸ k) (fun w4 _ hH=>by
       obtain⟨f1,f2,f3,g2,cp2,rfl⟩:=hH;refine⟨_,RA.ex_store (by rfl) (by rfl) (w':=w4.setCell ⟨p,1,none⟩ (.slice (some ⟨g2,0,none⟩) (KS.length+1) cp2)) ?_,f3⟩;clear f3;show (Instr.storeAt _ _ _).run prog w4=_;go_simp) ?_
      refine RA.RA.doneT (fun w5 hH=>?_);simp only[RA.put,List.foldr_cons,List.foldr_nil,cx,Act.put,List.setIfInBounds_toArray,List.set_cons_succ,List.set_cons_zero];replace hH:=LH hH;go_wp2;go_roundw
      case rel=>
       refine⟨m+1,by omega,by have:=hI.out;go_num,v',?_⟩;show NewSt _ _ _ _ _ _ _;rw[keysF,← hKS.out,← hI.out,← hnx.out V hVt.out,← hZ.out];exact hH.out
      case measure=>have:=hI.out;simp[intOf];omega
     ·skip;obtain⟨V,hV⟩:∃ V,V=X:=⟨_,rfl⟩;subst hV;have hVl:=hXl;have hVt:V=turnW 4 I V:=by rw[turnW,if_neg (by have:=hr.out;omega),if_neg (by have:=hr.out;omega)]
      replace hVt:=LH hVt;have e0:((r:Int) == 0)=false:=by simp;omega
      go_wp2;obtain⟨wx,hwx⟩:∃ wx,wx=wr:=⟨_,rfl⟩;have hbx:=LH (show Below wr.heap.size wr wx from hwx ▸ Below.refl _ _);have hSx:=LH (hSt.out.after hbx.out);rw[← hwx];clear hwx;have hcP5:wx.cell? ⟨p,1,none⟩=some (.slice (some ⟨g',0,none⟩) I cp):=by rw[cell_of hSx.out.box];rfl
      have hplx:=heap_lt hSx.out.box;have hgx:g'<wx.heap.size:=Nat.lt_of_lt_of_le hgr hbx.out.size;have hcY5:=LH ((World.cell?_of_block (w:=wr) (a:=⟨g',m,none⟩) (hbx.out.block g' hgr)).trans hcY);have hdr5:∀ w3,Chg No wx.drew w3→Chg No wx w3:=fun w3 h=>⟨h.os,h.tape,h.output,h.size,h.block⟩
      replace hdr5:=LH hdr5;replace hcP5:=LH hcP5;obtain⟨Z,hZ⟩:∃ Z,Z=Y ^^^ V:=⟨_,rfl⟩;have hxz:bits .xor .u32 (Y:Int) (V:Int)=(Z:Int):=by rw[u32_xor_nat Y V (by omega) (by omega),hZ]
      have hZl:Z<4294967296:=hZ ▸ xor32 hYl hVl;replace hZ:=LH hZ;clear hcX hcY hcP;go_wp2;refine RA.rt (Chg No) [5,1,1,1,1,1,1,1,1,1,1,1,1,1,1,1,3,6,5,5,7] [17,20] (fun _=>True) (trivial) (fun _=>Chg.refl _ _) (fun _ _ _ h k=>h.trans k) (h:=?_);intro cx;refine RA.pq (h:=?_)
      repeat refine RA.qq (h:=?_)
      refine RA.fk prog (p) (1) (h:=?_);refine RA.lk prog (.slice (some ⟨g',0,none⟩) I cp) (hc:=fun w3 hp=>by exact ((hdr5.out _ hp.1).cell (p:=⟨p,1,none⟩) hplx id).trans hcP5.out) (h:=?_)
      repeat refine RA.qq (h:=?_)
      refine RA.fk prog (p) (1) (h:=?_);refine RA.lk prog (.slice (some ⟨g',0,none⟩) I cp) (hc:=fun w3 hp=>by exact ((hdr5.out _ hp.1).cell (p:=⟨p,1,none⟩) hplx id).trans hcP5.out) (h:=?_)
      repeat refine RA.qq (h:=?_)
      refine RA.si (by kernel_rfl) (by rfl) (by rfl) (by rfl) ((m:Int)) (hIm) (by omega) ?_;refine RA.ik prog (g') (m) (h:=?_);refine RA.lk prog (.int .u32 Y) (hc:=fun w3 hp=>by exact ((hdr5.out _ hp.1).cell (p:=⟨g',m,none⟩) hgx id).trans hcY5.out) (h:=?_)
      repeat refine RA.qq (h:=?_)
      refine RA.vk prog (.int .u32 Z) (h:=?_)
      refine RA.bq (fun x w3=>Cells w3 (fun _=>True) x 1 1 [.int .u32 Z]) (fun _ _=>True) (by kernel_rfl) (by rfl) (by kernel_rfl) (fun _ _ _ h k=>k.chg h (fun _ _ _=>id)) (fun _ _ _ _ _=>trivial) (fun w3 hp _=>by
       refine⟨.slice (some ⟨w3.heap.size,0,none⟩) 1 1,w3.alloc (.cells #[.int .u32 Z] 244),?_,(Chg.refl _ _).alloc _,lit_cells w3 #[.int .u32 Z] 244 1 1 rfl (by unfold maxLen;omega),trivial⟩;show (execOp _ _).run prog w3=_;go_simp) (fun x=>?_)
      refine RA.bqt (fun v' w4=>PushMid w n p tb (.slice (some ⟨g',0,none⟩) I cp) KS Z v' w4) (by kernel_rfl) (by rfl) (by kernel_rfl) (fun _ _ _ h k=>h ▸ k) (fun w3 hp0 _=>by
       have hp:=hp0.first (by kernel_rfl);obtain⟨v',w4,h1,h2⟩:=hSx.out.push (hdr5.out _ hp.1) hZl (hp.fact 0 rfl (by kernel_rfl)) (by rw[hKl.out];omega);exact⟨v',w4,RA.ex_append (by rfl) (by rfl) h1,h2⟩) (fun v'=>?_)
      refine RA.pq (h:=?_);refine RA.pk prog (p) (1) (h:=?_)
      refine RA.stt (fun w5=>NewSt w n p tb v' (KS++[UInt32.ofNat Z]) w5) (by rfl) (by rfl) (by kernel_rfl) (fun _ _ h k=>h ▸ k) (fun w4 _ hH=>by
       obtain⟨f1,f2,f3,g2,cp2,rfl⟩:=hH;refine⟨_,RA.ex_store (by rfl) (by rfl) (w':=w4.setCell ⟨p,1,none⟩ (.slice (some ⟨g2,0,none⟩) (KS.length+1) cp2)) ?_,f3⟩;clear f3;show (Instr.storeAt _ _ _).run prog w4=_;go_simp) ?_
      refine RA.RA.doneT (fun w5 hH=>?_);simp only[RA.put,List.foldr_cons,List.foldr_nil,cx,Act.put,List.setIfInBounds_toArray,List.set_cons_succ,List.set_cons_zero];replace hH:=LH hH;go_wp2;go_roundw
      case rel=>
       refine⟨m+1,by omega,by have:=hI.out;go_num,v',?_⟩;show NewSt _ _ _ _ _ _ _;rw[keysF,← hKS.out,← hI.out,← hnx.out V hVt.out,← hZ.out];exact hH.out
      case measure=>have:=hI.out;simp[intOf];omega
    ·have hmT:m=40:=by omega
     subst hmT;go_wp2;go_ret2;have hSf:=hSt.out;refine⟨p,tb,kv2,rfl,?_,HN.out ▸ hSf.below⟩;rw[sched16 hl.out];refine⟨hSf.box,HN.out ▸ hSf.hp,hSf.tab,HN.out ▸ hSf.ht,by rw[keysF_length];omega,(Cells.own hSf.own).mono (fun k _ hk=>HN.out ▸ hk.2)⟩
theorem new32_ok {w:World}{S:Nat→Prop}{kv:Value}{key:List UInt8}(hb:Bytes w S kv key) (hl:key.length=32):
  Calls prog 189 #[kv] w fun e w'=>∃ p tb kv',e=.returned (.tuple #[.pointer (some ⟨p,0,none⟩),.int .i64 0])∧CipherAt w' (fun g=>w.heap.size≤g) p tb kv' (sched key)∧Below w.heap.size w w':=by
 obtain⟨n,hn⟩:∃ n,n=w.heap.size:=⟨_,rfl⟩;have HN:=LH hn;have hc:Cells w S kv 32 1 (u8s key):=by rw[← hl];exact hb
 obtain⟨g,off,cap,rfl,hc1,hc2,_,hgl,hcell⟩:=Cells.at hc (by omega)
 have hcut:∀ (w3:World) (q:Nat),q<32→(Instr.sliceAt 42 (.slice (some ⟨g,off,none⟩) 32 cap) (some (.int .i64 q)) none none).run prog w3=.ok (.slice (some ⟨g,off+q,none⟩) (32 - q) (cap - q)) w3:=by
  intro w3 q hq;rw[cut_lo (P:=prog) (s:=1) w3 underlying42 (by kernel_rfl) _ _ _ _ (by omega),sliced_in _ _ _ _ _ _ (by omega),Nat.mul_one]
 have hbyte:∀ j,j<32→w.cell? ⟨g,off+j,none⟩=some (.int .u8 (key.getD j 0).toNat):=by
  intro j hj;have h:=hcell j _ (u8s_get key j (by omega));rw[h];simp[List.getD,show j<key.length by omega]
 rw[← hn] at hgl;replace hcut:=LH hcut;replace hbyte:=LH hbyte;replace hl:=LH hl;clear hb hc hcell hn;go_enter func189,ntmps189
 go_wp2_with fail
 refine (made_ok w).mono ?_;rintro e w1 ⟨tb,rfl,htb,htabs,hb1⟩;rw[← HN.out] at htb hb1;obtain⟨p,hp⟩:∃ p,p=w1.heap.size:=⟨_,rfl⟩;obtain⟨lt,htA,htL⟩:=htabs;have htl:=heap_lt htA
 have hS0:NewSt w n p tb (.slice none 0 0) [] (w1.alloc (.cells #[.pointer (some ⟨tb,0,none⟩),.slice none 0 0] 294)):=by
  subst hp;have hz1:=hb1.size;rw[← HN.out] at hz1;refine⟨hb1.alloc hz1 _,by simp;omega,hz1,htb,by omega,heap_alloc_new w1 _,⟨lt,htA.keep (Below.heap_alloc _ _ _ htl),htL⟩,World.ownsRow_nil _ _ _ _,by simp[Value.ownBlock]⟩
 replace hS0:=LH hS0;have hp':=LH hp;clear htA htL htl hb1 htb;go_wp2;obtain⟨w2,hw2⟩:∃ w2,w2=w1.alloc (.cells #[.pointer (some ⟨tb,0,none⟩),.slice none 0 0] 294):=⟨_,rfl⟩;rw[← hw2] at hS0 ⊢;rw[← hp'.out];clear hw2 hp' hp
 go_loopw [25] (fun i wr=>∃ k:Nat,k≤8∧i=.int .i64 k∧∃ kv',Hid (NewSt w n p tb kv' (keys0 key k) wr))
  (fun i _=>8 - (intOf i).toNat)
 case atStart=>exact⟨0,by omega,rfl,_,hS0.out⟩
 case round=>
  clear hS0;obtain⟨k,hk,rfl,kv',hSt⟩:=hrel;have hdr:∀ w3,Chg No wr.drew w3→Chg No wr w3:=fun w3 h=>⟨h.os,h.tape,h.output,h.size,h.block⟩
  replace hdr:=LH hdr;by_cases hlt:k<8
  ·obtain⟨q,hq⟩:∃ q,q=4*k:=⟨_,rfl⟩;have hq4:4*(k:Int)=q:=by omega
   have hqL:q+3<32:=by omega
   have hcut2:=fun w3=>hcut.out w3 q (by omega)
   obtain⟨R,hR⟩:∃ R,R=32 - q:=⟨_,rfl⟩;have hR3:3<R:=by omega
   rw[← hR] at hcut2;replace hR:=LH hR;obtain⟨A,hA⟩:∃ A,A=(key.getD q 0).toNat:=⟨_,rfl⟩;obtain⟨B,hB⟩:∃ B,B=(key.getD (q+1) 0).toNat:=⟨_,rfl⟩;obtain⟨C,hC⟩:∃ C,C=(key.getD (q+2) 0).toNat:=⟨_,rfl⟩;obtain⟨D,hD⟩:∃ D,D=(key.getD (q+3) 0).toNat:=⟨_,rfl⟩;have hcA:=hbyte.out q (by omega);have hcB:=hbyte.out (q+1) (by omega);have hcC:=hbyte.out (q+2) (by omega);have hcD:=hbyte.out (q+3) (by omega);rw[← Nat.add_assoc] at hcB hcC hcD;rw[← hA] at hcA;rw[← hB] at hcB;rw[← hC] at hcC;rw[← hD] at hcD;have hAl:A<256:=hA ▸ UInt8.toNat_lt _;have hBl:B<256:=hB ▸ UInt8.toNat_lt _;have hCl:C<256:=hC ▸ UInt8.toNat_lt _;have hDl:D<256:=hD ▸ UInt8.toNat_lt _;have hkW:keyW key k=w32 A B C D:=by rw[keyW,← hq,← hA,← hB,← hC,← hD]
   clear hA hB hC hD;obtain⟨X1,hX1⟩:∃ X,X=A*16777216:=⟨_,rfl⟩;obtain⟨X2,hX2⟩:∃ X,X=B*65536:=⟨_,rfl⟩;obtain⟨X3,hX3⟩:∃ X,X=X1+X2:=⟨_,rfl⟩;obtain⟨X4,hX4⟩:∃ X,X=C*256:=⟨_,rfl⟩;obtain⟨X5,hX5⟩:∃ X,X=X3+X4:=⟨_,rfl⟩;obtain⟨W,hW⟩:∃ X,X=X5+D:=⟨_,rfl⟩;have ho1:bits .or .u32 (X1:Int) (X2:Int)=(X3:Int):=by rw[u32_or_nat X1 X2 (by omega) (by omega),nat_join 24 X1 X2 (by omega) (by omega),hX3]
   have ho2:bits .or .u32 (X3:Int) (X4:Int)=(X5:Int):=by rw[u32_or_nat X3 X4 (by omega) (by omega),nat_join 16 X3 X4 (by omega) (by omega),hX5]
   have ho3:bits .or .u32 (X5:Int) (D:Int)=(W:Int):=by rw[u32_or_nat X5 D (by omega) (by omega),nat_join 8 X5 D (by omega) (by omega),hW]
   have hWl:W<4294967296:=by omega
   have hWe:keyW key k=W:=by rw[hkW,w32];omega
   replace hWe:=LH hWe;clear hkW;replace hX1:=LH hX1;replace hX2:=LH hX2;replace hX3:=LH hX3;replace hX4:=LH hX4;replace hX5:=LH hX5;replace hW:=LH hW;replace hq:=LH hq;have hb9:=hSt.out.below;rw[← World.cell?_of_block (w:=w) (hb9.block g hgl)] at hcA hcB hcC hcD;have hglr:g<wr.heap.size:=by have:=hb9.size;have:=HN.out;omega
   have hcP:wr.cell? ⟨p,1,none⟩=some kv':=by rw[cell_of hSt.out.box];rfl
   have hplr:=heap_lt hSt.out.box;replace hb9:=LH hb9;replace hcA:=LH hcA;replace hcB:=LH hcB;replace hcC:=LH hcC;replace hcD:=LH hcD;replace hcP:=LH hcP;go_wp2;refine RA.rt (Chg No) [5,1,1,1,1,1,1,1,1,1,1,1,1,1,1,1,1,1,1,1,1,1,1,1,1,1,1,3,6,5,5,7] [28,31] (fun _=>True) (trivial) (fun _=>Chg.refl _ _) (fun _ _ _ h k=>h.trans k) (h:=?_);intro cx;refine RA.pmv (by rfl) (by rfl) (by rfl) ?_
   repeat refine RA.qq (h:=?_)
   refine RA.fk prog (p) (1) (h:=?_);refine RA.lk prog (kv') (hc:=fun w3 hp=>by exact ((hdr.out _ hp.1).cell (p:=⟨p,1,none⟩) hplr id).trans hcP.out) (h:=?_)
   repeat refine RA.qq (h:=?_)
   refine RA.ik prog (g) (off+q) (h:=?_);refine RA.lk prog (.int .u8 A) (hc:=fun w3 hp=>by exact ((hdr.out _ hp.1).cell (p:=⟨g,off+q,none⟩) hglr id).trans hcA.out) (h:=?_);refine RA.vw prog (.int .u32 A) (h:=?_);refine RA.vk prog (.int .u32 X1) (hr:=fun w hp=>by (try go_simp);rw[hX1.out,IntKind.wrap_u32'];omega) (h:=?_)
   repeat refine RA.qq (h:=?_)
   refine RA.ik prog (g) (off+q+1) (h:=?_);refine RA.lk prog (.int .u8 B) (hc:=fun w3 hp=>by exact ((hdr.out _ hp.1).cell (p:=⟨g,off+q+1,none⟩) hglr id).trans hcB.out) (h:=?_);refine RA.vw prog (.int .u32 B) (h:=?_);refine RA.vk prog (.int .u32 X2) (hr:=fun w hp=>by (try go_simp);rw[hX2.out,IntKind.wrap_u32'];omega) (h:=?_);refine RA.vk prog (.int .u32 X3) (h:=?_)
   repeat refine RA.qq (h:=?_)
   refine RA.ik prog (g) (off+q+2) (h:=?_);refine RA.lk prog (.int .u8 C) (hc:=fun w3 hp=>by exact ((hdr.out _ hp.1).cell (p:=⟨g,off+q+2,none⟩) hglr id).trans hcC.out) (h:=?_);refine RA.vw prog (.int .u32 C) (h:=?_);refine RA.vk prog (.int .u32 X4) (hr:=fun w hp=>by (try go_simp);rw[hX4.out,IntKind.wrap_u32'];omega) (h:=?_);refine RA.vk prog (.int .u32 X5) (h:=?_)
   repeat refine RA.qq (h:=?_)
   refine RA.ik prog (g) (off+q+3) (h:=?_);refine RA.lk prog (.int .u8 D) (hc:=fun w3 hp=>by exact ((hdr.out _ hp.1).cell (p:=⟨g,off+q+3,none⟩) hglr id).trans hcD.out) (h:=?_);refine RA.vw prog (.int .u32 D) (h:=?_);refine RA.vk prog (.int .u32 W) (h:=?_)
   refine RA.bq (fun x w3=>Cells w3 (fun _=>True) x 1 1 [.int .u32 W]) (fun _ _=>True) (by kernel_rfl) (by rfl) (by kernel_rfl) (fun _ _ _ h k=>k.chg h (fun _ _ _=>id)) (fun _ _ _ _ _=>trivial) (fun w3 hp _=>by
    refine⟨.slice (some ⟨w3.heap.size,0,none⟩) 1 1,w3.alloc (.cells #[.int .u32 W] 244),?_,(Chg.refl _ _).alloc _,lit_cells w3 #[.int .u32 W] 244 1 1 rfl (by unfold maxLen;omega),trivial⟩;show (execOp _ _).run prog w3=_;go_simp) (fun x=>?_)
   refine RA.bqt (fun v' w4=>PushMid w n p tb kv' (keys0 key k) W v' w4) (by kernel_rfl) (by rfl) (by kernel_rfl) (fun _ _ _ h k=>h ▸ k) (fun w3 hp0 _=>by
    have hp:=hp0.first (by kernel_rfl);obtain⟨v',w4,h1,h2⟩:=hSt.out.push (hdr.out _ hp.1) hWl (hp.fact 0 rfl (by kernel_rfl)) (by rw[keys0_length];omega);exact⟨v',w4,RA.ex_append (by rfl) (by rfl) h1,h2⟩) (fun v'=>?_)
   refine RA.pq (h:=?_);refine RA.pk prog (p) (1) (h:=?_)
   refine RA.stt (fun w5=>NewSt w n p tb v' ((keys0 key k)++[UInt32.ofNat W]) w5) (by rfl) (by rfl) (by kernel_rfl) (fun _ _ h k=>h ▸ k) (fun w4 _ hH=>by
    obtain⟨f1,f2,f3,g',cp,rfl⟩:=hH;refine⟨_,RA.ex_store (by rfl) (by rfl) (w':=w4.setCell ⟨p,1,none⟩ (.slice (some ⟨g',0,none⟩) ((keys0 key k).length+1) cp)) ?_,f3⟩;clear f3;show (Instr.storeAt _ _ _).run prog w4=_;go_simp) ?_
   refine RA.RA.doneT (fun w5 hH=>?_);simp only[RA.put,List.foldr_cons,List.foldr_nil,cx,Act.put,List.setIfInBounds_toArray,List.set_cons_succ,List.set_cons_zero];replace hH:=LH hH;go_wp2;go_roundw
   case rel=>
    refine⟨k+1,by omega,by go_num,v',?_⟩;show NewSt _ _ _ _ _ _ _;rw[keys0,hWe.out];exact hH.out
   case measure=>simp[intOf];omega
  ·have hkN:k=8:=by omega
   subst hkN;go_wp2;rw[show ((8:Nat):Int)=8 from rfl]
   go_loopw [8] (fun i wr=>∃ m:Nat,m≤52∧i=.int .i64 (8+m:Nat)∧∃ kv',Hid (NewSt w n p tb kv' (keysF key 8 m) wr))
    (fun i _=>8+52 - (intOf i).toNat)
   case atStart=>exact⟨0,by omega,rfl,_,hSt.out⟩
   case round=>
    clear hSt hdr hlt hk;obtain⟨m,hm,rfl,kv2,hSt⟩:=hrel;have hdr:∀ w3,Chg No wr.drew w3→Chg No wr w3:=fun w3 h=>⟨h.os,h.tape,h.output,h.size,h.block⟩
    replace hdr:=LH hdr;obtain⟨I,hI⟩:∃ I,I=8+m:=⟨_,rfl⟩;rw[← hI];by_cases hlt:m<52
    ·obtain⟨KS,hKS⟩:∃ KS,KS=keysF key 8 m:=⟨_,rfl⟩;rw[← hKS] at hSt;have hKl:KS.length=I:=by rw[hKS,keysF_length,hI]
     have hown:=hSt.out.own;rw[hKl] at hown;obtain⟨g',cp,rfl,hcp1,hcp2⟩:=own_shape hown (by omega);have hgr:=(hown.lt g' rfl).2;have hcs:=hown.cells (g:=g') rfl
     have hcell2:∀ j,j<I→wr.cell? ⟨g',j,none⟩=some (.int .u32 (KS.getD j 0).toNat):=by
      intro j hj;have h:=hcs j _ (u32s_get KS j (by omega));rw[Addr.add_lit,Nat.zero_add] at h;exact h
     clear hown hcs;replace hKS:=LH hKS;obtain⟨J,hJ⟩:∃ J,J=I - 1:=⟨_,rfl⟩;have hJ1:(I:Int) - 1=J:=by omega
     have hJl:J<I:=by omega
     obtain⟨X,hX⟩:∃ X,X=(KS.getD J 0).toNat:=⟨_,rfl⟩;have hcX:=hcell2 J hJl;rw[← hX] at hcX;have hXl:X<4294967296:=hX ▸ UInt32.toNat_lt _;obtain⟨Y,hY⟩:∃ Y,Y=(KS.getD m 0).toNat:=⟨_,rfl⟩;have hcY:=hcell2 m (by omega);rw[← hY] at hcY;have hYl:Y<4294967296:=hY ▸ UInt32.toNat_lt _;clear hcell2
     have hnx:∀ V,V=turnW 8 I X→UInt32.ofNat (Y ^^^ V)=UInt32.ofNat (nextW KS 8 I):=by
      intro V hV;rw[nextW,show I - 8=m by omega,← hJ,← hX,← hY,← hV]
     replace hnx:=LH hnx;have hcP:wr.cell? ⟨p,1,none⟩=some (.slice (some ⟨g',0,none⟩) I cp):=by rw[cell_of hSt.out.box];rfl
     have hplr:=heap_lt hSt.out.box;have hI1:I<100:=by omega
     have hI0:8≤I:=by omega
     have hIm:(I:Int) - 8=m:=by omega
     have hmI:m<I:=by omega
     replace hX:=LH hX;replace hY:=LH hY;replace hKl:=LH hKl;replace hI:=LH hI;replace hJ:=LH hJ;obtain⟨r,hr⟩:∃ r,r=I % 8:=⟨_,rfl⟩;have hr1:(I:Int) % 8=r:=by omega
     have hr2:(I:Int).tmod 8=r:=by rw[Int.tmod_eq_emod_of_nonneg (by omega)];exact hr1
     obtain⟨Q,hQ⟩:∃ Q,Q=I / 8:=⟨_,rfl⟩;have hQ1:(I:Int) / 8=Q:=by omega
     have hQ2:(I:Int).tdiv 8=Q:=by rw[Int.tdiv_eq_ediv_of_nonneg (by omega)];exact hQ1
     have hQl:Q<200:=by omega
     replace hQ:=LH hQ;replace hr:=LH hr;by_cases hr0:r=0
     ·subst hr0;have hRl:=@round_lt Q;obtain⟨RD,hRD⟩:∃ R,R=round Q:=⟨_,rfl⟩;rw[← hRD] at hRl;obtain⟨RS,hRS⟩:∃ R,R=RD*16777216:=⟨_,rfl⟩;obtain⟨SW,hSW⟩:∃ S,S=subW (rot32 X 8):=⟨_,rfl⟩;have hSWl:SW<4294967296:=hSW ▸ subW_lt;obtain⟨V,hV⟩:∃ V,V=SW ^^^ RS:=⟨_,rfl⟩;have hVl:V<4294967296:=hV ▸ xor32 hSWl (by omega);have hx1:bits .xor .u32 (SW:Int) (RS:Int)=(V:Int):=by rw[u32_xor_nat SW RS (by omega) (by omega),hV]
      have hVt:V=turnW 8 I X:=by rw[turnW,if_pos hr.out.symm,← hQ.out,← hRD,← hRS,← hSW,hV]
      replace hVt:=LH hVt;replace hV:=LH hV;replace hSW:=LH hSW;replace hRS:=LH hRS;replace hRD:=LH hRD;go_wp2;refine RA.rt (Chg No) [1,4,4,1,1,1,4,1,1,1,1] [] (fun _=>True) trivial (fun _=>Chg.refl _ _) (fun _ _ _ h k=>h.trans k) (h:=?_);intro cx
      repeat refine RA.qq (h:=?_)
      refine RA.kc (P:=prog) [_,_] (.int .u32 (rot32 X 8)) (fun _=>True) (fun _ _=>by go_simp) (by kernel_rfl) (by rfl) (by rfl) (by kernel_rfl) (fun _ _ _ h=>h) rfl (fun w3 hp hH=>(rot32_ok X 8 8 hXl (by omega) (.inl rfl) w3).mono (by rintro e w4 ⟨rfl,rfl⟩;exact⟨rfl,Chg.refl _ _,trivial⟩)) ?_;refine RA.kc (P:=prog) [_] (.int .u32 SW) (fun _=>True) (fun _ _=>by go_simp) (by kernel_rfl) (by rfl) (by rfl) (by kernel_rfl) (fun _ _ _ h=>h) rfl (fun w3 hp hH=>(word_ok (rot32 X 8) (rot32_lt hXl) w3).mono (by rintro e w4 ⟨rfl,h2⟩;exact⟨by rw[hSW.out],Chg.of_below h2 _,trivial⟩)) ?_
      repeat refine RA.qq (h:=?_)
      refine RA.vw prog (.int .i64 Q) (h:=?_);refine RA.kc (P:=prog) [_] (.int .u8 RD) (fun _=>True) (fun _ _=>by go_simp) (by kernel_rfl) (by rfl) (by rfl) (by kernel_rfl) (fun _ _ _ h=>h) rfl (fun w3 hp hH=>(round_ok Q hQl w3).mono (by rintro e w4 ⟨rfl,rfl⟩;exact⟨by rw[hRD.out],Chg.refl _ _,trivial⟩)) ?_;refine RA.vw prog (.int .u32 RD) (h:=?_);refine RA.vk prog (.int .u32 RS) (hr:=fun w hp=>by (try go_simp);rw[hRS.out,IntKind.wrap_u32'];omega) (h:=?_);refine RA.vk prog (.int .u32 V) (h:=?_)
      repeat refine RA.qq (h:=?_)
      refine RA.RA.done rfl (fun wx hR hF hH=>?_);clear hF hH;simp only[RA.put,List.foldr_cons,List.foldr_nil,cx,Act.put,List.setIfInBounds_toArray,List.set_cons_succ,List.set_cons_zero];have hbx:=LH (Chg.no (hdr.out _ hR));have hSx:=LH (hSt.out.after hbx.out);clear hR;have hcP5:wx.cell? ⟨p,1,none⟩=some (.slice (some ⟨g',0,none⟩) I cp):=by rw[cell_of hSx.out.box];rfl
      have hplx:=heap_lt hSx.out.box;have hgx:g'<wx.heap.size:=Nat.lt_of_lt_of_le hgr hbx.out.size;have hcY5:=LH ((World.cell?_of_block (w:=wr) (a:=⟨g',m,none⟩) (hbx.out.block g' hgr)).trans hcY);have hdr5:∀ w3,Chg No wx.drew w3→Chg No wx w3:=fun w3 h=>⟨h.os,h.tape,h.output,h.size,h.block⟩
      replace hdr5:=LH hdr5;replace hcP5:=LH hcP5;obtain⟨Z,hZ⟩:∃ Z,Z=Y ^^^ V:=⟨_,rfl⟩;have hxz:bits .xor .u32 (Y:Int) (V:Int)=(Z:Int):=by rw[u32_xor_nat Y V (by omega) (by omega),hZ]
      have hZl:Z<4294967296:=hZ ▸ xor32 hYl hVl;replace hZ:=LH hZ;clear hcX hcY hcP;go_wp2;refine RA.rt (Chg No) [5,1,1,1,1,1,1,1,1,1,1,1,1,1,1,1,3,6,5,5,7] [17,20] (fun _=>True) (trivial) (fun _=>Chg.refl _ _) (fun _ _ _ h k=>h.trans k) (h:=?_);intro cx;refine RA.pq (h:=?_)
      repeat refine RA.qq (h:=?_)
      refine RA.fk prog (p) (1) (h:=?_);refine RA.lk prog (.slice (some ⟨g',0,none⟩) I cp) (hc:=fun w3 hp=>by exact ((hdr5.out _ hp.1).cell (p:=⟨p,1,none⟩) hplx id).trans hcP5.out) (h:=?_)
      repeat refine RA.qq (h:=?_)
      refine RA.fk prog (p) (1) (h:=?_);refine RA.lk prog (.slice (some ⟨g',0,none⟩) I cp) (hc:=fun w3 hp=>by exact ((hdr5.out _ hp.1).cell (p:=⟨p,1,none⟩) hplx id).trans hcP5.out) (h:=?_)
      repeat refine RA.qq (h:=?_)
      refine RA.si (by kernel_rfl) (by rfl) (by rfl) (by rfl) ((m:Int)) (hIm) (by omega) ?_;refine RA.ik prog (g') (m) (h:=?_);refine RA.lk prog (.int .u32 Y) (hc:=fun w3 hp=>by exact ((hdr5.out _ hp.1).cell (p:=⟨g',m,none⟩) hgx id).trans hcY5.out) (h:=?_)
      repeat refine RA.qq (h:=?_)
      refine RA.vk prog (.int .u32 Z) (h:=?_)
      refine RA.bq (fun x w3=>Cells w3 (fun _=>True) x 1 1 [.int .u32 Z]) (fun _ _=>True) (by kernel_rfl) (by rfl) (by kernel_rfl) (fun _ _ _ h k=>k.chg h (fun _ _ _=>id)) (fun _ _ _ _ _=>trivial) (fun w3 hp _=>by
       refine⟨.slice (some ⟨w3.heap.size,0,none⟩) 1 1,w3.alloc (.cells #[.int .u32 Z] 244),?_,(Chg.refl _ _).alloc _,lit_cells w3 #[.int .u32 Z] 244 1 1 rfl (by unfold maxLen;omega),trivial⟩;show (execOp _ _).run prog w3=_;go_simp) (fun x=>?_)
      refine RA.bqt (fun v' w4=>PushMid w n p tb (.slice (some ⟨g',0,none⟩) I cp) KS Z v' w4) (by kernel_rfl) (by rfl) (by kernel_rfl) (fun _ _ _ h k=>h ▸ k) (fun w3 hp0 _=>by
       have hp:=hp0.first (by kernel_rfl);obtain⟨v',w4,h1,h2⟩:=hSx.out.push (hdr5.out _ hp.1) hZl (hp.fact 0 rfl (by kernel_rfl)) (by rw[hKl.out];omega);exact⟨v',w4,RA.ex_append (by rfl) (by rfl) h1,h2⟩) (fun v'=>?_)
      refine RA.pq (h:=?_);refine RA.pk prog (p) (1) (h:=?_)
      refine RA.stt (fun w5=>NewSt w n p tb v' (KS++[UInt32.ofNat Z]) w5) (by rfl) (by rfl) (by kernel_rfl) (fun _ _ h k=>h ▸ k) (fun w4 _ hH=>by
       obtain⟨f1,f2,f3,g2,cp2,rfl⟩:=hH;refine⟨_,RA.ex_store (by rfl) (by rfl) (w':=w4.setCell ⟨p,1,none⟩ (.slice (some ⟨g2,0,none⟩) (KS.length+1) cp2)) ?_,f3⟩;clear f3;show (Instr.storeAt _ _ _).run prog w4=_;go_simp) ?_
      refine RA.RA.doneT (fun w5 hH=>?_);simp only[RA.put,List.foldr_cons,List.foldr_nil,cx,Act.put,List.setIfInBounds_toArray,List.set_cons_succ,List.set_cons_zero];replace hH:=LH hH;go_wp2;go_roundw
      case rel=>
       refine⟨m+1,by omega,by have:=hI.out;go_num,v',?_⟩;show NewSt _ _ _ _ _ _ _;rw[keysF,← hKS.out,← hI.out,← hnx.out V hVt.out,← hZ.out];exact hH.out
      case measure=>have:=hI.out;simp[intOf];omega
     ·by_cases hr4:r=4
      ·skip;subst hr4;replace hr1:(I:Int) % 8=4:=hr1;replace hr2:(I:Int).tmod 8=4:=hr2;obtain⟨V,hV⟩:∃ V,V=subW X:=⟨_,rfl⟩;have hVl:V<4294967296:=hV ▸ subW_lt;have hVt:V=turnW 8 I X:=by rw[turnW,if_neg (by have:=hr.out;omega),if_pos ⟨by omega,hr.out.symm⟩,hV]
       replace hVt:=LH hVt;replace hV:=LH hV
       go_wp2_with fail
       refine (word_ok X hXl wr).mono ?_;rintro e wx ⟨rfl,hbx⟩;rw[← hV.out];have hbx:=LH hbx;have hSx:=LH (hSt.out.after hbx.out);have hcP5:wx.cell? ⟨p,1,none⟩=some (.slice (some ⟨g',0,none⟩) I cp):=by rw[cell_of hSx.out.box];rfl
       have hplx:=heap_lt hSx.out.box;have hgx:g'<wx.heap.size:=Nat.lt_of_lt_of_le hgr hbx.out.size;have hcY5:=LH ((World.cell?_of_block (w:=wr) (a:=⟨g',m,none⟩) (hbx.out.block g' hgr)).trans hcY);have hdr5:∀ w3,Chg No wx.drew w3→Chg No wx w3:=fun w3 h=>⟨h.os,h.tape,h.output,h.size,h.block⟩
       replace hdr5:=LH hdr5;replace hcP5:=LH hcP5;obtain⟨Z,hZ⟩:∃ Z,Z=Y ^^^ V:=⟨_,rfl⟩;have hxz:bits .xor .u32 (Y:Int) (V:Int)=(Z:Int):=by rw[u32_xor_nat Y V (by omega) (by omega),hZ]
       have hZl:Z<4294967296:=hZ ▸ xor32 hYl hVl;replace hZ:=LH hZ;clear hcX hcY hcP;go_wp2;refine RA.rt (Chg No) [5,1,1,1,1,1,1,1,1,1,1,1,1,1,1,1,3,6,5,5,7] [17,20] (fun _=>True) (trivial) (fun _=>Chg.refl _ _) (fun _ _ _ h k=>h.trans k) (h:=?_);intro cx;refine RA.pq (h:=?_)
       repeat refine RA.qq (h:=?_)
       refine RA.fk prog (p) (1) (h:=?_);refine RA.lk prog (.slice (some ⟨g',0,none⟩) I cp) (hc:=fun w3 hp=>by exact ((hdr5.out _ hp.1).cell (p:=⟨p,1,none⟩) hplx id).trans hcP5.out) (h:=?_)
       repeat refine RA.qq (h:=?_)
       refine RA.fk prog (p) (1) (h:=?_);refine RA.lk prog (.slice (some ⟨g',0,none⟩) I cp) (hc:=fun w3 hp=>by exact ((hdr5.out _ hp.1).cell (p:=⟨p,1,none⟩) hplx id).trans hcP5.out) (h:=?_)
       repeat refine RA.qq (h:=?_)
       refine RA.si (by kernel_rfl) (by rfl) (by rfl) (by rfl) ((m:Int)) (hIm) (by omega) ?_;refine RA.ik prog (g') (m) (h:=?_);refine RA.lk prog (.int .u32 Y) (hc:=fun w3 hp=>by exact ((hdr5.out _ hp.1).cell (p:=⟨g',m,none⟩) hgx id).trans hcY5.out) (h:=?_)
       repeat refine RA.qq (h:=?_)
       refine RA.vk prog (.int .u32 Z) (h:=?_)
       refine RA.bq (fun x w3=>Cells w3 (fun _=>True) x 1 1 [.int .u32 Z]) (fun _ _=>True) (by kernel_rfl) (by rfl) (by kernel_rfl) (fun _ _ _ h k=>k.chg h (fun _ _ _=>id)) (fun _ _ _ _ _=>trivial) (fun w3 hp _=>by
        refine⟨.slice (some ⟨w3.heap.size,0,none⟩) 1 1,w3.alloc (.cells #[.int .u32 Z] 244),?_,(Chg.refl _ _).alloc _,lit_cells w3 #[.int .u32 Z] 244 1 1 rfl (by unfold maxLen;omega),trivial⟩;show (execOp _ _).run prog w3=_;go_simp) (fun x=>?_)
       refine RA.bqt (fun v' w4=>PushMid w n p tb (.slice (some ⟨g',0,none⟩) I cp) KS Z v' w4) (by kernel_rfl) (by rfl) (by kernel_rfl) (fun _ _ _ h k=>h ▸ k) (fun w3 hp0 _=>by
        have hp:=hp0.first (by kernel_rfl);obtain⟨v',w4,h1,h2⟩:=hSx.out.push (hdr5.out _ hp.1) hZl (hp.fact 0 rfl (by kernel_rfl)) (by rw[hKl.out];omega);exact⟨v',w4,RA.ex_append (by rfl) (by rfl) h1,h2⟩) (fun v'=>?_)
       refine RA.pq (h:=?_);refine RA.pk prog (p) (1) (h:=?_)
       refine RA.stt (fun w5=>NewSt w n p tb v' (KS++[UInt32.ofNat Z]) w5) (by rfl) (by rfl) (by kernel_rfl) (fun _ _ h k=>h ▸ k) (fun w4 _ hH=>by
        obtain⟨f1,f2,f3,g2,cp2,rfl⟩:=hH;refine⟨_,RA.ex_store (by rfl) (by rfl) (w':=w4.setCell ⟨p,1,none⟩ (.slice (some ⟨g2,0,none⟩) (KS.length+1) cp2)) ?_,f3⟩;clear f3;show (Instr.storeAt _ _ _).run prog w4=_;go_simp) ?_
       refine RA.RA.doneT (fun w5 hH=>?_);simp only[RA.put,List.foldr_cons,List.foldr_nil,cx,Act.put,List.setIfInBounds_toArray,List.set_cons_succ,List.set_cons_zero];replace hH:=LH hH;go_wp2;go_roundw
       case rel=>
        refine⟨m+1,by omega,by have:=hI.out;go_num,v',?_⟩;show NewSt _ _ _ _ _ _ _;rw[keysF,← hKS.out,← hI.out,← hnx.out V hVt.out,← hZ.out];exact hH.out
       case measure=>have:=hI.out;simp[intOf];omega
      ·skip;obtain⟨V,hV⟩:∃ V,V=X:=⟨_,rfl⟩;subst hV;have hVl:=hXl;have hVt:V=turnW 8 I V:=by rw[turnW,if_neg (by have:=hr.out;omega),if_neg (by have:=hr.out;omega)]
       replace hVt:=LH hVt;have e0:((r:Int) == 0)=false:=by simp;omega
       have e4:((r:Int) == 4)=false:=by simp;omega
       go_wp2;obtain⟨wx,hwx⟩:∃ wx,wx=wr:=⟨_,rfl⟩;have hbx:=LH (show Below wr.heap.size wr wx from hwx ▸ Below.refl _ _);have hSx:=LH (hSt.out.after hbx.out);rw[← hwx];clear hwx;have hcP5:wx.cell? ⟨p,1,none⟩=some (.slice (some ⟨g',0,none⟩) I cp):=by rw[cell_of hSx.out.box];rfl
       have hplx:=heap_lt hSx.out.box;have hgx:g'<wx.heap.size:=Nat.lt_of_lt_of_le hgr hbx.out.size;have hcY5:=LH ((World.cell?_of_block (w:=wr) (a:=⟨g',m,none⟩) (hbx.out.block g' hgr)).trans hcY);have hdr5:∀ w3,Chg No wx.drew w3→Chg No wx w3:=fun w3 h=>⟨h.os,h.tape,h.output,h.size,h.block⟩
       replace hdr5:=LH hdr5;replace hcP5:=LH hcP5;obtain⟨Z,hZ⟩:∃ Z,Z=Y ^^^ V:=⟨_,rfl⟩;have hxz:bits .xor .u32 (Y:Int) (V:Int)=(Z:Int):=by rw[u32_xor_nat Y V (by omega) (by omega),hZ]
       have hZl:Z<4294967296:=hZ ▸ xor32 hYl hVl;replace hZ:=LH hZ;clear hcX hcY hcP;go_wp2;refine RA.rt (Chg No) [5,1,1,1,1,1,1,1,1,1,1,1,1,1,1,1,3,6,5,5,7] [17,20] (fun _=>True) (trivial) (fun _=>Chg.refl _ _) (fun _ _ _ h k=>h.trans k) (h:=?_);intro cx;refine RA.pq (h:=?_)
       repeat refine RA.qq (h:=?_)
       refine RA.fk prog (p) (1) (h:=?_);refine RA.lk prog (.slice (some ⟨g',0,none⟩) I cp) (hc:=fun w3 hp=>by exact ((hdr5.out _ hp.1).cell (p:=⟨p,1,none⟩) hplx id).trans hcP5.out) (h:=?_)
       repeat refine RA.qq (h:=?_)
       refine RA.fk prog (p) (1) (h:=?_);refine RA.lk prog (.slice (some ⟨g',0,none⟩) I cp) (hc:=fun w3 hp=>by exact ((hdr5.out _ hp.1).cell (p:=⟨p,1,none⟩) hplx id).trans hcP5.out) (h:=?_)
       repeat refine RA.qq (h:=?_)
       refine RA.si (by kernel_rfl) (by rfl) (by rfl) (by rfl) ((m:Int)) (hIm) (by omega) ?_;refine RA.ik prog (g') (m) (h:=?_);refine RA.lk prog (.int .u32 Y) (hc:=fun w3 hp=>by exact ((hdr5.out _ hp.1).cell (p:=⟨g',m,none⟩) hgx id).trans hcY5.out) (h:=?_)
       repeat refine RA.qq (h:=?_)
       refine RA.vk prog (.int .u32 Z) (h:=?_)
       refine RA.bq (fun x w3=>Cells w3 (fun _=>True) x 1 1 [.int .u32 Z]) (fun _ _=>True) (by kernel_rfl) (by rfl) (by kernel_rfl) (fun _ _ _ h k=>k.chg h (fun _ _ _=>id)) (fun _ _ _ _ _=>trivial) (fun w3 hp _=>by
        refine⟨.slice (some ⟨w3.heap.size,0,none⟩) 1 1,w3.alloc (.cells #[.int .u32 Z] 244),?_,(Chg.refl _ _).alloc _,lit_cells w3 #[.int .u32 Z] 244 1 1 rfl (by unfold maxLen;omega),trivial⟩;show (execOp _ _).run prog w3=_;go_simp) (fun x=>?_)
       refine RA.bqt (fun v' w4=>PushMid w n p tb (.slice (some ⟨g',0,none⟩) I cp) KS Z v' w4) (by kernel_rfl) (by rfl) (by kernel_rfl) (fun _ _ _ h k=>h ▸ k) (fun w3 hp0 _=>by
        have hp:=hp0.first (by kernel_rfl);obtain⟨v',w4,h1,h2⟩:=hSx.out.push (hdr5.out _ hp.1) hZl (hp.fact 0 rfl (by kernel_rfl)) (by rw[hKl.out];omega);exact⟨v',w4,RA.ex_append (by rfl) (by rfl) h1,h2⟩) (fun v'=>?_)
       refine RA.pq (h:=?_);refine RA.pk prog (p) (1) (h:=?_)
       refine RA.stt (fun w5=>NewSt w n p tb v' (KS++[UInt32.ofNat Z]) w5) (by rfl) (by rfl) (by kernel_rfl) (fun _ _ h k=>h ▸ k) (fun w4 _ hH=>by
        obtain⟨f1,f2,f3,g2,cp2,rfl⟩:=hH;refine⟨_,RA.ex_store (by rfl) (by rfl) (w':=w4.setCell ⟨p,1,none⟩ (.slice (some ⟨g2,0,none⟩) (KS.length+1) cp2)) ?_,f3⟩;clear f3;show (Instr.storeAt _ _ _).run prog w4=_;go_simp) ?_
       refine RA.RA.doneT (fun w5 hH=>?_);simp only[RA.put,List.foldr_cons,List.foldr_nil,cx,Act.put,List.setIfInBounds_toArray,List.set_cons_succ,List.set_cons_zero];replace hH:=LH hH;go_wp2;go_roundw
       case rel=>
        refine⟨m+1,by omega,by have:=hI.out;go_num,v',?_⟩;show NewSt _ _ _ _ _ _ _;rw[keysF,← hKS.out,← hI.out,← hnx.out V hVt.out,← hZ.out];exact hH.out
       case measure=>have:=hI.out;simp[intOf];omega
    ·have hmT:m=52:=by omega
     subst hmT;go_wp2;go_ret2;have hSf:=hSt.out;refine⟨p,tb,kv2,rfl,?_,HN.out ▸ hSf.below⟩;rw[sched32 hl.out];refine⟨hSf.box,HN.out ▸ hSf.hp,hSf.tab,HN.out ▸ hSf.ht,by rw[keysF_length];omega,(Cells.own hSf.own).mono (fun k _ hk=>HN.out ▸ hk.2)⟩
end Go.Proofs.YthmcbgidehjlbaaGreat.Fd

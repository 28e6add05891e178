/-
  mac.New. No condition beyond what each theorem names.
-/
import Derived.Test.YthmcbgidehjlbaaGreatRmSum
namespace Go.Proofs.YthmcbgidehjlbaaGreat.Fd
open _root_.Go.Proofs.Tryz
open Go Go.RowKit K
set_option maxRecDepth 100000
set_option maxHeartbeats 8000000
theorem absorb_n (parts:List (List UInt8)):∀ k,(absorb parts k).n=((List.range k).map fun j=>(parts.getD j []).length).sum:=by
 intro k
 induction k with
 | zero=>rw[absorb_zero];rfl
 | succ k ih=>rw[absorb_succ,eat,ih,List.range_succ];simp
theorem sum_le (parts:List (List UInt8)) (B:Nat) (h:∀ j,(parts.getD j []).length≤B):∀ k,((List.range k).map fun j=>(parts.getD j []).length).sum≤k*B:=by
 intro k
 induction k with
 | zero=>simp
 | succ k ih=>
  have:=h k;rw[List.range_succ,List.map_append,List.sum_append,Nat.add_mul];simp only[List.map_cons,List.map_nil,List.sum_cons,List.sum_nil,Nat.one_mul,Nat.add_zero];omega
theorem shaSum_ok {w:World}{p:Nat}(hS:SummerAt w p){S:Nat→Prop}{pv:Value}{parts:List (List UInt8)}(hp:PartsAt w S pv parts) (hfew:parts.length≤8) (hlen:∀ x ∈ parts,x.length≤100000):
  Calls prog 186 #[.pointer (some ⟨p,0,none⟩),pv] w fun e w'=>e=.returned (.agg (u8s (sha parts)).toArray)∧Below w.heap.size w w':=by
 have hl:∀ j,(parts.getD j []).length≤100000:=by
  intro j;by_cases hj:j<parts.length
  ·exact hlen _ (by simp[List.getD,hj])
  ·simp[List.getD,List.getElem?_eq_none (Nat.le_of_not_lt hj)]
 refine sum_ok' hS hp (by omega) (fun j=>Nat.le_trans (hl j) (by omega)) _ rfl (fun k hk=>?_);rw[absorb_n];have:=sum_le parts 100000 hl k;omega
def padK (key:List UInt8) (x:Nat):Nat→List UInt8
 | 0=>[]
 | k+1=>padK key x k++[byte ((key.getD k 0).toNat ^^^ x)]
theorem padK_zero {key:List UInt8}{x:Nat}:padK key x 0=[]:=rfl
theorem padK_succ {key:List UInt8}{x k:Nat}:padK key x (k+1)=padK key x k++[byte ((key.getD k 0).toNat ^^^ x)]:=rfl
theorem padK_length {key:List UInt8}{x k:Nat}:(padK key x k).length=k:=by
 induction k with
 | zero=>rfl
 | succ k ih=>rw[padK_succ,List.length_append,ih];rfl
attribute [irreducible] padK
structure KdSt (w:World) (n:Nat) (wB:World) (B p s:Nat) (iv ov a b:Value) (I O:List UInt8) (x:World):Prop where
 below:Below n w x
 since:∀ g,g<B→g≠p→x.heap[g]?=wB.heap[g]?
 size:B≤x.heap.size
 hp:n≤p
 pB:p<B
 sB:s<B
 ne:p≠s
 box:x.heap[p]?=some (.cells #[.pointer (some ⟨s,0,none⟩),iv,ov] 306 (0,0))
 sum:SummerAt x s
 ra:x.ownsRow B 5 1 a I.length (u8s I)
 rb:x.ownsRow B 5 1 b O.length (u8s O)
 ab:∀ g,a.ownBlock=some g→b.ownBlock≠some g
section
variable {w:World}{n:Nat}{wB:World}{B p s:Nat}{iv ov a b:Value}{I O:List UInt8}{x y:World}
theorem KdSt.after (h:KdSt w n wB B p s iv ov a b I O x) (hb:Below x.heap.size x y):KdSt w n wB B p s iv ov a b I O y:=
 ⟨h.below.trans (hb.mono (by have:=h.size;have:=h.hp;have:=h.pB;omega)),fun g hg hp=>(hb.block g (by have:=h.size;omega)).trans (h.since g hg hp),Nat.le_trans h.size hb.size,h.hp,h.pB,h.sB,h.ne,(hb.block p (heap_lt h.box)).trans h.box,h.sum.keep (hb.block s (heap_lt h.sum)),
  owns_keep h.ra (fun g hg=>hb.block g (h.ra.lt g hg).2),owns_keep h.rb (fun g hg=>hb.block g (h.rb.lt g hg).2),h.ab⟩
theorem KdSt.swap_a (h:KdSt w n wB B p s iv ov a b I O x){S:Nat→Prop}{u:Value}(c:UInt8) (hu:Cells x S u 1 1 [.int .u8 c.toNat]) (hI:I.length≤1000):
  ∃ a' y,(Builtin.append_ #[42,42] 42 #[a,u]).run prog x=.ok a' y∧KdSt w n wB B p s iv ov a' b (I++[c]) O y∧Chg (fun g=>a.ownBlock=some g) x y:=by
 obtain⟨a',y,hr,r1,r2,r3⟩:=own_push (P:=prog) (bytes:=1) underlying42 infoByte rfl (by decide) h.ra h.size (Chg.refl _ _) hu (by simp[Value.oneCell']) (by unfold maxLen;omega) (by omega) 42;have hlow:∀ k,k<B→¬ a.ownBlock=some k:=fun k hk e=>by have:=(h.ra.lt k e).1;omega
 have e1:u8s I++[.int .u8 c.toNat]=u8s (I++[c]):=by rw[u8s_append];rfl
 refine⟨a',y,hr,⟨h.below.trans ((r2.below (B:=B) h.size hlow).mono (by have:=h.hp;have:=h.pB;omega)),fun g hg hp=>(r2.block g (by have:=h.size;omega) (hlow g hg)).trans (h.since g hg hp),Nat.le_trans h.size r2.size,h.hp,h.pB,h.sB,h.ne,
  (r2.block p (heap_lt h.box) (hlow p h.pB)).trans h.box,h.sum.keep (r2.block s (heap_lt h.sum) (hlow s h.sB)),?_,owns_keep h.rb (fun g hg=>r2.block g (h.rb.lt g hg).2 (fun e=>h.ab g e hg)),?_⟩,r2⟩
 ·rw[List.length_append,← e1];exact r1
 ·intro g hg hg2;rcases r3 with e|⟨g',e,hl⟩
  ·exact h.ab g (by rw[← e];exact hg) hg2
  ·rw[e] at hg;simp at hg;have:=(h.rb.lt g hg2).2;omega
theorem KdSt.swap_b (h:KdSt w n wB B p s iv ov a b I O x){S:Nat→Prop}{u:Value}(c:UInt8) (hu:Cells x S u 1 1 [.int .u8 c.toNat]) (hO:O.length≤1000):
  ∃ b' y,(Builtin.append_ #[42,42] 42 #[b,u]).run prog x=.ok b' y∧KdSt w n wB B p s iv ov a b' I (O++[c]) y∧Chg (fun g=>b.ownBlock=some g) x y:=by
 obtain⟨b',y,hr,r1,r2,r3⟩:=own_push (P:=prog) (bytes:=1) underlying42 infoByte rfl (by decide) h.rb h.size (Chg.refl _ _) hu (by simp[Value.oneCell']) (by unfold maxLen;omega) (by omega) 42;have hlow:∀ k,k<B→¬ b.ownBlock=some k:=fun k hk e=>by have:=(h.rb.lt k e).1;omega
 have e1:u8s O++[.int .u8 c.toNat]=u8s (O++[c]):=by rw[u8s_append];rfl
 refine⟨b',y,hr,⟨h.below.trans ((r2.below (B:=B) h.size hlow).mono (by have:=h.hp;have:=h.pB;omega)),fun g hg hp=>(r2.block g (by have:=h.size;omega) (hlow g hg)).trans (h.since g hg hp),Nat.le_trans h.size r2.size,h.hp,h.pB,h.sB,h.ne,
  (r2.block p (heap_lt h.box) (hlow p h.pB)).trans h.box,h.sum.keep (r2.block s (heap_lt h.sum) (hlow s h.sB)),owns_keep h.ra (fun g hg=>r2.block g (h.ra.lt g hg).2 (fun e=>h.ab g hg e)),?_,?_⟩,r2⟩
 ·rw[List.length_append,← e1];exact r1
 ·intro g hg2 hg;rcases r3 with e|⟨g',e,hl⟩
  ·exact h.ab g hg2 (by rw[← e];exact hg)
  ·rw[e] at hg;simp at hg;have:=(h.ra.lt g hg2).2;omega
theorem KdSt.put (h:KdSt w n wB B p s iv ov a b I O x) (j:Nat) (v:Value) (iv' ov':Value) (hj:(#[.pointer (some ⟨s,0,none⟩),iv,ov]:Array Value).setIfInBounds j v=#[.pointer (some ⟨s,0,none⟩),iv',ov']):KdSt w n wB B p s iv' ov' a b I O (x.setCell ⟨p,j,none⟩ v):=by
 refine⟨h.below.setCell (p:=⟨p,j,none⟩) h.hp _,fun g hg hp=>(setCell_heap_ne _ _ _ hp).trans (h.since g hg hp),by simpa using h.size,h.hp,h.pB,h.sB,h.ne,?_,h.sum.keep (setCell_heap_ne _ _ _ (by have:=h.ne;simp;omega)),
  owns_keep h.ra (fun g hg=>setCell_heap_ne _ _ _ (by have:=(h.ra.lt g hg).1;have:=h.pB;simp;omega)),owns_keep h.rb (fun g hg=>setCell_heap_ne _ _ _ (by have:=(h.rb.lt g hg).1;have:=h.pB;simp;omega)),h.ab⟩
 rw[setCell_block h.box,hj]
end
structure KeyedAt (w:World) (F:Nat→Prop) (p s:Nat) (iv ov:Value) (key:List UInt8):Prop where
 own:F p
 box:w.heap[p]?=some (.cells #[.pointer (some ⟨s,0,none⟩),iv,ov] 306 (0,0))
 ownS:F s
 sum:SummerAt w s
 inn:Bytes w F iv (padK key 54 64)
 out:Bytes w F ov (padK key 92 64)
theorem KeyedAt.keep {w w':World}{F:Nat→Prop}{p s:Nat}{iv ov:Value}{key:List UInt8}(h:KeyedAt w F p s iv ov key) (hs:w.heap.size≤w'.heap.size) (hk:∀ g,F g→g<w.heap.size→w'.heap[g]?=w.heap[g]?):KeyedAt w' F p s iv ov key:=
 ⟨h.own,(hk p h.own (heap_lt h.box)).trans h.box,h.ownS,h.sum.keep (hk s h.ownS (heap_lt h.sum)),Cells.keep h.inn hs hk,Cells.keep h.out hs hk⟩
theorem macNew_ok {w:World}{S:Nat→Prop}{kv:Value}{K:List UInt8}(hb:Bytes w S kv K) (hl:K.length≤64):
  Calls prog 175 #[kv] w fun e w'=>∃ p s iv ov,e=.returned (.pointer (some ⟨p,0,none⟩))∧KeyedAt w' (fun g=>w.heap.size≤g) p s iv ov K∧Below w.heap.size w w':=by
 obtain⟨n,hn⟩:∃ n,n=w.heap.size:=⟨_,rfl⟩;have HN:=LH hn;obtain⟨KL,hKL⟩:∃ L,L=K.length:=⟨_,rfl⟩;have hcells:Cells w S kv KL 1 (u8s K):=hKL ▸ hb;obtain⟨ka,kcap,rfl,hk1,hk2⟩:=hcells.shape;unfold maxLen at hk2;rw[← hKL] at hl;have hsn:=LH (shNew_ok w);have hcells:=LH hcells;clear hb hn;go_enter func175,ntmps175
 go_wp2_with fail
 refine hsn.out.mono ?_;rintro e w1 ⟨s,rfl,hs,hS,hb1⟩;obtain⟨p,hp⟩:∃ p,p=w1.heap.size:=⟨_,rfl⟩;obtain⟨wB,hwB⟩:∃ x,x=w1.alloc (.cells #[.pointer (some ⟨s,0,none⟩),.slice none 0 0,.slice none 0 0] 306):=⟨_,rfl⟩;obtain⟨B,hB⟩:∃ B,B=wB.heap.size:=⟨_,rfl⟩;have hpB:p<B:=by rw[hB,hwB,hp];simp
 have hns:n≤s:=HN.out ▸ hs;have hsl:=heap_lt hS;have hb1n:Below n w w1:=HN.out ▸ hb1;have hnp:n≤p:=by have:=hb1.size;have:=HN.out;omega
 have hSt:KdSt w n wB B p s (.slice none 0 0) (.slice none 0 0) (.slice none 0 0) (.slice none 0 0) (padK K 54 0) (padK K 92 0) wB:=by
  rw[padK_zero,padK_zero];refine⟨hwB ▸ hb1n.alloc (by omega) _,fun _ _ _=>rfl,Nat.le_of_eq hB,hnp,hpB,by omega,by omega,?_,hwB ▸ hS.keep (Below.heap_alloc _ _ _ hsl),World.ownsRow_nil _ _ _ _,World.ownsRow_nil _ _ _ _,by simp[Value.ownBlock]⟩;rw[hwB,hp];exact heap_alloc_new w1 _
 have hkw:∃ kb ko,kb<B∧kb≠p∧(0<KL→ka=some ⟨kb,ko,none⟩)∧∀ j,j<KL→wB.cell? ⟨kb,ko+j,none⟩=some (.int .u8 (K.getD j 0).toNat):=by
  by_cases h0:0<KL
  ·obtain⟨g,off,cap,hv,_,_,_,hgl,hcl⟩:=Cells.at hcells.out h0;simp only[Value.slice.injEq] at hv;refine⟨g,off,by have:=HN.out;omega,by have:=HN.out;omega,fun _=>hv.1,fun j hj=>?_⟩
   have hgw:wB.heap[g]?=w.heap[g]?:=by
    rw[hwB,Below.heap_alloc _ _ _ (by have:=HN.out;omega)];exact hb1.block g hgl
   have hj':j<K.length:=by omega
   rw[World.cell?_of_block (w:=w) hgw,hcl j _ (u8s_get K j hj')];simp[List.getD,hj']
  ·exact⟨s,0,by omega,by omega,fun h=>absurd h h0,fun j hj=>by omega⟩
 obtain⟨kb,ko,hkB,hkp,hka,hkc⟩:=hkw;replace hkc:=LH hkc;replace hSt:=LH hSt;replace hka:=LH hka;have hp':=LH hp;replace hwB:=LH hwB;have hB':=LH hB;replace hKL:=LH hKL;clear hS hb1 hb1n hs hp hB hcells;go_wp2;rw[← hp'.out,← hwB.out];go_wp2
 go_loopw [21] (fun i wr=>∃ k:Nat,k≤64∧i=.int .i64 k∧∃ iv ov,Hid (KdSt w n wB B p s iv ov iv ov (padK K 54 k) (padK K 92 k) wr))
  (fun i _=>64 - (intOf i).toNat)
 case atStart=>exact⟨0,by omega,rfl,_,_,hSt.out⟩
 case round=>
  clear hSt;obtain⟨k,hk,rfl,iv,ov,hSt⟩:=hrel;have hdr:∀ w3,Chg No wr.drew w3→Chg No wr w3:=fun w3 h=>⟨h.os,h.tape,h.output,h.size,h.block⟩
  by_cases hlt:k<64
  ·obtain⟨cc,hcc⟩:∃ c,c=(K.getD k 0).toNat:=⟨_,rfl⟩;have hcl:cc<256:=hcc ▸ UInt8.toNat_lt _;obtain⟨c1,hc1⟩:∃ c,c=byte (cc ^^^ 54):=⟨_,rfl⟩;obtain⟨c2,hc2⟩:∃ c,c=byte (cc ^^^ 92):=⟨_,rfl⟩
   have x1:bits .xor .u8 (cc:Int) 54=(c1.toNat:Int):=by
    have h:=u8_xor_nat cc 54 hcl (by omega);rw[hc1,byte_toNat (xor8 hcl (by omega))];exact h
   have x2:bits .xor .u8 (cc:Int) 92=(c2.toNat:Int):=by
    have h:=u8_xor_nat cc 92 hcl (by omega);rw[hc2,byte_toNat (xor8 hcl (by omega))];exact h
   have hn1:padK K 54 (k+1)=padK K 54 k++[c1]:=by rw[padK_succ,← hcc,hc1]
   have hn2:padK K 92 (k+1)=padK K 92 k++[c2]:=by rw[padK_succ,← hcc,hc2]
   obtain⟨I,hI⟩:∃ I,I=padK K 54 k:=⟨_,rfl⟩;obtain⟨O,hO⟩:∃ O,O=padK K 92 k:=⟨_,rfl⟩;have hIl:I.length≤1000:=by rw[hI,padK_length];omega
   have hOl:O.length≤1000:=by rw[hO,padK_length];omega
   rw[← hI] at hSt hn1;rw[← hO] at hSt hn2;have hbox:=hSt.out.box;have hplr:=heap_lt hbox;have g1:=cell_of hbox 1;have g2:=cell_of hbox 2;have ci:wr.cell? ⟨p,1,none⟩=some iv:=g1;have co:wr.cell? ⟨p,2,none⟩=some ov:=g2;have hsz:=hSt.out.size;have hpB:=hSt.out.pB;have hfi:∀ g,iv.ownBlock=some g→B≤g∧g<wr.heap.size:=fun g hg=>hSt.out.ra.lt g hg
   have hfo:∀ g,ov.ownBlock=some g→B≤g∧g<wr.heap.size:=fun g hg=>hSt.out.rb.lt g hg
   have hkey:k<KL→wr.cell? ⟨kb,ko+k,none⟩=some (.int .u8 cc):=fun h=>by
    have h5:=hkc.out k h;rw[← hcc,← World.cell?_of_block (w:=wB) (hSt.out.since kb hkB hkp)] at h5;exact h5
   clear g1 g2 hI hO hbox;replace hn1:=LH hn1;replace hn2:=LH hn2;replace hfi:=LH hfi;replace hfo:=LH hfo;replace ci:=LH ci;replace co:=LH co;replace hc1:=LH hc1;replace hc2:=LH hc2;replace hdr:=LH hdr;by_cases hkl:k<KL
   ·have hck:=hkey hkl;clear hkey;have hke:=hka.out (by omega);subst hke;replace hcc:=LH hcc;go_wp2;refine RA.regionT (Chg (fun g=>iv.ownBlock=some g∨ov.ownBlock=some g)) (Chg No) [5,5,1,1,1,1,1,1,2,3,1,1,1,1,1,1,2,3,5,5,7,5,5,7] [20,23] (fun i v w3=>Cells w3 (fun g=>wr.heap.size≤g) v 1 1 [.int .u8 (if i=8 then c1 else c2).toNat]) (fun w3=>KdSt w n wB B p s iv ov iv ov I O w3) (by kernel_rfl) (Chg.refl _ _) (fun _ _ h=>h.mono (fun _ _ e=>e.elim)) (fun _ _ _ h k=>h.trans k) (fun _ _ h k=>k.after (Chg.no h)) (hSt.out.after ⟨rfl,rfl,rfl,Nat.le_refl _,fun _ _=>rfl⟩) (by kernel_rfl) (by kernel_rfl) ?_;intro cx;have hdr2:∀ w3,Chg (fun g=>iv.ownBlock=some g∨ov.ownBlock=some g) wr.drew w3→Chg (fun g=>iv.ownBlock=some g∨ov.ownBlock=some g) wr w3:=fun w3 h=>⟨h.os,h.tape,h.output,h.size,h.block⟩
    have hnp:¬ (iv.ownBlock=some p∨ov.ownBlock=some p):=fun h=>by
     rcases h with h|h
     ·have:=(hfi.out p h).1;omega
     ·have:=(hfo.out p h).1;omega
    refine RA.pq (h:=?_);refine RA.pq (h:=?_)
    repeat refine RA.qq (h:=?_)
    refine RA.fk prog (p) (1) (h:=?_);refine RA.lk prog (iv) (hc:=fun w3 hp=>by exact ((hdr2 _ hp.1).cell (p:=⟨p,1,none⟩) hplr hnp).trans ci.out) (h:=?_)
    repeat refine RA.qq (h:=?_)
    refine RA.vk prog (.int .u8 c1.toNat) (h:=?_)
    refine RA.fr (by kernel_rfl) (by rfl) (fun v a b h h2=>h2.chg h (fun g hg hS hC=>by rcases hC with e|e;exact absurd (hfi.out g e).2 (by omega);exact absurd (hfo.out g e).2 (by omega))) (fun w3 hp=>⟨.slice (some ⟨w3.heap.size,0,none⟩) 1 1,w3.alloc (.cells #[.int .u8 c1.toNat] 5),by
     show (execOp _ _).run prog w3=_;go_simp,(Chg.refl _ _).alloc _,(Cells.own (World.ownsRow_lit (base:=wr.heap.size) (e:=5) (size:=1) w3 #[.int .u8 c1.toNat] 1 (hdr2 _ hp.1).size (by unfold maxLen;omega) rfl)).mono (fun _ _ h=>h.2)⟩) (fun xc1=>?_)
    refine RA.bq (fun _ _=>True) (fun u w4=>KdSt w n wB B p s iv ov u ov (I++[c1]) O w4) (by kernel_rfl) (by rfl) (by kernel_rfl) (fun _ _ _ _ _=>trivial) (fun _ _ _ h k=>k.after (Chg.no h)) (fun w3 hp hH=>by
     obtain⟨u,w4,h1,h2,h3⟩:=hH.swap_a c1 (hp.fact 0 rfl (by kernel_rfl)) hIl;exact⟨u,w4,RA.ex_append (by rfl) (by rfl) h1,h3.mono (fun _ _ e=>.inl e),trivial,h2⟩) (fun u9=>?_)
    repeat refine RA.qq (h:=?_)
    refine RA.fk prog (p) (2) (h:=?_);refine RA.lk prog (ov) (hc:=fun w3 hp=>by exact ((hdr2 _ hp.1).cell (p:=⟨p,2,none⟩) hplr hnp).trans co.out) (h:=?_)
    repeat refine RA.qq (h:=?_)
    refine RA.vk prog (.int .u8 c2.toNat) (h:=?_)
    refine RA.fr (by kernel_rfl) (by rfl) (fun v a b h h2=>h2.chg h (fun g hg hS hC=>by rcases hC with e|e;exact absurd (hfi.out g e).2 (by omega);exact absurd (hfo.out g e).2 (by omega))) (fun w3 hp=>⟨.slice (some ⟨w3.heap.size,0,none⟩) 1 1,w3.alloc (.cells #[.int .u8 c2.toNat] 5),by
     show (execOp _ _).run prog w3=_;go_simp,(Chg.refl _ _).alloc _,(Cells.own (World.ownsRow_lit (base:=wr.heap.size) (e:=5) (size:=1) w3 #[.int .u8 c2.toNat] 1 (hdr2 _ hp.1).size (by unfold maxLen;omega) rfl)).mono (fun _ _ h=>h.2)⟩) (fun xc2=>?_)
    refine RA.bq (fun _ _=>True) (fun u w4=>KdSt w n wB B p s iv ov u9 u (I++[c1]) (O++[c2]) w4) (by kernel_rfl) (by rfl) (by kernel_rfl) (fun _ _ _ _ _=>trivial) (fun _ _ _ h k=>k.after (Chg.no h)) (fun w3 hp hH=>by
     obtain⟨u,w4,h1,h2,h3⟩:=hH.swap_b c2 (hp.fact 0 rfl (by kernel_rfl)) hOl;exact⟨u,w4,RA.ex_append (by rfl) (by rfl) h1,h3.mono (fun _ _ e=>.inr e),trivial,h2⟩) (fun u17=>?_)
    refine RA.pq (h:=?_);refine RA.pk prog (p) (1) (h:=?_)
    refine RA.stt (fun w4=>KdSt w n wB B p s u9 ov u9 u17 (I++[c1]) (O++[c2]) w4) (by rfl) (by rfl) (by kernel_rfl) (fun _ _ h k=>k.after (Chg.no h)) (fun w3 hp0 hH=>by
     have hpt:=hH.put 1 u9 u9 ov rfl;obtain⟨g',cp,rfl,_,_⟩:=own_shape hH.ra (by simp);have fz:=frozen_of hH.box 1;have cz0:=cell_of hH.box 1;have cz:w3.cell? ⟨p,1,none⟩=some iv:=cz0;refine⟨_,RA.ex_store (by rfl) (by rfl) (w':=w3.setCell ⟨p,1,none⟩ (.slice (some ⟨g',0,none⟩) (I++[c1]).length cp)) ?_,hpt⟩;clear hpt cz0;show (Instr.storeAt _ _ _).run prog w3=_;go_simp) ?_
    refine RA.pq (h:=?_);refine RA.pk prog (p) (2) (h:=?_)
    refine RA.stt (fun w4=>KdSt w n wB B p s u9 u17 u9 u17 (I++[c1]) (O++[c2]) w4) (by rfl) (by rfl) (by kernel_rfl) (fun _ _ h k=>k.after (Chg.no h)) (fun w3 hp0 hH=>by
     have hpt:=hH.put 2 u17 u9 u17 rfl;obtain⟨g',cp,rfl,_,_⟩:=own_shape hH.rb (by simp);have fz:=frozen_of hH.box 2;have cz0:=cell_of hH.box 2;have cz:w3.cell? ⟨p,2,none⟩=some ov:=cz0;refine⟨_,RA.ex_store (by rfl) (by rfl) (w':=w3.setCell ⟨p,2,none⟩ (.slice (some ⟨g',0,none⟩) (O++[c2]).length cp)) ?_,hpt⟩;clear hpt cz0;show (Instr.storeAt _ _ _).run prog w3=_;go_simp) ?_
    refine RA.RA.doneT (fun w5 hH=>?_);simp only[RA.put,List.foldr_cons,List.foldr_nil,cx,Act.put,List.setIfInBounds_toArray,List.set_cons_succ,List.set_cons_zero];replace hH:=LH hH;go_wp2;go_roundw
    case rel=>
     refine⟨k+1,by omega,by go_num,u9,u17,?_⟩;show KdSt _ _ _ _ _ _ _ _ _ _ _ _ _;rw[hn1.out,hn2.out];exact hH.out
    case measure=>simp[intOf];omega
   ·have hc0:cc=0:=by
     rw[hcc];simp[List.getD,List.getElem?_eq_none (show K.length≤k by have:=hKL.out;omega)]
    subst hc0;clear hkey;replace x1:bits .xor .u8 0 54=(c1.toNat:Int):=x1;replace x2:bits .xor .u8 0 92=(c2.toNat:Int):=x2;replace hcc:=LH hcc;go_wp2;refine RA.regionT (Chg (fun g=>iv.ownBlock=some g∨ov.ownBlock=some g)) (Chg No) [5,5,1,1,1,1,1,1,2,3,1,1,1,1,1,1,2,3,5,5,7,5,5,7] [20,23] (fun i v w3=>Cells w3 (fun g=>wr.heap.size≤g) v 1 1 [.int .u8 (if i=8 then c1 else c2).toNat]) (fun w3=>KdSt w n wB B p s iv ov iv ov I O w3) (by kernel_rfl) (Chg.refl _ _) (fun _ _ h=>h.mono (fun _ _ e=>e.elim)) (fun _ _ _ h k=>h.trans k) (fun _ _ h k=>k.after (Chg.no h)) (hSt.out.after ⟨rfl,rfl,rfl,Nat.le_refl _,fun _ _=>rfl⟩) (by kernel_rfl) (by kernel_rfl) ?_;intro cx;have hdr2:∀ w3,Chg (fun g=>iv.ownBlock=some g∨ov.ownBlock=some g) wr.drew w3→Chg (fun g=>iv.ownBlock=some g∨ov.ownBlock=some g) wr w3:=fun w3 h=>⟨h.os,h.tape,h.output,h.size,h.block⟩
    have hnp:¬ (iv.ownBlock=some p∨ov.ownBlock=some p):=fun h=>by
     rcases h with h|h
     ·have:=(hfi.out p h).1;omega
     ·have:=(hfo.out p h).1;omega
    refine RA.pq (h:=?_);refine RA.pq (h:=?_)
    repeat refine RA.qq (h:=?_)
    refine RA.fk prog (p) (1) (h:=?_);refine RA.lk prog (iv) (hc:=fun w3 hp=>by exact ((hdr2 _ hp.1).cell (p:=⟨p,1,none⟩) hplr hnp).trans ci.out) (h:=?_)
    repeat refine RA.qq (h:=?_)
    refine RA.vk prog (.int .u8 c1.toNat) (h:=?_)
    refine RA.fr (by kernel_rfl) (by rfl) (fun v a b h h2=>h2.chg h (fun g hg hS hC=>by rcases hC with e|e;exact absurd (hfi.out g e).2 (by omega);exact absurd (hfo.out g e).2 (by omega))) (fun w3 hp=>⟨.slice (some ⟨w3.heap.size,0,none⟩) 1 1,w3.alloc (.cells #[.int .u8 c1.toNat] 5),by
     show (execOp _ _).run prog w3=_;go_simp,(Chg.refl _ _).alloc _,(Cells.own (World.ownsRow_lit (base:=wr.heap.size) (e:=5) (size:=1) w3 #[.int .u8 c1.toNat] 1 (hdr2 _ hp.1).size (by unfold maxLen;omega) rfl)).mono (fun _ _ h=>h.2)⟩) (fun xc1=>?_)
    refine RA.bq (fun _ _=>True) (fun u w4=>KdSt w n wB B p s iv ov u ov (I++[c1]) O w4) (by kernel_rfl) (by rfl) (by kernel_rfl) (fun _ _ _ _ _=>trivial) (fun _ _ _ h k=>k.after (Chg.no h)) (fun w3 hp hH=>by
     obtain⟨u,w4,h1,h2,h3⟩:=hH.swap_a c1 (hp.fact 0 rfl (by kernel_rfl)) hIl;exact⟨u,w4,RA.ex_append (by rfl) (by rfl) h1,h3.mono (fun _ _ e=>.inl e),trivial,h2⟩) (fun u9=>?_)
    repeat refine RA.qq (h:=?_)
    refine RA.fk prog (p) (2) (h:=?_);refine RA.lk prog (ov) (hc:=fun w3 hp=>by exact ((hdr2 _ hp.1).cell (p:=⟨p,2,none⟩) hplr hnp).trans co.out) (h:=?_)
    repeat refine RA.qq (h:=?_)
    refine RA.vk prog (.int .u8 c2.toNat) (h:=?_)
    refine RA.fr (by kernel_rfl) (by rfl) (fun v a b h h2=>h2.chg h (fun g hg hS hC=>by rcases hC with e|e;exact absurd (hfi.out g e).2 (by omega);exact absurd (hfo.out g e).2 (by omega))) (fun w3 hp=>⟨.slice (some ⟨w3.heap.size,0,none⟩) 1 1,w3.alloc (.cells #[.int .u8 c2.toNat] 5),by
     show (execOp _ _).run prog w3=_;go_simp,(Chg.refl _ _).alloc _,(Cells.own (World.ownsRow_lit (base:=wr.heap.size) (e:=5) (size:=1) w3 #[.int .u8 c2.toNat] 1 (hdr2 _ hp.1).size (by unfold maxLen;omega) rfl)).mono (fun _ _ h=>h.2)⟩) (fun xc2=>?_)
    refine RA.bq (fun _ _=>True) (fun u w4=>KdSt w n wB B p s iv ov u9 u (I++[c1]) (O++[c2]) w4) (by kernel_rfl) (by rfl) (by kernel_rfl) (fun _ _ _ _ _=>trivial) (fun _ _ _ h k=>k.after (Chg.no h)) (fun w3 hp hH=>by
     obtain⟨u,w4,h1,h2,h3⟩:=hH.swap_b c2 (hp.fact 0 rfl (by kernel_rfl)) hOl;exact⟨u,w4,RA.ex_append (by rfl) (by rfl) h1,h3.mono (fun _ _ e=>.inr e),trivial,h2⟩) (fun u17=>?_)
    refine RA.pq (h:=?_);refine RA.pk prog (p) (1) (h:=?_)
    refine RA.stt (fun w4=>KdSt w n wB B p s u9 ov u9 u17 (I++[c1]) (O++[c2]) w4) (by rfl) (by rfl) (by kernel_rfl) (fun _ _ h k=>k.after (Chg.no h)) (fun w3 hp0 hH=>by
     have hpt:=hH.put 1 u9 u9 ov rfl;obtain⟨g',cp,rfl,_,_⟩:=own_shape hH.ra (by simp);have fz:=frozen_of hH.box 1;have cz0:=cell_of hH.box 1;have cz:w3.cell? ⟨p,1,none⟩=some iv:=cz0;refine⟨_,RA.ex_store (by rfl) (by rfl) (w':=w3.setCell ⟨p,1,none⟩ (.slice (some ⟨g',0,none⟩) (I++[c1]).length cp)) ?_,hpt⟩;clear hpt cz0;show (Instr.storeAt _ _ _).run prog w3=_;go_simp) ?_
    refine RA.pq (h:=?_);refine RA.pk prog (p) (2) (h:=?_)
    refine RA.stt (fun w4=>KdSt w n wB B p s u9 u17 u9 u17 (I++[c1]) (O++[c2]) w4) (by rfl) (by rfl) (by kernel_rfl) (fun _ _ h k=>k.after (Chg.no h)) (fun w3 hp0 hH=>by
     have hpt:=hH.put 2 u17 u9 u17 rfl;obtain⟨g',cp,rfl,_,_⟩:=own_shape hH.rb (by simp);have fz:=frozen_of hH.box 2;have cz0:=cell_of hH.box 2;have cz:w3.cell? ⟨p,2,none⟩=some ov:=cz0;refine⟨_,RA.ex_store (by rfl) (by rfl) (w':=w3.setCell ⟨p,2,none⟩ (.slice (some ⟨g',0,none⟩) (O++[c2]).length cp)) ?_,hpt⟩;clear hpt cz0;show (Instr.storeAt _ _ _).run prog w3=_;go_simp) ?_
    refine RA.RA.doneT (fun w5 hH=>?_);simp only[RA.put,List.foldr_cons,List.foldr_nil,cx,Act.put,List.setIfInBounds_toArray,List.set_cons_succ,List.set_cons_zero];replace hH:=LH hH;go_wp2;go_roundw
    case rel=>
     refine⟨k+1,by omega,by go_num,u9,u17,?_⟩;show KdSt _ _ _ _ _ _ _ _ _ _ _ _ _;rw[hn1.out,hn2.out];exact hH.out
    case measure=>simp[intOf];omega
  ·have hk6:k=64:=by omega
   rw[hk6] at hSt;clear hk6 hdr;go_wp2;go_ret;have h:=hSt.out;exact⟨p,s,iv,ov,rfl,⟨HN.out ▸ h.hp,h.box,HN.out ▸ hns,h.sum,(show Bytes _ _ _ _ from (by have e:=Cells.own h.ra;exact e)).mono (fun g _ hg=>by have:=hg.2;have:=HN.out;omega),(show Bytes _ _ _ _ from (by have e:=Cells.own h.rb;exact e)).mono (fun g _ hg=>by have:=hg.2;have:=HN.out;omega)⟩,HN.out ▸ h.below⟩
end Go.Proofs.YthmcbgidehjlbaaGreat.Fd

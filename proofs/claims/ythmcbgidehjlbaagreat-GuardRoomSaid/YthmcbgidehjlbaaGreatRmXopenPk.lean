/-
  Texts of this claim, laid together by a program of mine. No condition beyond what each theorem names.
-/
import Derived.Test.YthmcbgidehjlbaaGreatRmNew
import Derived.Test.YthmcbgidehjlbaaGreatRmIdealPk
/-
  xts.open: two ciphers of a key. No condition beyond what each theorem names.
-/
namespace Go.Proofs.YthmcbgidehjlbaaGreat.Fd
open _root_.Go.Proofs.Tryz
open Go Go.RowKit K
set_option maxRecDepth 100000
set_option maxHeartbeats 4000000
theorem new_ok {w:World}{S:Nat→Prop}{kv:Value}{key:List UInt8}(hb:Bytes w S kv key) (hl:key.length=16∨key.length=32):
  Calls prog 189 #[kv] w fun e w'=>∃ p tb kv',e=.returned (.tuple #[.pointer (some ⟨p,0,none⟩),.int .i64 0])∧CipherAt w' (fun g=>w.heap.size≤g) p tb kv' (sched key)∧Below w.heap.size w w':=by
 rcases hl with h|h
 ·exact new16_ok hb h
 ·exact new32_ok hb h
theorem bytes_cut {w:World}{S:Nat→Prop}{a:Option Addr}{cap:Nat}{l:List UInt8}(h:Bytes w S (.slice a l.length cap) l) (lo hi:Nat) (h1:lo≤hi) (h2:hi≤l.length):Bytes w S (sliced a lo hi cap 1) ((l.drop lo).take (hi - lo)):=by
 have h3:=Cells.sliced h lo hi h1 h2;have e:((l.drop lo).take (hi - lo)).length=hi - lo:=by simp;omega
 unfold Bytes;rw[e]
 simpa [u8s,List.map_take,List.map_drop] using h3
theorem results_ct {P:Program}{fn:Func}{p q:Tmp}{ty:TypeId}(h:fn.results=#[.cell p ty,.tmp q]) (tmps:Array Value) (w:World){a:Addr}{u v:Value}
  (hp:tmps.getD p undef=.pointer (some a)) (hq:tmps.getD q undef=v) (h0:(loadVar ty a).run P w=.ok u w):(results fn tmps).run P w=.ok (.tuple #[u,v]) w:=by
 have hp':tmps[p]?.getD undef=.pointer (some a):=by simpa using hp
 have hq':tmps[q]?.getD undef=v:=by simpa using hq
 simp[results,h,hp',hq',asAddr,h0]
def PairAt (w:World) (F:Nat→Prop) (p1 p2:Nat) (k1 k2:List UInt32):Prop:=(∃ t v,CipherAt w F p1 t v k1)∧∃ t v,CipherAt w F p2 t v k2
theorem PairAt.keep {w w':World}{F:Nat→Prop}{p1 p2:Nat}{k1 k2:List UInt32}(h:PairAt w F p1 p2 k1 k2) (hs:w.heap.size≤w'.heap.size) (hk:∀ g,F g→g<w.heap.size→w'.heap[g]?=w.heap[g]?):PairAt w' F p1 p2 k1 k2:=by
 obtain⟨⟨t,v,h1⟩,t',v',h2⟩:=h;exact⟨⟨t,v,h1.keep hs hk⟩,t',v',h2.keep hs hk⟩
theorem CipherAt.mono {w:World}{F G:Nat→Prop}{p b:Nat}{kv:Value}{ks:List UInt32}(h:CipherAt w F p b kv ks) (hs:∀ g,F g→G g):CipherAt w G p b kv ks:=
 ⟨h.box,hs _ h.own,h.tab,hs _ h.tabF,h.few,h.keys.mono (fun _ _=>hs _)⟩
theorem PairAt.mono {w:World}{F G:Nat→Prop}{p1 p2:Nat}{k1 k2:List UInt32}(h:PairAt w F p1 p2 k1 k2) (hs:∀ g,F g→G g):PairAt w G p1 p2 k1 k2:=by
 obtain⟨⟨t,v,h1⟩,t',v',h2⟩:=h;exact⟨⟨t,v,h1.mono hs⟩,t',v',h2.mono hs⟩
def k1of (key:List UInt8):List UInt32:=sched (key.take (key.length / 2))
def k2of (key:List UInt8):List UInt32:=sched (key.drop (key.length / 2))
theorem xtsOpen32_ok {w:World}{S:Nat→Prop}{kv:Value}{key:List UInt8}(hb:Bytes w S kv key) (hl:key.length=32) (z:Nat) (hz:z≤1099511627776):
  Calls prog 177 #[kv,.int .i64 z] w fun e w'=>∃ p1 p2,e=.returned (.tuple #[.agg #[.pointer (some ⟨p1,0,none⟩),.pointer (some ⟨p2,0,none⟩)],.int .i64 0])∧PairAt w' (fun g=>w.heap.size≤g) p1 p2 (k1of key) (k2of key)∧Below w.heap.size w w':=by
 obtain⟨a,cap,rfl,hc1,hc2⟩:=Cells.shape hb;unfold maxLen at hc2;have hv1:=bytes_cut hb 0 16 (by omega) (by omega);have hv2:=bytes_cut hb 16 32 (by omega) (by omega);rw[hl] at hc1 ⊢;have e1:(key.drop 0).take (16 - 0)=key.take (key.length / 2):=by simp[hl]
 have e2:(key.drop 16).take (32 - 16)=key.drop (key.length / 2):=by rw[List.take_of_length_le (by simp;omega),hl]
 rw[e1] at hv1;rw[e2] at hv2;have hl1:(key.take (key.length / 2)).length=16:=by simp;omega
 have hl2:(key.drop (key.length / 2)).length=16:=by simp;omega
 have hcut1:∀ w3,(Instr.sliceAt 42 (.slice a 32 cap) none (some (.int .i64 16)) none).run prog w3=.ok (sliced a 0 16 cap 1) w3:=fun w3=>cut_hi (P:=prog) (s:=1) w3 underlying42 (by kernel_rfl) a 32 cap 16 (by omega)
 have hcut2:∀ w3,(Instr.sliceAt 42 (.slice a 32 cap) (some (.int .i64 16)) none none).run prog w3=.ok (sliced a 16 32 cap 1) w3:=fun w3=>cut_lo (P:=prog) (s:=1) w3 underlying42 (by kernel_rfl) a 32 cap 16 (by omega)
 obtain⟨v1,ev1⟩:∃ v,v=sliced a 0 16 cap 1:=⟨_,rfl⟩;obtain⟨v2,ev2⟩:∃ v,v=sliced a 16 32 cap 1:=⟨_,rfl⟩;rw[← ev1] at hcut1 hv1;rw[← ev2] at hcut2 hv2;clear ev1 ev2 e1 e2 hb;have n1:=fun (w3:World) (h:Bytes w3 S v1 (key.take (key.length / 2)))=>new_ok h (by omega)
 have n2:=fun (w3:World) (h:Bytes w3 S v2 (key.drop (key.length / 2)))=>new_ok h (by omega)
 obtain⟨K1,hK1⟩:∃ K,K=k1of key:=⟨_,rfl⟩;obtain⟨K2,hK2⟩:∃ K,K=k2of key:=⟨_,rfl⟩;rw[← hK1,← hK2];rw[show sched (key.take (key.length / 2))=K1 from hK1.symm] at n1;rw[show sched (key.drop (key.length / 2))=K2 from hK2.symm] at n2;clear hK1 hK2;replace hv1:=LH hv1;replace hv2:=LH hv2;replace n1:=LH n1;replace n2:=LH n2;replace hl:=LH hl;replace hl1:=LH hl1;replace hl2:=LH hl2;obtain⟨n,hn⟩:∃ n,n=w.heap.size:=⟨_,rfl⟩;have HN:=LH hn;rw[← hn];clear hn;go_enter func177,ntmps177
 go_wp2_with fail
 refine (n1.out _ (hv1.out.keep (by simp) (fun g _ hg=>Below.heap_alloc _ _ _ hg))).mono ?_;rintro e w1 ⟨p1,t1,u1,rfl,hc,hb1⟩
 have hbox:w1.heap[n]?=some (.cells #[.pointer none,.pointer none] 261 (0,0)):=by
  rw[hb1.block n (by simp[HN.out]),HN.out];exact heap_alloc_new w _
 have hB1:Below n w w1:=(((Below.refl _ _).alloc (Nat.le_refl _) _).trans (hb1.mono (by simp)):Below w.heap.size w w1) |> fun h=>HN.out ▸ h
 have hs1:n<w1.heap.size:=heap_lt hbox;have hp1:n<p1:=by have:=hc.own;simp at this;have:=HN.out;omega
 have cc0:=cell_of hbox 0;have ff0:=frozen_of hbox 0;have c00:w1.cell? ⟨n,0,none⟩=some (.pointer none):=cc0;clear cc0;rw[← HN.out];have hC:=LH hc;have HB1:=LH hB1;have HBX:=LH hbox;clear hc hb1 hB1 hbox
 go_wp2_with fail
 have hw2:∃ w2,w2=w1.setCell ⟨n,0,none⟩ (.pointer (some ⟨p1,0,none⟩)):=⟨_,rfl⟩;obtain⟨w2,hw2⟩:=hw2;rw[← hw2];have hB2:Below n w w2:=hw2 ▸ HB1.out.setCell (p:=⟨n,0,none⟩) (Nat.le_refl n) _
 have hbox2:w2.heap[n]?=some (.cells #[.pointer (some ⟨p1,0,none⟩),.pointer none] 261 (0,0)):=by
  rw[hw2,setCell_block HBX.out];rfl
 have hC2:CipherAt w2 (fun g=>n<g) p1 t1 u1 K1:=(hC.out.mono (G:=fun g=>n<g) (fun g hg=>by simp at hg;have:=HN.out;omega)).keep (by rw[hw2];simp) (fun g hg _=>by rw[hw2];exact setCell_heap_ne _ _ _ (by simp;omega));have hs2:n<w2.heap.size:=heap_lt hbox2;clear hw2 c00 ff0 hs1;refine (n2.out w2 (hv2.out.keep (by have:=HN.out;omega) (fun g _ hg=>hB2.block g (by have:=HN.out;omega)))).mono ?_;rintro e w3 ⟨p2,t2,u2,rfl,hc,hb3⟩;have hbox3:=(hb3.block n hs2).trans hbox2;have hC3:=hC2.keep hb3.size (fun g _ hg=>hb3.block g hg);have hD3:=hc.mono (G:=fun g=>n<g) (fun g hg=>by omega);have hB3:Below n w w3:=hB2.trans (hb3.mono (by omega));have hs3:n<w3.heap.size:=heap_lt hbox3;have cc0:=cell_of hbox3 0;have cc1:=cell_of hbox3 1;have ff1:=frozen_of hbox3 1;have ff0:=frozen_of hbox3 0;have c00:w3.cell? ⟨n,0,none⟩=some (.pointer (some ⟨p1,0,none⟩)):=cc0;have c01:w3.cell? ⟨n,1,none⟩=some (.pointer none):=cc1;clear cc0 cc1;have hbox4:=setCell_block hbox3 1 (.pointer (some ⟨p2,0,none⟩));have hbox5:(w3.setCell ⟨n,1,none⟩ (.pointer (some ⟨p2,0,none⟩))).heap[n]?=some (.cells #[.pointer (some ⟨p1,0,none⟩),.pointer (some ⟨p2,0,none⟩)] 261 (0,0)):=hbox4
 have hP:PairAt (w3.setCell ⟨n,1,none⟩ (.pointer (some ⟨p2,0,none⟩))) (fun g=>n<g) p1 p2 K1 K2:=
  PairAt.keep ⟨⟨_,_,hC3⟩,_,_,hD3⟩ (by simp) (fun g hg _=>setCell_heap_ne _ _ _ (by simp;omega))
 have hB5:Below n w (w3.setCell ⟨n,1,none⟩ (.pointer (some ⟨p2,0,none⟩))):=hB3.setCell (p:=⟨n,1,none⟩) (Nat.le_refl n) _;replace hbox5:=LH hbox5;replace hP:=LH hP;replace hB5:=LH hB5;clear hbox4 hbox3 hC3 hD3 hB3 hC2 hbox2 hB2 hb3 hc hC HB1 HBX;go_wp2;have keepC:∀ wx,PairAt wx (fun g=>n<g) p1 p2 K1 K2→∀ j v,PairAt (wx.setCell ⟨n,j,none⟩ v) (fun g=>n<g) p1 p2 K1 K2:=fun wx h j v=>h.keep (by simp) (fun g hg _=>setCell_heap_ne _ _ _ (by simp;omega))
 refine bodyPost_ret (v:=.tuple #[.agg #[.pointer (some ⟨p1,0,none⟩),.pointer (some ⟨p2,0,none⟩)],.int .i64 0]) (results_ct results177 _ _ rfl rfl (run_loadVar_row _ n 261 261 _ (0,0) _ (setCell_block (setCell_block hbox5.out 0 (.pointer (some ⟨p1,0,none⟩))) 1 (.pointer (some ⟨p2,0,none⟩))) underlying261 rfl (by kernel_rfl))) rfl ⟨p1,p2,rfl,PairAt.mono (F:=fun g=>n<g) ?_ (fun g hg=>by omega),?_⟩
 ·exact keepC _ (keepC _ hP.out _ _) _ _
 ·exact (hB5.out.setCell (p:=⟨n,0,none⟩) (Nat.le_refl n) _).setCell (p:=⟨n,1,none⟩) (Nat.le_refl n) _
theorem xtsOpen64_ok {w:World}{S:Nat→Prop}{kv:Value}{key:List UInt8}(hb:Bytes w S kv key) (hl:key.length=64) (z:Nat) (hz:z≤1099511627776):
  Calls prog 177 #[kv,.int .i64 z] w fun e w'=>∃ p1 p2,e=.returned (.tuple #[.agg #[.pointer (some ⟨p1,0,none⟩),.pointer (some ⟨p2,0,none⟩)],.int .i64 0])∧PairAt w' (fun g=>w.heap.size≤g) p1 p2 (k1of key) (k2of key)∧Below w.heap.size w w':=by
 obtain⟨a,cap,rfl,hc1,hc2⟩:=Cells.shape hb;unfold maxLen at hc2;have hv1:=bytes_cut hb 0 32 (by omega) (by omega);have hv2:=bytes_cut hb 32 64 (by omega) (by omega);rw[hl] at hc1 ⊢;have e1:(key.drop 0).take (32 - 0)=key.take (key.length / 2):=by simp[hl]
 have e2:(key.drop 32).take (64 - 32)=key.drop (key.length / 2):=by rw[List.take_of_length_le (by simp;omega),hl]
 rw[e1] at hv1;rw[e2] at hv2;have hl1:(key.take (key.length / 2)).length=32:=by simp;omega
 have hl2:(key.drop (key.length / 2)).length=32:=by simp;omega
 have hcut1:∀ w3,(Instr.sliceAt 42 (.slice a 64 cap) none (some (.int .i64 32)) none).run prog w3=.ok (sliced a 0 32 cap 1) w3:=fun w3=>cut_hi (P:=prog) (s:=1) w3 underlying42 (by kernel_rfl) a 64 cap 32 (by omega)
 have hcut2:∀ w3,(Instr.sliceAt 42 (.slice a 64 cap) (some (.int .i64 32)) none none).run prog w3=.ok (sliced a 32 64 cap 1) w3:=fun w3=>cut_lo (P:=prog) (s:=1) w3 underlying42 (by kernel_rfl) a 64 cap 32 (by omega)
 obtain⟨v1,ev1⟩:∃ v,v=sliced a 0 32 cap 1:=⟨_,rfl⟩;obtain⟨v2,ev2⟩:∃ v,v=sliced a 32 64 cap 1:=⟨_,rfl⟩;rw[← ev1] at hcut1 hv1;rw[← ev2] at hcut2 hv2;clear ev1 ev2 e1 e2 hb;have n1:=fun (w3:World) (h:Bytes w3 S v1 (key.take (key.length / 2)))=>new_ok h (by omega)
 have n2:=fun (w3:World) (h:Bytes w3 S v2 (key.drop (key.length / 2)))=>new_ok h (by omega)
 obtain⟨K1,hK1⟩:∃ K,K=k1of key:=⟨_,rfl⟩;obtain⟨K2,hK2⟩:∃ K,K=k2of key:=⟨_,rfl⟩;rw[← hK1,← hK2];rw[show sched (key.take (key.length / 2))=K1 from hK1.symm] at n1;rw[show sched (key.drop (key.length / 2))=K2 from hK2.symm] at n2;clear hK1 hK2;replace hv1:=LH hv1;replace hv2:=LH hv2;replace n1:=LH n1;replace n2:=LH n2;replace hl:=LH hl;replace hl1:=LH hl1;replace hl2:=LH hl2;obtain⟨n,hn⟩:∃ n,n=w.heap.size:=⟨_,rfl⟩;have HN:=LH hn;rw[← hn];clear hn;go_enter func177,ntmps177
 go_wp2_with fail
 refine (n1.out _ (hv1.out.keep (by simp) (fun g _ hg=>Below.heap_alloc _ _ _ hg))).mono ?_;rintro e w1 ⟨p1,t1,u1,rfl,hc,hb1⟩
 have hbox:w1.heap[n]?=some (.cells #[.pointer none,.pointer none] 261 (0,0)):=by
  rw[hb1.block n (by simp[HN.out]),HN.out];exact heap_alloc_new w _
 have hB1:Below n w w1:=(((Below.refl _ _).alloc (Nat.le_refl _) _).trans (hb1.mono (by simp)):Below w.heap.size w w1) |> fun h=>HN.out ▸ h
 have hs1:n<w1.heap.size:=heap_lt hbox;have hp1:n<p1:=by have:=hc.own;simp at this;have:=HN.out;omega
 have cc0:=cell_of hbox 0;have ff0:=frozen_of hbox 0;have c00:w1.cell? ⟨n,0,none⟩=some (.pointer none):=cc0;clear cc0;rw[← HN.out];have hC:=LH hc;have HB1:=LH hB1;have HBX:=LH hbox;clear hc hb1 hB1 hbox
 go_wp2_with fail
 have hw2:∃ w2,w2=w1.setCell ⟨n,0,none⟩ (.pointer (some ⟨p1,0,none⟩)):=⟨_,rfl⟩;obtain⟨w2,hw2⟩:=hw2;rw[← hw2];have hB2:Below n w w2:=hw2 ▸ HB1.out.setCell (p:=⟨n,0,none⟩) (Nat.le_refl n) _
 have hbox2:w2.heap[n]?=some (.cells #[.pointer (some ⟨p1,0,none⟩),.pointer none] 261 (0,0)):=by
  rw[hw2,setCell_block HBX.out];rfl
 have hC2:CipherAt w2 (fun g=>n<g) p1 t1 u1 K1:=(hC.out.mono (G:=fun g=>n<g) (fun g hg=>by simp at hg;have:=HN.out;omega)).keep (by rw[hw2];simp) (fun g hg _=>by rw[hw2];exact setCell_heap_ne _ _ _ (by simp;omega));have hs2:n<w2.heap.size:=heap_lt hbox2;clear hw2 c00 ff0 hs1;refine (n2.out w2 (hv2.out.keep (by have:=HN.out;omega) (fun g _ hg=>hB2.block g (by have:=HN.out;omega)))).mono ?_;rintro e w3 ⟨p2,t2,u2,rfl,hc,hb3⟩;have hbox3:=(hb3.block n hs2).trans hbox2;have hC3:=hC2.keep hb3.size (fun g _ hg=>hb3.block g hg);have hD3:=hc.mono (G:=fun g=>n<g) (fun g hg=>by omega);have hB3:Below n w w3:=hB2.trans (hb3.mono (by omega));have hs3:n<w3.heap.size:=heap_lt hbox3;have cc0:=cell_of hbox3 0;have cc1:=cell_of hbox3 1;have ff1:=frozen_of hbox3 1;have ff0:=frozen_of hbox3 0;have c00:w3.cell? ⟨n,0,none⟩=some (.pointer (some ⟨p1,0,none⟩)):=cc0;have c01:w3.cell? ⟨n,1,none⟩=some (.pointer none):=cc1;clear cc0 cc1;have hbox4:=setCell_block hbox3 1 (.pointer (some ⟨p2,0,none⟩));have hbox5:(w3.setCell ⟨n,1,none⟩ (.pointer (some ⟨p2,0,none⟩))).heap[n]?=some (.cells #[.pointer (some ⟨p1,0,none⟩),.pointer (some ⟨p2,0,none⟩)] 261 (0,0)):=hbox4
 have hP:PairAt (w3.setCell ⟨n,1,none⟩ (.pointer (some ⟨p2,0,none⟩))) (fun g=>n<g) p1 p2 K1 K2:=
  PairAt.keep ⟨⟨_,_,hC3⟩,_,_,hD3⟩ (by simp) (fun g hg _=>setCell_heap_ne _ _ _ (by simp;omega))
 have hB5:Below n w (w3.setCell ⟨n,1,none⟩ (.pointer (some ⟨p2,0,none⟩))):=hB3.setCell (p:=⟨n,1,none⟩) (Nat.le_refl n) _;replace hbox5:=LH hbox5;replace hP:=LH hP;replace hB5:=LH hB5;clear hbox4 hbox3 hC3 hD3 hB3 hC2 hbox2 hB2 hb3 hc hC HB1 HBX;go_wp2;have keepC:∀ wx,PairAt wx (fun g=>n<g) p1 p2 K1 K2→∀ j v,PairAt (wx.setCell ⟨n,j,none⟩ v) (fun g=>n<g) p1 p2 K1 K2:=fun wx h j v=>h.keep (by simp) (fun g hg _=>setCell_heap_ne _ _ _ (by simp;omega))
 refine bodyPost_ret (v:=.tuple #[.agg #[.pointer (some ⟨p1,0,none⟩),.pointer (some ⟨p2,0,none⟩)],.int .i64 0]) (results_ct results177 _ _ rfl rfl (run_loadVar_row _ n 261 261 _ (0,0) _ (setCell_block (setCell_block hbox5.out 0 (.pointer (some ⟨p1,0,none⟩))) 1 (.pointer (some ⟨p2,0,none⟩))) underlying261 rfl (by kernel_rfl))) rfl ⟨p1,p2,rfl,PairAt.mono (F:=fun g=>n<g) ?_ (fun g hg=>by omega),?_⟩
 ·exact keepC _ (keepC _ hP.out _ _) _ _
 ·exact (hB5.out.setCell (p:=⟨n,0,none⟩) (Nat.le_refl n) _).setCell (p:=⟨n,1,none⟩) (Nat.le_refl n) _
theorem xtsOpen_ok {w:World}{S:Nat→Prop}{kv:Value}{key:List UInt8}(hb:Bytes w S kv key) (hl:key.length=32∨key.length=64) (z:Nat) (hz:z≤1099511627776):
  Calls prog 177 #[kv,.int .i64 z] w fun e w'=>∃ p1 p2,e=.returned (.tuple #[.agg #[.pointer (some ⟨p1,0,none⟩),.pointer (some ⟨p2,0,none⟩)],.int .i64 0])∧PairAt w' (fun g=>w.heap.size≤g) p1 p2 (k1of key) (k2of key)∧Below w.heap.size w w':=by
 rcases hl with h|h
 ·exact xtsOpen32_ok hb h z hz
 ·exact xtsOpen64_ok hb h z hz
end Go.Proofs.YthmcbgidehjlbaaGreat.Fd
/-
  Blocks built into a slice. No condition beyond what each theorem names.
-/
namespace Go.Proofs.YthmcbgidehjlbaaGreat.Fd
open _root_.Go.Proofs.Tryz
open Go Go.RowKit K
theorem run_lit1 {b:List UInt8}(hb:b.length=16) (w:World):(Instr.buildSlice 190 1 #[(0,.agg (u8s b).toArray)]).run prog w=.ok (.slice (some ⟨w.heap.size,0,none⟩) 1 1) (w.alloc (.cells (u8s b).toArray 179)):=by
 match b,hb with
 | [a0,a1,a2,a3,a4,a5,a6,a7,a8,a9,a10,a11,a12,a13,a14,a15],_=>
  simp only[u8s,List.map_cons,List.map_nil];go_simp
theorem run_lit2 {b c:List UInt8}(hb:b.length=16) (hc:c.length=16) (w:World):(Instr.buildSlice 190 2 #[(0,.agg (u8s b).toArray),(1,.agg (u8s c).toArray)]).run prog w=.ok (.slice (some ⟨w.heap.size,0,none⟩) 2 2) (w.alloc (.cells (u8s (b++c)).toArray 179)):=by
 match b,hb with
 | [a0,a1,a2,a3,a4,a5,a6,a7,a8,a9,a10,a11,a12,a13,a14,a15],_=>
  match c,hc with
  | [c0,c1,c2,c3,c4,c5,c6,c7,c8,c9,c10,c11,c12,c13,c14,c15],_=>
   simp only[u8s,List.map_cons,List.map_nil];go_simp
theorem run_arrayAt (w:World) (a:Addr) (cap:Nat):(Instr.arrayAt 179 (.slice (some a) 16 cap)).run prog w=.ok (.pointer (some a)) w:=by
 simp only[Instr.arrayAt,run_underlying underlying179,Sem.run_bind,Result.andThen];rfl
theorem ex_lit1 {ρ:Operand→Value}{x:Operand}{ds:Option Tmp}{ty:TypeId}{ps:String}{af:Array Edge}{gu:Option (Nat×Bool)}{b:List UInt8}(hb:b.length=16) (hx:ρ x=.agg (u8s b).toArray) (w:World):
  (execOp ρ ⟨ds,.buildSlice 190 1 #[(0,x)],ty,ps,af,gu⟩).run prog w=.ok (.value (.slice (some ⟨w.heap.size,0,none⟩) 1 1)) (w.alloc (.cells (u8s b).toArray 179)):=by
 have h:=run_lit1 hb w;unfold execOp;simp[hx,h,Result.andThen]
theorem ex_lit2 {ρ:Operand→Value}{x y:Operand}{ds:Option Tmp}{ty:TypeId}{ps:String}{af:Array Edge}{gu:Option (Nat×Bool)}{b c:List UInt8}(hb:b.length=16) (hc:c.length=16) (hx:ρ x=.agg (u8s b).toArray) (hy:ρ y=.agg (u8s c).toArray) (w:World):
  (execOp ρ ⟨ds,.buildSlice 190 2 #[(0,x),(1,y)],ty,ps,af,gu⟩).run prog w=.ok (.value (.slice (some ⟨w.heap.size,0,none⟩) 2 2)) (w.alloc (.cells (u8s (b++c)).toArray 179)):=by
 have h:=run_lit2 hb hc w;unfold execOp;simp[hx,hy,h,Result.andThen]
theorem wpList_run {P:Program}{w w':World}{ops:Array Oper}{rest:List Oper}{o:Oper}{a:Act}{Q:Exit→Act→World→Prop}(hgd:o.guard=none) (v:Value) (hr:(execOp a.eval o).run P w=.ok (.value v) w')
  (h:wpList P ops Q rest (a.put o.dst v) w'):wpList P ops Q (o::rest) a w:=
 wpList_plain hgd fun K hK=>by
  unfold Oper.wp;rw[hr];exact hK _ _ h
end Go.Proofs.YthmcbgidehjlbaaGreat.Fd
/-
  xts: the tweaks of a unit. No condition beyond what each theorem names.
-/
namespace Go.Proofs.YthmcbgidehjlbaaGreat.Fd
open _root_.Go.Proofs.Tryz
open Go Go.RowKit K
set_option maxRecDepth 100000
set_option maxHeartbeats 4000000
theorem infoBlock:(prog.info? 179).map (fun i=>(i.zero,i.size,i.bytes))=some (some (.agg #[.int .u8 0,.int .u8 0,.int .u8 0,.int .u8 0,.int .u8 0,.int .u8 0,.int .u8 0,.int .u8 0,.int .u8 0,.int .u8 0,.int .u8 0,.int .u8 0,.int .u8 0,.int .u8 0,.int .u8 0,.int .u8 0]),16,16):=by kernel_rfl
def blkCells (L:Nat→List UInt8) (k:Nat):List Value:=(List.range k).flatMap fun j=>u8s (L j)
theorem blkCells_succ {L:Nat→List UInt8}{k:Nat}:blkCells L (k+1)=blkCells L k++u8s (L k):=by simp[blkCells,List.range_succ]
theorem blkCells_length {L:Nat→List UInt8}(hL:∀ m,(L m).length=16){k:Nat}:(blkCells L k).length=k*16:=by
 induction k with
 | zero=>rfl
 | succ k ih=>rw[blkCells_succ,List.length_append,ih,u8s_length,hL];omega
theorem blkCells_get {L:Nat→List UInt8}(hL:∀ m,(L m).length=16){k:Nat}:∀ {j i:Nat},j<k→i<16→(blkCells L k)[j*16+i]?=some (.int .u8 ((L j).getD i 0).toNat):=by
 induction k with
 | zero=>intro j i h;omega
 | succ k ih=>
  intro j i hj hi;rw[blkCells_succ];by_cases h:j<k
  ·rw[List.getElem?_append_left (by rw[blkCells_length hL];omega)];exact ih h hi
  ·obtain rfl:j=k:=by omega
   rw[List.getElem?_append_right (by rw[blkCells_length hL];omega),blkCells_length hL,Nat.add_sub_cancel_left];simp[u8s,u8,List.getD,hL,hi]
def twB (t:List UInt8):Nat→List UInt8
 | 0=>t
 | k+1=>double (twB t k)
theorem twB_length {t:List UInt8}(h:t.length=16) (k:Nat):(twB t k).length=16:=by
 cases k with
 | zero=>exact h
 | succ k=>exact double_length
theorem encrypt_length {ks:List UInt32}{b:List UInt8}(hb:b.length=16):(encrypt ks b).length=16:=encR_length hb
theorem tweaks_ok {w:World}{F:Nat→Prop}{p1 p2:Nat}{k1 k2:List UInt32}(h:PairAt w F p1 p2 k1 k2) (h4:8≤k2.length) (hk4:k2.length % 4=0) (unit m:Nat) (hu:unit≤9223372036854775807) (hm:m≤1000):
  Calls prog 179 #[.agg #[.pointer (some ⟨p1,0,none⟩),.pointer (some ⟨p2,0,none⟩)],.int .i64 unit,.int .i64 m] w fun e w'=>∃ v,e=.returned v∧
   w'.ownsRow w.heap.size 179 16 v m (blkCells (twB (encrypt k2 (number unit))) m)∧Below w.heap.size w w':=by
 obtain⟨n,hn⟩:∃ n,n=w.heap.size:=⟨_,rfl⟩;have HN:=LH hn;obtain⟨_,tb2,v2,hc2⟩:=h
 have hbox:(w.alloc (.cells #[.pointer (some ⟨p1,0,none⟩),.pointer (some ⟨p2,0,none⟩)] 261)).heap[n]?=some (.cells #[.pointer (some ⟨p1,0,none⟩),.pointer (some ⟨p2,0,none⟩)] 261 (0,0)):=by
  rw[hn];exact heap_alloc_new w _
 have hcA:CipherAt (w.alloc (.cells #[.pointer (some ⟨p1,0,none⟩),.pointer (some ⟨p2,0,none⟩)] 261)) F p2 tb2 v2 k2:=hc2.keep (by simp) (fun g _ hl=>Below.heap_alloc _ _ _ hl)
 have hBA:Below n w (w.alloc (.cells #[.pointer (some ⟨p1,0,none⟩),.pointer (some ⟨p2,0,none⟩)] 261)):=by
  rw[hn];exact (Below.refl _ _).alloc (Nat.le_refl _) _
 replace hbox:=LH hbox;replace hcA:=LH hcA;replace hBA:=LH hBA;obtain⟨T,hT⟩:∃ T,T=encrypt k2 (number unit):=⟨_,rfl⟩;have hTl:T.length=16:=hT ▸ encrypt_length number_length;rw[← hn,← hT];replace hT:=LH hT;clear hn hc2;go_enter func179,ntmps179;go_wp2;rw[← HN.out];obtain⟨w1,hw1⟩:∃ w1,w1=w.alloc (.cells #[.pointer (some ⟨p1,0,none⟩),.pointer (some ⟨p2,0,none⟩)] 261):=⟨_,rfl⟩;rw[← hw1] at hbox hcA hBA ⊢;clear hw1;have hdr:∀ w3,Chg No w1.drew w3→Chg No w1 w3:=fun w3 h=>⟨h.os,h.tape,h.output,h.size,h.block⟩
 replace hdr:=LH hdr;have hnl:=heap_lt hbox.out;have hcP:=cell_of hbox.out 1;have hcP2:w1.cell? ⟨n,1,none⟩=some (.pointer (some ⟨p2,0,none⟩)):=hcP;clear hcP;replace hcP2:=LH hcP2;refine RA.regionT (Chg No) (Chg No) [1,1,1,4,4,2,7] [6] (fun _ v w3=>∃ b,v=.pointer (some ⟨b,0,none⟩)∧w1.heap.size≤b∧Arr w3 b 179 (List.replicate 16 0)) (fun _=>True) (by kernel_rfl) (Chg.refl _ _) (fun _ _ h=>h) (fun _ _ _ h k=>h.trans k) (fun _ _ h k=>k) (trivial) (by kernel_rfl) (by kernel_rfl) ?_;intro cx;refine RA.fk prog (n) (1) (h:=?_);refine RA.lk prog (.pointer (some ⟨p2,0,none⟩)) (hc:=fun w3 hp=>by exact ((hdr.out _ hp.1).cell (p:=⟨n,1,none⟩) hnl id).trans hcP2.out) (h:=?_)
 repeat refine RA.qq (h:=?_)
 refine RA.kc (P:=prog) [_] (.agg (u8s (number unit)).toArray) (fun _=>True) (fun _ _=>by go_simp) (by kernel_rfl) (by rfl) (by rfl) (by kernel_rfl) (fun _ _ _ h=>h) rfl (fun w3 hp hH=>(number_ok unit hu w3).mono (by rintro e w4 ⟨rfl,h2⟩;exact⟨rfl,Chg.of_below h2 _,trivial⟩)) ?_;refine RA.kc (P:=prog) [_,_] (.agg (u8s T).toArray) (fun _=>True) (fun _ _=>by go_simp) (by kernel_rfl) (by rfl) (by rfl) (by kernel_rfl) (fun _ _ _ h=>h) rfl (fun w3 hp hH=>(encrypt_ok (hcA.out.keep (hdr.out _ hp.1).size (fun g _ hl=>(hdr.out _ hp.1).block g hl id)) h4 hk4 (number unit) number_length).mono (by rintro e w4 ⟨rfl,h2⟩;exact⟨by rw[hT.out],Chg.of_below h2 _,trivial⟩)) ?_
 refine RA.fr (by kernel_rfl) (by rfl) (fun v a b h h2=>by obtain⟨b1,h3,h4,h5⟩:=h2;exact⟨b1,h3,h4,h5.keep (h.block b1 (heap_lt h5) id)⟩) (fun w3 hp=>⟨.pointer (some ⟨w3.heap.size,0,none⟩),w3.alloc (.cells #[.int .u8 0,.int .u8 0,.int .u8 0,.int .u8 0,.int .u8 0,.int .u8 0,.int .u8 0,.int .u8 0,.int .u8 0,.int .u8 0,.int .u8 0,.int .u8 0,.int .u8 0,.int .u8 0,.int .u8 0,.int .u8 0] 179),by
  show (execOp _ _).run prog w3=_;go_simp,(Chg.refl _ _).alloc _,w3.heap.size,rfl,hp.1.size,heap_alloc_new w3 _⟩) (fun u=>?_)
 refine RA.stt (fun w4=>∃ b,u=.pointer (some ⟨b,0,none⟩)∧w1.heap.size≤b∧Arr w4 b 179 (T)∧Chg No w1 w4) (by kernel_rfl) (by rfl) (by kernel_rfl) (fun _ _ h k=>by obtain⟨b1,h3,h4,h5,h6⟩:=k;exact⟨b1,h3,h4,h5.keep (h.block b1 (heap_lt h5) id),h6.trans h⟩) (fun w3 hp0 _=>by
  have hp:=hp0.first (by kernel_rfl);obtain⟨b1,rfl,h4,h5⟩:=hp.fact 0 rfl (by kernel_rfl);refine⟨w3.setRow b1 (u8s (T)).toArray,RA.ex_store (by rfl) (by rfl) (block_store h5 List.length_replicate _ hTl),b1,rfl,h4,h5.setRow _,((hdr.out _ hp.1).setRow (g:=b1) (fun h=>absurd h4 (by omega)) _)⟩) ?_
 refine RA.RA.doneT (fun w5 hH=>?_);simp only[RA.put,List.foldr_cons,List.foldr_nil,cx,Act.put,List.setIfInBounds_toArray,List.set_cons_succ,List.set_cons_zero];obtain⟨b,rfl,hb1,hA,hC⟩:=hH;have hB5:Below n w w5:=hBA.out.trans ((Chg.no hC).mono (by omega));have hnb:n≤b:=by omega
 have hs5:b<w5.heap.size:=heap_lt hA;replace hA:=LH hA;replace hB5:=LH hB5;clear hC hcP2 hcA hBA hbox hdr hb1;have hz1:(Value.agg #[.int .u8 0,.int .u8 0,.int .u8 0,.int .u8 0,.int .u8 0,.int .u8 0,.int .u8 0,.int .u8 0,.int .u8 0,.int .u8 0,.int .u8 0,.int .u8 0,.int .u8 0,.int .u8 0,.int .u8 0,.int .u8 0]).cells.size=16:=rfl;go_wp2
 go_loopw [6,14] (fun o i wr=>∃ k:Nat,k≤m∧i=.int .i64 k∧Below n w wr∧b<wr.heap.size∧o.ownBlock≠some b∧Hid (Arr wr b 179 (twB T k))∧Hid (wr.ownsRow n 179 16 o k (blkCells (twB T) k)))
  (fun _ i _=>m - (intOf i).toNat)
 case atStart=>exact⟨0,by omega,rfl,hB5.out,hs5,by simp[Value.ownBlock],hA.out,World.ownsRow_nil _ _ _ _⟩
 case round=>
  clear hA hB5 hs5;obtain⟨k,hk,rfl,hbr,hs,hne,HA,HO⟩:=hrel;by_cases hlt:k<m
  ·obtain⟨X,hX⟩:∃ X,X=twB T k:=⟨_,rfl⟩;have hXl:X.length=16:=hX ▸ twB_length hTl k;rw[← hX] at HA;have hld:=LH (run_loadAt_arr (P:=prog) HA.out underlying179 (size61 hXl));have hX1:twB T (k+1)=double X:=by rw[twB,hX]
   have hX2:blkCells (twB T) (k+1)=blkCells (twB T) k++u8s X:=by rw[blkCells_succ,hX]
   obtain⟨C,hC⟩:∃ C,C=blkCells (twB T) k:=⟨_,rfl⟩;rw[← hC] at HO hX2;have HO2:=LH (show (wr.alloc (.cells (u8s X).toArray 179)).ownsRow _ _ _ _ _ _ from owns_keep HO.out (fun g hg=>Below.heap_alloc _ _ _ (owns_lt HO.out g hg)));have HCB:=LH (lit_cells wr (u8s X).toArray 179 1 16 (by simp[u8s_length,hXl]) (by unfold maxLen;omega));have HBK:=LH (fun g=>owns_ge HO.out g);have HNB:=LH hbr.size;replace hbr:=LH hbr;replace hne:=LH hne;replace hX:=LH hX;replace hX1:=LH hX1;replace hX2:=LH hX2;replace hC:=LH hC;clear HO
   go_wp2_with (first
    | (refine wpList_load rfl 179 _ rfl _ _ rfl hld.out ?_)
    | (refine wpList_run rfl _ (ex_lit1 hXl rfl wr) ?_)
    | (at_builtin;refine K.append ?_ (.tmp 16) (.tmp 18) 190 ?_ n 179 (.agg #[.int .u8 0,.int .u8 0,.int .u8 0,.int .u8 0,.int .u8 0,.int .u8 0,.int .u8 0,.int .u8 0,.int .u8 0,.int .u8 0,.int .u8 0,.int .u8 0,.int .u8 0,.int .u8 0,.int .u8 0,.int .u8 0]) 16 16 underlying190 infoBlock hz1 (by omega) _ k _ ?_ HO2.out (fun _=>True) _ 1 (u8s X).toArray.toList ?_ HCB.out (u8s_one X) (by unfold maxLen;omega) (by omega) ?_ ?_))
   ·rfl
   ·rfl
   ·have:=HNB.out;have:=HN.out;omega
   intro v' w2 x1 x2 x3 x4;have hA2:Arr w2 b 179 X:=HA.out.keep ((x2.block b (by simp;omega) (fun h=>hne.out (by rw[← h]))).trans (Below.heap_alloc _ _ _ hs))
   have hb2:Below n w w2:=by
    have hB:=hbr.out.alloc (by have:=HNB.out;have:=HN.out;omega) (.cells (u8s X).toArray 179);refine⟨x2.os.trans hB.os,x2.tape.trans hB.tape,x2.output.trans hB.output,Nat.le_trans hB.size x2.size,fun q hq=>?_⟩;exact (x2.block q (by have:=HNB.out;have:=HN.out;simp;omega) (fun h=>by have:=HBK.out q h.symm;omega)).trans (hB.block q hq)
   have hs2:b<w2.heap.size:=heap_lt hA2
   have hne2:v'.ownBlock≠some b:=by
    rcases x4 with e|⟨g,e,hg⟩
    ·rw[e];exact hne.out
    ·rw[e];simp at hg ⊢;omega
   have hld2:=LH (run_loadAt_arr (P:=prog) hA2 underlying179 (size61 hXl));replace x1:=LH x1;replace hA2:=LH hA2;replace hb2:=LH hb2;replace hne2:=LH hne2;clear x2 x3 x4 HO2 HCB HA hld HBK hne
   go_wp2_with (refine wpList_load rfl 179 _ rfl _ _ rfl hld2.out ?_)
   refine (double_ok X hXl _).mono ?_;rintro e w3 ⟨rfl,hb3⟩;have hA3:=hA2.out.keep (hb3.block b hs2);have hst:=LH (block_store hA3 hXl (double X) double_length);have hO3:=owns_keep x1.out (fun g hg=>hb3.block g (owns_lt x1.out g hg));have hO4:(w3.setRow b (u8s (double X)).toArray).ownsRow n 179 16 v' (k+1) (C++u8s X):=owns_keep hO3 (fun g hg=>setRow_other _ _ _ _ (fun e=>hne2.out (by rw[← e];exact hg)));have hB3:Below n w w3:=hb2.out.trans (hb3.mono (by omega));have hA4:=LH (hA3.setRow (double X));have hB4:=LH (below_setRow hB3 hnb (u8s (double X)).toArray);have hs4:b<(w3.setRow b (u8s (double X)).toArray).heap.size:=heap_lt hA4.out;replace hO4:=LH hO4;clear hA3 hO3 hB3 hb3
   go_wp2_with (refine wpList_store rfl 179 _ _ rfl _ _ rfl rfl hst.out ?_)
   go_roundw
   case rel=>
    refine⟨k+1,by omega,by go_num,hB4.out,hs4,hne2.out,?_,?_⟩
    ·show Arr _ _ _ _;rw[hX1.out];exact hA4.out
    ·show World.ownsRow _ _ _ _ _ _ _;rw[hX2.out];exact hO4.out
   case measure=>simp[intOf];omega
  ·obtain rfl:k=m:=by omega
   have HO2:=HO;replace hbr:=LH hbr;replace hne:=LH hne;clear HA;go_wp2;go_ret;exact⟨_,rfl,HO2.out,hbr.out⟩
end Go.Proofs.YthmcbgidehjlbaaGreat.Fd
/-
  xts.May. No condition beyond what each theorem names.
-/
namespace Go.Proofs.YthmcbgidehjlbaaGreat.Fd
open _root_.Go.Proofs.Tryz
open Go Go.RowKit K
set_option maxRecDepth 100000
set_option maxHeartbeats 4000000
def keyOk (n:Nat) (z:Int):Prop:=(n=32∨n=64)∧0≤z∧z≤1099511627776
theorem ok_of {key:List UInt8}{z:Nat}(h:keyOk key.length z):(key.length=32∨key.length=64)∧z≤1099511627776:=⟨h.1,by have:=h.2.2;omega⟩
theorem mayKey_ok {w:World}{S:Nat→Prop}{kv:Value}{key:List UInt8}(hb:Bytes w S kv key) (z:Nat) (hk:keyOk key.length z) (a:Option Addr) (n cap:Nat) (hn:n≤1000000):
  Calls prog 160 #[kv,.int .i64 z,.slice a n cap] w fun e w'=>e=.returned (.bool (decide (n % 16=0∧n≤4096)))∧Below w.heap.size w w':=by
 have hc:=LH (xtsOpen_ok hb (ok_of hk).1 z (ok_of hk).2);obtain⟨q,hq⟩:∃ q,q=n % 16:=⟨_,rfl⟩;have hq1:(n:Int) % 16=q:=by omega
 have hq2:(n:Int).tmod 16=q:=by rw[Int.tmod_eq_emod_of_nonneg (by omega)];exact hq1
 rw[← hq];replace hq:=LH hq;have hfin:∀ w1 p1 p2,Below w.heap.size w w1→Below w.heap.size w (w1.alloc (.cells #[.pointer (some ⟨p1,0,none⟩),.pointer (some ⟨p2,0,none⟩)] 261)):=fun w1 p1 p2 h=>h.alloc h.size _
 replace hfin:=LH hfin;by_cases h0:q=0
 ·subst h0;by_cases h1:n≤4096
  all_goals go_enter func160,ntmps160
  all_goals go_wp2_with fail
  all_goals refine hc.out.mono ?_
  all_goals rintro e w1 ⟨p1,p2,rfl,_,hb1⟩
  all_goals replace hb1:=LH hb1
  all_goals go_wp2
  all_goals go_ret
  all_goals exact⟨ret_bool (by simp;omega),hfin.out _ _ _ hb1.out⟩
 ·have e0:((q:Int) == 0)=false:=by simp;omega
  go_enter func160,ntmps160
  go_wp2_with fail
  refine hc.out.mono ?_;rintro e w1 ⟨p1,p2,rfl,_,hb1⟩;replace hb1:=LH hb1;go_wp2;go_ret;exact⟨ret_bool (by simp;omega),hfin.out _ _ _ hb1.out⟩
end Go.Proofs.YthmcbgidehjlbaaGreat.Fd
/-
  xts: data, block by block. No condition beyond what each theorem names.
-/
namespace Go.Proofs.YthmcbgidehjlbaaGreat.Fd
open _root_.Go.Proofs.Tryz
open Go Go.RowKit K
set_option maxRecDepth 100000
set_option maxHeartbeats 8000000
def xor2 (a b:List UInt8):List UInt8:=xorAll (fun m=>if m=0 then a else b) 2
theorem xor2_length {a b:List UInt8}:(xor2 a b).length=16:=xorAll_length
theorem xor2_ok {w:World}{g:Nat}{a b:List UInt8}(ha:a.length=16) (hb:b.length=16) (h:Arr w g 179 (a++b)):
  Calls prog 180 #[.slice (some ⟨g,0,none⟩) 2 2] w fun e w'=>e=.returned (.agg (u8s (xor2 a b)).toArray)∧Below w.heap.size w w':=by
 refine xor_ok (fun m=>if m=0 then a else b) (fun m=>by split<;>assumption) g 0 2 2 (by omega) w (heap_lt h) (fun m hm j hj=>?_);rw[h.cell _ (by rw[List.length_append];omega)];congr 3;by_cases h0:m=0
 ·subst h0;rw[if_pos rfl];simp[List.getD,List.getElem?_append_left (show j<a.length by omega)]
 ·have:m=1:=by omega
  subst this;rw[if_neg (by omega)];simp only[List.getD];rw[List.getElem?_append_right (by omega),show 0+1*16+j - a.length=j by omega]
def blk (data:List UInt8) (i:Nat):List UInt8:=(data.drop (16*i)).take 16
theorem blk_length {data:List UInt8}{i:Nat}(h:16*i+16≤data.length):(blk data i).length=16:=by simp[blk];omega
theorem blk_get {data:List UInt8}{i j:Nat}(hj:j<16):(blk data i).getD j 0=data.getD (16*i+j) 0:=by
 simp[blk,List.getD,hj]
theorem arr_bytes {w:World}{b:Nat}{t:TypeId}{l:List UInt8}(h:Arr w b t l) (hl:l.length≤maxLen):Bytes w (fun _=>True) (.slice (some ⟨b,0,none⟩) l.length l.length) l:=
 ⟨by simp[u8s_length],_,_,rfl,Nat.le_refl _,hl,fun h=>(by cases h),.inr ⟨b,0,rfl,trivial,heap_lt h,fun j u hu=>by
  rw[Nat.zero_add,cell_of h,← hu];simp⟩⟩
def thruB (D:List UInt8→List UInt8) (T data:List UInt8) (i:Nat):List UInt8:=xor2 (D (xor2 (blk data i) (twB T i))) (twB T i)
def thru (D:List UInt8→List UInt8) (T data:List UInt8):Nat→List UInt8
 | 0=>[]
 | i+1=>thru D T data i++thruB D T data i
theorem thru_length {D:List UInt8→List UInt8}{T data:List UInt8}{i:Nat}:(thru D T data i).length=16*i:=by
 induction i with
 | zero=>rfl
 | succ i ih=>rw[thru,List.length_append,ih,thruB,xor2_length];omega
theorem keys_len {key:List UInt8}(h:key.length=32∨key.length=64):8≤(k2of key).length∧(k2of key).length % 4=0∧8≤(k1of key).length∧(k1of key).length % 4=0:=by
 have h1:(key.drop (key.length / 2)).length=key.length / 2:=by simp;omega
 have h2:(key.take (key.length / 2)).length=key.length / 2:=by simp;omega
 rw[k2of,k1of,sched,sched,keysF_length,keysF_length,h1,h2];rcases h with h|h<;>rw[h]<;>decide
theorem through_ok {w:World}{S S':Nat→Prop}{kv dv:Value}{key data:List UInt8}{f:Nat}(D:List UInt8→List UInt8) (hD:∀ b,b.length=16→(D b).length=16) (hb:Bytes w S kv key) (unit:Nat) (hk:keyOk key.length unit)
  (hd:Bytes w S' dv data) (h16:data.length % 16=0) (hmost:data.length≤4096)
  (hf:∀ args w,(callFunc f args).run prog w=.ok (.enter f args) w)
  (hdo:∀ (w3:World) (F:Nat→Prop) p1 p2 b,PairAt w3 F p1 p2 (k1of key) (k2of key)→b.length=16→Calls prog f #[.agg #[.pointer (some ⟨p1,0,none⟩),.pointer (some ⟨p2,0,none⟩)],.agg (u8s b).toArray] w3 fun e w'=>e=.returned (.agg (u8s (D b)).toArray)∧Below w3.heap.size w3 w'):
  Calls prog 163 #[kv,.int .i64 unit,dv,.func (.func f) #[] #[]] w fun e w'=>∃ v,e=.returned (.tuple #[v,.int .i64 0])∧
   w'.ownsRow w.heap.size 5 1 v data.length (u8s (thru D (encrypt (k2of key) (number unit)) data (data.length / 16)))∧Below w.heap.size w w':=by
 obtain⟨n,hn⟩:∃ n,n=w.heap.size:=⟨_,rfl⟩;have HN:=LH hn;obtain⟨da,dcap,rfl,hdc1,hdc2⟩:=hd.shape;have hmay:=mayKey_ok hb unit hk da data.length dcap (by omega);rw[decide_eq_true (show data.length % 16=0∧data.length≤4096 from ⟨h16,hmost⟩)] at hmay;have hopen:=fun (w1:World) (h:Bytes w1 S kv key)=>xtsOpen_ok h (ok_of hk).1 unit (ok_of hk).2
 have hkl:=keys_len (ok_of hk).1;have hul:=(ok_of hk).2;obtain⟨L,hL⟩:∃ L,L=data.length:=⟨_,rfl⟩;obtain⟨m,hm⟩:∃ m,m=L / 16:=⟨_,rfl⟩;have hm1:(L:Int) / 16=m:=by omega
 have hm2:(L:Int).tdiv 16=m:=by rw[Int.tdiv_eq_ediv_of_nonneg (by omega)];exact hm1
 have hLm:L=16*m:=by omega
 have hm3:m≤256:=by omega
 obtain⟨T,hT⟩:∃ T,T=encrypt (k2of key) (number unit):=⟨_,rfl⟩;have hTl:T.length=16:=hT ▸ encrypt_length number_length;have htw:=fun (w1:World) (p1 p2:Nat) (F:Nat→Prop) (h:PairAt w1 F p1 p2 (k1of key) (k2of key))=>tweaks_ok h hkl.1 hkl.2.1 unit m (by omega) (by omega)
 rw[← hT] at htw ⊢;rw[← hL] at hmay hdc1 ⊢;rw[← hm,← hn];obtain⟨K1,hK1⟩:∃ K,K=k1of key:=⟨_,rfl⟩;obtain⟨K2,hK2⟩:∃ K,K=k2of key:=⟨_,rfl⟩;rw[← hK1,← hK2] at hopen;rw[← hK1,← hK2] at htw hdo;have hd':Cells w S' (.slice da L dcap) L 1 (u8s data):=by rw[hL];exact hd
 rw[← hL] at hd;unfold maxLen at hdc2;replace hD:=LH hD;replace hf:=LH hf;replace hdo:=LH hdo;replace hmay:=LH hmay;replace hopen:=LH hopen;replace htw:=LH htw;replace hb:=LH hb;replace hd:=LH hd';replace hL:=LH hL;replace hm:=LH hm;replace hLm:=LH hLm;clear hK1 hK2 hT hn hkl h16 hmost hk hd';go_enter func163,ntmps163
 go_wp2_with fail
 refine hmay.out.mono ?_;rintro e w1 ⟨rfl,hb1⟩;have hb1':=LH hb1;clear hb1
 go_wp2_with fail
 refine (hopen.out w1 (hb.out.keep hb1'.out.size (fun g _ hg=>hb1'.out.block g hg))).mono ?_;rintro e w2 ⟨p1,p2,rfl,hpr,hb2⟩;have hB2:Below n w w2:=HN.out ▸ hb1'.out.trans (hb2.mono hb1'.out.size);obtain⟨bp,hbp⟩:∃ b,b=w2.heap.size:=⟨_,rfl⟩
 have hbox:(w2.alloc (.cells #[.pointer (some ⟨p1,0,none⟩),.pointer (some ⟨p2,0,none⟩)] 261)).heap[bp]?=some (.cells #[.pointer (some ⟨p1,0,none⟩),.pointer (some ⟨p2,0,none⟩)] 261 (0,0)):=by
  rw[hbp];exact heap_alloc_new w2 _
 have hpr3:PairAt (w2.alloc (.cells #[.pointer (some ⟨p1,0,none⟩),.pointer (some ⟨p2,0,none⟩)] 261)) (fun _=>True) p1 p2 K1 K2:=(hpr.keep (by simp) (fun g _ hl=>Below.heap_alloc _ _ _ hl)).mono (fun _ _=>trivial);have hn2:n≤w2.heap.size:=by have:=hB2.size;have:=HN.out;omega
 have hB3:Below n w (w2.alloc (.cells #[.pointer (some ⟨p1,0,none⟩),.pointer (some ⟨p2,0,none⟩)] 261)):=hB2.alloc hn2 _;replace hbox:=LH hbox;replace hpr3:=LH hpr3;replace hB3:=LH hB3;have hbp':=LH hbp;clear hpr hb2 hB2 hbp
 go_wp2_with fail
 obtain⟨w3,hw3⟩:∃ w3,w3=w2.alloc (.cells #[.pointer (some ⟨p1,0,none⟩),.pointer (some ⟨p2,0,none⟩)] 261):=⟨_,rfl⟩;rw[← hw3] at hbox hpr3 hB3 ⊢;refine (htw.out w3 p1 p2 _ hpr3.out).mono ?_;rintro e w4 ⟨tv,rfl,hto,hb4⟩;obtain⟨B,hBz⟩:∃ B,B=w4.heap.size:=⟨_,rfl⟩;have hbox4:=(hb4.block bp (heap_lt hbox.out)).trans hbox.out;have hpr4:=hpr3.out.keep hb4.size (fun g _ hl=>hb4.block g hl);have hn3:n≤w3.heap.size:=by have:=hB3.out.size;have:=HN.out;omega
 have hB4:Below n w w4:=hB3.out.trans (hb4.mono hn3);have htc:=Cells.own hto;obtain⟨ta,tcap,htv,htc1,htc2⟩:=htc.shape;subst htv;unfold maxLen at htc2;have hnB:n≤B:=by have:=hb4.size;omega
 have hd4:Cells w4 S' (.slice da L dcap) L 1 (u8s data):=hd.out.keep (by have:=hB4.size;exact this) (fun g _ hg=>hB4.block g (by have:=HN.out;omega));rw[← hbp'.out];clear hw3;replace hbox4:=LH hbox4;replace hpr4:=LH hpr4;replace hB4:=LH hB4;replace htc:=LH htc;replace hd4:=LH hd4;replace hBz:=LH hBz;clear hto hb4 hbox hpr3 hB3 hb1' hbp' hn2 hn3;go_wp2
 go_loopw [12,34] (fun o i wr=>∃ k:Nat,k≤m∧i=.int .i64 k∧Below B w4 wr∧Hid (wr.ownsRow B 5 1 o (16*k) (u8s (thru D T data k))))
  (fun _ i _=>m - (intOf i).toNat)
 case atStart=>exact⟨0,by omega,rfl,hBz.out ▸ Below.refl _ _,World.ownsRow_nil _ _ _ _⟩
 case round=>
  obtain⟨k,hk,rfl,hbr,HO⟩:=hrel;have hBr:B≤wr.heap.size:=by have:=hbr.size;have:=hBz.out;omega
  by_cases hlt:k<m
  ·have hbx:=LH ((hbr.block bp (by rw[hBz.out];exact heap_lt hbox4.out)).trans hbox4.out);have hprr:=LH (hpr4.out.keep hbr.size (fun g _ hl=>hbr.block g (by rw[hBz.out];exact hl)));have htr:=htc.out.keep hbr.size (fun g _ hl=>hbr.block g (by rw[hBz.out];exact hl));have hdr4:=hd4.out.keep hbr.size (fun g _ hl=>hbr.block g (by rw[hBz.out];exact hl));obtain⟨tg,toff,tc,htv,_,_,_,htgl,htcell⟩:=Cells.at htr (by omega);simp only[Value.slice.injEq] at htv;obtain⟨rfl,_,rfl⟩:=htv;obtain⟨dg,doff,dc,hdv,_,_,_,hdgl,hdcell⟩:=Cells.at hdr4 (by have:=hLm.out;omega);simp only[Value.slice.injEq] at hdv;obtain⟨rfl,_,rfl⟩:=hdv;obtain⟨X,hX⟩:∃ X,X=twB T k:=⟨_,rfl⟩;have hXl:X.length=16:=hX ▸ twB_length hTl k;obtain⟨Y,hY⟩:∃ Y,Y=blk data k:=⟨_,rfl⟩;have hYl:Y.length=16:=by rw[hY];exact blk_length (by have:=hL.out;have:=hLm.out;omega)
   have htld:∀ w5,Below wr.heap.size wr w5→(Instr.loadAt 179 (.pointer (some ⟨tg,toff+k*16,none⟩))).run prog w5=.ok (.agg (u8s X).toArray) w5:=by
    intro w5 h5;refine run_loadAt_cells underlying179 (size61 hXl) (fun j hj=>?_);rw[World.cell?_of_block (w:=wr) (h5.block tg htgl),Nat.add_assoc,htcell _ _ (blkCells_get (twB_length hTl) hlt (by omega)),← hX]
   have hdld:∀ w5,Below wr.heap.size wr w5→(Instr.loadAt 179 (.pointer (some ⟨dg,doff+16*k,none⟩))).run prog w5=.ok (.agg (u8s Y).toArray) w5:=by
    intro w5 h5;refine run_loadAt_cells underlying179 (size61 hYl) (fun j hj=>?_);have hjd:16*k+j<data.length:=by have:=hL.out;have:=hLm.out;omega
    rw[World.cell?_of_block (w:=wr) (h5.block dg hdgl),Nat.add_assoc,hdcell _ _ (u8s_get data _ hjd),hY,blk_get (by omega)];simp[List.getD,hjd]
   have hcut:∀ (w5:World) (lo hi:Nat),lo=16*k→hi=16*k+16→(Instr.sliceAt 42 (.slice (some ⟨dg,doff,none⟩) L dcap) (some (.int .i64 lo)) (some (.int .i64 hi)) none).run prog w5=.ok (.slice (some ⟨dg,doff+16*k,none⟩) 16 (dcap - 16*k)) w5:=by
    intro w5 lo hi h1 h2;rw[cut_at (P:=prog) (s:=1) w5 underlying42 (by kernel_rfl) _ _ _ _ _ (by omega) (by have:=hLm.out;omega),sliced_in _ _ _ _ _ _ (by have:=hLm.out;omega),Nat.mul_one,h1,show hi - 16*k=16 by omega]
   obtain⟨lo,hlo⟩:∃ lo,lo=16*k:=⟨_,rfl⟩;obtain⟨hi,hhi⟩:∃ hi,hi=16*k+16:=⟨_,rfl⟩;have hcut2:=LH (fun w5=>hcut w5 lo hi hlo hhi);rw[← hlo] at hdld hcut2;have hlo1:(k:Int)*16=lo:=by omega
   have hhi1:((k:Int)+1)*16=hi:=by omega
   have hloL:hi≤L:=by have:=hLm.out;omega
   have htr1:thru D T data (k+1)=thru D T data k++xor2 (D (xor2 Y X)) X:=by rw[thru,thruB,hX,hY]
   clear hcut htr hdr4 htcell hdcell;replace htr1:=LH htr1;replace hX:=LH hX;replace hY:=LH hY;replace htld:=LH htld;replace hdld:=LH hdld;replace hlo:=LH hlo;replace hhi:=LH hhi;replace hbr:=LH hbr;have hl1:=LH (htld.out wr (Below.refl _ _));obtain⟨w6,hst,hA6,hb6,hs6⟩:=box_store wr X hXl;replace hst:=LH hst;replace hA6:=LH hA6;replace hb6:=LH hb6;replace hs6:=LH hs6
   go_wp2_with (first
    | (refine wpList_load rfl 179 _ rfl _ _ rfl hl1.out ?_)
    | (refine wpList_store rfl 179 _ _ rfl _ _ rfl rfl hst.out ?_))
   obtain⟨tb,htb⟩:∃ b,b=wr.heap.size:=⟨_,rfl⟩;rw[← htb] at hA6 ⊢;have htbl:=heap_lt hA6.out;have hcP0:=cell_of hbx.out 0;have hcP1:=cell_of hbx.out 1;have hbpl:=heap_lt hbx.out;have hdr:∀ w5,Chg No w6.drew w5→Chg No w6 w5:=fun w3 h=>⟨h.os,h.tape,h.output,h.size,h.block⟩
   have hbx6:=LH ((hb6.out.block bp hbpl).trans hbx.out)
   have hpl:∀ w5,Chg No w6 w5→(Instr.loadAt 261 (.pointer (some ⟨bp,0,none⟩))).run prog w5=.ok (.agg #[.pointer (some ⟨p1,0,none⟩),.pointer (some ⟨p2,0,none⟩)]) w5:=by
    intro w5 h5;simp only[Instr.loadAt,Instr.sureAddr,Sem.run_bind,Sem.run_pure,Result.andThen];exact run_loadVar_row w5 bp 261 261 _ (0,0) _ ((h5.block bp (heap_lt hbx6.out) id).trans hbx6.out) underlying261 rfl (by kernel_rfl)
   have hb6r:∀ w5,Chg No w6 w5→Below wr.heap.size wr w5:=fun w5 h=>hb6.out.trans ((Chg.no h).mono (by have:=hb6.out.size;exact this))
   have hpr6:∀ w5,Chg No w6 w5→PairAt w5 (fun _=>True) p1 p2 K1 K2:=fun w5 h=>hprr.out.keep (hb6r w5 h).size (fun g _ hl=>(hb6r w5 h).block g hl)
   have hl2:∀ w5,Chg No w6 w5→(Instr.loadAt 179 (.pointer (some ⟨tb,0,none⟩))).run prog w5=.ok (.agg (u8s X).toArray) w5:=fun w5 h=>run_loadAt_arr (P:=prog) (hA6.out.keep (h.block tb htbl id)) underlying179 (size61 hXl)
   obtain⟨Z1,hZ1⟩:∃ Z,Z=xor2 Y X:=⟨_,rfl⟩;have hZ1l:Z1.length=16:=hZ1 ▸ xor2_length;obtain⟨Z2,hZ2⟩:∃ Z,Z=D Z1:=⟨_,rfl⟩;have hZ2l:Z2.length=16:=hZ2 ▸ hD.out Z1 hZ1l;obtain⟨Z3,hZ3⟩:∃ Z,Z=xor2 Z2 X:=⟨_,rfl⟩;have hZ3l:Z3.length=16:=hZ3 ▸ xor2_length;have htr2:thru D T data (k+1)=thru D T data k++Z3:=by rw[htr1.out,hZ3,hZ2,hZ1]
   replace hdr:=LH hdr;replace hpl:=LH hpl;replace hb6r:=LH hb6r;replace hpr6:=LH hpr6;replace hl2:=LH hl2;replace hZ1:=LH hZ1;replace hZ2:=LH hZ2;replace hZ3:=LH hZ3;replace htr2:=LH htr2;replace htb:=LH htb;clear hcP0 hcP1 hst hl1 htr1;refine RA.regionT (Chg No) (Chg No) [1,1,1,1,1,1,1,1,1,1,1,1,3,4,4,1,3,4,2,7] [19] (fun _ v w3=>∃ b,v=.pointer (some ⟨b,0,none⟩)∧w6.heap.size≤b∧Arr w3 b 179 (List.replicate 16 0)) (fun _=>True) (by kernel_rfl) (Chg.refl _ _) (fun _ _ h=>h) (fun _ _ _ h k=>h.trans k) (fun _ _ h k=>k) (trivial) (by kernel_rfl) (by kernel_rfl) ?_;intro cx
   repeat refine RA.qq (h:=?_)
   refine RA.ld (by kernel_rfl) (by rfl) (by rfl) (y':=.agg #[.pointer (some ⟨p1,0,none⟩),.pointer (some ⟨p2,0,none⟩)]) (fun w3 hp=>hpl.out w3 (hdr.out _ hp.1)) ?_
   repeat refine RA.qq (h:=?_)
   refine RA.mi (by kernel_rfl) (by rfl) (by rfl) (by rfl) ((lo:Int)) (hlo1) (by omega) ?_
   repeat refine RA.qq (h:=?_)
   refine RA.ai (by kernel_rfl) (by rfl) (by rfl) (by rfl) ((k:Int)+1) (rfl) (by omega) ?_;refine RA.mi (by kernel_rfl) (by rfl) (by rfl) (by rfl) ((hi:Int)) (hhi1) (by omega) ?_;refine RA.slh (by kernel_rfl) (by rfl) (by rfl) (by rfl) (by rfl) (y':=.slice (some ⟨dg,doff+lo,none⟩) 16 (dcap - lo)) (fun w3 hp=>hcut2.out w3) ?_;refine RA.vk prog (.pointer (some ⟨dg,doff+lo,none⟩)) (hr:=fun w hp=>by (try go_simp);rw[run_arrayAt];rfl) (h:=?_);refine RA.ld (by kernel_rfl) (by rfl) (by rfl) (y':=.agg (u8s Y).toArray) (fun w3 hp=>hdld.out w3 (hb6r.out w3 (hdr.out _ hp.1))) ?_;refine RA.ld (by kernel_rfl) (by rfl) (by rfl) (y':=.agg (u8s X).toArray) (fun w3 hp=>hl2.out w3 (hdr.out _ hp.1)) ?_;refine RA.bq (fun x w3=>∃ g,x=.slice (some ⟨g,0,none⟩) 2 2∧Arr w3 g 179 (Y++X)) (fun _ _=>True) (by kernel_rfl) (by rfl) (by kernel_rfl) (fun _ _ _ h k=>by obtain⟨g,h1,h2⟩:=k;exact⟨g,h1,h2.keep (h.block g (heap_lt h2) id)⟩) (fun _ _ _ _ _=>trivial) (fun w3 hp _=>⟨_,_,ex_lit2 hYl hXl (RA.evo_ev (by rfl)) (RA.evo_ev (by rfl)) w3,(Chg.refl _ _).alloc _,⟨w3.heap.size,rfl,heap_alloc_new w3 _⟩,trivial⟩) (fun x=>?_)
   refine RA.kc (P:=prog) [x] (.agg (u8s Z1).toArray) (fun _=>True) (fun _ _=>by go_simp) (by kernel_rfl) (by rfl) (by rfl) (by kernel_rfl) (fun _ _ _ h=>h) rfl (fun w3 hp hH=>by
    obtain⟨g,rfl,hA⟩:=hp.fact 0 rfl (by kernel_rfl);refine (xor2_ok hYl hXl hA).mono ?_;rintro e w4 ⟨rfl,h2⟩;exact⟨by rw[hZ1.out],Chg.of_below h2 _,trivial⟩) ?_
   refine RA.kcv (P:=prog) (f:=f) [_,_] (.agg (u8s Z2).toArray) (fun _=>True) hf.out (by kernel_rfl) (by rfl) (by rfl) (by rfl) (by kernel_rfl) (fun _ _ _ h=>h) rfl (fun w3 hp hH=>by
    refine (hdo.out w3 _ p1 p2 Z1 (hpr6.out w3 (hdr.out _ hp.1)) hZ1l).mono ?_;rintro e w4 ⟨rfl,h2⟩;exact⟨by rw[hZ2.out],Chg.of_below h2 _,trivial⟩) ?_
   refine RA.ld (by kernel_rfl) (by rfl) (by rfl) (y':=.agg (u8s X).toArray) (fun w3 hp=>hl2.out w3 (hdr.out _ hp.1)) ?_;refine RA.bq (fun x w3=>∃ g,x=.slice (some ⟨g,0,none⟩) 2 2∧Arr w3 g 179 (Z2++X)) (fun _ _=>True) (by kernel_rfl) (by rfl) (by kernel_rfl) (fun _ _ _ h k=>by obtain⟨g,h1,h2⟩:=k;exact⟨g,h1,h2.keep (h.block g (heap_lt h2) id)⟩) (fun _ _ _ _ _=>trivial) (fun w3 hp _=>⟨_,_,ex_lit2 hZ2l hXl (RA.evo_ev (by rfl)) (RA.evo_ev (by rfl)) w3,(Chg.refl _ _).alloc _,⟨w3.heap.size,rfl,heap_alloc_new w3 _⟩,trivial⟩) (fun x=>?_)
   refine RA.kc (P:=prog) [x] (.agg (u8s Z3).toArray) (fun _=>True) (fun _ _=>by go_simp) (by kernel_rfl) (by rfl) (by rfl) (by kernel_rfl) (fun _ _ _ h=>h) rfl (fun w3 hp hH=>by
    obtain⟨g,rfl,hA⟩:=hp.fact 0 rfl (by kernel_rfl);refine (xor2_ok hZ2l hXl hA).mono ?_;rintro e w4 ⟨rfl,h2⟩;exact⟨by rw[hZ3.out],Chg.of_below h2 _,trivial⟩) ?_
   refine RA.fr (by kernel_rfl) (by rfl) (fun v a b h h2=>by obtain⟨b1,h3,h4,h5⟩:=h2;exact⟨b1,h3,h4,h5.keep (h.block b1 (heap_lt h5) id)⟩) (fun w3 hp=>⟨.pointer (some ⟨w3.heap.size,0,none⟩),w3.alloc (.cells #[.int .u8 0,.int .u8 0,.int .u8 0,.int .u8 0,.int .u8 0,.int .u8 0,.int .u8 0,.int .u8 0,.int .u8 0,.int .u8 0,.int .u8 0,.int .u8 0,.int .u8 0,.int .u8 0,.int .u8 0,.int .u8 0] 179),by
    show (execOp _ _).run prog w3=_;go_simp,(Chg.refl _ _).alloc _,w3.heap.size,rfl,hp.1.size,heap_alloc_new w3 _⟩) (fun u=>?_)
   refine RA.stt (fun w4=>∃ b,u=.pointer (some ⟨b,0,none⟩)∧w6.heap.size≤b∧Arr w4 b 179 (Z3)∧Chg No w6 w4) (by kernel_rfl) (by rfl) (by kernel_rfl) (fun _ _ h k=>by obtain⟨b1,h3,h4,h5,h6⟩:=k;exact⟨b1,h3,h4,h5.keep (h.block b1 (heap_lt h5) id),h6.trans h⟩) (fun w3 hp0 _=>by
    have hp:=hp0.first (by kernel_rfl);obtain⟨b1,rfl,h4,h5⟩:=hp.fact 0 rfl (by kernel_rfl);refine⟨w3.setRow b1 (u8s (Z3)).toArray,RA.ex_store (by rfl) (by rfl) (block_store h5 List.length_replicate _ hZ3l),b1,rfl,h4,h5.setRow _,((hdr.out _ hp.1).setRow (g:=b1) (fun h=>absurd h4 (by omega)) _)⟩) ?_
   refine RA.RA.doneT (fun w7 hH=>?_);simp only[RA.put,List.foldr_cons,List.foldr_nil,cx,Act.put,List.setIfInBounds_toArray,List.set_cons_succ,List.set_cons_zero];obtain⟨b2,rfl,hb2,hA2,hC2⟩:=hH;have hB7:=hb6r.out w7 hC2
   have hby:Cells w7 (fun _=>True) (.slice (some ⟨b2,0,none⟩) 16 16) 16 1 (u8s Z3):=by
    have h:=arr_bytes hA2 (by rw[hZ3l];unfold maxLen;omega);rw[hZ3l] at h;unfold Bytes at h;rw[hZ3l] at h;exact h
   have hO7:=LH (owns_keep HO.out (fun g hg=>hB7.block g (owns_lt HO.out g hg)));have HBK:=LH (fun g=>owns_ge HO.out g);have hB8:=LH (hbr.out.trans (hB7.mono hBr));have hs7:B≤w7.heap.size:=Nat.le_trans hBr hB7.size;have hz1:(Value.int .u8 0).cells.size=1:=rfl;replace hby:=LH hby;clear hA2 hC2 hb2 hB7 HO hb6r hpr6 hl2 hpl htld hdld hcut2 hdr hbx6 hbx hprr hb6 hA6 htbl hs6
   go_wp2_with (at_builtin;refine K.append ?_ (.tmp 57) (.tmp 58) 42 ?_ B 5 (.int .u8 0) 1 1 underlying42 infoByte hz1 (by omega) _ (16*k) _ ?_ hO7.out (fun _=>True) _ 16 (u8s Z3) ?_ hby.out (u8s_one Z3) (by unfold maxLen;omega) (by omega) ?_ ?_)
   ·rfl
   ·rfl
   ·rfl
   ·rfl
   ·exact hs7
   intro v' w8 x1 x2 x3 x4
   have hb8:Below B w4 w8:=by
    have h8:=hB8.out;refine⟨x2.os.trans h8.os,x2.tape.trans h8.tape,x2.output.trans h8.output,Nat.le_trans h8.size x2.size,fun q hq=>?_⟩;exact (x2.block q (by omega) (fun h=>by have:=HBK.out q h.symm;omega)).trans (h8.block q hq)
   replace x1:=LH x1;replace hb8:=LH hb8;clear x2 x3 x4;go_wp2;go_roundw
   case rel=>
    refine⟨k+1,by omega,by go_num,hb8.out,?_⟩;show World.ownsRow _ _ _ _ _ _ _;rw[htr2.out,u8s_append,show 16*(k+1)=16*k+16 by omega];exact x1.out
   case measure=>simp[intOf];omega
  ·obtain rfl:k=m:=by omega
   have hbr2:=LH hbr;clear hbr;go_wp2;go_ret2;refine⟨_,rfl,?_,hB4.out.trans (hbr2.out.mono hnB)⟩;rw[hLm.out];exact⟨HO.out.1,HO.out.2.imp id (fun ⟨g,cp,cur,h1,h2,h3⟩=>⟨g,cp,cur,h1,Nat.le_trans hnB h2,h3⟩)⟩
end Go.Proofs.YthmcbgidehjlbaaGreat.Fd

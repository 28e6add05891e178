/-
  ideal.Key: the walk. No condition beyond what each theorem names.
-/
import Derived.Test.YtbgfdbidbjlaaaaGreatSaIdKey
import Derived.Test.YtbgfdbidbjlaaaaGreatSaKeyL
namespace Go.Proofs.YtbgfdbidbjlaaaaGreat.Fd
open _root_.Go.Proofs.Tryz
open Go Go.RowKit K Go.Maps
set_option maxRecDepth 100000
set_option maxHeartbeats 8000000
theorem sizeAsked:(prog.info? 115).map (·.size)=some 3:=by kernel_rfl
theorem asked_load {w:World}{b:Nat}{x y z:Value}(h:w.heap[b]?=some (.cells #[x,y,z] 115 (0,0))):
  (Instr.loadAt 115 (.pointer (some ⟨b,0,none⟩))).run prog w=.ok (.agg #[x,y,z]) w:=by
 simp only[Instr.loadAt,Instr.sureAddr,Sem.run_bind,Sem.run_pure,Result.andThen];exact run_loadVar_row w b 115 115 _ _ _ h underlying115 rfl sizeAsked
theorem ex_look1 {P:Program}{w w':World}{o:Oper}{ρ:Operand→Value}{t:TypeId}{x y:Operand}(ho:o.op=.lookup t x y false){p q v:Value}(hx:ρ x=p) (hy:ρ y=q) (hr:(Instr.lookup t p q false).run P w=.ok v w'):(execOp ρ o).run P w=.ok (.value v) w':=by
 unfold execOp;simp only[ho,hx,hy,Sem.run_bind,hr,Result.andThen_ok,Sem.run_pure]
theorem IdealG.took {w w':World}{B a a':Nat}{S:IdG}{prs:List PR}(h:IdealG w B S a prs){tv':Value}{ts':List (ByteArray×Nat×Nat)}(hT:TapeO w' B S.tp S.bv tv' S.b a' ts') (hC:Chg (TkC S.tp S.tv) w w') (hts:ts'.length≤a') (ha:a≤a') (hown:tv'.ownBlock=S.tv.ownBlock∨∃ g,tv'.ownBlock=some g∧w.heap.size≤g):
  IdealG w' B { S with tv:=tv',ts:=ts' } a' prs∧Goes B w w' S { S with tv:=tv',ts:=ts' }:=by
 have hcO:Chg (OwnG S) w w':=hC.mono (fun g _ e=>by rcases e with e|e;exact .inl e;exact .inr (.inl e))
 have hnm:∀ (g:Nat) (es:Array MapEntry) (ck:Nat),w.heap[g]?=some (.map es ck)→w'.heap[g]?=w.heap[g]?:=fun g es ck hg=>hC.block g (heap_lt hg) (by
  rintro (e|e)
  ·exact h.tape.apartM hg (.inl e)
  ·exact h.tape.apartM hg (.inr e))
 have hbx:w'.heap[S.c]?=some (idBox (some ⟨S.tp,0,none⟩) S.m S.k S.cn S.ag):=(hC.block _ (heap_lt h.box) (by
  rintro (e|e)
  ·exact h.tape.apart h.box (by decide) (by decide) (.inl e)
  ·exact h.tape.apart h.box (by decide) (by decide) (.inr e))).trans h.box
 obtain⟨es,clk,hp⟩:=h.places;obtain⟨es2,clk2,hk⟩:=h.keys;refine⟨⟨hT,Nat.le_trans h.room hC.size,hbx,h.baseC,h.baseM,h.mlk,Nat.lt_of_lt_of_le h.kl hC.size,⟨es2,clk2,(hnm _ _ _ hk).trans hk⟩,⟨es,clk,(hnm _ _ _ hp.box).trans hp.box,hp.row,hp.fit⟩,fun q hq=>?_,h.apart,h.same,h.void,h.ok,hts,Nat.le_trans h.cnn ha,Nat.le_trans h.agn ha,h.short⟩,⟨⟨rfl,rfl,rfl,rfl,rfl,rfl⟩,hcO,fun g hg=>?_,h.kept hcO⟩⟩
 ·obtain⟨h1,h2,h3,h4⟩:=h.pairs q hq;obtain⟨e3,c3,m3⟩:=h3.mapped;obtain⟨e4,c4,m4⟩:=h4.mapped;exact⟨h1,h2,h3.keep (hnm _ _ _ m3),h4.keep (hnm _ _ _ m4)⟩
 ·rcases hg with e|e|e
  ·exact .inl (.inl e)
  ·rcases hown with e2|⟨g',e2,h1⟩
   ·exact .inl (.inr (.inl (e2 ▸ e)))
   ·have e3:tv'.ownBlock=some g:=e;rw[e2] at e3;cases e3
    exact .inr h1
  ·exact .inl (.inr (.inr e))
structure GoesK (B:Nat) (w w':World) (S S':IdG):Prop where
 same:SameG S S'
 chg:Chg (fun g=>OwnG S g∨g=S.k) w w'
 own:∀ g,OwnG S' g→OwnG S g∨w.heap.size≤g
 kept:Kept B w w'
theorem Goes.k {B:Nat}{w w':World}{S S':IdG}(h:Goes B w w' S S'):GoesK B w w' S S':=⟨h.same,h.chg.mono (fun _ _ e=>.inl e),h.own,h.kept⟩
theorem GoesK.trans {B:Nat}{w w' w2:World}{S S' S2:IdG}(h:GoesK B w w' S S') (k:GoesK B w' w2 S' S2):GoesK B w w2 S S2:=
 ⟨h.same.trans k.same,h.chg.then k.chg (fun i hi e=>by
  rcases e with e|e
  ·rcases h.own i e with h1|h1
   ·exact .inl h1
   ·omega
  ·exact .inr (e.trans h.same.k)),fun g hg=>by
  rcases k.own g hg with h1|h1
  ·exact h.own g h1
  ·exact .inr (Nat.le_trans h.chg.size h1),h.kept.trans k.kept⟩
theorem IdealG.keyed {w w':World}{B a:Nat}{S:IdG}{prs:List PR}(h:IdealG w B S a prs) (hC:Chg (fun g=>g=S.k) w w') (hk:∃ es clk,w'.heap[S.k]?=some (.map es clk)):IdealG w' B S a prs∧GoesK B w w' S S:=by
 obtain⟨es,clk,hp⟩:=h.places;obtain⟨es2,clk2,hk2⟩:=h.keys;have hcO:Chg (fun g=>OwnG S g∨g=S.k) w w':=hC.mono (fun g _ e=>.inr e);have hbB:=h.baseM;have hkl:=h.kl
 have hcell:∀ (g:Nat) (cs:Array Value) (t:TypeId) (m:Nat×Nat),w.heap[g]?=some (.cells cs t m)→w'.heap[g]?=w.heap[g]?:=fun g cs t m hg=>hC.block g (heap_lt hg) (fun e=>by
  have e:g=S.k:=e;subst e;rw[hk2] at hg;cases hg)
 have hmlk:=h.mlk;have hmb:w'.heap[S.m]?=w.heap[S.m]?:=hC.block _ (heap_lt hp.box) (by show ¬ S.m=S.k;omega);refine⟨⟨h.tape.keep (fun g hg=>?_),Nat.le_trans h.room hC.size,(hcell _ _ _ _ h.box).trans h.box,h.baseC,h.baseM,h.mlk,Nat.lt_of_lt_of_le h.kl hC.size,hk,⟨es,clk,hmb.trans hp.box,hp.row,hp.fit⟩,fun q hq=>?_,h.apart,h.same,h.void,h.ok,h.tsn,h.cnn,h.agn,h.short⟩,⟨SameG.refl S,hcO,fun _ h=>.inl h,⟨⟨hC.os,hC.tape,hC.output,hC.size,fun g hg=>hC.block g (Nat.lt_of_lt_of_le hg h.room) (by show ¬ g=S.k;omega)⟩,fun g cs t m hg _ _ _=>hcell g cs t m hg⟩⟩⟩
 ·obtain⟨cs,t,h1,_⟩:=h.tape.kind hg;exact hcell _ _ _ _ h1
 ·obtain⟨h1,h2,h3,h4⟩:=h.pairs q hq;exact⟨h1,h2,h3.keep (hC.block _ h3.lt (by show ¬ q.2.1=S.k;omega)),h4.keep (hC.block _ h4.lt (by show ¬ q.2.2.1=S.k;omega))⟩
theorem idKeyG_ok {w:World}{B a:Nat}{S:IdG}{prs:List PR}{l:List KT}(h:IdealG w B S a prs) (hK:KeysG w B S.k l) (hok:KdOk (toldT l) a){P P':Nat→Prop}{pw sv:Value}{pass salt:List UInt8}(hp:Bytes w P pw pass) (hs:Bytes w P' sv salt)
  (r n:Nat) (hm:mayB pass.length salt.length r=true) (hn:n≤256) (what:ByteArray){R:Option (List UInt8)×Nat×List KR}(hR:R=deriveM S.b a (toldT l) (⟨pass.toArray⟩,⟨salt.toArray⟩,r) n):
  Calls prog 30 #[.pointer (some ⟨S.c,0,none⟩),.string what,pw,sv,.int .i64 r,.int .i64 n] w fun e w'=>DerV w R.1 e w'∧∃ S' l',IdealG w' B S' R.2.1 prs∧KeysG w' B S.k l'∧toldT l'=R.2.2∧GoesK B w w' S S':=by
 have hbnd:pass.length≤128∧salt.length≤64∧1≤r∧r≤10000:=by
  simp[mayB] at hm;omega
 have hkey:=key_any hp hs hbnd.1 hbnd.2.1 1 0 (by omega) (by omega) (by omega);obtain⟨pa,pc,rfl,hpc1,hpc2⟩:=hp.shape;obtain⟨sa,sc,rfl,hsc1,hsc2⟩:=hs.shape;unfold maxLen at hpc2 hsc2;have hmin:(if (1:Int)<r then 1 else (r:Int))=1:=by split<;>omega
 have hr1:(r:Int)≤10000:=by omega
 obtain⟨PN,hPN⟩:∃ X,X=pass.length:=⟨_,rfl⟩;obtain⟨SN,hSN⟩:∃ X,X=salt.length:=⟨_,rfl⟩;rw[← hPN] at hpc1 hkey ⊢;rw[← hSN] at hsc1 hkey ⊢;have hkfit:ByteArray.size ⟨pass.toArray⟩≤128∧ByteArray.size ⟨salt.toArray⟩≤64∧r≤10000:=⟨by rw[bytes_size];exact hbnd.1,by rw[bytes_size];exact hbnd.2.1,hbnd.2.2.2⟩;obtain⟨KK,hKK⟩:∃ X:KKey,X=(⟨pass.toArray⟩,⟨salt.toArray⟩,r):=⟨_,rfl⟩;have hkf:KK.1.size≤128∧KK.2.1.size≤64∧KK.2.2≤10000:=hKK ▸ hkfit;have hak:Value.agg #[.string ⟨pass.toArray⟩,.string ⟨salt.toArray⟩,.int .i64 r]=askV KK:=by rw[hKK];rfl
 rw[← hKK] at hR
 have hsP:∀ x,Chg No w x→(convert 22 9 (.slice pa PN pc)).run prog x=.ok (.string ⟨pass.toArray⟩) x:=fun x hx=>by
  rw[hPN];exact run_string _ _ _ _ underlying22 underlying5 underlying9 _ _ _ (hp.chg hx (fun g _ _=>id))
 have hsS:∀ x,Chg No w x→(convert 22 9 (.slice sa SN sc)).run prog x=.ok (.string ⟨salt.toArray⟩) x:=fun x hx=>by
  rw[hSN];exact run_string _ _ _ _ underlying22 underlying5 underlying9 _ _ _ (hs.chg hx (fun g _ _=>id))
 replace hkey:=LH hkey;replace h:=LH h;replace hK:=LH hK;replace hok:=LH hok;replace hp:=LH hp;replace hs:=LH hs;replace hR:=LH hR;replace hsP:=LH hsP;replace hsS:=LH hsS;replace hKK:=LH hKK;replace hkf:=LH hkf;replace hak:=LH hak;replace hPN:=LH hPN;replace hSN:=LH hSN;clear hm hbnd hkfit;go_enter func30,ntmps30
 go_wp2_with fail
 refine hkey.out.mono ?_;rintro e w1 ⟨v,rfl,hv1,hb1⟩;obtain⟨vx,vy,hvv,_,_⟩:=(Cells.own hv1).shape;subst hvv;clear hv1;have hC1:Chg No w w1:=Chg.of_below hb1 _;have d1:=hsP.out w1 hC1;have d2:=hsS.out w1 hC1;replace hC1:=LH hC1;clear hb1 hkey;go_wp2;obtain⟨ab,hab⟩:∃ x,x=w1.heap.size:=⟨_,rfl⟩;obtain⟨wA,hwA⟩:∃ x,x=w1.alloc (.cells #[.string ⟨pass.toArray⟩,.string ⟨salt.toArray⟩,.int .i64 r] 115):=⟨_,rfl⟩;rw[← hwA,← hab];have hCA:Chg No w wA:=by rw[hwA];exact hC1.out.alloc _
 have hAb:wA.heap[ab]?=some (.cells #[.string ⟨pass.toArray⟩,.string ⟨salt.toArray⟩,.int .i64 r] 115 (0,0)):=by rw[hwA,hab];exact heap_alloc_new w1 _
 have hIA:=h.out.chg hCA;have hKA:=hK.out.chg hCA id (fun _ _ _ _=>id);obtain⟨hv,hvo,hlk⟩:=hKA.lookV hok.out hkf.out;obtain⟨HD,hHD⟩:∃ X,X=toldM (toldT l) KK:=⟨_,rfl⟩;rw[← hHD] at hvo;have hHD256:HD.length≤256:=by rw[hHD];exact toldM_le hok.out
 obtain⟨HL,hHLe⟩:∃ X,X=HD.length:=⟨_,rfl⟩;rw[← hHLe] at hvo hHD256;obtain⟨hx,hy,rfl,hh1,hh2⟩:=(Cells.own hvo).shape;unfold maxLen at hh2
 have hck:∀ x,Chg No wA x→x.cell? ⟨S.c,2,none⟩=some (.map (some S.k)):=fun x hx=>by
  have h1:=(hx.block _ (heap_lt hIA.box) id).trans hIA.box;rw[cell_of h1];rfl
 have hclA:S.c<wA.heap.size:=heap_lt hIA.box;have hal:∀ x,Chg No wA x→(Instr.loadAt 115 (.pointer (some ⟨ab,0,none⟩))).run prog x=.ok (.agg #[.string ⟨pass.toArray⟩,.string ⟨salt.toArray⟩,.int .i64 r]) x:=fun x hx=>asked_load ((hx.block _ (heap_lt hAb) id).trans hAb)
 have hlk':∀ x,Chg No wA x→(Instr.lookup 117 (.map (some S.k)) (.agg #[.string ⟨pass.toArray⟩,.string ⟨salt.toArray⟩,.int .i64 r]) false).run prog x=.ok (.slice hx HL hy) x:=fun x hx2=>by
  rw[hak.out];exact hlk x (hKA.chg hx2 id (fun _ _ _ _=>id))
 have hdr:∀ w3,Chg No wA.drew w3→Chg No wA w3:=fun w3 h=>⟨h.os,h.tape,h.output,h.size,h.block⟩
 replace hck:=LH hck;replace hal:=LH hal;replace hlk':=LH hlk';replace hdr:=LH hdr;replace hCA:=LH hCA;replace hAb:=LH hAb;replace hIA:=LH hIA;replace hKA:=LH hKA;replace hvo:=LH hvo;replace hHD:=LH hHD;replace hHLe:=LH hHLe;replace hab:=LH hab;clear hwA hlk d1 d2 hC1;refine RA.rt (Chg No) [1,1,1,1,1,1,1] [] (fun _=>True) trivial (fun _=>Chg.refl _ _) (fun _ _ _ h k=>h.trans k) (h:=?_);intro cx
 repeat refine RA.qq (h:=?_)
 refine RA.fk prog (S.c) (2) (h:=?_);refine RA.lk prog (.map (some S.k)) (hc:=fun w3 hp=>by exact hck.out _ (hdr.out _ hp.1)) (h:=?_);refine RA.ld (by kernel_rfl) (by rfl) (by rfl) (y':=.agg #[.string ⟨pass.toArray⟩,.string ⟨salt.toArray⟩,.int .i64 r]) (fun w3 hp=>hal.out _ (hdr.out _ hp.1)) ?_;refine RA.pv (by kernel_rfl) (by rfl) rfl (fun w3 hp=>ex_look1 rfl (RA.evo_ev (by rfl)) (RA.evo_ev (by rfl)) (hlk'.out _ (hdr.out _ hp.1))) ?_
 repeat refine RA.qq (h:=?_)
 refine RA.RA.done rfl (fun wB hR hF hH=>?_);clear hF hH;simp only[RA.put,List.foldr_cons,List.foldr_nil,cx,Act.put,List.setIfInBounds_toArray,List.set_cons_succ,List.set_cons_zero];have hRB:=hdr.out _ hR;have hCB:=LH (hCA.out.trans hRB);have hIB:=LH (hIA.out.chg hRB);have hKB:=LH (hKA.out.chg hRB id (fun _ _ _ _=>id));have hAB:=LH ((hRB.block _ (heap_lt hAb.out) id).trans hAb.out);have hvB:=LH (owns_keep hvo.out (fun g hg=>hRB.block g (hvo.out.lt g hg).2 id));clear hR hck hal hlk' hdr hIA hKA hAb hvo hRB hCA;by_cases hlt:n≤HL
 ·have hltI:(n:Int)≤(HL:Int):=by omega
  obtain⟨v2,hv2o,hlk2⟩:=hKB.out.lookV hok.out hkf.out;obtain⟨H2,hH2⟩:∃ X,X=toldM (toldT l) KK:=⟨_,rfl⟩;rw[← hH2] at hv2o;have hn2:n≤H2.length:=by rw[hH2,← hHD.out];have:=hHLe.out;omega
  have hH2l:H2.length≤256:=by rw[hH2];exact toldM_le hok.out
  obtain⟨v2a,v2c,rfl,hv2l,hv2m⟩:=(Cells.own hv2o).shape;unfold maxLen at hv2m
  have hck2:∀ x,Chg No wB x→x.cell? ⟨S.c,2,none⟩=some (.map (some S.k)):=fun x hx=>by
   have h1:=hIB.out.box;rw[(SameG.refl S).c,(SameG.refl S).tp,(SameG.refl S).m,(SameG.refl S).k] at h1;have h1:=(hx.block _ (heap_lt h1) id).trans h1;rw[cell_of h1];rfl
  have hcl2:S.c<(wB).heap.size:=by have h1:=heap_lt hIB.out.box;rw[(SameG.refl S).c] at h1;exact h1
  have hal2:∀ x,Chg No wB x→(Instr.loadAt 115 (.pointer (some ⟨ab,0,none⟩))).run prog x=.ok (.agg #[.string ⟨pass.toArray⟩,.string ⟨salt.toArray⟩,.int .i64 r]) x:=fun x hx=>asked_load ((hx.block _ (heap_lt hAB.out) id).trans hAB.out)
  have hlk3:∀ x,Chg No wB x→(Instr.lookup 117 (.map (some S.k)) (.agg #[.string ⟨pass.toArray⟩,.string ⟨salt.toArray⟩,.int .i64 r]) false).run prog x=.ok (.slice v2a H2.length v2c) x:=fun x hx=>by
   rw[hak.out];exact hlk2 x (hKB.out.chg hx id (fun _ _ _ _=>id))
  have hcut2:∀ x,(Instr.sliceAt 22 (.slice v2a H2.length v2c) none (some (.int .i64 n)) none).run prog x=.ok (sliced v2a 0 n v2c 1) x:=fun x=>cut_hi (P:=prog) (s:=1) x underlying22 (by kernel_rfl) _ _ _ n (by omega)
  have hcln:∀ x,Chg No wB x→Calls prog 19 #[sliced v2a 0 n v2c 1] x (Cloned x (sliced v2a 0 n v2c 1) n 5 1 (u8s (H2.take n))):=fun x hx=>by
   have hb2:Bytes x (fun _=>True) (.slice v2a H2.length v2c) H2:=(Cells.chg (Cells.own hv2o) hx (fun _ _ _=>id)).mono (fun _ _ _=>trivial);have hb3:=bytes_cut hb2 0 n (by omega) hn2;rw[List.drop_zero,Nat.sub_zero] at hb3;have h3:=clone_ok hb3 (by rw[List.length_take];omega);rw[show (H2.take n).length=n by rw[List.length_take];omega] at h3;exact h3
  have hdr2:∀ w3,Chg No (wB).drew w3→Chg No wB w3:=fun w3 h=>⟨h.os,h.tape,h.output,h.size,h.block⟩
  obtain⟨V2,hV2⟩:∃ X,X=Value.slice v2a H2.length v2c:=⟨_,rfl⟩;obtain⟨CU,hCU⟩:∃ X,X=sliced v2a 0 n v2c 1:=⟨_,rfl⟩;rw[← hV2] at hlk3 hcut2;rw[← hCU] at hcut2 hcln;replace hck2:=LH hck2;replace hal2:=LH hal2;replace hlk3:=LH hlk3;replace hcut2:=LH hcut2;replace hcln:=LH hcln;replace hdr2:=LH hdr2;replace hV2:=LH hV2;replace hCU:=LH hCU;replace hv2o:=LH hv2o;replace hH2:=LH hH2;replace hn2:=LH hn2;clear hv2l hv2m hlk2;go_wp2;refine RA.rt (Chg No) [1,1,1,1,1,1,1,1,3,1,1] [] (fun _=>True) trivial (fun _=>Chg.refl _ _) (fun _ _ _ h k=>h.trans k) (h:=?_);intro cx
  repeat refine RA.qq (h:=?_)
  refine RA.fk prog (S.c) (2) (h:=?_);refine RA.lk prog (.map (some S.k)) (hc:=fun w3 hp=>by exact hck2.out _ (hdr2.out _ hp.1)) (h:=?_);refine RA.ld (by kernel_rfl) (by rfl) (by rfl) (y':=.agg #[.string ⟨pass.toArray⟩,.string ⟨salt.toArray⟩,.int .i64 r]) (fun w3 hp=>hal2.out _ (hdr2.out _ hp.1)) ?_;refine RA.pv (by kernel_rfl) (by rfl) rfl (fun w3 hp=>ex_look1 rfl (RA.evo_ev (by rfl)) (RA.evo_ev (by rfl)) (hlk3.out _ (hdr2.out _ hp.1))) ?_
  repeat refine RA.qq (h:=?_)
  refine RA.shi (by kernel_rfl) (by rfl) (by rfl) (by rfl) (y':=CU) (fun w3 hp=>hcut2.out w3) ?_
  refine RA.qc (P:=prog) [CU] (fun _ _=>True) (fun v w3=>w3.ownsRow (wB).heap.size 5 1 v n (u8s (H2.take n))∧(∃ x y,v=.slice x n y)∧Chg No wB w3) (fun _ _=>by go_simp) (by kernel_rfl) (by rfl) (by rfl) (by kernel_rfl) (fun _ _ _ _ _=>trivial) (fun _ _ _ h k=>h ▸ k) rfl (fun w3 hp hH=>(hcln.out w3 (hdr2.out _ hp.1)).mono (by
   rintro e w4 ⟨v',rfl,h1,h2,_⟩;obtain⟨x,y,hv,_,_⟩:=(Cells.own h1).shape;exact⟨v',rfl,Chg.of_below h2 _,trivial,owns_base h1 (hdr2.out _ hp.1).size,⟨x,y,hv⟩,(hdr2.out _ hp.1).trans (Chg.of_below h2 _)⟩)) (fun u8=>?_)
  repeat refine RA.qq (h:=?_)
  refine RA.RA.done rfl (fun wZ hR hF hH=>?_);clear hF;simp only[RA.put,List.foldr_cons,List.foldr_nil,cx,Act.put,List.setIfInBounds_toArray,List.set_cons_succ,List.set_cons_zero];obtain⟨hO9,⟨x9,y9,rfl⟩,hC9⟩:=hH;replace hO9:=LH hO9;replace hC9:=LH hC9;clear hR;go_wp2;go_ret2;rw[hR.out,deriveM,if_pos (by rw[← hHD.out];have:=hHLe.out;omega)];refine⟨⟨_,rfl,?_⟩,S,l,hIB.out.chg hC9.out,hKB.out.chg hC9.out id (fun _ _ _ _=>id),rfl,(Goes.no h.out.room (hCB.out.trans hC9.out)).k⟩;have h1:=owns_base hO9.out hCB.out.size;rw[hH2.out] at h1;rw[List.length_take,Nat.min_eq_left (by rw[← hHD.out];have:=hHLe.out;omega)];exact h1
 ·have hltI:(HL:Int)<(n:Int):=by omega
  obtain⟨m,hmn⟩:∃ m,m=n - HL:=⟨_,rfl⟩;have hmI:(n:Int) - (HL:Int)=(m:Int):=by omega
  replace hmn:=LH hmn
  have cT:wB.cell? ⟨S.c,0,none⟩=some (.pointer (some ⟨S.tp,0,none⟩)):=by
   rw[cell_of hIB.out.box];rfl
  have hclB:S.c<wB.heap.size:=heap_lt hIB.out.box;by_cases hsh:S.b.length<a+m
  ·have htk:=LH (take_short hIB.out.tape.at (.string what) m hsh)
   go_wp2_with fail
   refine htk.out.mono ?_;rintro e w2 ⟨rfl,hC2⟩;replace hC2:=LH hC2;clear htk cT;go_wp2;go_ret2;rw[hR.out,deriveM,if_neg (by rw[← hHD.out];have:=hHLe.out;omega),if_pos (by rw[← hHD.out];have:=hHLe.out;have:=hmn.out;omega)];exact⟨rfl,S,l,hIB.out.chg hC2.out,hKB.out.chg hC2.out id (fun _ _ _ _=>id),rfl,(Goes.no h.out.room (hCB.out.trans hC2.out)).k⟩
  ·have htk:=LH (take_ok hIB.out.tape hIB.out.room what m (by omega) (by have h1:=hIB.out.tsn;have h2:=hIB.out.tape.within;have h3:=hIB.out.short;omega))
   go_wp2_with fail
   refine htk.out.mono ?_;rintro e wT ⟨dv,tv',rfl,hdo,hT,hCT,hownT⟩;obtain⟨DD,hDD⟩:∃ X,X=(S.b.drop a).take m:=⟨_,rfl⟩;rw[← hDD] at hdo;have hDDl:DD.length=m:=by rw[hDD,List.length_take,List.length_drop];omega
   obtain⟨hIT,hGT⟩:=hIB.out.took hT hCT (by rw[List.length_append,List.length_singleton];have:=hIB.out.tsn;omega) (by omega) hownT;have htype:∀ (g:Nat) (cs:Array Value) (t:TypeId) (mm:Nat×Nat),wB.heap[g]?=some (.cells cs t mm)→t≠56→t≠159→t≠119→wT.heap[g]?=wB.heap[g]?:=hGT.kept.keep
   have hKT:=hKB.out.keep (w':=wT) (fun es c h1=>hCT.block _ (heap_lt h1) (by
    rintro (e|e)
    ·exact hIB.out.tape.apartM h1 (.inl e)
    ·exact hIB.out.tape.apartM h1 (.inr e))) (fun g cs mm h1=>htype g cs _ mm h1 (by decide) (by decide) (by decide))
   have hAT:=(htype _ _ _ _ hAB.out (by decide) (by decide) (by decide)).trans hAB.out
   have hvT:=owns_keep hvB.out (fun g hg=>by
    obtain⟨cur,h1⟩:=own_cells hvB.out hg;exact htype g cur _ _ h1 (by decide) (by decide) (by decide))
   obtain⟨dx,dy,rfl,hd1,hd2⟩:=(Cells.own hdo).shape;unfold maxLen at hd2;have hNB:B≤wT.heap.size:=hIT.room;have hcB:=hIT.baseC;have hwBT:wB.heap.size≤wT.heap.size:=hCT.size
   have hdT:Bytes wT (fun _=>True) (.slice dx m dy) DD:=by
    have h1:Cells wT (fun _=>True) (.slice dx m dy) m 1 (u8s DD):=(Cells.own hdo).mono (fun _ _ _=>trivial);show Cells wT _ _ DD.length 1 _;rw[hDDl];exact h1
   have hvTb:Bytes wT (fun _=>True) (.slice hx HL hy) HD:=by
    have h1:Cells wT (fun _=>True) (.slice hx HL hy) HL 1 (u8s HD):=(Cells.own hvT).mono (fun _ _ _=>trivial);show Cells wT _ _ HD.length 1 _;rw[← hHLe.out];exact h1
   have hkne:S.c≠S.k:=fun e=>by
    obtain⟨es,clk,h1⟩:=hIT.keys;have h2:=hIT.box;rw[show ({ S with tv:=tv',ts:=S.ts++[(what,a,m)] }:IdG).c=S.k from e] at h2;rw[h1] at h2;cases h2
   have habk:ab≠S.k:=fun e=>by
    obtain⟨es,clk,h1⟩:=hIT.keys;rw[e] at hAT;have h1:wT.heap[S.k]?=some (.map es clk):=h1;rw[h1] at hAT;cases hAT
   have hclT:S.c<wT.heap.size:=heap_lt hIT.box
   have hck:∀ x,Chg (fun g=>wT.heap.size≤g∨g=S.k) wT x→x.cell? ⟨S.c,2,none⟩=some (.map (some S.k)):=fun x hx=>by
    have h1:=(hx.block _ hclT (by rintro (e|e);omega;exact hkne e)).trans hIT.box;rw[cell_of h1];rfl
   have hal:∀ x,Chg (fun g=>wT.heap.size≤g∨g=S.k) wT x→(Instr.loadAt 115 (.pointer (some ⟨ab,0,none⟩))).run prog x=.ok (.agg #[.string ⟨pass.toArray⟩,.string ⟨salt.toArray⟩,.int .i64 r]) x:=fun x hx=>asked_load ((hx.block _ (heap_lt hAT) (by
    have h1:=heap_lt hAT;rintro (e|e)
    ·omega
    ·exact habk e)).trans hAT)
   have hdr:∀ w3,Chg (fun g=>wT.heap.size≤g∨g=S.k) wT.drew w3→Chg (fun g=>wT.heap.size≤g∨g=S.k) wT w3:=fun w3 h=>⟨h.os,h.tape,h.output,h.size,h.block⟩
   have hcln:∀ x,Chg No wT x→Calls prog 19 #[.slice hx HL hy] x (Cloned x (.slice hx HL hy) HL 5 1 (u8s HD)):=fun x hx2=>by
    have h3:=clone_ok (Bytes.chg hvTb hx2 (fun _ _ _=>id)) (by have:=hHLe.out;omega);rw[← hHLe.out] at h3;exact h3
   replace hck:=LH hck;replace hal:=LH hal;replace hdr:=LH hdr;replace hcln:=LH hcln;have hG0:=LH ((Goes.no (S:=S) h.out.room hCB.out).trans hGT);replace hIT:=LH hIT;replace hKT:=LH hKT;replace hAT:=LH hAT;replace hvT:=LH hvT;replace hdT:=LH hdT;replace hvTb:=LH hvTb;replace hDD:=LH hDD;replace hDDl:=LH hDDl;clear htk cT htype hdo hT hCT hownT hGT hIB hKB hAB hvB hCB;go_wp2;refine RA.region (fun a b=>Chg (fun g=>wT.heap.size≤g∨g=S.k) a b) (·=·) [1,1,1,1,1,1,3,1,3,4] (fun _ _ _=>True) (fun w3=>Chg No wT w3) (by kernel_rfl) (Chg.refl _ _) (fun _ _ h=>h ▸ Chg.refl _ _) (fun _ _ _ h k=>h.trans k) (fun _ _ h k=>h ▸ k) ((Chg.refl _ _).drew) (by kernel_rfl) ?_;intro cx
   repeat refine RA.qq (h:=?_)
   refine RA.fk prog (S.c) (2) (h:=?_);refine RA.lk prog (.map (some S.k)) (hc:=fun w3 hp=>by exact hck.out _ (hdr.out _ hp.1)) (h:=?_);refine RA.ld (by kernel_rfl) (by rfl) (by rfl) (y':=.agg #[.string ⟨pass.toArray⟩,.string ⟨salt.toArray⟩,.int .i64 r]) (fun w3 hp=>hal.out _ (hdr.out _ hp.1)) ?_
   repeat refine RA.qq (h:=?_)
   refine RA.qc (P:=prog) [.slice hx HL hy] (fun _ _=>True) (fun v w3=>w3.ownsRow wT.heap.size 5 1 v HL (u8s HD)∧Chg No wT w3) (fun _ _=>by go_simp) (by kernel_rfl) (by rfl) (by rfl) (by kernel_rfl) (fun _ _ _ _ _=>trivial) (fun _ _ _ h k=>h ▸ k) rfl (fun w3 hp hH=>(hcln.out w3 hH).mono (by
    rintro e w4 ⟨v',rfl,h1,h2,_⟩;exact⟨v',rfl,(Chg.of_below h2 _),trivial,owns_base h1 hH.size,hH.trans (Chg.of_below h2 _)⟩)) (fun u6=>?_)
   repeat refine RA.qq (h:=?_)
   refine RA.bq (fun _ _=>True) (fun v w4=>w4.ownsRow wT.heap.size 5 1 v (HD++DD).length (u8s (HD++DD))∧Chg No wT w4) (by kernel_rfl) (by rfl) (by kernel_rfl) (fun _ _ _ _ _=>trivial) (fun _ _ _ h k=>h ▸ k) (fun w3 hp hH=>by
    obtain⟨h1,h2⟩:=hH;rw[hHLe.out] at h1;obtain⟨v',w4,r1,r2,r3⟩:=push_more h1 h2.size (Bytes.chg hdT.out h2 (fun _ _ _=>id)) (by have:=hHLe.out;have:=hDDl.out;omega);refine⟨v',w4,RA.ex_append (by rfl) (by rfl) r1,r3.mono (fun g _ e=>.inl (h1.lt g e).1),trivial,r2,h2.then r3 (fun i hi e=>?_)⟩;have:=(h1.lt i e).1;omega) (fun u8=>?_)
   refine RA.st (fun w5=>KeysG w5 B S.k (putT l KK (HD++DD) u8)∧Chg (fun g=>g=S.k) wT w5) (by kernel_rfl) (by rfl) (by kernel_rfl) (fun _ _ h k=>h ▸ k) (fun w4 hp hH=>by
    obtain⟨h1,h2⟩:=hH;obtain⟨o,h3,h4⟩:=(hKT.out.chg h2 id (fun _ _ _ _=>id)).put hok.out hkf.out (owns_base h1 hNB);refine⟨_,ex_put rfl (RA.evo_ev (by rfl)) (RA.evo_ev (by rfl)) (RA.evo_ev (by rfl)) (by rw[hak.out];exact h3),putObj_chg (C:=fun g=>wT.heap.size≤g∨g=S.k) (g:=S.k) (Chg.refl _ _) (fun _=>.inr rfl) _,h4,putObj_chg (C:=fun g=>g=S.k) (g:=S.k) (h2.mono (fun _ _ e=>e.elim)) (fun _=>rfl) _⟩) ?_
   refine RA.RA.done rfl (fun w5 hR hF hH=>?_);clear hF;simp only[RA.put,List.foldr_cons,List.foldr_nil,cx,Act.put,List.setIfInBounds_toArray,List.set_cons_succ,List.set_cons_zero];obtain⟨hK5,hC5⟩:=hH;obtain⟨hI5,hG5'⟩:=hIT.out.keyed hC5 (by obtain⟨es,clk,h1,_⟩:=hK5.box;exact⟨es,clk,h1⟩);have hG5:=hG0.out.k.trans hG5';have hAB5:=(hC5.block _ (heap_lt hAT.out) habk).trans hAT.out;have hALl:(HD++DD).length=n:=by rw[List.length_append,hDDl.out,← hHLe.out];have:=hmn.out;omega
   have hok5:KdOk (toldT (putT l KK (HD++DD) u8)) (a+m):=by
    rw[putT_told];exact hok.out.put hkf.out (by omega) (by omega) (by have:=hmn.out;omega)
   have hT5:toldM (toldT (putT l KK (HD++DD) u8)) KK=HD++DD:=by
    rw[putT_told];exact toldM_put
   replace hK5:=LH hK5;replace hI5:=LH hI5;replace hG5:=LH hG5;replace hAB5:=LH hAB5;replace hALl:=LH hALl;replace hok5:=LH hok5;replace hT5:=LH hT5;clear hR hcln hck hal hdr hC5 hG5' hKT hIT hAT hvT hdT hvTb hG0;obtain⟨v2,hv2o,hlk2⟩:=hK5.out.lookV hok5.out hkf.out;obtain⟨H2,hH2⟩:∃ X,X=toldM (toldT (putT l KK (HD++DD) u8)) KK:=⟨_,rfl⟩;rw[← hH2] at hv2o;have hn2:n≤H2.length:=by rw[hH2,hT5.out];have h1:=hALl.out;omega
   have hH2l:H2.length≤256:=by rw[hH2];exact toldM_le hok5.out
   obtain⟨v2a,v2c,rfl,hv2l,hv2m⟩:=(Cells.own hv2o).shape;unfold maxLen at hv2m
   have hck2:∀ x,Chg No w5 x→x.cell? ⟨S.c,2,none⟩=some (.map (some S.k)):=fun x hx=>by
    have h1:=hI5.out.box;rw[hG5.out.same.c,hG5.out.same.tp,hG5.out.same.m,hG5.out.same.k] at h1;have h1:=(hx.block _ (heap_lt h1) id).trans h1;rw[cell_of h1];rfl
   have hcl2:S.c<(w5).heap.size:=by have h1:=heap_lt hI5.out.box;rw[hG5.out.same.c] at h1;exact h1
   have hal2:∀ x,Chg No w5 x→(Instr.loadAt 115 (.pointer (some ⟨ab,0,none⟩))).run prog x=.ok (.agg #[.string ⟨pass.toArray⟩,.string ⟨salt.toArray⟩,.int .i64 r]) x:=fun x hx=>asked_load ((hx.block _ (heap_lt hAB5.out) id).trans hAB5.out)
   have hlk3:∀ x,Chg No w5 x→(Instr.lookup 117 (.map (some S.k)) (.agg #[.string ⟨pass.toArray⟩,.string ⟨salt.toArray⟩,.int .i64 r]) false).run prog x=.ok (.slice v2a H2.length v2c) x:=fun x hx=>by
    rw[hak.out];exact hlk2 x (hK5.out.chg hx id (fun _ _ _ _=>id))
   have hcut2:∀ x,(Instr.sliceAt 22 (.slice v2a H2.length v2c) none (some (.int .i64 n)) none).run prog x=.ok (sliced v2a 0 n v2c 1) x:=fun x=>cut_hi (P:=prog) (s:=1) x underlying22 (by kernel_rfl) _ _ _ n (by omega)
   have hcln:∀ x,Chg No w5 x→Calls prog 19 #[sliced v2a 0 n v2c 1] x (Cloned x (sliced v2a 0 n v2c 1) n 5 1 (u8s (H2.take n))):=fun x hx=>by
    have hb2:Bytes x (fun _=>True) (.slice v2a H2.length v2c) H2:=(Cells.chg (Cells.own hv2o) hx (fun _ _ _=>id)).mono (fun _ _ _=>trivial);have hb3:=bytes_cut hb2 0 n (by omega) hn2;rw[List.drop_zero,Nat.sub_zero] at hb3;have h3:=clone_ok hb3 (by rw[List.length_take];omega);rw[show (H2.take n).length=n by rw[List.length_take];omega] at h3;exact h3
   have hdr2:∀ w3,Chg No (w5).drew w3→Chg No w5 w3:=fun w3 h=>⟨h.os,h.tape,h.output,h.size,h.block⟩
   obtain⟨V2,hV2⟩:∃ X,X=Value.slice v2a H2.length v2c:=⟨_,rfl⟩;obtain⟨CU,hCU⟩:∃ X,X=sliced v2a 0 n v2c 1:=⟨_,rfl⟩;rw[← hV2] at hlk3 hcut2;rw[← hCU] at hcut2 hcln;replace hck2:=LH hck2;replace hal2:=LH hal2;replace hlk3:=LH hlk3;replace hcut2:=LH hcut2;replace hcln:=LH hcln;replace hdr2:=LH hdr2;replace hV2:=LH hV2;replace hCU:=LH hCU;replace hv2o:=LH hv2o;replace hH2:=LH hH2;replace hn2:=LH hn2;clear hv2l hv2m hlk2;go_wp2;refine RA.rt (Chg No) [1,1,1,1,1,1,1,1,3,1,1] [] (fun _=>True) trivial (fun _=>Chg.refl _ _) (fun _ _ _ h k=>h.trans k) (h:=?_);intro cx
   repeat refine RA.qq (h:=?_)
   refine RA.fk prog (S.c) (2) (h:=?_);refine RA.lk prog (.map (some S.k)) (hc:=fun w3 hp=>by exact hck2.out _ (hdr2.out _ hp.1)) (h:=?_);refine RA.ld (by kernel_rfl) (by rfl) (by rfl) (y':=.agg #[.string ⟨pass.toArray⟩,.string ⟨salt.toArray⟩,.int .i64 r]) (fun w3 hp=>hal2.out _ (hdr2.out _ hp.1)) ?_;refine RA.pv (by kernel_rfl) (by rfl) rfl (fun w3 hp=>ex_look1 rfl (RA.evo_ev (by rfl)) (RA.evo_ev (by rfl)) (hlk3.out _ (hdr2.out _ hp.1))) ?_
   repeat refine RA.qq (h:=?_)
   refine RA.shi (by kernel_rfl) (by rfl) (by rfl) (by rfl) (y':=CU) (fun w3 hp=>hcut2.out w3) ?_
   refine RA.qc (P:=prog) [CU] (fun _ _=>True) (fun v w3=>w3.ownsRow (w5).heap.size 5 1 v n (u8s (H2.take n))∧(∃ x y,v=.slice x n y)∧Chg No w5 w3) (fun _ _=>by go_simp) (by kernel_rfl) (by rfl) (by rfl) (by kernel_rfl) (fun _ _ _ _ _=>trivial) (fun _ _ _ h k=>h ▸ k) rfl (fun w3 hp hH=>(hcln.out w3 (hdr2.out _ hp.1)).mono (by
    rintro e w4 ⟨v',rfl,h1,h2,_⟩;obtain⟨x,y,hv,_,_⟩:=(Cells.own h1).shape;exact⟨v',rfl,Chg.of_below h2 _,trivial,owns_base h1 (hdr2.out _ hp.1).size,⟨x,y,hv⟩,(hdr2.out _ hp.1).trans (Chg.of_below h2 _)⟩)) (fun u8=>?_)
   repeat refine RA.qq (h:=?_)
   refine RA.RA.done rfl (fun wZ hR hF hH=>?_);clear hF;simp only[RA.put,List.foldr_cons,List.foldr_nil,cx,Act.put,List.setIfInBounds_toArray,List.set_cons_succ,List.set_cons_zero];obtain⟨hO9,⟨x9,y9,rfl⟩,hC9⟩:=hH;replace hO9:=LH hO9;replace hC9:=LH hC9;clear hR;go_wp2;go_ret2;have hRR:=hR.out;rw[deriveM,if_neg (by rw[← hHD.out];have:=hHLe.out;omega),if_neg (by rw[← hHD.out];have:=hHLe.out;have:=hmn.out;omega),← hHD.out,← hHLe.out,← hmn.out,← hDD.out] at hRR;rw[hRR];refine⟨⟨_,rfl,?_⟩,_,putT l KK (HD++DD) u8,hI5.out.chg hC9.out,hK5.out.chg hC9.out id (fun _ _ _ _=>id),putT_told,hG5.out.trans (Goes.no hI5.out.room hC9.out).k⟩;have h1:=owns_base hO9.out hG5.out.chg.size;have h2:H2.take n=HD++DD:=by rw[hH2.out,hT5.out,List.take_of_length_le (by have h1:=hALl.out;omega)]
   rw[h2] at h1;rw[hALl.out];exact h1
end Go.Proofs.YtbgfdbidbjlaaaaGreat.Fd

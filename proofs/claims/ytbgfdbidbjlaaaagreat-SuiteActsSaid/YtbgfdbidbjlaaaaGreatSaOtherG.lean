/-
  ideal.other, at a place that knows any pairs. No condition beyond what each theorem names.
-/
import Derived.Test.YtbgfdbidbjlaaaaGreatSaTakePk
import Derived.Deep.LoopGhost
namespace Go.Proofs.YtbgfdbidbjlaaaaGreat.Fd
open _root_.Go.Proofs.Tryz
open Go Go.RowKit K
set_option maxRecDepth 100000
set_option maxHeartbeats 8000000
theorem other_had {w:World}{f:Nat}{l:List (List UInt8×List UInt8)}{x y:List UInt8}(hf:MapG w f l) (hx:x.length=16) (hm:(x,y) ∈ l) (hone:∀ p ∈ l,p.1=x→p.2=y) (c what to:Value):
  Calls prog 41 #[c,what,blkV x,.map (some f),to] w fun e w'=>e=.returned (.tuple #[blkV y,.int .i64 0])∧Chg No w w':=by
 have hy:y.length=16:=(hf.fit _ hm).2;have hfl:=hf.lt;obtain⟨n,hn⟩:∃ n,n=w.heap.size:=⟨_,rfl⟩;have HX:=box2 w 73 x (List.replicate 16 0);obtain⟨V,hV⟩:∃ V,V=(u8s x).toArray:=⟨_,rfl⟩;have hz:(u8s (List.replicate 16 0)).toArray=#[.int .u8 0,.int .u8 0,.int .u8 0,.int .u8 0,.int .u8 0,.int .u8 0,.int .u8 0,.int .u8 0,.int .u8 0,.int .u8 0,.int .u8 0,.int .u8 0,.int .u8 0,.int .u8 0,.int .u8 0,.int .u8 0]:=rfl;obtain⟨wB,hwB⟩:∃ a,a=(w.alloc (.cells (u8s x).toArray 73)).alloc (.cells (u8s (List.replicate 16 0)).toArray 73):=⟨_,rfl⟩;rw[← hwB,← hn] at HX;obtain⟨X1,X2,X3,X4⟩:=HX;have hfB:=hf.keep (X3.block f (by rw[hn];exact hfl));have hlk:(Instr.lookup 96 (.map (some f)) (.agg (u8s x).toArray) true).run prog wB=.ok (.tuple #[blkV y,.bool true]) wB:=hfB.look_yes hx hm hone;have l1:=run_loadAt_arr (P:=prog) X1 underlying73 (size61 hx);obtain⟨wC,hwC⟩:∃ a,a=wB.alloc (.cells (u8s (List.replicate 16 0)).toArray 73):=⟨_,rfl⟩;have X5:Arr wC (n+2) 73 (List.replicate 16 0):=by rw[hwC,← X4];exact heap_alloc_new wB _
 have X6:Below (n+2) wB wC:=by rw[hwC,← X4];exact (Below.refl _ _).alloc (Nat.le_refl _) _
 have s1:=block_store X5 List.length_replicate y hy;obtain⟨wD,hwD⟩:∃ a,a=wC.setRow (n+2) (u8s y).toArray:=⟨_,rfl⟩;rw[← hwD] at s1;have X7:Arr wD (n+2) 73 y:=hwD ▸ X5.setRow _;have l2:=run_loadAt_arr (P:=prog) X7 underlying73 (size61 hy);have X8:Below (n+2) wB wD:=hwD ▸ below_setRow X6 (Nat.le_refl _) _;have X9:Arr wD (n+1) 73 (List.replicate 16 0):=X2.keep (X8.block (n+1) (by omega));have s2:=block_store X9 List.length_replicate y hy;obtain⟨wE,hwE⟩:∃ a,a=wD.setRow (n+1) (u8s y).toArray:=⟨_,rfl⟩;rw[← hwE] at s2;have XE:Arr wE (n+1) 73 y:=hwE ▸ X9.setRow _
 have hE:Chg No w wE:=by
  have h1:=below_setRow (X3.trans (X8.mono (by omega))) (g:=n+1) (by omega) (u8s y).toArray;rw[← hwE,hn] at h1;exact Chg.of_below h1 _
 subst hwC;have hX4:=X4;subst hwB;replace hwD:=LH hwD;replace hwE:=LH hwE;replace XE:=LH XE;replace hE:=LH hE;replace hlk:=LH hlk;replace l1:=LH l1;replace l2:=LH l2;replace s1:=LH s1;replace s2:=LH s2;clear X9 X8 X7 X6 X5 hfB X3 X2 X1 hf hz hm hone;show Calls prog 41 #[c,what,.agg (u8s x).toArray,.map (some f),to] w _;rw[← hV];rw[← hV] at hlk l1 X4 s1;replace hV:=LH hV;subst hn;go_enter func41,ntmps41
 go_wp2_with (first|(refine wpList_load rfl 73 _ rfl _ _ rfl l1.out ?_)|(refine wpList_look rfl 96 _ _ rfl _ _ _ rfl rfl hlk.out ?_)|(refine wpList_store rfl 73 _ _ rfl _ _ rfl rfl s1.out ?_)|(refine wpList_load rfl 73 _ rfl _ _ rfl l2.out ?_)|(refine wpList_store rfl 73 _ _ rfl _ _ rfl rfl s2.out ?_))
 refine bodyPost_ret (results_cell_slot results41 _ _ (w.heap.size+1) 73 _ (0,0) _ rfl XE.out underlying73 rfl (by rw[size61 hy];simp[u8s_length])) rfl ⟨rfl,hE.out⟩
structure Drawn (w w':World) (e:Ending) (B tp:Nat) (bv tv:Value) (b:List UInt8) (c m k cn f g:Nat) (lf lg:List (List UInt8×List UInt8)) (x:List UInt8) (R:Option (List UInt8)×Nat) (tv':Value) (ts':List (ByteArray×Nat×Nat)) (ag':Nat):Prop where
 tape:TapeO w' B tp bv tv' b R.2 ts'
 hit:∀ y,R.1=some y→e=.returned (.tuple #[blkV y,.int .i64 0])∧w'.heap[c]?=some (idBox (some ⟨tp,0,none⟩) m k (cn+1:Nat) ag')∧MapG w' f (lf++[(x,y)])∧MapG w' g (lg++[(y,x)])
 miss:R.1=none→e=.returned (.tuple #[.agg #[.int .u8 0,.int .u8 0,.int .u8 0,.int .u8 0,.int .u8 0,.int .u8 0,.int .u8 0,.int .u8 0,.int .u8 0,.int .u8 0,.int .u8 0,.int .u8 0,.int .u8 0,.int .u8 0,.int .u8 0,.int .u8 0],.int .i64 9])∧w'.heap[c]?=some (idBox (some ⟨tp,0,none⟩) m k cn ag')∧MapG w' f lf∧MapG w' g lg
 chg:Chg (NwC tp tv c f g) w w'
 own:tv'.ownBlock=tv.ownBlock∨∃ q,tv'.ownBlock=some q∧w.heap.size≤q
 few:ts'.length≤R.2
 again:ag'≤R.2
theorem other_gen {w:World}{B tp:Nat}{bv tv:Value}{b:List UInt8}{a:Nat}{ts:List (ByteArray×Nat×Nat)}(hO:TapeO w B tp bv tv b a ts) (hB:B≤w.heap.size){c m k:Nat}{cn ag:Nat}(hc:w.heap[c]?=some (idBox (some ⟨tp,0,none⟩) m k cn ag))
  {f g:Nat}{lf lg:List (List UInt8×List UInt8)}(hf:MapG w f lf) (hg:MapG w g lg) (hfg:f≠g){x:List UInt8}(hx:x.length=16) (hno:∀ p ∈ lf,p.1≠x) (what:ByteArray) (hts:ts.length≤a) (hcn:cn≤a) (hag:ag≤a) (hb:b.length≤100000)
  (used:List UInt8→Bool) (hused:∀ y,used y=true↔∃ p ∈ lg,p.1=y){R:Option (List UInt8)×Nat}(hR:R=pickB b used b.length a):
  Calls prog 41 #[.pointer (some ⟨c,0,none⟩),.string what,blkV x,.map (some f),.map (some g)] w fun e w'=>∃ tv' ts' ag',Drawn w w' e B tp bv tv b c m k cn f g lf lg x R tv' ts' ag':=by
 have hbox:w.heap[c]?=some (.cells #[.pointer (some ⟨tp,0,none⟩),.map (some m),.map (some k),.int .i64 cn,.int .i64 ag] 119 (0,0)):=hc;have hcl:=heap_lt hbox;have hfl:=hf.lt;have hgl:=hg.lt;obtain⟨n,hn⟩:∃ n,n=w.heap.size:=⟨_,rfl⟩;have HX:=box2 w 73 x (List.replicate 16 0);obtain⟨V,hV⟩:∃ V,V=(u8s x).toArray:=⟨_,rfl⟩;obtain⟨wB,hwB⟩:∃ a,a=(w.alloc (.cells (u8s x).toArray 73)).alloc (.cells (u8s (List.replicate 16 0)).toArray 73):=⟨_,rfl⟩;rw[← hwB,← hn] at HX;have hz:(u8s (List.replicate 16 0)).toArray=#[.int .u8 0,.int .u8 0,.int .u8 0,.int .u8 0,.int .u8 0,.int .u8 0,.int .u8 0,.int .u8 0,.int .u8 0,.int .u8 0,.int .u8 0,.int .u8 0,.int .u8 0,.int .u8 0,.int .u8 0,.int .u8 0]:=rfl;rw[hz] at hwB;clear hz;obtain⟨X1,X2,X3,X4⟩:=HX;have hfB:=hf.keep (X3.block f (by rw[hn];exact hf.lt));have hlk:(Instr.lookup 96 (.map (some f)) (.agg (u8s x).toArray) true).run prog wB=.ok (.tuple #[.agg #[.int .u8 0,.int .u8 0,.int .u8 0,.int .u8 0,.int .u8 0,.int .u8 0,.int .u8 0,.int .u8 0,.int .u8 0,.int .u8 0,.int .u8 0,.int .u8 0,.int .u8 0,.int .u8 0,.int .u8 0,.int .u8 0],.bool false]) wB:=hfB.look_no hx hno;have l1:=run_loadAt_arr (P:=prog) X1 underlying73 (size61 hx);obtain⟨W,hW⟩:∃ a,a=wB.alloc (.cells #[.int .u8 0,.int .u8 0,.int .u8 0,.int .u8 0,.int .u8 0,.int .u8 0,.int .u8 0,.int .u8 0,.int .u8 0,.int .u8 0,.int .u8 0,.int .u8 0,.int .u8 0,.int .u8 0,.int .u8 0,.int .u8 0] 73):=⟨_,rfl⟩;have X6:Below (n+2) wB W:=by rw[hW,← X4];exact (Below.refl _ _).alloc (Nat.le_refl _) _
 have Y1:Arr W n 73 x:=X1.keep (X6.block n (by omega));have Y2:Arr W (n+1) 73 (List.replicate 16 0):=X2.keep (X6.block (n+1) (by omega))
 have hCW:Chg No w W:=by
  have h1:=X3.trans (X6.mono (by omega));rw[hn] at h1;exact Chg.of_below h1 _
 have hWs:W.heap.size=n+3:=by rw[hW];simp[X4]
 have hOW:=hO.after (Chg.no hCW);have hBW:B≤W.heap.size:=Nat.le_trans hB hCW.size;have hboxW:=(hCW.block c hcl id).trans hbox;have hfW:=hf.keep (hCW.block f hf.lt id);have hgW:=hg.keep (hCW.block g hg.lt id);have hmin:=hO.within;subst hwB;have hno2:=LH hno;clear hno;replace hused:=LH hused;have hR0:=LH (hR.symm);clear hR;replace hlk:=LH hlk;replace l1:=LH l1;replace hboxW:=LH hboxW;replace hfW:=LH hfW;replace hgW:=LH hgW;replace hCW:=LH hCW;replace hOW:=LH hOW;replace hO:=LH hO;replace hf:=LH hf;replace hg:=LH hg;replace Y1:=LH Y1;replace Y2:=LH Y2;clear hfB X6 X2 X1 hc hbox;show Calls prog 41 #[.pointer (some ⟨c,0,none⟩),.string what,.agg (u8s x).toArray,.map (some f),.map (some g)] w _;rw[← hV];rw[← hV] at hlk l1 X4 hW;replace hV:=LH hV;have hW2:=LH hW;replace X3:=LH X3;clear hW;rw[hn] at l1 hWs X4;have hn2:=LH hn;clear hn;go_enter func41,ntmps41
 go_wp2_with (first|(refine wpList_load rfl 73 _ rfl _ _ rfl l1.out ?_)|(refine wpList_look rfl 96 _ _ rfl _ _ _ rfl rfl hlk.out ?_))
 rw[← hW2.out];have hnl0:n+1<W.heap.size:=by have:=hn2.out;omega
 clear l1 hlk X3 X4 hf hg hW2 hWs
 go_loopg [14] b.length (fun gk _ wr=>∃ (tv1:Value) (a1:Nat) (ts1:List (ByteArray×Nat×Nat)) (ag1:Nat),b.length≤a1+16*gk∧Hid (pickB b used gk a1=R)∧Hid (TapeO wr B tp bv tv1 b a1 ts1)∧Hid (wr.heap[c]?=some (idBox (some ⟨tp,0,none⟩) m k cn ag1))∧Hid (MapG wr f lf)∧Hid (MapG wr g lg)∧
  Hid (Arr wr n 73 x)∧Hid (Arr wr (n+1) 73 (List.replicate 16 0))∧Hid (Chg (NwC tp tv c f g) w wr)∧Hid (tv1.ownBlock=tv.ownBlock∨∃ q,tv1.ownBlock=some q∧w.heap.size≤q)∧ts1.length≤a1∧cn≤a1∧ag1≤a1∧n+1<wr.heap.size)
 case atStart=>exact⟨tv,a,ts,ag,by omega,hR0.out,hOW.out,hboxW.out,hfW.out,hgW.out,Y1.out,Y2.out,hCW.out.mono (fun _ _ h=>h.elim),.inl rfl,hts,hcn,hag,hnl0⟩
 case round=>
  clear hR0 hOW hboxW hfW hgW Y1 Y2 hCW hO hts hcn hag hBW hnl0;obtain⟨tv1,a1,ts1,ag1,hfu,hR0,hOW,hboxW,hfW,hgW,Y1,Y2,hCW,hown,hts,hcn,hag,hnl⟩:=hrel;have hBW:B≤wr.heap.size:=Nat.le_trans hB hCW.out.size;have c0':wr.cell? ⟨c,0,none⟩=some (.pointer (some ⟨tp,0,none⟩)):=by rw[cell_of hboxW.out];rfl
  have hwi:=hOW.out.within;by_cases h16:b.length<a1+16
  ·have htake:=LH (take_short hOW.out.at (.string what) 16 h16);have hRn:=hR0.out;rw[pickB_short h16] at hRn
   go_wp2_with fail
   refine htake.out.mono ?_;rintro e w1 ⟨rfl,hC1⟩;have a2:Arr w1 (n+1) 73 (List.replicate 16 0):=Y2.out.keep (hC1.block (n+1) (heap_lt Y2.out) id);have hs:=block_store a2 List.length_replicate (List.replicate 16 0) List.length_replicate;obtain⟨w2,hw2⟩:∃ a,a=w1.setRow (n+1) (u8s (List.replicate 16 0)).toArray:=⟨_,rfl⟩;rw[← hw2] at hs;have b2:Arr w2 (n+1) 73 (List.replicate 16 0):=hw2 ▸ a2.setRow _
   have hC12:∀ u,u≠n+1→u<wr.heap.size→w2.heap[u]?=wr.heap[u]?:=fun u h1 h2=>by
    rw[hw2,setRow_other _ _ _ _ h1];exact hC1.block u h2 id
   have hC2:Chg (NwC tp tv c f g) w w2:=by
    have h1:=((hCW.out.then hC1 (fun _ _ h=>h.elim)).setRow (g:=n+1) (fun h=>absurd h (by have:=hn2.out;omega)) (u8s (List.replicate 16 0)).toArray);rw[← hw2] at h1;exact h1
   have hTf:TapeO w2 B tp bv tv1 b a1 ts1:=hOW.out.keep fun u hu=>hC12 u (hOW.out.far hu Y2.out (by decide) (by decide) (by decide)) (hOW.out.lt hu)
   have hbf:w2.heap[c]?=some (idBox (some ⟨tp,0,none⟩) m k cn ag1):=(hC12 c (by have:=hn2.out;omega) (heap_lt hboxW.out)).trans hboxW.out;have hff:=hfW.out.keep (hC12 f (by have:=hn2.out;omega) hfW.out.lt);have hgf:=hgW.out.keep (hC12 g (by have:=hn2.out;omega) hgW.out.lt)
   have hDr:∀ e,e=.returned (.tuple #[.agg #[.int .u8 0,.int .u8 0,.int .u8 0,.int .u8 0,.int .u8 0,.int .u8 0,.int .u8 0,.int .u8 0,.int .u8 0,.int .u8 0,.int .u8 0,.int .u8 0,.int .u8 0,.int .u8 0,.int .u8 0,.int .u8 0],.int .i64 9])→Drawn w w2 e B tp bv tv b c m k cn f g lf lg x R tv1 ts1 ag1:=fun e he=>by
    subst hRn;exact⟨hTf,fun y hy=>by simp at hy,fun _=>⟨he,hbf,hff,hgf⟩,hC2,hown.out,hts,hag⟩
   rw[hn2.out] at hs b2;replace hs:=LH hs;replace b2:=LH b2;replace hw2:=LH hw2;replace hDr:=LH hDr;clear a2 htake hC1 hTf hbf hff hgf hC2 hC12 hRn hR0
   go_wp2_with (first|(refine wpList_store rfl 73 _ _ rfl _ _ rfl rfl hs.out ?_))
   refine bodyPost_ret (results_cell_slot results41 _ _ (w.heap.size+1) 73 _ (0,0) _ rfl b2.out underlying73 rfl (by kernel_rfl)) rfl ⟨tv1,ts1,ag1,hDr.out _ rfl⟩
  ·obtain⟨y,hy⟩:∃ y,y=blk16 b a1:=⟨_,rfl⟩;have hyl:y.length=16:=by rw[hy];exact blk16_length (by omega)
   have htake:=take_ok hOW.out hBW what 16 (by omega) (by omega);rw[show (b.drop a1).take 16=y by rw[hy];rfl] at htake;obtain⟨gk',rfl⟩:∃ j,gk=j+1:=⟨gk - 1,by omega⟩;replace htake:=LH htake;replace hy:=LH hy;replace c0':=c0'
   go_wp2_with fail
   refine htake.out.mono ?_;rintro e w1 ⟨v,tv',rfl,hv,hO1,hC1,hr1⟩;have a1':Arr w1 n 73 x:=Y1.out.keep (hC1.block n (heap_lt Y1.out) (hOW.out.apart Y1.out (by decide) (by decide)));have a2:Arr w1 (n+1) 73 (List.replicate 16 0):=Y2.out.keep (hC1.block (n+1) (heap_lt Y2.out) (hOW.out.apart Y2.out (by decide) (by decide)));have a3:MapG w1 f lf:=hfW.out.keep (hC1.block f hfW.out.lt (by obtain⟨es,cc,h⟩:=hfW.out.mapped;exact hOW.out.apartM h));have a4:MapG w1 g lg:=hgW.out.keep (hC1.block g hgW.out.lt (by obtain⟨es,cc,h⟩:=hgW.out.mapped;exact hOW.out.apartM h));have a5:=(hC1.block c (heap_lt hboxW.out) (hOW.out.apart hboxW.out (by decide) (by decide))).trans hboxW.out
   have hCw1:Chg (NwC tp tv c f g) w w1:=hCW.out.then hC1 (fun u hu h=>by
    rcases h with h|h
    ·exact .inl h
    ·rcases hown.out with h1|⟨q,h1,h2⟩
     ·exact .inr (.inl (h1 ▸ h))
     ·rw[h1] at h;simp only[Option.some.injEq] at h;omega)
   have hown1:tv'.ownBlock=tv.ownBlock∨∃ q,tv'.ownBlock=some q∧w.heap.size≤q:=by
    rcases hr1 with h|⟨u,h,hu⟩
    ·rw[h];exact hown.out
    ·exact .inr ⟨u,h,Nat.le_trans hCW.out.size hu⟩
   have hn1:n+1<w1.heap.size:=Nat.lt_of_lt_of_le hnl hC1.size;obtain⟨vb,vc,rfl,hvc1,hvc2⟩:=own_shape hv (by omega)
   have hvl:(Instr.loadAt 73 (.pointer (some ⟨vb,0,none⟩))).run prog w1=.ok (.agg (u8s y).toArray) w1:=by
    refine run_loadAt_cells underlying73 (size61 hyl) (fun j hj=>?_);have h1:=(hv.cells rfl) j _ (u8s_get y j hj);rw[Addr.add_lit] at h1;rw[h1,List.getD_eq_getElem?_getD,List.getElem?_eq_getElem hj];rfl
   have harr:=run_arrayAt w1 ⟨vb,0,none⟩ vc;obtain⟨q,hq⟩:∃ q,q=w1.heap.size:=⟨_,rfl⟩;obtain⟨w2,hw2⟩:∃ a,a=w1.alloc (.cells #[.int .u8 0,.int .u8 0,.int .u8 0,.int .u8 0,.int .u8 0,.int .u8 0,.int .u8 0,.int .u8 0,.int .u8 0,.int .u8 0,.int .u8 0,.int .u8 0,.int .u8 0,.int .u8 0,.int .u8 0,.int .u8 0] 73):=⟨_,rfl⟩;have b2:Arr w2 q 73 (List.replicate 16 0):=by rw[hw2,hq];exact heap_alloc_new w1 _
   have h2:Below q w1 w2:=by rw[hw2,hq];exact (Below.refl _ _).alloc (Nat.le_refl _) _
   have s2:=block_store b2 List.length_replicate y hyl;obtain⟨w3,hw3⟩:∃ a,a=w2.setRow q (u8s y).toArray:=⟨_,rfl⟩;rw[← hw3] at s2;have b3:Arr w3 q 73 y:=hw3 ▸ b2.setRow _;have h3:Below q w1 w3:=hw3 ▸ below_setRow h2 (Nat.le_refl _) _;have hs3:w3.heap.size=q+1:=by rw[hw3];simp[World.setRow,hw2,hq]
   have l3:=run_loadAt_arr (P:=prog) b3 underlying73 (size61 hyl);have g3:=a4.keep (h3.block g (by rw[hq];exact a4.lt));obtain⟨Y,hY⟩:∃ Y,Y=(u8s y).toArray:=⟨_,rfl⟩;cases hu:used y with
   | true=>
    have hRn:=hR0.out;rw[pickB_used (by omega) (by rw[← hy.out];exact hu)] at hRn;obtain⟨p,hp,hp1⟩:=(hused.out y).1 hu;rcases g3.look hyl with ⟨_,hbad⟩|⟨p2,hp2,hp21,hlk3⟩
    ·exact absurd hp1 (hbad p hp)
    have hzl:p2.2.length=16:=(g3.fit p2 hp2).2;obtain⟨z,hz⟩:∃ z,z=p2.2:=⟨_,rfl⟩;rw[← hz] at hlk3 hzl;have hlk3':(Instr.lookup 96 (.map (some g)) (.agg (u8s y).toArray) true).run prog w3=.ok (.tuple #[.agg (u8s z).toArray,.bool true]) w3:=hlk3;obtain⟨w4,hw4⟩:∃ a,a=w3.alloc (.cells #[.int .u8 0,.int .u8 0,.int .u8 0,.int .u8 0,.int .u8 0,.int .u8 0,.int .u8 0,.int .u8 0,.int .u8 0,.int .u8 0,.int .u8 0,.int .u8 0,.int .u8 0,.int .u8 0,.int .u8 0,.int .u8 0] 73):=⟨_,rfl⟩;have b4:Arr w4 (q+1) 73 (List.replicate 16 0):=by rw[hw4,← hs3];exact heap_alloc_new w3 _
    have h4:Below (q+1) w3 w4:=by rw[hw4,← hs3];exact (Below.refl _ _).alloc (Nat.le_refl _) _
    have s4:=block_store b4 List.length_replicate z hzl;obtain⟨w5,hw5⟩:∃ a,a=w4.setRow (q+1) (u8s z).toArray:=⟨_,rfl⟩;rw[← hw5] at s4
    have h15:Chg No w1 w5:=by
     have h:=(h3.trans (h4.mono (by omega)));have h':=below_setRow h (g:=q+1) (by omega) (u8s z).toArray;rw[← hw5,hq] at h';exact Chg.of_below h' _
    have d1:Arr w5 n 73 x:=a1'.keep (h15.block n (heap_lt a1') id);have d2:Arr w5 (n+1) 73 (List.replicate 16 0):=a2.keep (h15.block (n+1) (heap_lt a2) id);have d4:MapG w5 f lf:=a3.keep (h15.block f a3.lt id);have d5:MapG w5 g lg:=a4.keep (h15.block g a4.lt id);have d6:=(h15.block c (heap_lt a5) id).trans a5;have d7:=hO1.after (Chg.no h15);have k4:w5.cell? ⟨c,4,none⟩=some (.int .i64 ag1):=by rw[cell_of d6];rfl
    have f4:w5.frozen? ⟨c,4,none⟩=false:=frozen_of d6 4;obtain⟨w6,hw6⟩:∃ a,a=w5.setCell ⟨c,4,none⟩ (.int .i64 ((ag1:Int)+1)):=⟨_,rfl⟩;have m6:∀ u,u≠c→w6.heap[u]?=w5.heap[u]?:=fun u hu=>by rw[hw6];exact setCell_heap_ne _ _ _ hu
    have ncell:∀ {u:Nat}{cs:Array Value}{t:TypeId}{fr:Nat×Nat},w5.heap[u]?=some (.cells cs t fr)→t≠119→u≠c:=fun h1 h2 e=>by
     subst e;have h3:=h1.symm.trans d6;simp only[idBox,Option.some.injEq,Obj.cells.injEq] at h3;exact h2 h3.2.1
    have nmap:∀ {u:Nat}{es:Array MapEntry}{ck:Nat},w5.heap[u]?=some (.map es ck)→u≠c:=fun h1 e=>by
     subst e;have h3:=h1.symm.trans d6;cases h3
    have e1:Arr w6 n 73 x:=d1.keep (m6 n (ncell d1 (by decide)));have e2:Arr w6 (n+1) 73 (List.replicate 16 0):=d2.keep (m6 (n+1) (ncell d2 (by decide)));have e4:MapG w6 f lf:=d4.keep (m6 f (by obtain⟨es,cc,h⟩:=d4.mapped;exact nmap h));have e5:MapG w6 g lg:=d5.keep (m6 g (by obtain⟨es,cc,h⟩:=d5.mapped;exact nmap h));have e6:w6.heap[c]?=some (idBox (some ⟨tp,0,none⟩) m k cn (ag1+1:Nat)):=by rw[hw6,setCell_block d6];rfl
    have e7:TapeO w6 B tp bv tv' b (a1+16) (ts1++[(what,a1,16)]):=d7.keep fun u hu=>m6 u (by
     obtain⟨cs,t,h1,h2⟩:=d7.kind hu;refine ncell h1 ?_;rcases h2 with rfl|rfl|rfl<;>decide)
    have e8:Chg (NwC tp tv c f g) w w6:=by
     have h:=(hCw1.then h15 (fun _ _ h=>h.elim)).setCell (p:=⟨c,4,none⟩) (fun _=>.inr (.inr (.inl rfl))) (.int .i64 ((ag1:Int)+1));rw[← hw6] at h;exact h
    have e9:n+1<w6.heap.size:=heap_lt e2;rw[← hY] at hvl s2 l3 hlk3';obtain⟨Z,hZ⟩:∃ Z,Z=(u8s z).toArray:=⟨_,rfl⟩;rw[← hZ] at hlk3' s4;rw[hw4,← hs3] at s4;have hs3':=hs3;replace hvl:=LH hvl;replace s2:=LH s2;replace l3:=LH l3;replace hlk3':=LH hlk3';replace s4:=LH s4;subst hw2;rw[hq] at s2 l3;have hw3':=LH hw3;have hs3h:=LH hs3;have hqh:=LH hq;replace e1:=LH e1;replace e2:=LH e2;replace e4:=LH e4;replace e5:=LH e5;replace e6:=LH e6;replace e7:=LH e7;replace e8:=LH e8;replace hown1:=LH hown1;replace hRn:=LH hRn;have hw4':=LH hw4;have hw5':=LH hw5;have hw6':=LH hw6;replace hY:=LH hY;replace hZ:=LH hZ;replace hz:=LH hz;replace hu:=LH hu;replace hp1:=LH hp1;replace hp:=LH hp;replace hp2:=LH hp2;replace hp21:=LH hp21;clear hw3 hw4 hw5 hw6 b2 h2 b3 h3 g3 h4 a1' a2 a3 a4 a5 htake hv b4 h15 d1 d2 d4 d5 d6 d7 m6 ncell nmap hCw1 hr1 hlk3 hs3 hs3' hO1 hC1
    go_wp2_with (first|(refine wpList_load rfl 73 _ rfl _ _ rfl hvl.out ?_)|(refine wpList_store rfl 73 _ _ rfl _ _ rfl rfl s2.out ?_)|(refine wpList_load rfl 73 _ rfl _ _ rfl l3.out ?_)|(refine wpList_look rfl 96 _ _ rfl _ _ _ rfl rfl hlk3'.out ?_)|(refine wpList_store rfl 73 _ _ rfl _ _ rfl rfl s4.out ?_))
    rw[← hw6'.out];go_roundg gk'
    case measure=>omega
    case rel=>exact⟨tv',a1+16,ts1++[(what,a1,16)],ag1+1,by omega,hRn.out,e7.out,e6.out,e4.out,e5.out,e1.out,e2.out,e8.out,hown1.out,by rw[List.length_append,List.length_singleton];omega,by omega,by omega,heap_lt e2.out⟩
   | false=>
    have hRn:=hR0.out;rw[pickB_new (by omega) (by rw[← hy.out];exact hu),← hy.out] at hRn
    have hng:∀ p ∈ lg,p.1≠y:=fun p hp e=>by
     have h:=(hused.out y).2 ⟨p,hp,e⟩;rw[hu] at h;cases h
    have hlk3:(Instr.lookup 96 (.map (some g)) (.agg (u8s y).toArray) true).run prog w3=.ok (.tuple #[.agg #[.int .u8 0,.int .u8 0,.int .u8 0,.int .u8 0,.int .u8 0,.int .u8 0,.int .u8 0,.int .u8 0,.int .u8 0,.int .u8 0,.int .u8 0,.int .u8 0,.int .u8 0,.int .u8 0,.int .u8 0,.int .u8 0],.bool false]) w3:=g3.look_no hyl hng;obtain⟨w4,hw4⟩:∃ a,a=w3.alloc (.cells #[.int .u8 0,.int .u8 0,.int .u8 0,.int .u8 0,.int .u8 0,.int .u8 0,.int .u8 0,.int .u8 0,.int .u8 0,.int .u8 0,.int .u8 0,.int .u8 0,.int .u8 0,.int .u8 0,.int .u8 0,.int .u8 0] 73):=⟨_,rfl⟩;have h4:Below (q+1) w3 w4:=by rw[hw4,← hs3];exact (Below.refl _ _).alloc (Nat.le_refl _) _
    have h14:Chg No w1 w4:=by
     have h:=h3.trans (h4.mono (by omega));rw[hq] at h;exact Chg.of_below h _
    have d1:Arr w4 n 73 x:=a1'.keep (h14.block n (heap_lt a1') id);have d2:Arr w4 (n+1) 73 (List.replicate 16 0):=a2.keep (h14.block (n+1) (heap_lt a2) id);have d3:Arr w4 q 73 y:=b3.keep (h4.block q (by omega));have d4:MapG w4 f lf:=a3.keep (h14.block f a3.lt id);have d5:MapG w4 g lg:=a4.keep (h14.block g a4.lt id);have d6:=(h14.block c (heap_lt a5) id).trans a5;have d7:=hO1.after (Chg.no h14);have hCw4:Chg (NwC tp tv c f g) w w4:=hCw1.then h14 (fun _ _ h=>h.elim);have hn4:n+1<w4.heap.size:=heap_lt d2;rw[← hY] at hvl s2 l3 hlk3;have hw4':=LH hw4;clear hw4;subst hw2;have hw3':=LH hw3;rw[hq] at s2 l3;replace hY:=LH hY;replace hvl:=LH hvl;replace s2:=LH s2;replace l3:=LH l3;replace hlk3:=LH hlk3;replace d1:=LH d1;replace d2:=LH d2;replace d3:=LH d3;replace d4:=LH d4;replace d5:=LH d5;replace d6:=LH d6;replace d7:=LH d7;replace h14:=LH h14;replace hq:=LH hq;replace hRn:=LH hRn;replace hng:=LH hng;replace hu:=LH hu;replace hown1:=LH hown1;replace hCw4:=LH hCw4;replace hs3:=LH hs3;clear hw3 b2 h2 b3 h3 g3 h4 a1' a2 a3 a4 a5 hr1 htake hv hCw1 hO1 hC1
    go_wp2_with (first|(refine wpList_load rfl 73 _ rfl _ _ rfl hvl.out ?_)|(refine wpList_store rfl 73 _ _ rfl _ _ rfl rfl s2.out ?_)|(refine wpList_load rfl 73 _ rfl _ _ rfl l3.out ?_)|(refine wpList_look rfl 96 _ _ rfl _ _ _ rfl rfl hlk3.out ?_))
    rw[← hw4'.out];clear hvl s2 l3 hlk3 harr
    have nmap:∀ {u o:Nat}{l:List UInt8}{lm:List (List UInt8×List UInt8)},Arr w4 u 73 l→MapG w4 o lm→u≠o:=fun h1 h2 e=>by
     subst e;obtain⟨es,ck,h4⟩:=h2.mapped;have h3:=h1.symm.trans h4;cases h3
    have lx:∀ w5,Chg (fun b=>b=f∨b=g) w4 w5→(Instr.loadAt 73 (.pointer (some ⟨w.heap.size,0,none⟩))).run prog w5=.ok (.agg V) w5:=fun w5 h5=>by
     rw[hV.out,← hn2.out];exact run_loadAt_arr (P:=prog) (d1.out.keep (h5.block n (heap_lt d1.out) (by rintro (e|e);exact nmap d1.out d4.out e;exact nmap d1.out d5.out e))) underlying73 (size61 hx)
    have ly:∀ w5,Chg (fun b=>b=f∨b=g) w4 w5→(Instr.loadAt 73 (.pointer (some ⟨w1.heap.size,0,none⟩))).run prog w5=.ok (.agg Y) w5:=fun w5 h5=>by
     rw[hY.out,← hq.out];exact run_loadAt_arr (P:=prog) (d3.out.keep (h5.block q (heap_lt d3.out) (by rintro (e|e);exact nmap d3.out d4.out e;exact nmap d3.out d5.out e))) underlying73 (size61 hyl)
    have hdr:∀ w5,Chg (fun b=>b=f∨b=g) w4.drew w5→Chg (fun b=>b=f∨b=g) w4 w5:=fun w5 h=>⟨h.os,h.tape,h.output,h.size,h.block⟩
    have hcf:c≠f:=fun e=>by
     subst e;obtain⟨es,ck,h4⟩:=d4.out.mapped;have h3:=d6.out.symm.trans h4;cases h3
    have hcg:c≠g:=fun e=>by
     subst e;obtain⟨es,ck,h4⟩:=d5.out.mapped;have h3:=d6.out.symm.trans h4;cases h3
    replace lx:=LH lx;replace ly:=LH ly;replace hdr:=LH hdr;replace hcf:=LH hcf;replace hcg:=LH hcg;refine RA.region (fun a b=>Chg (fun b=>b=f∨b=g) a b) (·=·) [1,1,1,1,1,1,4,4] (fun _ _ _=>True) (fun w5=>MapG w5 f lf∧MapG w5 g lg) (by kernel_rfl) (Chg.refl _ _) (fun _ _ h=>h ▸ Chg.refl _ _) (fun _ _ _ h k=>h.trans k) (fun _ _ h k=>h ▸ k) (⟨d4.out.keep rfl,d5.out.keep rfl⟩) (by kernel_rfl) ?_;intro cx
    repeat refine RA.qq (h:=?_)
    refine RA.ld (by kernel_rfl) (by rfl) (by rfl) (y':=.agg V) (fun w3 hp=>lx.out w3 (hdr.out _ hp.1)) ?_
    repeat refine RA.qq (h:=?_)
    refine RA.ld (by kernel_rfl) (by rfl) (by rfl) (y':=.agg Y) (fun w3 hp=>ly.out w3 (hdr.out _ hp.1)) ?_;refine RA.ld (by kernel_rfl) (by rfl) (by rfl) (y':=.agg Y) (fun w3 hp=>ly.out w3 (hdr.out _ hp.1)) ?_;refine RA.ld (by kernel_rfl) (by rfl) (by rfl) (y':=.agg V) (fun w3 hp=>lx.out w3 (hdr.out _ hp.1)) ?_
    refine RA.st (fun w5=>MapG w5 f (lf++[(x,y)])∧MapG w5 g lg) (by kernel_rfl) (by rfl) (by kernel_rfl) (fun _ _ h k=>h ▸ k) (fun w5 hp hH=>by
     obtain⟨o,h1,h2⟩:=hH.1.put hx hyl hno2.out;refine⟨_,ex_put rfl (RA.evo_ev (by rfl)) (RA.evo_ev (by rfl)) (RA.evo_ev (by rfl)) (by rw[hV.out,hY.out];exact h1),putObj_chg (C:=fun b=>b=f∨b=g) (g:=f) (Chg.refl _ _) (fun _=>.inl rfl) _,h2,hH.2.keep (putObj_other (fun e=>hfg e.symm))⟩) ?_
    refine RA.st (fun w5=>MapG w5 f (lf++[(x,y)])∧MapG w5 g (lg++[(y,x)])) (by kernel_rfl) (by rfl) (by kernel_rfl) (fun _ _ h k=>h ▸ k) (fun w5 hp hH=>by
     obtain⟨o,h1,h2⟩:=hH.2.put hyl hx hng.out;refine⟨_,ex_put rfl (RA.evo_ev (by rfl)) (RA.evo_ev (by rfl)) (RA.evo_ev (by rfl)) (by rw[hV.out,hY.out];exact h1),putObj_chg (C:=fun b=>b=f∨b=g) (g:=g) (Chg.refl _ _) (fun _=>.inr rfl) _,hH.1.keep (putObj_other hfg),h2⟩) ?_
    refine RA.RA.done rfl (fun w5 hR hF hH=>?_);clear hF;simp only[RA.put,List.foldr_cons,List.foldr_nil,cx,Act.put,List.setIfInBounds_toArray,List.set_cons_succ,List.set_cons_zero];obtain⟨e4,e5⟩:=hH;have hR5:=hdr.out _ hR;have e1:=d1.out.keep (hR5.block n (heap_lt d1.out) (by rintro (e|e);exact nmap d1.out d4.out e;exact nmap d1.out d5.out e));have e2:=d2.out.keep (hR5.block (n+1) (heap_lt d2.out) (by rintro (e|e);exact nmap d2.out d4.out e;exact nmap d2.out d5.out e));have e3:=d3.out.keep (hR5.block q (heap_lt d3.out) (by rintro (e|e);exact nmap d3.out d4.out e;exact nmap d3.out d5.out e));have e6:=(hR5.block c (heap_lt d6.out) (by rintro (e|e);exact hcf.out e;exact hcg.out e)).trans d6.out;have k3:w5.cell? ⟨c,3,none⟩=some (.int .i64 cn):=by rw[cell_of e6];rfl
    have k4:w5.frozen? ⟨c,3,none⟩=false:=frozen_of e6 3;obtain⟨w6,hw6⟩:∃ a,a=w5.setCell ⟨c,3,none⟩ (.int .i64 ((cn:Int)+1)):=⟨_,rfl⟩;have m6:∀ u,u≠c→w6.heap[u]?=w5.heap[u]?:=fun u hu=>by rw[hw6];exact setCell_heap_ne _ _ _ hu
    have ncell:∀ {u:Nat}{l:List UInt8},Arr w5 u 73 l→u≠c:=fun h1 e=>by
     subst e;have h2:=h1.symm.trans e6;simp only[idBox,Option.some.injEq,Obj.cells.injEq] at h2;exact absurd h2.2.1 (by decide)
    have p1:=e3.keep (m6 q (ncell e3));have p2:=e2.keep (m6 (n+1) (ncell e2));have p6:w6.heap[c]?=some (idBox (some ⟨tp,0,none⟩) m k (cn+1:Nat) ag1):=by rw[hw6,setCell_block e6];rfl
    have l6:=run_loadAt_arr (P:=prog) p1 underlying73 (size61 hyl);have s6:=block_store p2 List.length_replicate y hyl;obtain⟨w7,hw7⟩:∃ a,a=w6.setRow (n+1) (u8s y).toArray:=⟨_,rfl⟩;rw[← hw7] at s6;have q2:Arr w7 (n+1) 73 y:=hw7 ▸ p2.setRow _;have m7:∀ u,u≠n+1→w7.heap[u]?=w6.heap[u]?:=fun u hu=>by rw[hw7];exact setRow_other _ _ _ _ hu
    have hnb:n+1=w.heap.size+1:=by rw[hn2.out]
    have hnl:w.heap.size=n:=hn2.out.symm;have q4:MapG w7 f (lf++[(x,y)]):=(e4.keep (m6 f hcf.out.symm)).keep (m7 f (by have:=hfl;omega));have q5:MapG w7 g (lg++[(y,x)]):=(e5.keep (m6 g hcg.out.symm)).keep (m7 g (by have:=hgl;omega));have q6:w7.heap[c]?=some (idBox (some ⟨tp,0,none⟩) m k (cn+1:Nat) ag1):=(m7 c (by omega)).trans p6
    have hA1:Chg (NwC tp tv c f g) w w7:=by
     have h2:Chg (NwC tp tv c f g) w w5:=hCw4.then hR5 (fun _ _ h=>by rcases h with h|h;exact .inr (.inr (.inr (.inl h)));exact .inr (.inr (.inr (.inr h))));have h3:=(h2.setCell (p:=⟨c,3,none⟩) (fun _=>.inr (.inr (.inl rfl))) (.int .i64 ((cn:Int)+1)));rw[← hw6] at h3;have h4:=h3.setRow (g:=n+1) (fun h=>absurd h (by have:=hn2.out;omega)) (u8s y).toArray;rw[← hw7] at h4;exact h4
    have hOf:TapeO w7 B tp bv tv' b (a1+16) (ts1++[(what,a1,16)]):=d7.out.keep fun u hu=>by
     have u1:u≠f:=by obtain⟨es,ck,h⟩:=d4.out.mapped;exact d7.out.farM hu h
     have u2:u≠g:=by obtain⟨es,ck,h⟩:=d5.out.mapped;exact d7.out.farM hu h
     have u3:=d7.out.far hu d6.out (by decide) (by decide) (by decide);have u4:=d7.out.far hu d2.out (by decide) (by decide) (by decide);rw[m7 u u4,m6 u u3];exact hR5.block u (d7.out.lt hu) (by rintro (e|e);exact u1 e;exact u2 e)
    rw[← hY.out,hq.out] at l6;rw[← hY.out,hnb] at s6;subst hw6;replace l6:=LH l6;replace s6:=LH s6;replace hw7:=LH hw7;replace q2:=LH q2;replace q4:=LH q4;replace q5:=LH q5;replace q6:=LH q6;replace hA1:=LH hA1;replace hOf:=LH hOf
    have hDr:∀ e,e=.returned (.tuple #[blkV y,.int .i64 0])→Drawn w w7 e B tp bv tv b c m k cn f g lf lg x R tv' (ts1++[(what,a1,16)]) ag1:=fun e he=>by
     have hR2:=hRn.out;subst hR2;exact⟨hOf.out,fun z hz=>by simp only[Option.some.injEq] at hz;subst hz;exact⟨he,q6.out,q4.out,q5.out⟩,fun h=>by simp at h,hA1.out,hown1.out,by rw[List.length_append,List.length_singleton];show _≤a1+16;omega,by show _≤a1+16;omega⟩
    rw[hnb] at q2;replace hDr:=LH hDr;clear hnb hnl m7 p6 p1 p2 m6 e1 e2 e3 e4 e5 e6 hR hR5 ncell nmap lx ly hdr hR0
    go_wp2_with (first|(refine wpList_load rfl 73 _ rfl _ _ rfl l6.out ?_)|(refine wpList_store rfl 73 _ _ rfl _ _ rfl rfl s6.out ?_))
    refine bodyPost_ret (results_cell_slot results41 _ _ (w.heap.size+1) 73 _ (0,0) _ rfl q2.out underlying73 rfl (by rw[size61 hyl];simp[u8s_length])) rfl ⟨tv',ts1++[(what,a1,16)],ag1,hDr.out _ rfl⟩
end Go.Proofs.YtbgfdbidbjlaaaaGreat.Fd

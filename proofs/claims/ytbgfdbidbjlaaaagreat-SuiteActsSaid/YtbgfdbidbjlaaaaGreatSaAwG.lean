/-
  priorylaw11.awake answers true. No condition.
-/
import Derived.Test.YtbgfdbidbjlaaaaGreatSaSuG
import Derived.Test.YtbgfdbidbjlaaaaGreatSaKeyL
import Derived.Lib.SlBytesConst
import Derived.LaidEqlPtr
namespace Go.Proofs.YtbgfdbidbjlaaaaGreat.Fd
open _root_.Go.Proofs.Tryz
open Go Go.RowKit K
set_option maxRecDepth 100000
set_option maxHeartbeats 4000000
def wS:ByteArray:=⟨#[119]⟩
structure AwSt (w:World) (B s1 p1 s2:Nat) (S:IdG) (a:Nat) (prs:List PR):Prop where
 real:SuiteAt w s1 none (some ⟨p1,0,none⟩)
 ideal:SuiteAt w s2 (some ⟨S.c,0,none⟩) (some ⟨S.tp,0,none⟩)
 st:IdealG w B S a prs
theorem SuiteAt.kept {w w':World}{B s:Nat}{c t:Option Addr}(h:SuiteAt w s c t) (hk:Kept B w w'):SuiteAt w' s c t:=(hk.keep s _ _ _ h (by decide) (by decide) (by decide)).trans h
theorem AwSt.after {w w':World}{B s1 p1 s2:Nat}{S:IdG}{ap:Nat}{prs:List PR}(h:AwSt w B s1 p1 s2 S ap prs) (hb:Below w.heap.size w w'):AwSt w' B s1 p1 s2 S ap prs:=
 ⟨(hb.block _ (heap_lt h.real)).trans h.real,(hb.block _ (heap_lt h.ideal)).trans h.ideal,h.st.chg (Chg.of_below hb _)⟩
theorem row_kept {w w':World}{B base:Nat}{v:Value}{n:Nat}{xs:List Value}(h:w.ownsRow base 5 1 v n xs) (hk:Kept B w w'):w'.ownsRow base 5 1 v n xs:=
 owns_keep h (fun g hg=>by
  obtain⟨cur,hc⟩:=own_cells h hg;exact hk.keep g _ _ _ hc (by decide) (by decide) (by decide))
theorem arr_kept {w w':World}{B b:Nat}{l:List UInt8}(h:Arr w b 5 l) (hk:Kept B w w'):Arr w' b 5 l:=h.keep (hk.keep _ _ _ _ h (by decide) (by decide) (by decide))
theorem arr_bytes' {w:World}{b n:Nat}{l:List UInt8}(h:Arr w b 5 l) (hn:l.length=n) (hl:n≤1000000):Bytes w (fun _=>True) (.slice (some ⟨b,0,none⟩) n n) l:=by
 subst hn;exact arr_bytes h (by unfold maxLen;omega)
def zl (n:Nat):List UInt8:=List.replicate n 0
theorem zl_length {n:Nat}:(zl n).length=n:=List.length_replicate
theorem aw_real {w:World}{B s1 p1 s2:Nat}{S:IdG}{ap:Nat}{prs:List PR}(h:AwSt w B s1 p1 s2 S ap prs){kb db:Nat}(hk:Arr w kb 5 (zl 32)) (hd:Arr w db 5 (zl 32)):
  Calls prog 9 #[.pointer (some ⟨s1,0,none⟩),.string wS,.slice (some ⟨kb,0,none⟩) 32 32,.int .i64 0,.slice (some ⟨db,0,none⟩) 32 32] w fun e w'=>∃ a n c,e=.returned (.tuple #[.slice a n c,.int .i64 0])∧
   w'.ownsRow B 5 1 (.slice a n c) 32 (u8s (xtsE (zl 32) 0 (zl 32)))∧Kept B w w'∧AwSt w' B s1 p1 s2 S ap prs:=by
 refine seal_real h.real _ _ _ _ _ ((xtsEnc_ok (arr_bytes' hk zl_length (by omega)) 0 ⟨.inl zl_length,by omega,by omega⟩ (arr_bytes' hd zl_length (by omega)) (by rw[zl_length]) (by rw[zl_length];omega)).mono ?_);rintro e w' ⟨v,rfl,h1,h2⟩;obtain⟨a,c,rfl,_,_⟩:=(Cells.own h1).shape;rw[zl_length] at h1;exact⟨a,(zl 32).length,c,0,rfl,a,_,c,rfl,owns_base h1 h.st.room,Kept.chg h.st.room (Chg.of_below h2 _),h.after h2⟩
def hex16:List UInt8:=[48,49,50,51,52,53,54,55,56,57,97,98,99,100,101,102]
def zK:ByteArray:=⟨(zl 32).toArray⟩
def awP:List PR:=[((zK,0,0),zl 16,hex16)]
theorem aw_m1:sweepM hex16 zK 0 false (zl 16) 0 [] 1=(some hex16,16,awP):=by kernel_rfl
theorem aw_m2:sweepM hex16 zK 1 true (zl 16) 16 awP 1=(none,16,awP):=by kernel_rfl
theorem aw_ideal {w:World}{B s1 p1 s2:Nat}{S:IdG}(h:AwSt w B s1 p1 s2 S 0 []) (hb:S.b=hex16){kb db:Nat}(hk:Arr w kb 5 (zl 32)) (hd:Arr w db 5 (zl 16)):
  Calls prog 9 #[.pointer (some ⟨s2,0,none⟩),.string wS,.slice (some ⟨kb,0,none⟩) 32 32,.int .i64 0,.slice (some ⟨db,0,none⟩) 16 16] w fun e w'=>∃ a n c,e=.returned (.tuple #[.slice a n c,.int .i64 0])∧
   w'.ownsRow B 5 1 (.slice a n c) 16 (u8s hex16)∧Kept B w w'∧∃ S',AwSt w' B s1 p1 s2 S' 16 awP∧S'.c=S.c∧S'.tp=S.tp∧S'.b=hex16:=by
 have hc:=cryptSuG h.st h.ideal false (what:=wS) (ka:=some ⟨kb,0,none⟩) (da:=some ⟨db,0,none⟩) (kc:=32) (dc:=16) (key:=zl 32) (data:=zl 16)
  (fun w1 h1=>by rw[zl_length];exact arr_bytes' (arr_kept hk h1) zl_length (by omega)) (fun w1 h1=>by rw[zl_length];exact arr_bytes' (arr_kept hd h1) zl_length (by omega)) 0 ⟨.inl zl_length,by omega,by omega⟩ (by rw[zl_length]) (by rw[zl_length];omega)
  (D:=fun _=>False) (fun _ e=>e.elim) (fun g hg=>(h.st.tape.bytes.lt g hg).2) (R:=(some hex16,16,awP)) (by rw[hb,zl_length];exact aw_m1.symm)
 rw[zl_length,zl_length] at hc;refine hc.mono ?_;rintro e w' ⟨⟨v,rfl,h1⟩,S',i1,i2,i3,i4,i5⟩;obtain⟨a,c,rfl,_,_⟩:=(Cells.own h1).shape;exact⟨a,_,c,rfl,owns_base h1 h.st.room,i3,S',⟨h.real.kept i3,by rw[i2.c,i2.tp];exact h.ideal.kept i3,i1⟩,i2.c,i2.tp,i2.b.trans hb⟩
theorem aw_open {w:World}{B s1 p1 s2:Nat}{S:IdG}(h:AwSt w B s1 p1 s2 S 16 awP) (hb:S.b=hex16){kb db:Nat}(hk:Arr w kb 5 (zl 32)) (hd:Arr w db 5 (zl 16)):
  Calls prog 11 #[.pointer (some ⟨s2,0,none⟩),.string wS,.slice (some ⟨kb,0,none⟩) 32 32,.int .i64 1,.slice (some ⟨db,0,none⟩) 16 16] w fun e w'=>e=.returned (.tuple #[.slice none 0 0,.int .i64 9])∧Kept B w w':=by
 have hc:=cryptSuG h.st h.ideal true (what:=wS) (ka:=some ⟨kb,0,none⟩) (da:=some ⟨db,0,none⟩) (kc:=32) (dc:=16) (key:=zl 32) (data:=zl 16)
  (fun w1 h1=>by rw[zl_length];exact arr_bytes' (arr_kept hk h1) zl_length (by omega)) (fun w1 h1=>by rw[zl_length];exact arr_bytes' (arr_kept hd h1) zl_length (by omega)) 1 ⟨.inl zl_length,by omega,by omega⟩ (by rw[zl_length]) (by rw[zl_length];omega)
  (D:=fun _=>False) (fun _ e=>e.elim) (fun g hg=>(h.st.tape.bytes.lt g hg).2) (R:=(none,16,awP)) (by rw[hb,zl_length];exact aw_m2.symm)
 rw[zl_length,zl_length] at hc;refine hc.mono ?_;rintro e w' ⟨h1,S',i1,i2,i3,i4,i5⟩;exact⟨h1,i3⟩
theorem aw_val:((xtsE (zl 32) 0 (zl 32)).getD 0 0 == 0x91)=true:=by decide +kernel
theorem aw_key:(keyL (keyK [112,97,115,115,119,111,114,100]) [115,97,108,116] 1 4 == [18,15,182,207])=true:=by decide +kernel
theorem mk_zl (w:World) (n:Nat) (m:Int) (hm:m=n) (hn:n≤1000000):(Instr.makeSlice 22 (.int .i64 m) (.int .i64 m)).run prog w=.ok (.slice (some ⟨w.heap.size,0,none⟩) n n) (w.alloc (.cells (u8s (zl n)).toArray 5)):=by
 have h:=make_full (P:=prog) w underlying22 infoByte rfl n m hm (by omega) (by omega)
 have e:madeCells #[.int .u8 0] n=(u8s (zl n)).toArray:=by
  rw[zl,← u8s_zero]
 rw[e] at h;exact h
def proj (v:Value) (i:Nat):Value:=match v with|.tuple cs=>cs.getD i undef|_=>undef
theorem proj0 {a b:Value}:proj (.tuple #[a,b]) 0=a:=rfl
theorem proj1 {a b:Value}:proj (.tuple #[a,b]) 1=b:=rfl
theorem row_bytes {w:World}{b n:Nat}{l:List UInt8}{t:TypeId}{m:Nat×Nat}(h:w.heap[b]?=some (.cells (u8s l).toArray t m)) (hn:l.length=n) (hl:n≤1000000):Bytes w (fun _=>True) (.slice (some ⟨b,0,none⟩) n n) l:=by
 subst hn;refine⟨by rw[u8s_length,Nat.mul_one],some ⟨b,0,none⟩,l.length,rfl,Nat.le_refl _,by unfold maxLen;omega,fun h=>(by cases h),.inr ⟨b,0,rfl,trivial,heap_lt h,fun j u hu=>?_⟩⟩;rw[Nat.zero_add,cell_of h]
 simpa using hu
theorem conv_lit (w:World) (C:Array Value) (n:Nat) (hn:C.size=n):(convert 22 22 (.slice (some ⟨w.heap.size,0,none⟩) n n)).run prog (w.alloc (.cells C 5))=.ok (.slice (some ⟨w.heap.size,0,none⟩) n n) (w.alloc (.cells C 5 (n,n+1))):=by
 have h:=Lib.run_convert_bytes_const (P:=prog) w 22 5 C n n underlying22 underlying5;rw[hn] at h;exact h
def psL:List UInt8:=[112,97,115,115,119,111,114,100]
def saL:List UInt8:=[115,97,108,116]
def keyR:List UInt8:=[18,15,182,207]
theorem key_val:keyL (keyK psL) saL 1 4=keyR:=by have h:=aw_key;simpa [psL,saL,keyR] using h
theorem tape_same (a:Addr) (w:World):(binOp .eql 26 (.pointer (some a)) (.pointer (some a))).run prog w=.ok (.bool true) w:=by
 cases hi:prog.info? 56 with
 | none=>
  have h:=infoTape;simp[hi] at h
 | some j=>exact run_eql_ptr_same w a underlying26 hi
structure SuBoth (w:World) (s1 s2 p1 c p2:Nat):Prop where
 real:SuiteAt w s1 none (some ⟨p1,0,none⟩)
 ideal:SuiteAt w s2 (some ⟨c,0,none⟩) (some ⟨p2,0,none⟩)
theorem SuBoth.kept {w w':World}{B s1 s2 p1 c p2:Nat}(h:SuBoth w s1 s2 p1 c p2) (hk:Kept B w w'):SuBoth w' s1 s2 p1 c p2:=⟨h.real.kept hk,h.ideal.kept hk⟩
theorem awake_ok (w:World):Calls prog 5 #[] w fun e w'=>e=.returned (.bool true)∧Below w.heap.size w w':=by
 obtain⟨B,hB⟩:∃ B,B=w.heap.size:=⟨_,rfl⟩;have hmk:=mk_zl w 100 100 rfl (by omega);obtain⟨wA,hwA⟩:∃ a,a=w.alloc (.cells (u8s (zl 100)).toArray 5):=⟨_,rfl⟩;have a1:Arr wA w.heap.size 5 (zl 100):=hwA ▸ heap_alloc_new w _;have bA:Below B w wA:=by rw[hwA,hB];exact (Below.refl _ _).alloc (Nat.le_refl _) _
 have ht:=tapeNewO_ok (arr_bytes' a1 zl_length (by omega)) (by rw[zl_length];omega);rw[← hwA] at hmk;replace hmk:=LH hmk;replace ht:=LH ht;replace bA:=LH bA;replace hB:=LH hB;clear a1 hwA;go_enter func5,ntmps5
 go_wp2_with (first|(refine wpList_run rfl _ (by unfold execOp;simp only[hmk.out,Sem.run_bind,Act.eval];rfl) ?_)|fail)
 refine ht.out.mono ?_;rintro e w1 ⟨p1,bv1,rfl,hT1,hb1⟩;have hreal:=LH (real_ok (some ⟨p1,0,none⟩) w1);have k1:Below B w w1:=bA.out.trans (hb1.mono (by have:=bA.out.size;have:=hB.out;omega));clear hT1 hmk ht bA hb1;replace k1:=LH k1
 go_wp2_with fail
 refine hreal.out.mono ?_;rintro e w2 ⟨s1,rfl,hs1,hr1,hb2⟩;have hcv:=conv_lit w2 #[.int .u8 48,.int .u8 49,.int .u8 50,.int .u8 51,.int .u8 52,.int .u8 53,.int .u8 54,.int .u8 55,.int .u8 56,.int .u8 57,.int .u8 97,.int .u8 98,.int .u8 99,.int .u8 100,.int .u8 101,.int .u8 102] 16 rfl;obtain⟨wB,hwB⟩:∃ a,a=w2.alloc (.cells #[.int .u8 48,.int .u8 49,.int .u8 50,.int .u8 51,.int .u8 52,.int .u8 53,.int .u8 54,.int .u8 55,.int .u8 56,.int .u8 57,.int .u8 97,.int .u8 98,.int .u8 99,.int .u8 100,.int .u8 101,.int .u8 102] 5 (16,16+1)):=⟨_,rfl⟩;have a2:wB.heap[w2.heap.size]?=some (.cells (u8s hex16).toArray 5 (16,17)):=hwB ▸ heap_alloc_new w2 _;have b2:Below w2.heap.size w2 wB:=by rw[hwB];exact (Below.refl _ _).alloc (Nat.le_refl _) _
 have ht2:=LH (tapeNewO_ok (row_bytes a2 (n:=16) rfl (by omega)) (by decide));obtain⟨B',hB'⟩:∃ B',B'=wB.heap.size:=⟨_,rfl⟩;have hs1':SuiteAt wB s1 none (some ⟨p1,0,none⟩):=(b2.block _ (heap_lt hr1)).trans hr1;have k2:Below B w wB:=(k1.out.trans (hb2.mono (by have:=k1.out.size;have:=hB.out;omega))).trans (b2.mono (by have:=k1.out.size;have:=hb2.size;have:=hB.out;omega));rw[← hwB] at hcv;rw[← hB'] at ht2;replace hB':=LH hB';replace hs1':=LH hs1';replace k2:=LH k2;replace hcv:=LH hcv;clear hwB a2 hreal b2 hr1 hb2 k1 hs1;have hcv':=hcv.out
 go_wp2_with fail
 refine ht2.out.mono ?_;clear hcv hcv';rintro e w3 ⟨p2,bv2,rfl,hT3,hb3⟩;have hid:=LH (suIdeal_ok (some ⟨p2,0,none⟩) w3)
 go_wp2_with fail
 refine hid.out.mono ?_;rintro e w4 ⟨s2,c,m,k,rfl,i1,i2,i3,i4,hS2,hI,hb4⟩;obtain⟨S,hSd⟩:∃ S:IdG,S=⟨p2,c,m,k,bv2,.slice none 0 0,hex16,[],0,0,[]⟩:=⟨_,rfl⟩;have hBw3:B'≤w3.heap.size:=by have:=hb3.size;have:=hB'.out;omega
 have hA:AwSt w4 B' s1 p1 s2 S 0 []:=by
  have hT4:=hT3.after hb4;have h1:SuiteAt w3 s1 none (some ⟨p1,0,none⟩):=(hb3.block _ (by rw[hB'.out];exact heap_lt hs1'.out)).trans hs1'.out;rw[hSd];exact⟨(hb4.block _ (heap_lt h1)).trans h1,hS2,⟨hT4,Nat.le_trans hBw3 hb4.size,hI.box,by show B'≤c;omega,by show B'≤m;omega,i2,heap_lt hI.keys,⟨_,_,hI.keys⟩,⟨_,_,hI.places,rfl,by simp⟩,by simp,List.Pairwise.nil,by simp,fun _ _=>rfl,PrsOk.nil,Nat.le_refl _,Nat.le_refl _,Nat.le_refl _,by show hex16.length≤_;decide⟩⟩
 have hS:S.b=hex16:=by rw[hSd]
 have hSc:S.c=c∧S.tp=p2:=by rw[hSd];exact⟨rfl,rfl⟩
 have hBB:B≤B':=by have:=k2.out.size;have:=hB.out;have:=hB'.out;omega
 have k4:Below B w w4:=(k2.out.trans (hb3.mono hBB)).trans (hb4.mono (by omega));have hBw4:=LH hA.st.room;replace hA:=LH hA;replace hS:=LH hS;replace hSc:=LH hSc;replace k4:=LH k4;clear hSd hBw3 hS2 hI hb4 hT3 hb3 k2 hs1' ht2 hid i1 i2 i3 i4;go_wp2;have hd5:∀ w3,Kept B' w4.drew w3→Kept B' w4 w3:=fun w3 h=>(Kept.chg hA.out.st.room ((Chg.refl No w4).drew)).trans h
 replace hd5:=LH hd5;refine RA.region (Kept B') (fun a b=>B'≤a.heap.size∧Chg No a b) [1,2,2,3,1,1,1,1,1] (fun i v w3=>∃ b,v=.slice (some ⟨b,0,none⟩) (if i=1 then 32 else 32) (if i=1 then 32 else 32)∧Arr w3 b 5 (zl (if i=1 then 32 else 32))) (fun w3=>AwSt w3 B' s1 p1 s2 S 0 []) (by kernel_rfl) (Kept.chg hA.out.st.room (Chg.refl _ _)) (fun _ _ h=>Kept.chg h.1 h.2) (fun _ _ _ h k=>h.trans k) (fun _ _ h k=>k.after (Chg.no h.2)) (hA.out.after (Chg.no ((Chg.refl _ _).drew))) (by kernel_rfl) ?_;intro cx
 repeat refine RA.qq (h:=?_)
 refine RA.fr (by kernel_rfl) (by rfl) (fun v a b h h2=>by
  obtain⟨b1,h3,h4⟩:=h2
  exact⟨b1,h3,arr_kept h4 h⟩) (fun w3 hp=>⟨.slice (some ⟨w3.heap.size,0,none⟩) 32 32,w3.alloc (.cells (u8s (zl 32)).toArray 5),by
   show (execOp _ _).run prog w3=_;have h1:=mk_zl w3 32 32 rfl (by omega);unfold execOp;exact congrArg (fun r=>r.andThen (fun x w'=>(Result.ok (Next.value x) w'))) h1,⟨Nat.le_trans hA.out.st.room (hd5.out _ hp.1).below.size,(Chg.refl _ _).alloc _⟩,w3.heap.size,rfl,heap_alloc_new w3 _⟩) (fun u1=>?_)
 refine RA.fr (by kernel_rfl) (by rfl) (fun v a b h h2=>by
  obtain⟨b1,h3,h4⟩:=h2
  exact⟨b1,h3,arr_kept h4 h⟩) (fun w3 hp=>⟨.slice (some ⟨w3.heap.size,0,none⟩) 32 32,w3.alloc (.cells (u8s (zl 32)).toArray 5),by
   show (execOp _ _).run prog w3=_;have h1:=mk_zl w3 32 32 rfl (by omega);unfold execOp;exact congrArg (fun r=>r.andThen (fun x w'=>(Result.ok (Next.value x) w'))) h1,⟨Nat.le_trans hA.out.st.room (hd5.out _ hp.1).below.size,(Chg.refl _ _).alloc _⟩,w3.heap.size,rfl,heap_alloc_new w3 _⟩) (fun u2=>?_)
 refine RA.qc (P:=prog) [.pointer (some ⟨s1,0,none⟩),.string wS,u1,.int .i64 0,u2] (fun v w3=>∃ x y z,v=.tuple #[.slice x y z,.int .i64 0]∧w3.ownsRow B' 5 1 (.slice x y z) 32 (u8s (xtsE (zl 32) 0 (zl 32)))) (fun _ w3=>AwSt w3 B' s1 p1 s2 S 0 []) (fun _ _=>by go_simp) (by kernel_rfl) (by rfl) (by rfl) (by kernel_rfl) (fun v a b h h2=>by
  obtain⟨x,y,z,h3,h4⟩:=h2;exact⟨x,y,z,h3,row_kept h4 h⟩) (fun v _ _ h k=>k.after (Chg.no h.2)) rfl (fun w3 hp hH=>by
  obtain⟨b1,h1,h2⟩:=hp.fact 1 rfl (by kernel_rfl);obtain⟨b2,h3,h4⟩:=hp.fact 0 rfl (by kernel_rfl);simp at h1 h3;subst h1;subst h3;refine (aw_real hH h2 h4).mono ?_;rintro e w5 ⟨x,y,z,rfl,q1,q2,q3⟩;exact⟨_,rfl,q2,⟨x,y,z,rfl,q1⟩,q3⟩) (fun u=>?_)
 repeat refine RA.qq (h:=?_)
 refine RA.ex (by kernel_rfl) (by rfl) (by rfl) (y':=proj u 0) (fun w3 hp=>by
  obtain⟨x,y,z,rfl,_⟩:=hp.fact 0 rfl (by kernel_rfl);rfl) ?_
 refine RA.ex (by kernel_rfl) (by rfl) (by rfl) (y':=proj u 1) (fun w3 hp=>by
  obtain⟨x,y,z,rfl,_⟩:=hp.fact 0 rfl (by kernel_rfl);rfl) ?_
 repeat refine RA.qq (h:=?_)
 refine RA.RA.done rfl (fun W5 hR hF hH=>?_);have hf:=hF _ (List.mem_cons_self ..);obtain⟨xa5,xn5,xc5,rfl,hrow5⟩:=hf;clear hF;simp only[RA.put,List.foldr_cons,List.foldr_nil,cx,Act.put,List.setIfInBounds_toArray,List.set_cons_succ,List.set_cons_zero,proj0,proj1];have hK5:=hd5.out _ hR;clear hR hd5 cx;have hA5:=LH hH;replace hrow5:=LH hrow5;replace hK5:=LH hK5;clear hH hA;go_wp2;have hd6:∀ w3,Kept B' W5.drew w3→Kept B' W5 w3:=fun w3 h=>(Kept.chg hA5.out.st.room ((Chg.refl No W5).drew)).trans h
 replace hd6:=LH hd6;refine RA.region (Kept B') (fun a b=>B'≤a.heap.size∧Chg No a b) [1,2,2,3,1,1,1,1,1] (fun i v w3=>∃ b,v=.slice (some ⟨b,0,none⟩) (if i=1 then 32 else 16) (if i=1 then 32 else 16)∧Arr w3 b 5 (zl (if i=1 then 32 else 16))) (fun w3=>AwSt w3 B' s1 p1 s2 S 0 []) (by kernel_rfl) (Kept.chg hA5.out.st.room (Chg.refl _ _)) (fun _ _ h=>Kept.chg h.1 h.2) (fun _ _ _ h k=>h.trans k) (fun _ _ h k=>k.after (Chg.no h.2)) (hA5.out.after (Chg.no ((Chg.refl _ _).drew))) (by kernel_rfl) ?_;intro cx
 repeat refine RA.qq (h:=?_)
 refine RA.fr (by kernel_rfl) (by rfl) (fun v a b h h2=>by
  obtain⟨b1,h3,h4⟩:=h2
  exact⟨b1,h3,arr_kept h4 h⟩) (fun w3 hp=>⟨.slice (some ⟨w3.heap.size,0,none⟩) 32 32,w3.alloc (.cells (u8s (zl 32)).toArray 5),by
   show (execOp _ _).run prog w3=_;have h1:=mk_zl w3 32 32 rfl (by omega);unfold execOp;exact congrArg (fun r=>r.andThen (fun x w'=>(Result.ok (Next.value x) w'))) h1,⟨Nat.le_trans hA5.out.st.room (hd6.out _ hp.1).below.size,(Chg.refl _ _).alloc _⟩,w3.heap.size,rfl,heap_alloc_new w3 _⟩) (fun u1=>?_)
 refine RA.fr (by kernel_rfl) (by rfl) (fun v a b h h2=>by
  obtain⟨b1,h3,h4⟩:=h2
  exact⟨b1,h3,arr_kept h4 h⟩) (fun w3 hp=>⟨.slice (some ⟨w3.heap.size,0,none⟩) 16 16,w3.alloc (.cells (u8s (zl 16)).toArray 5),by
   show (execOp _ _).run prog w3=_;have h1:=mk_zl w3 16 16 rfl (by omega);unfold execOp;exact congrArg (fun r=>r.andThen (fun x w'=>(Result.ok (Next.value x) w'))) h1,⟨Nat.le_trans hA5.out.st.room (hd6.out _ hp.1).below.size,(Chg.refl _ _).alloc _⟩,w3.heap.size,rfl,heap_alloc_new w3 _⟩) (fun u2=>?_)
 refine RA.qc (P:=prog) [.pointer (some ⟨s2,0,none⟩),.string wS,u1,.int .i64 0,u2] (fun v w3=>∃ x y z,v=.tuple #[.slice x y z,.int .i64 0]∧w3.ownsRow B' 5 1 (.slice x y z) 16 (u8s hex16)) (fun _ w3=>∃ S',AwSt w3 B' s1 p1 s2 S' 16 awP∧S'.c=S.c∧S'.tp=S.tp∧S'.b=hex16) (fun _ _=>by go_simp) (by kernel_rfl) (by rfl) (by rfl) (by kernel_rfl) (fun v a b h h2=>by
  obtain⟨x,y,z,h3,h4⟩:=h2;exact⟨x,y,z,h3,row_kept h4 h⟩) (fun v _ _ h k=>(by obtain⟨S',k1,k2⟩:=k;exact⟨S',k1.after (Chg.no h.2),k2⟩)) rfl (fun w3 hp hH=>by
  obtain⟨b1,h1,h2⟩:=hp.fact 1 rfl (by kernel_rfl);obtain⟨b2,h3,h4⟩:=hp.fact 0 rfl (by kernel_rfl);simp at h1 h3;subst h1;subst h3;refine (aw_ideal hH hS.out h2 h4).mono ?_;rintro e w5 ⟨x,y,z,rfl,q1,q2,q3⟩;exact⟨_,rfl,q2,⟨x,y,z,rfl,q1⟩,q3⟩) (fun u=>?_)
 repeat refine RA.qq (h:=?_)
 refine RA.ex (by kernel_rfl) (by rfl) (by rfl) (y':=proj u 0) (fun w3 hp=>by
  obtain⟨x,y,z,rfl,_⟩:=hp.fact 0 rfl (by kernel_rfl);rfl) ?_
 refine RA.ex (by kernel_rfl) (by rfl) (by rfl) (y':=proj u 1) (fun w3 hp=>by
  obtain⟨x,y,z,rfl,_⟩:=hp.fact 0 rfl (by kernel_rfl);rfl) ?_
 repeat refine RA.qq (h:=?_)
 refine RA.RA.done rfl (fun W6 hR hF hH=>?_);have hf:=hF _ (List.mem_cons_self ..);obtain⟨xa6,xn6,xc6,rfl,hrow6⟩:=hf;clear hF;simp only[RA.put,List.foldr_cons,List.foldr_nil,cx,Act.put,List.setIfInBounds_toArray,List.set_cons_succ,List.set_cons_zero,proj0,proj1];have hK6:=hd6.out _ hR;clear hR hd6 cx;obtain⟨S',hA6,hS6⟩:=hH;replace hA6:=LH hA6;replace hS6:=LH hS6;replace hrow6:=LH hrow6;replace hK6:=LH hK6;clear hA5;go_wp2;have hd7:∀ w3,Kept B' W6.drew w3→Kept B' W6 w3:=fun w3 h=>(Kept.chg hA6.out.st.room ((Chg.refl No W6).drew)).trans h
 replace hd7:=LH hd7;refine RA.region (Kept B') (fun a b=>B'≤a.heap.size∧Chg No a b) [1,2,2,3,1,1,1,1,1] (fun i v w3=>∃ b,v=.slice (some ⟨b,0,none⟩) (if i=1 then 32 else 16) (if i=1 then 32 else 16)∧Arr w3 b 5 (zl (if i=1 then 32 else 16))) (fun w3=>AwSt w3 B' s1 p1 s2 S' 16 awP) (by kernel_rfl) (Kept.chg hA6.out.st.room (Chg.refl _ _)) (fun _ _ h=>Kept.chg h.1 h.2) (fun _ _ _ h k=>h.trans k) (fun _ _ h k=>k.after (Chg.no h.2)) (hA6.out.after (Chg.no ((Chg.refl _ _).drew))) (by kernel_rfl) ?_;intro cx
 repeat refine RA.qq (h:=?_)
 refine RA.fr (by kernel_rfl) (by rfl) (fun v a b h h2=>by
  obtain⟨b1,h3,h4⟩:=h2
  exact⟨b1,h3,arr_kept h4 h⟩) (fun w3 hp=>⟨.slice (some ⟨w3.heap.size,0,none⟩) 32 32,w3.alloc (.cells (u8s (zl 32)).toArray 5),by
   show (execOp _ _).run prog w3=_;have h1:=mk_zl w3 32 32 rfl (by omega);unfold execOp;exact congrArg (fun r=>r.andThen (fun x w'=>(Result.ok (Next.value x) w'))) h1,⟨Nat.le_trans hA6.out.st.room (hd7.out _ hp.1).below.size,(Chg.refl _ _).alloc _⟩,w3.heap.size,rfl,heap_alloc_new w3 _⟩) (fun u1=>?_)
 refine RA.fr (by kernel_rfl) (by rfl) (fun v a b h h2=>by
  obtain⟨b1,h3,h4⟩:=h2
  exact⟨b1,h3,arr_kept h4 h⟩) (fun w3 hp=>⟨.slice (some ⟨w3.heap.size,0,none⟩) 16 16,w3.alloc (.cells (u8s (zl 16)).toArray 5),by
   show (execOp _ _).run prog w3=_;have h1:=mk_zl w3 16 16 rfl (by omega);unfold execOp;exact congrArg (fun r=>r.andThen (fun x w'=>(Result.ok (Next.value x) w'))) h1,⟨Nat.le_trans hA6.out.st.room (hd7.out _ hp.1).below.size,(Chg.refl _ _).alloc _⟩,w3.heap.size,rfl,heap_alloc_new w3 _⟩) (fun u2=>?_)
 refine RA.qc (P:=prog) [.pointer (some ⟨s2,0,none⟩),.string wS,u1,.int .i64 1,u2] (fun v w3=>∃ x y z,v=.tuple #[.slice x y z,.int .i64 9]∧True) (fun _ w3=>SuBoth w3 s1 s2 p1 c p2) (fun _ _=>by go_simp) (by kernel_rfl) (by rfl) (by rfl) (by kernel_rfl) (fun v a b h h2=>by
  obtain⟨x,y,z,h3,h4⟩:=h2;exact⟨x,y,z,h3,trivial⟩) (fun v _ _ h k=>SuBoth.kept k (Kept.chg h.1 h.2)) rfl (fun w3 hp hH=>by
  obtain⟨b1,h1,h2⟩:=hp.fact 1 rfl (by kernel_rfl);obtain⟨b2,h3,h4⟩:=hp.fact 0 rfl (by kernel_rfl);simp at h1 h3;subst h1;subst h3;refine (aw_open hH hS6.out.2.2 h2 h4).mono ?_;rintro e w5 ⟨rfl,q1⟩;exact⟨_,rfl,q1,⟨_,_,_,rfl,trivial⟩,⟨hH.real.kept q1,by have h5:=hH.ideal.kept q1;rw[hS6.out.1,hS6.out.2.1,hSc.out.1,hSc.out.2] at h5;exact h5⟩⟩) (fun u=>?_)
 repeat refine RA.qq (h:=?_)
 refine RA.ex (by kernel_rfl) (by rfl) (by rfl) (y':=proj u 0) (fun w3 hp=>by
  obtain⟨x,y,z,rfl,_⟩:=hp.fact 0 rfl (by kernel_rfl);rfl) ?_
 refine RA.ex (by kernel_rfl) (by rfl) (by rfl) (y':=proj u 1) (fun w3 hp=>by
  obtain⟨x,y,z,rfl,_⟩:=hp.fact 0 rfl (by kernel_rfl);rfl) ?_
 repeat refine RA.qq (h:=?_)
 refine RA.RA.done rfl (fun W7 hR hF hH=>?_);have hf:=hF _ (List.mem_cons_self ..);obtain⟨xa7,xn7,xc7,rfl,hrow7⟩:=hf;clear hF;simp only[RA.put,List.foldr_cons,List.foldr_nil,cx,Act.put,List.setIfInBounds_toArray,List.set_cons_succ,List.set_cons_zero,proj0,proj1];have hK7:=hd7.out _ hR;clear hR hd7 cx;replace hH:=LH hH;replace hK7:=LH hK7;clear hA6 hS6 hrow7 hS hSc;have hcv1:=conv_lit W7 #[.int .u8 112,.int .u8 97,.int .u8 115,.int .u8 115,.int .u8 119,.int .u8 111,.int .u8 114,.int .u8 100] 8 rfl;have hcv2:=conv_lit (W7.alloc (.cells #[.int .u8 112,.int .u8 97,.int .u8 115,.int .u8 115,.int .u8 119,.int .u8 111,.int .u8 114,.int .u8 100] 5 (8,8+1))) #[.int .u8 115,.int .u8 97,.int .u8 108,.int .u8 116] 4 rfl;simp only[World.size_alloc] at hcv2;obtain⟨X1,hX1⟩:∃ a,a=W7.alloc (.cells #[.int .u8 112,.int .u8 97,.int .u8 115,.int .u8 115,.int .u8 119,.int .u8 111,.int .u8 114,.int .u8 100] 5 (8,8+1)):=⟨_,rfl⟩;obtain⟨X2,hX2⟩:∃ a,a=X1.alloc (.cells #[.int .u8 115,.int .u8 97,.int .u8 108,.int .u8 116] 5 (4,4+1)):=⟨_,rfl⟩;have x1:X1.heap[W7.heap.size]?=some (.cells (u8s psL).toArray 5 (8,9)):=hX1 ▸ heap_alloc_new W7 _;have sX1:X1.heap.size=W7.heap.size+1:=by rw[hX1];simp
 have x2:X2.heap[W7.heap.size+1]?=some (.cells (u8s saL).toArray 5 (4,5)):=by rw[hX2,← sX1];exact heap_alloc_new X1 _
 have y1:Below W7.heap.size W7 X1:=by rw[hX1];exact (Below.refl _ _).alloc (Nat.le_refl _) _
 have y2:Below X1.heap.size X1 X2:=by rw[hX2];exact (Below.refl _ _).alloc (Nat.le_refl _) _
 have y12:Below W7.heap.size W7 X2:=y1.trans (y2.mono y1.size);have x1':=(y2.block _ (heap_lt x1)).trans x1;have hB7:B'≤W7.heap.size:=by have:=hBw4.out;have:=hK5.out.below.size;have:=hK6.out.below.size;have:=hK7.out.below.size;omega
 have hK8:Kept B' W7 X2:=Kept.chg hB7 (Chg.of_below y12 _)
 have hder:=derive_real (hH.out.real.kept hK8) (.string wS) (.slice (some ⟨W7.heap.size,0,none⟩) 8 8) (.slice (some ⟨W7.heap.size+1,0,none⟩) 4 4) 1 4 (fun e w'=>∃ a n c,e=.returned (.tuple #[.slice a n c,.int .i64 0])∧w'.ownsRow X2.heap.size 5 1 (.slice a n c) 4 (u8s keyR)∧Below X2.heap.size X2 w')
  ((key_any (row_bytes x1' (n:=8) rfl (by omega)) (row_bytes x2 (n:=4) rfl (by omega)) (by decide) (by decide) 1 4 (Nat.le_refl _) (by omega) (by omega)).mono (by
   rintro e w' ⟨v,rfl,h1,h2⟩;obtain⟨a,c,rfl,_,_⟩:=(Cells.own h1).shape;rw[key_val] at h1;exact⟨a,_,c,0,rfl,a,_,c,rfl,h1,h2⟩))
 have hcv1':(convert 22 22 (.slice (some ⟨W7.heap.size,0,none⟩) 8 8)).run prog (W7.alloc (.cells #[.int .u8 112,.int .u8 97,.int .u8 115,.int .u8 115,.int .u8 119,.int .u8 111,.int .u8 114,.int .u8 100] 5))=.ok (.slice (some ⟨W7.heap.size,0,none⟩) 8 8) X1:=by rw[hX1];exact hcv1
 have hcv2':(convert 22 22 (.slice (some ⟨W7.heap.size+1,0,none⟩) 4 4)).run prog (X1.alloc (.cells #[.int .u8 115,.int .u8 97,.int .u8 108,.int .u8 116] 5))=.ok (.slice (some ⟨W7.heap.size+1,0,none⟩) 4 4) X2:=by rw[hX2,hX1];exact hcv2
 clear hcv1 hcv2 hX1 hX2 x1 x2 x1' y1 y2;replace hder:=LH hder;replace hK8:=LH hK8;replace y12:=LH y12
 go_wp2_with fail
 refine hder.out.mono ?_;rintro e W8 ⟨ya,yn,yc,rfl,hrow10,hb8⟩;have hK78:Kept B' W7 W8:=hK8.out.trans (Kept.chg (Nat.le_trans hB7 hK8.out.below.size) (Chg.of_below hb8 _));have r5:=row_kept (row_kept (row_kept hrow5.out hK6.out) hK7.out) hK78;have r6:=row_kept (row_kept hrow6.out hK7.out) hK78;have hbo:=hH.out.kept hK78;obtain⟨g5,cp5,e5,q51,q52⟩:=own_shape r5 (by omega);obtain⟨g6,cp6,e6,q61,q62⟩:=own_shape r6 (by omega);obtain⟨g10,cp10,e10,q101,q102⟩:=own_shape hrow10 (by omega);simp only[Value.slice.injEq] at e5 e6 e10;obtain⟨rfl,rfl,rfl⟩:=e5;obtain⟨rfl,rfl,rfl⟩:=e6;obtain⟨rfl,rfl,rfl⟩:=e10
 have c5:W8.cell? ⟨g5,0,none⟩=some (.int .u8 145):=by
  have h0:=aw_val;obtain⟨X,hX⟩:∃ X,X=xtsE (zl 32) 0 (zl 32):=⟨_,rfl⟩;rw[← hX] at h0 r5;have hl:X.length=32:=by have:=r5.1;simpa [u8s_length] using this
  have h1:=r5.cells (g:=g5) rfl 0 _ (u8s_get X 0 (by omega));rw[Addr.add_lit] at h1
  have h2:(X[0]'(by omega))=145:=by
   have h3:X.getD 0 0=145:=by simpa using h0
   rw[List.getD_eq_getElem?_getD,List.getElem?_eq_getElem (by omega:0<X.length)] at h3;exact h3
  rw[h2] at h1;exact h1
 have cv6:(convert 22 9 (.slice (some ⟨g6,0,none⟩) 16 xc6)).run prog W8=.ok (.string ⟨#[48,49,50,51,52,53,54,55,56,57,97,98,99,100,101,102]⟩) W8:=run_string W8 _ _ _ underlying22 underlying5 underlying9 _ _ hex16 (Cells.own r6);have cv10:(convert 22 9 (.slice (some ⟨g10,0,none⟩) 4 yc)).run prog W8=.ok (.string ⟨#[18,15,182,207]⟩) W8:=run_string W8 _ _ _ underlying22 underlying5 underlying9 _ _ keyR (Cells.own hrow10);have t1:=LH (suTape_ok hbo.real);have t2:=LH (isIdeal_ok hbo.ideal);have t3:=LH (isIdeal_ok hbo.real);have t4:=LH (suTape_nil W8);have t5:=LH (seal_nil (.string wS) (.slice none 0 0) (.int .i64 0) (.slice none 0 0) W8);have heq:=tape_same ⟨p1,0,none⟩ W8;have hfin:Below B w W8:=k4.out.trans ((hK5.out.trans (hK6.out.trans (hK7.out.trans hK78))).below.mono hBB);unfold maxLen at q52 q62 q102;replace hfin:=LH hfin;clear hder r5 r6 hrow10 hrow5 hrow6 hbo hH hK78 hK8 hK7 hK6 hK5 k4 hb8 y12 hcv1' hcv2' hBw4
 go_wp2_with fail
 refine t5.out.mono ?_;rintro e w' ⟨rfl,rfl⟩
 go_wp2_with fail
 refine t1.out.mono ?_;rintro e w' ⟨rfl,rfl⟩
 go_wp2_with fail
 refine t2.out.mono ?_;rintro e w' ⟨rfl,rfl⟩
 go_wp2_with fail
 refine t3.out.mono ?_;rintro e w' ⟨rfl,rfl⟩
 go_wp2_with fail
 refine t4.out.mono ?_;rintro e w' ⟨rfl,rfl⟩;clear t1 t2 t3 t4 t5;go_wp2;go_ret;exact⟨rfl,hB.out ▸ hfin.out⟩
end Go.Proofs.YtbgfdbidbjlaaaaGreat.Fd

/-
  volume.base.all: all sectors of a state. No condition beyond what each theorem names.
-/
import Derived.Test.YthmcbgidehjlbaaGreatRmGAll1
namespace Go.Proofs.YthmcbgidehjlbaaGreat.RA
open _root_.Go.Proofs.Tryz
open Go
set_option maxRecDepth 100000
set_option maxHeartbeats 8000000
section
variable {c:Cx}{Z:Act→World→Prop}{os:List Oper}{i:Nat}{K:List (Nat×Value)}{G:List (Nat×(World→Prop))}{U:List Nat}{H:World→Prop}{ty:TypeId}{ps:String}{af:Array Edge}{gu:Option (Nat×Bool)}
theorem ex_callc {f:FuncId}{z:Operand}{caps:List Value}{xs:List Operand}{ats:Array TypeId}{ys:List Value}{ds:Option Nat}(hz:evo c K z=some (.func (.func f) #[] caps.toArray)) (ha:xs.map (evo c K)=ys.map some) (w:World){P:Program}
  (hf:(callFunc f (ys++caps).toArray).run P w=.ok (.enter f (ys++caps).toArray) w):
  (execOp (ev c.a0 K) ⟨ds,.call ⟨.value z,xs.toArray,ats⟩,ty,ps,af,gu⟩).run P w=.ok (.enter f (ys++caps).toArray) w:=by
 unfold execOp;simp only[resolve,invoke,evo_ev hz,List.map_toArray,map_evo ha]
 simpa [Deferred.ofValue] using hf
theorem qct {d:Nat}{P:Program}{f:FuncId}{z:Operand}{xs:List Operand}{ats:Array TypeId}(caps ys:List Value) (h':Value→World→Prop) (hf:∀ args w,(callFunc f args).run P w=.ok (.enter f args) w)
  (hk:kindOf c i=6) (hg:gd c.ops c.a0 K ⟨some d,.call ⟨.value z,xs.toArray,ats⟩,ty,ps,af,gu⟩=true) (hz:evo c K z=some (.func (.func f) #[] caps.toArray)) (ha:xs.map (evo c K)=ys.map some) (hu:(U.all fun k=>(c.pr.getD i 0).testBit k)=true) (he:∀ v,Stab c.E (h' v)) (hP:c.P=P)
  (hr:∀ w,PreT c i G w→H w→Calls P f (ys++caps).toArray w fun e w'=>∃ v,e=.returned v∧h' v w')
  (hn:∀ u,RA c Z os (i+1) ((d,u)::K) ((i,fun _=>True)::G) (i::U) (h' u)):RA c Z (⟨some d,.call ⟨.value z,xs.toArray,ats⟩,ty,ps,af,gu⟩::os) i K G U H:=
 RA.sqt h' hk hg he hu (fun w hp hH=>opw_calls (by rw[hP];exact ex_callc hz ha w (hf _ w)) (by rw[hP];exact (hr w hp hH).mono fun e w' ⟨v,h1,h2⟩=>⟨v,h1,h2⟩)) hn
end
end Go.Proofs.YthmcbgidehjlbaaGreat.RA
namespace Go.Proofs.YthmcbgidehjlbaaGreat.Fd
open _root_.Go.Proofs.Tryz
open Go Go.RowKit K
set_option maxRecDepth 100000
set_option maxHeartbeats 8000000
theorem setCell_same {w:World}{g j:Nat}{cs:Array Value}{t:TypeId}{m:Nat×Nat}{v:Value}(h:w.heap[g]?=some (.cells cs t m)) (hj:cs[j]?=some v):w.setCell ⟨g,j,none⟩ v=w:=by
 have e:(w.setCell ⟨g,j,none⟩ v).heap=w.heap:=by
  apply Array.ext_getElem?;intro i;by_cases hi:i=g
  ·subst hi;rw[setCell_block h,h,Array.setIfInBounds];congr 2;obtain⟨hl,he⟩:=Array.getElem?_eq_some_iff.1 hj;rw[dif_pos hl,← he];exact Array.set_getElem_self hl
  ·exact setCell_heap_ne _ _ _ hi
 show ({ w with heap:=(w.setCell ⟨g,j,none⟩ v).heap }:World)=w;rw[e]
structure AllSt (w0 wr:World) (xs:List Value) (q s b t m num:Nat) (tp:Option Addr) (gs:Nat→Nat) (key:List UInt8) (Ls:List (List UInt8)) (L:List UInt8) (og eg n:Nat) (ws:List (Nat×Value)):Prop where
 bx:BoxB wr q xs
 sx:wr.heap[q+1]?=some (.cells #[.pointer (some ⟨t,0,none⟩),.pointer (some ⟨m,0,none⟩),.int .i64 num] 100 (0,0))
 tr:TreeAt wr t b gs key Ls
 mr:MarksAt wr m L
 su:SuiteAt wr s none tp
 bk:Bk wr b n
 out:OutAt wr og eg w0.heap.size ws
 fr:BkG (fun g=>w0.heap.size≤g) b w0 wr
 sz:w0.heap.size≤wr.heap.size
section
variable {w0 wr w':World}{xs:List Value}{q s b t m num:Nat}{tp:Option Addr}{gs:Nat→Nat}{key:List UInt8}{Ls:List (List UInt8)}{L:List UInt8}{og eg n n':Nat}{ws ws':List (Nat×Value)}
theorem AllSt.below (h:AllSt w0 wr xs q s b t m num tp gs key Ls L og eg n ws) (hb:Below wr.heap.size wr w'):AllSt w0 w' xs q s b t m num tp gs key Ls L og eg n ws:=
 ⟨h.bx.chg (Chg.of_below hb _),(hb.block _ (heap_lt h.sx)).trans h.sx,h.tr.after hb,h.mr.after hb,(hb.block _ (heap_lt h.su)).trans h.su,h.bk.after hb,h.out.keep (fun g _ _ _ hg=>(hb.block g (heap_lt hg)).trans hg),h.fr.trans (BkG.of_below hb),Nat.le_trans h.sz hb.size⟩
theorem AllSt.bkg (h:AllSt w0 wr xs q s b t m num tp gs key Ls L og eg n ws) (hg:BkG No b wr w') (hB:Bk w' b n'):AllSt w0 w' xs q s b t m num tp gs key Ls L og eg n' ws:=
 ⟨⟨hg.at h.bk h.bx.at_ id (by decide) (by decide)⟩,hg.at h.bk h.sx id (by decide) (by decide),h.tr.bk h.bk hg,h.mr.bk h.bk hg,hg.at h.bk h.su id (by decide) (by decide),hB,h.out.keep (fun g cs ty hty hc=>hg.at h.bk hc id (by rcases hty with (rfl|rfl|rfl)|rfl<;>decide) (by rcases hty with (rfl|rfl|rfl)|rfl<;>decide)),h.fr.trans (hg.mono (fun _ _ e=>e.elim)),Nat.le_trans h.sz hg.size⟩
theorem AllSt.put (h:AllSt w0 wr xs q s b t m num tp gs key Ls L og eg n ws) (hO:OutAt w' og eg w0.heap.size ws') (hb:Below w0.heap.size wr w') (hF:FT OutT wr w'):AllSt w0 w' xs q s b t m num tp gs key Ls L og eg n ws':=by
 have hno:∀ {ty:TypeId},ty=96∨ty=100∨ty=127∨ty=189∨ty=5∨ty=190∨ty=179∨ty=195∨ty=145∨ty=223→¬ OutT ty:=by
  intro ty hty;rcases hty with rfl|rfl|rfl|rfl|rfl|rfl|rfl|rfl|rfl|rfl<;>(rintro (e|e|e)<;>exact absurd e (by decide))
 refine⟨⟨hF _ _ _ _ h.bx.at_ (hno (.inl rfl))⟩,hF _ _ _ _ h.sx (hno (.inr (.inl rfl))),h.tr.keep (fun g cs ty hty hg=>?_),h.mr.keep (fun g hg ⟨cs,ty,hty,hc⟩=>?_),hF _ _ _ _ h.su (hno (.inr (.inr (.inl rfl)))),h.bk.keep (fun g hg _=>?_),hO,h.fr.trans (BkG.of_chg (C:=fun g=>w0.heap.size≤g) ⟨hb.os,hb.tape,hb.output,hb.size,fun g _ hg=>hb.block g (by omega)⟩),Nat.le_trans h.sz hb.size⟩
 ·rw[hg];refine hF _ _ _ _ hg (hno ?_);rcases hty with rfl|rfl|rfl|rfl<;>simp
 ·rw[hc];refine hF _ _ _ _ hc (hno ?_);rcases hty with rfl|rfl<;>simp
 ·rcases hg with rfl|⟨_,cs,m,hc⟩
  ·obtain⟨lv,hc⟩:=h.bk.box;rw[hc];exact hF _ _ _ _ hc (hno (by simp))
  ·rw[hc];exact hF _ _ _ _ hc (hno (by simp))
end
theorem voAll_ok {w:World}{xs:List Value}{d s b n t m:Nat}{what:ByteArray}{A M:List UInt8}{tp:Option Addr}{gs:Nat→Nat}{Ls:List (List UInt8)}{L key:List UInt8}(h:BaseIs xs d s b what A M) (hs:SuiteAt w s none tp) (hT:TreeAt w t b gs key Ls) (hLs:Ls.length=4) (hB:Bk w b n) (hn:n<1000000) (hm:MarksAt w m L) (num:Nat) (hnum:num≤1000000):
  Calls prog 63 #[.agg xs.toArray,.agg #[.pointer (some ⟨t,0,none⟩),.pointer (some ⟨m,0,none⟩),.int .i64 num]] w fun e w'=>∃ ov,e=.returned (.tuple #[ov,.int .i64 0])∧(∃ ws,ws.length=15∧w'.ownsRow w.heap.size 142 2 ov 15 (wsL ws)∧(∀ p ∈ ws,p.1<120∧∃ Z:List UInt8,Z.length=64∧w'.ownsRow w.heap.size 5 1 p.2 64 (u8s Z)))∧Bk w' b (n+1)∧TreeAt w' t b gs key Ls∧MarksAt w' m L∧BkG No b w w':=by
 obtain⟨q,hq⟩:∃ q,q=w.heap.size:=⟨_,rfl⟩;obtain⟨w1,hw1⟩:∃ w1,w1=(((w.alloc (.cells xs.toArray 96)).alloc (.cells #[.pointer (some ⟨t,0,none⟩),.pointer (some ⟨m,0,none⟩),.int .i64 num] 100)).alloc (.cells #[.slice none 0 0] 105)).alloc (.cells #[.int .i64 0] 47):=⟨_,rfl⟩;have b1:Below w.heap.size w w1:=by rw[hw1];exact ((((Below.refl _ _).alloc (Nat.le_refl _) _).alloc (by simp) _).alloc (by simp;omega) _).alloc (by simp;omega) _
 have hlast:∀ (W:World) (o o':Obj),((W.alloc o).alloc o').heap[W.heap.size]?=some o:=fun W o o'=>(Below.heap_alloc _ _ _ (by simp)).trans (heap_alloc_new W o)
 have x0:w1.heap[q]?=some (.cells xs.toArray 96 (0,0)):=by
  rw[hw1,hq];exact (Below.heap_alloc _ _ _ (by simp;omega)).trans ((Below.heap_alloc _ _ _ (by simp;omega)).trans (hlast w _ _))
 have x1:w1.heap[q+1]?=some (.cells #[.pointer (some ⟨t,0,none⟩),.pointer (some ⟨m,0,none⟩),.int .i64 num] 100 (0,0)):=by
  rw[hw1,hq];have h:=hlast (w.alloc (.cells xs.toArray 96)) (.cells #[.pointer (some ⟨t,0,none⟩),.pointer (some ⟨m,0,none⟩),.int .i64 num] 100) (.cells #[.slice none 0 0] 105);simp only[World.size_alloc] at h;exact (Below.heap_alloc _ _ _ (by simp)).trans h
 have x2:w1.heap[q+1+1]?=some (.cells #[.slice none 0 0] 105 (0,0)):=by
  rw[hw1,hq];have h:=hlast ((w.alloc (.cells xs.toArray 96)).alloc (.cells #[.pointer (some ⟨t,0,none⟩),.pointer (some ⟨m,0,none⟩),.int .i64 num] 100)) (.cells #[.slice none 0 0] 105) (.cells #[.int .i64 0] 47);simp only[World.size_alloc] at h;exact h
 have x3:w1.heap[q+1+1+1]?=some (.cells #[.int .i64 0] 47 (0,0)):=by
  rw[hw1,hq];have h:=heap_alloc_new (((w.alloc (.cells xs.toArray 96)).alloc (.cells #[.pointer (some ⟨t,0,none⟩),.pointer (some ⟨m,0,none⟩),.int .i64 num] 100)).alloc (.cells #[.slice none 0 0] 105)) (.cells #[.int .i64 0] 47);simp only[World.size_alloc] at h;exact h
 obtain⟨og,hog⟩:∃ x,x=q+1+1:=⟨_,rfl⟩;obtain⟨eg,heg⟩:∃ x,x=og+1:=⟨_,rfl⟩
 have S1:AllSt w w1 xs q s b t m num tp gs key Ls L og eg n []:=
  ⟨⟨x0⟩,x1,hT.after b1,hm.after b1,(b1.block s (heap_lt hs)).trans hs,hB.after b1,⟨⟨_,by rw[hog];exact x2,World.ownsRow_nil _ _ _ _⟩,by rw[heg,hog];exact x3,fun p hp=>absurd hp (by simp),by omega,by omega⟩,BkG.of_below b1,b1.size⟩
 have hld:∀ w3,BoxB w3 q xs→(Instr.loadAt 96 (.pointer (some ⟨q,0,none⟩))).run prog w3=.ok (.agg xs.toArray) w3:=fun w3 hx=>hx.load h.len
 have hTb:=fun w3=>voTables_ok h w3
 have hMp:=fun w3=>voMaps_ok h w3
 have hMA:=fun w3=>voMapAt_ok h w3
 have hSe:=fun (w3:World) (hs:SuiteAt w3 s none tp) (a:Nat) (ha:a≤65536) (S:Nat→Prop) (dv:Value) (l:List UInt8) (hd:Bytes w3 S dv l) (hl:l.length≤64)=>voSeal_ok h hs a ha hd hl
 have hRo:=fun (w3:World) (ws:List (Nat×Value)) (S3:AllSt w w3 xs q s b t m num tp gs key Ls L og eg n ws)=>voRoot_ok h S3.su S3.tr hLs S3.bk hn S3.mr num hnum
 obtain⟨c,hc⟩:∃ c,c=xs.toArray:=⟨_,rfl⟩;rw[← hc] at hw1 hld hTb hMp hMA hSe hRo ⊢;replace hc:=LH hc;replace hld:=LH hld;replace hTb:=LH hTb;replace hMp:=LH hMp;replace hMA:=LH hMA;replace hSe:=LH hSe;replace hRo:=LH hRo;replace h:=LH h;replace S1:=LH S1;have e102:=LH (fun w3 (hx:BoxB w3 q xs)=>hx.get h.out.c102);clear x0 x1 x2 x3 b1 hlast hT hm hB hs;go_enter func63,ntmps63;have hw1':=LH hw1
 go_wp2_with (first|(rw[← hw1,← hq,← hog,← heg];refine wpList_load rfl 96 _ rfl _ _ rfl (hld.out _ S1.out.bx) ?_)|fail)
 rw[← hw1,← hq,← hog,← heg];replace hw1:=LH hw1;replace hq:=LH hq;replace hog:=LH hog;replace heg:=LH heg;refine (hTb.out w1).mono ?_;rintro e w2 ⟨rfl,hb2⟩;have S2:=LH (S1.out.below hb2);clear hb2 S1 hTb;go_wp2
 go_loopg [12] 13 (fun g ix wr=>∃ k ws,k+g=13∧ix=.int .i64 (k:Nat)∧List.length ws=k∧Hid (AllSt w wr xs q s b t m num tp gs key Ls L og eg n ws))
 case atStart=>exact⟨0,[],by omega,rfl,rfl,S2.out⟩
 case round=>
  obtain⟨k,ws,hkg,rfl,hwl,S⟩:=hrel;by_cases hlt:k<13
  ·obtain⟨g1,rfl⟩:∃ i,gk=i+1:=⟨gk - 1,by omega⟩;have hlI:(k:Int)<13:=by omega
   obtain⟨Y,hY⟩:∃ Y,Y=10+k:=⟨_,rfl⟩;have hYI:(10:Int)+k=Y:=by omega
   have hY23:Y<23:=by omega
   obtain⟨wo,rfl⟩:∃ wo:World,wo=wr:=⟨_,rfl⟩;have hdr:∀ w3,Chg No wo.drew w3→Chg No wo w3:=fun w3 h=>⟨h.os,h.tape,h.output,h.size,h.block⟩
   have hSt:∀ w3,Chg No wo.drew w3→AllSt w w3 xs q s b t m num tp gs key Ls L og eg n ws:=fun w3 h=>S.out.below (hdr w3 h).no
   replace hSt:=LH hSt;replace hdr:=LH hdr;replace hY:=LH hY;go_wp2;refine RA.rt (Chg No) [1,1,1,1,1,1,1,1,1,1,3,3,1,1,6] [14] (fun _=>True) (trivial) (fun _=>Chg.refl _ _) (fun _ _ _ h k=>h.trans k) (h:=?_);intro cx
   repeat refine RA.qq (h:=?_)
   refine RA.ld (by kernel_rfl) (by rfl) (by rfl) (y':=.agg c) (fun w3 hp=>hld.out w3 (hSt.out _ hp.1).bx) ?_;refine RA.fk prog (q) (102) (h:=?_);refine RA.fk prog (q) (102) (h:=?_);refine RA.lk prog (.int .i64 10) (hc:=fun w3 hp=>by exact e102.out _ (hSt.out _ hp.1).bx) (h:=?_)
   repeat refine RA.qq (h:=?_)
   refine RA.vw prog (.int .i64 Y) (h:=?_);refine RA.fk prog (q+1) (0) (h:=?_);refine RA.lk prog (.pointer (some ⟨t,0,none⟩)) (hc:=fun w3 hp=>by exact cell_of (hSt.out _ hp.1).sx 0) (h:=?_)
   repeat refine RA.qq (h:=?_)
   refine RA.qc (P:=prog) [.pointer (some ⟨t,0,none⟩),.int .i64 k] (fun v w3=>∃ l:List UInt8,l.length=64∧Bytes w3 (fun _=>True) v l) (fun _ _=>True) (fun _ _=>by go_simp) (by kernel_rfl) (by rfl) (by rfl) (by kernel_rfl) (fun v a b h h2=>by
    obtain⟨l,k1,k2⟩:=h2;exact⟨l,k1,k2.chg h (fun _ _ _=>id)⟩) (fun _ _ _ _ h=>h) rfl (fun w3 hp hH=>by
    refine (voTable_ok (hSt.out _ hp.1).tr (by omega) k (by omega)).mono ?_;rintro e w4 ⟨v,rfl,k1,k2⟩;refine⟨v,rfl,Chg.of_below k2 _,⟨tagsL (Ls.getD 0 []) (4*k) 4,tagsL_length,?_⟩,trivial⟩;show Cells w4 _ _ (tagsL (Ls.getD 0 []) (4*k) 4).length 1 _;rw[tagsL_length];exact (Cells.own k1).mono (fun _ _ _=>trivial)) (fun u=>?_)
   refine RA.qc (P:=prog) [.agg c,.int .i64 Y,u] (fun v w3=>∃ z Z,v=.tuple #[.agg #[.int .i64 Y,z],.int .i64 0]∧List.length Z=64∧w3.ownsRow w.heap.size 5 1 z 64 (u8s Z)) (fun _ _=>True) (fun _ _=>by go_simp) (by kernel_rfl) (by rfl) (by rfl) (by kernel_rfl) (fun v a b h h2=>by
    obtain⟨z,Z,k1,k2,k3⟩:=h2;exact⟨z,Z,k1,k2,owns_keep k3 (fun g hg=>h.block g (owns_lt k3 g hg) id)⟩) (fun _ _ _ _ h=>h) rfl (fun w3 hp hH=>by
    have hS3:=hSt.out _ hp.1;obtain⟨l,k1,k2⟩:=hp.fact 0 rfl (by kernel_rfl);refine (hSe.out w3 hS3.su Y (by omega) _ _ l k2 (by omega)).mono ?_;rintro e w4 ⟨v,rfl,k3,k4⟩;exact⟨_,rfl,Chg.of_below k4 _,⟨v,_,rfl,by rw[xtsE_length (by rw[pad_length (by omega)])];exact pad_length (by omega),owns_base k3 hS3.sz⟩,trivial⟩) (fun z=>?_)
   refine RA.vk prog (tup z 0) (hr:=fun w3 hp=>by
    obtain⟨v,Z,rfl,_⟩:=hp.fact 0 rfl (by kernel_rfl);clear hp;go_simp;rfl) (h:=?_)
   refine RA.vk prog (tup z 1) (hr:=fun w3 hp=>by
    obtain⟨v,Z,rfl,_⟩:=hp.fact 0 rfl (by kernel_rfl);clear hp;go_simp;rfl) (h:=?_)
   refine RA.qct (P:=prog) (f:=100) [.pointer (some ⟨eg,0,none⟩),.pointer (some ⟨og,0,none⟩)] [tup z 0,tup z 1] (fun _ w4=>∃ p,AllSt w w4 xs q s b t m num tp gs key Ls L og eg n (ws++[p])) (fun _ _=>by go_simp) (by kernel_rfl) (by rfl) (by rfl) (by rfl) (by kernel_rfl) (fun _ _ _ h k=>h ▸ k) rfl (fun w3 hp0 hH=>by
    have hp:=hp0.first (by kernel_rfl);have hS3:=hSt.out _ hp.1;obtain⟨v,Z,rfl,k2,k3⟩:=hp.fact 0 rfl (by kernel_rfl);refine (voAll1_ok hS3.out hS3.sz (by omega) Y (by omega) k2 k3).mono ?_;rintro e w4 ⟨rfl,j1,j2,j3,-⟩;exact⟨_,rfl,(Y,v),hS3.put j1 j2 j3⟩) (fun r=>?_)
   refine RA.RA.doneT (fun w5 hH=>?_);simp only[RA.put,List.foldr_cons,List.foldr_nil,cx,Act.put,List.setIfInBounds_toArray,List.set_cons_succ,List.set_cons_zero];obtain⟨p,S5⟩:=hH;replace S5:=LH S5;go_wp2;go_roundg g1
   case measure=>omega
   case rel=>exact⟨k+1,ws++[p],by omega,by go_num,by simp[hwl],S5.out⟩
  ·obtain rfl:gk=0:=by omega
   obtain rfl:k=13:=by omega
   obtain⟨wo,rfl⟩:∃ wo:World,wo=wr:=⟨_,rfl⟩;clear hlt hkg
   go_wp2_with (first|(refine wpList_load rfl 96 _ rfl _ _ rfl (hld.out _ S.out.bx) ?_)|fail)
   refine (hMp.out wo).mono ?_;rintro e w3 ⟨rfl,hb3⟩;have S3:=LH (S.out.below hb3);clear hb3 S hMp;go_wp2
   go_loopg [33] 1 (fun g ix wr=>∃ ws,((g=1∧ix=.int .i64 0∧List.length ws=13)∨(g=0∧ix=.int .i64 1∧List.length ws=14))∧Hid (AllSt w wr xs q s b t m num tp gs key Ls L og eg n ws))
   case atStart=>exact⟨ws,.inl ⟨rfl,rfl,hwl⟩,S3.out⟩
   case round=>
    obtain⟨ws,hws,S⟩:=hrel;obtain⟨wo,rfl⟩:∃ wo:World,wo=wr:=⟨_,rfl⟩;rcases hws with ⟨rfl,rfl,hwl⟩|⟨rfl,rfl,hwl⟩
    ·have hdr:∀ w3,Chg No wo.drew w3→Chg No wo w3:=fun w3 h=>⟨h.os,h.tape,h.output,h.size,h.block⟩
     have hSt:∀ w3,Chg No wo.drew w3→AllSt w w3 xs q s b t m num tp gs key Ls L og eg n ws:=fun w3 h=>S.out.below (hdr w3 h).no
     replace hSt:=LH hSt;replace hdr:=LH hdr;go_wp2;refine RA.rt (Chg No) [1,1,1,4,1,1,1,1,1,3,3,1,1,6] [13] (fun _=>True) (trivial) (fun _=>Chg.refl _ _) (fun _ _ _ h k=>h.trans k) (h:=?_);intro cx
     repeat refine RA.qq (h:=?_)
     refine RA.ld (by kernel_rfl) (by rfl) (by rfl) (y':=.agg c) (fun w3 hp=>hld.out w3 (hSt.out _ hp.1).bx) ?_;refine RA.ld (by kernel_rfl) (by rfl) (by rfl) (y':=.agg c) (fun w3 hp=>hld.out w3 (hSt.out _ hp.1).bx) ?_;refine RA.kc (P:=prog) [.agg c] (.int .i64 23) (fun _=>True) (fun _ _=>by go_simp) (by kernel_rfl) (by rfl) (by rfl) (by kernel_rfl) (fun _ _ _ h=>h) rfl (fun w3 hp hH=>(hMA.out w3).mono (by rintro e w4 ⟨rfl,h2⟩;exact⟨rfl,Chg.of_below h2 _,trivial⟩)) ?_
     repeat refine RA.qq (h:=?_)
     refine RA.vk prog (.int .i64 23) (hr:=fun w hp=>by (try go_simp);rfl) (h:=?_);refine RA.fk prog (q+1) (1) (h:=?_);refine RA.lk prog (.pointer (some ⟨m,0,none⟩)) (hc:=fun w3 hp=>by exact cell_of (hSt.out _ hp.1).sx 1) (h:=?_)
     repeat refine RA.qq (h:=?_)
     refine RA.qc (P:=prog) [.pointer (some ⟨m,0,none⟩),.int .i64 0] (fun v w3=>Bytes w3 (fun _=>True) v L) (fun _ _=>True) (fun _ _=>by go_simp) (by kernel_rfl) (by rfl) (by rfl) (by kernel_rfl) (fun v a b h h2=>h2.chg h (fun _ _ _=>id)) (fun _ _ _ _ h=>h) rfl (fun w3 hp hH=>by
      refine (voMapped_ok (hSt.out _ hp.1).mr).mono ?_;rintro e w4 ⟨v,rfl,k1,k2⟩;exact⟨v,rfl,Chg.of_below k2 _,k1,trivial⟩) (fun u=>?_)
     refine RA.qc (P:=prog) [.agg c,.int .i64 23,u] (fun v w3=>∃ z Z,v=.tuple #[.agg #[.int .i64 23,z],.int .i64 0]∧List.length Z=64∧w3.ownsRow w.heap.size 5 1 z 64 (u8s Z)) (fun _ _=>True) (fun _ _=>by go_simp) (by kernel_rfl) (by rfl) (by rfl) (by kernel_rfl) (fun v a b h h2=>by
      obtain⟨z,Z,k1,k2,k3⟩:=h2;exact⟨z,Z,k1,k2,owns_keep k3 (fun g hg=>h.block g (owns_lt k3 g hg) id)⟩) (fun _ _ _ _ h=>h) rfl (fun w3 hp hH=>by
      have hS3:=hSt.out _ hp.1;have k2:=(show Bytes w3 (fun _=>True) u L from hp.fact 0 rfl (by kernel_rfl));have hL7:=hS3.mr.len;refine (hSe.out w3 hS3.su 23 (by omega) _ _ L k2 (by omega)).mono ?_;rintro e w4 ⟨v,rfl,k3,k4⟩;exact⟨_,rfl,Chg.of_below k4 _,⟨v,_,rfl,by rw[xtsE_length (by rw[pad_length (by omega)])];exact pad_length (by omega),owns_base k3 hS3.sz⟩,trivial⟩) (fun z=>?_)
     refine RA.vk prog (tup z 0) (hr:=fun w3 hp=>by
      obtain⟨v,Z,rfl,_⟩:=hp.fact 0 rfl (by kernel_rfl);clear hp;go_simp;rfl) (h:=?_)
     refine RA.vk prog (tup z 1) (hr:=fun w3 hp=>by
      obtain⟨v,Z,rfl,_⟩:=hp.fact 0 rfl (by kernel_rfl);clear hp;go_simp;rfl) (h:=?_)
     refine RA.qct (P:=prog) (f:=100) [.pointer (some ⟨eg,0,none⟩),.pointer (some ⟨og,0,none⟩)] [tup z 0,tup z 1] (fun _ w4=>∃ p,AllSt w w4 xs q s b t m num tp gs key Ls L og eg n (ws++[p])) (fun _ _=>by go_simp) (by kernel_rfl) (by rfl) (by rfl) (by rfl) (by kernel_rfl) (fun _ _ _ h k=>h ▸ k) rfl (fun w3 hp0 hH=>by
      have hp:=hp0.first (by kernel_rfl);have hS3:=hSt.out _ hp.1;obtain⟨v,Z,rfl,k2,k3⟩:=hp.fact 0 rfl (by kernel_rfl);refine (voAll1_ok hS3.out hS3.sz (by omega) 23 (by omega) k2 k3).mono ?_;rintro e w4 ⟨rfl,j1,j2,j3,-⟩;exact⟨_,rfl,(23,v),hS3.put j1 j2 j3⟩) (fun r=>?_)
     refine RA.RA.doneT (fun w5 hH=>?_);simp only[RA.put,List.foldr_cons,List.foldr_nil,cx,Act.put,List.setIfInBounds_toArray,List.set_cons_succ,List.set_cons_zero];obtain⟨p,S5⟩:=hH;replace S5:=LH S5;go_wp2;go_roundg 0
     case measure=>omega
     case rel=>exact⟨ws++[p],.inr ⟨rfl,rfl,by simp[hwl]⟩,S5.out⟩
    ·have hst:=LH (load_struct (P:=prog) (w:=wo) (g:=q+1) (off:=0) (ty:=100) (x:=[.pointer (some ⟨t,0,none⟩),.pointer (some ⟨m,0,none⟩),.int .i64 num]) underlying100 (by kernel_rfl) (fun j v hv=>by rw[Nat.zero_add,cell_of S.out.sx];simpa using hv))
     go_wp2_with (first|(refine wpList_load rfl 96 _ rfl _ _ rfl (hld.out _ S.out.bx) ?_)|(refine wpList_load rfl 100 _ rfl _ _ rfl hst.out ?_)|fail)
     refine (hRo.out wo ws S.out).mono ?_;rintro e w3 ⟨v,rfl,⟨Z,hZl,hv⟩,hB3,hG3⟩;have S3:=S.out.bkg hG3 hB3;have hcl:=LH (voAll1_ok S3.out S3.sz (by omega) 24 (by omega) hZl (owns_base hv S.out.sz));replace S3:=LH S3;clear hG3 hB3 hv S hst
     go_wp2_with fail
     refine hcl.out.mono ?_;rintro e w4 ⟨rfl,j1,j2,j3,-⟩;have S4:=S3.out.put j1 j2 j3;obtain⟨ov,o1,o2⟩:=S4.out.box;have o3:=S4.out.err;clear j1 j2 j3 hcl S3;replace S4:=LH S4;go_wp2;obtain⟨oa,oc,rfl,_⟩:=(Cells.own o2).shape;have hl15:(ws++[(24,v)]).length=15:=by rw[List.length_append,hwl];rfl
     rw[hl15] at o2 o1
     have hs0:∀ w5,w4.drew=w5→(Instr.storeAt 105 (.pointer (some ⟨og,0,none⟩)) (.slice oa 15 oc)).run prog w5=.ok () w5:=fun w5 e=>by
      subst e;have f0:w4.drew.cell? ⟨og,0,none⟩=some (.slice oa 15 oc):=cell_of o1 0;have f1:w4.drew.frozen? ⟨og,0,none⟩=false:=frozen_of o1 0;have f2:w4.drew.setCell ⟨og,0,none⟩ (.slice oa 15 oc)=w4.drew:=setCell_same (w:=w4.drew) o1 rfl;clear o1 o2 o3;go_simp
     have hs1:∀ w5,w4.drew=w5→(Instr.storeAt 47 (.pointer (some ⟨eg,0,none⟩)) (.int .i64 0)).run prog w5=.ok () w5:=fun w5 e=>by
      subst e;have f0:w4.drew.cell? ⟨eg,0,none⟩=some (.int .i64 0):=cell_of o3 0;have f1:w4.drew.frozen? ⟨eg,0,none⟩=false:=frozen_of o3 0;have f2:w4.drew.setCell ⟨eg,0,none⟩ (.int .i64 0)=w4.drew:=setCell_same (w:=w4.drew) o3 rfl;clear o1 o2 o3;go_simp
     have p0:∀ w5,w4.drew=w5→w5.cell? ⟨og,0,none⟩=some (.slice oa 15 oc):=fun w5 e=>by subst e;exact cell_of o1 0
     have p1:∀ w5,w4.drew=w5→w5.cell? ⟨eg,0,none⟩=some (.int .i64 0):=fun w5 e=>by subst e;exact cell_of o3 0
     have k0:w4.drew.cell? ⟨og,0,none⟩=some (.slice oa 15 oc):=cell_of o1 0;have k1:w4.drew.cell? ⟨eg,0,none⟩=some (.int .i64 0):=cell_of o3 0;have hels:=S4.out.out.els;have hfin:BkG No b w w4:=S4.out.fr.mono (fun g hg e=>absurd e (by omega));replace hs0:=LH hs0;replace hs1:=LH hs1;replace p0:=LH p0;replace p1:=LH p1;replace o2:=LH o2;replace hels:=LH hels;replace hfin:=LH hfin;replace k0:=LH k0;replace k1:=LH k1;clear o1 o3;refine RA.region (·=·) (·=·) [1,1,2,2] (fun _ _ _=>True) (fun _=>True) (by kernel_rfl) rfl (fun _ _ h=>h) (fun _ _ _ h k=>h.trans k) (fun _ _ _ _=>trivial) trivial (by kernel_rfl) ?_;intro cx;refine RA.lk prog (.slice oa 15 oc) (hc:=fun w3 hp=>by exact p0.out _ hp.1) (h:=?_);refine RA.lk prog (.int .i64 0) (hc:=fun w3 hp=>by exact p1.out _ hp.1) (h:=?_);refine RA.nst (by rfl) (by rfl) (fun w=>rfl) (fun _ _=>trivial) (fun w3 hp=>RA.ex_store (by rfl) (by rfl) (hs0.out w3 hp.1)) (fun u1=>?_);refine RA.nst (by rfl) (by rfl) (fun w=>rfl) (fun _ _=>trivial) (fun w3 hp=>RA.ex_store (by rfl) (by rfl) (hs1.out w3 hp.1)) (fun u2=>?_);refine RA.RA.done rfl (fun w6 hR hF hH=>?_);clear hF hH;simp only[RA.put,List.foldr_cons,List.foldr_nil,cx,Act.put,List.setIfInBounds_toArray,List.set_cons_succ,List.set_cons_zero]
     try simp only[Bool.not_true]
     try simp only[Bool.not_false]
     have hR':w4.drew=w6:=hR;clear hR;have k0':=p0.out w6 hR';have k1':=p1.out w6 hR';replace hR':=LH hR';go_wp2;refine bodyPost_ret (v:=.tuple #[.slice oa 15 oc,.int .i64 0]) (by simp[results,results63,go_sem,k0',k1'];try rfl) rfl ?_;obtain rfl:=hR'.out;refine⟨_,rfl,⟨_,hl15,o2.out,hels.out⟩,S4.out.bk.keep (fun _ _ _=>rfl),S4.out.tr.keep (fun _ _ _ _ _=>rfl),S4.out.mr.keep (fun _ _ _=>rfl),Chg.drew hfin.out⟩
end Go.Proofs.YthmcbgidehjlbaaGreat.Fd

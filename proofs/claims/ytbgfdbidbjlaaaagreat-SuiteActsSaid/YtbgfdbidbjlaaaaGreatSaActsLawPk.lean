/-
  Texts of this claim, laid together by a program of mine. No condition beyond what each theorem names.
-/
import Derived.Test.YtbgfdbidbjlaaaaGreatSaQSuDerPk
import Derived.Test.YtbgfdbidbjlaaaaGreatSaAwG
import Derived.Test.YtbgfdbidbjlaaaaGreatSaXdec
/-
  SuiteActs over whatever state stands between the acts: one walk. No condition beyond what each theorem names.
-/
namespace Go.Proofs.YtbgfdbidbjlaaaaGreat.Fd
open _root_.Go.Proofs.Tryz
open Go Go.RowKit K
set_option maxRecDepth 100000
set_option maxHeartbeats 16000000
theorem made_id (t:Option Addr) (w:World) (Q:Ending→World→Prop) (h:Calls prog 17 #[.pointer t] w fun e w'=>∃ p,e=.returned (.pointer (some p))∧Q e w'):Calls prog 7 #[.pointer t,.bool true] w Q:=by
 replace h:=LH h;go_enter func7,ntmps7
 go_wp2_with fail
 refine h.out.mono ?_;rintro e w' ⟨p,rfl,hQ⟩;replace hQ:=LH hQ;go_wp2;exact hQ.out
theorem made_re (t:Option Addr) (w:World) (Q:Ending→World→Prop) (h:Calls prog 16 #[.pointer t] w fun e w'=>∃ p,e=.returned (.pointer (some p))∧Q e w'):Calls prog 7 #[.pointer t,.bool false] w Q:=by
 replace h:=LH h;go_enter func7,ntmps7
 go_wp2_with fail
 refine h.out.mono ?_;rintro e w' ⟨p,rfl,hQ⟩;replace hQ:=LH hQ;go_wp2;exact hQ.out
def KpA (w w':World):Prop:=w.heap.size≤w'.heap.size∧∀ (g:Nat) (cs:Array Value) (m:Nat×Nat),w.heap[g]?=some (.cells cs 33 m)→w'.heap[g]?=w.heap[g]?
def Alike (f:FuncId) (fa:Array Value) (g:FuncId) (ga:Array Value) (I:World→Prop) (w:World):Prop:=
 Calls prog f fa w fun e w1=>∃ xa xn xc,∃ E:Int,e=.returned (.tuple #[.slice xa xn xc,.int .i64 E])∧KpA w w1∧
  Calls prog g ga w1 fun e2 w2=>∃ ya yn yc X,e2=.returned (.tuple #[.slice ya yn yc,.int .i64 E])∧Bytes w2 (fun _=>True) (.slice xa xn xc) X∧Bytes w2 (fun _=>True) (.slice ya yn yc) X∧I w2
structure LawSt (w0:World) (bl:Nat) (ideal:Bool) (p s m:Nat) (I:World→Prop):Prop where
 no:∀ w w',I w→Chg No w w'→I w'
 below:∀ w,I w→Below w0.heap.size w0 w
 sealed:∀ w x kv dv,I w→fewP x→(-9223372036854775808≤x.unit∧x.unit≤9223372036854775807)→Bytes w0 (fun _=>True) kv x.key→Bytes w0 (fun _=>True) dv x.data→
  Alike 9 #[.pointer (some ⟨s,0,none⟩),.string x.what,kv,.int .i64 x.unit,dv] 10 #[.pointer (some ⟨m,0,none⟩),.string x.what,kv,.int .i64 x.unit,dv,.bool false] I w
 opened:∀ w x kv dv,I w→fewP x→(-9223372036854775808≤x.unit∧x.unit≤9223372036854775807)→Bytes w0 (fun _=>True) kv x.key→Bytes w0 (fun _=>True) dv x.data→
  Alike 11 #[.pointer (some ⟨s,0,none⟩),.string x.what,kv,.int .i64 x.unit,dv] 10 #[.pointer (some ⟨m,0,none⟩),.string x.what,kv,.int .i64 x.unit,dv,.bool true] I w
 derived:∀ w x kv dv,I w→fewP x→Bytes w0 (fun _=>True) kv x.key→Bytes w0 (fun _=>True) dv x.data→
  Alike 12 #[.pointer (some ⟨s,0,none⟩),.string x.what,kv,dv,.int .i64 x.unit,.int .i64 x.num] 13 #[.pointer (some ⟨m,0,none⟩),.string x.what,kv,dv,.int .i64 x.unit,.int .i64 x.num] I w
 left:∀ w,I w→∃ A tq,A≤bl∧m<w.heap.size∧tq<w.heap.size∧∀ w3,Chg No w w3→(Calls prog 14 #[.pointer (some ⟨p,0,none⟩)] w3 fun e w'=>e=.returned (.int .i64 (bl - A:Nat))∧Chg No w3 w')∧
  w3.cell? ⟨m,2,none⟩=some (.pointer (some ⟨tq,0,none⟩))∧w3.cell? ⟨tq,1,none⟩=some (.int .i64 A)
 isIdeal:∀ w,I w→Calls prog 15 #[.pointer (some ⟨s,0,none⟩)] w fun e w'=>e=.returned (.bool ideal)∧w=w'
theorem sizeAct:(prog.info? 33).map (·.size)=some 6:=by kernel_rfl
theorem load_act {w:World}{g o:Nat}{x:ActD}{kv dv:Value}(h:ActRow w g o x kv dv):
  (Instr.loadAt 33 (.pointer (some ⟨g,o,none⟩))).run prog w=.ok (.agg #[.int .i64 x.kind,.string x.what,kv,.int .i64 x.unit,dv,.int .i64 x.num]) w:=by
 have hl2:(loadCells ⟨g,o,none⟩ 6).run prog w=.ok #[.int .i64 x.kind,.string x.what,kv,.int .i64 x.unit,dv,.int .i64 x.num] w:=
  run_loadCells_list (P:=prog) w ⟨g,o,none⟩ [.int .i64 x.kind,.string x.what,kv,.int .i64 x.unit,dv,.int .i64 x.num] (fun j v hv=>by
   rw[Addr.add_lit]
   match j,hv with
   | 0,hv=>cases hv;exact h.c0
   | 1,hv=>cases hv;exact h.c1
   | 2,hv=>cases hv;exact h.c2
   | 3,hv=>cases hv;exact h.c3
   | 4,hv=>cases hv;exact h.c4
   | 5,hv=>cases hv;exact h.c5
   | j+6,hv=>simp at hv)
 have h:(loadVar 33 ⟨g,o,none⟩).run prog w=.ok (.agg #[.int .i64 x.kind,.string x.what,kv,.int .i64 x.unit,dv,.int .i64 x.num]) w:=by
  have hs:=sizeAct;cases hi:prog.info? 33 with
  | none=>simp[hi] at hs
  | some i=>
   have hsz:i.size=6:=by simpa [hi] using hs
   simp[loadVar,Sem.run_bind,sizeOf,typeInfo,hi,hsz,hl2]
 simp only[Instr.loadAt,Instr.sureAddr,Sem.run_bind,Sem.run_pure,Result.andThen];exact h
theorem acts_gen {w:World}{S:Nat→Prop}{b:List UInt8}{ba:Option Addr}{bc:Nat}(hb:Bytes w S (.slice ba b.length bc) b){a:Option Addr}{cap:Nat}{L:List ActD}(hL:ActsAt w a cap L) (ideal:Bool)
  (hset:b.length≤3000→Calls prog 6 #[.slice ba b.length bc] w fun e w1=>∃ p,e=.returned (.pointer (some ⟨p,0,none⟩))∧Calls prog 7 #[.pointer (some ⟨p,0,none⟩),.bool ideal] w1 fun e w2=>∃ s,e=.returned (.pointer (some ⟨s,0,none⟩))∧
   Calls prog 8 #[.slice ba b.length bc,.bool ideal] w2 fun e w3=>∃ m I,e=.returned (.pointer (some ⟨m,0,none⟩))∧LawSt w b.length ideal p s m I∧I w3):
  Calls prog 3 #[.bool ideal,.slice ba b.length bc,.slice a L.length cap] w fun e w'=>e=.returned (.bool true)∧Below w.heap.size w w':=by
 have hfew:=few_ok hL;have hlc:=hL.1;have hlm:=hL.2.1;obtain⟨bl,hbl⟩:∃ X,X=b.length:=⟨_,rfl⟩;have hbm:bl≤bc∧bc≤maxLen:=by obtain⟨_,_,h,k1,k2⟩:=hb.shape;cases h;exact⟨by omega,k2⟩
 unfold maxLen at hlm hbm;have haw:=awake_ok;rw[← hbl] at hset ⊢;obtain⟨N,hN⟩:∃ X,X=L.length:=⟨_,rfl⟩;rw[← hN] at hfew hlc ⊢;replace hfew:=LH hfew;replace hL:=LH hL;replace hset:=LH hset;replace hb:=LH hb;replace hbl:=LH hbl;replace hN:=LH hN;replace haw:=LH haw;by_cases hbig:3000<bl
 ·have hbI:(3000:Int)<(bl:Int):=by omega
  have h1:=LH (haw.out w);clear hset hfew haw;go_enter func3,ntmps3
  go_wp2_with fail
  refine h1.out.mono ?_;rintro e w1 ⟨rfl,hb1⟩;replace hb1:=LH hb1;go_wp2;go_ret;exact⟨rfl,hb1.out⟩
 ·have hbI:(bl:Int)≤3000:=by omega
  have hset2:=LH (hset.out (by omega));clear hset;go_enter func3,ntmps3
  go_wp2_with fail
  refine hfew.out.mono ?_;rintro e w1 ⟨ok,rfl,rfl,hok⟩;replace hok:=LH hok;clear hfew;cases ok with
  | false=>
   have h1:=LH (haw.out w);clear hset2 haw
   go_wp2_with fail
   refine h1.out.mono ?_;rintro e w1 ⟨rfl,hb1⟩;replace hb1:=LH hb1;go_wp2;go_ret;exact⟨rfl,hb1.out⟩
  | true=>
   obtain⟨hN15,hfw⟩:=hok.out rfl;replace hfw:=LH hfw;clear hok
   go_wp2_with fail
   refine hset2.out.mono ?_;rintro e w1 ⟨p,rfl,hm⟩;replace hm:=LH hm;clear hset2
   go_wp2_with fail
   refine hm.out.mono ?_;rintro e w2 ⟨s,rfl,hq⟩;replace hq:=LH hq;clear hm
   go_wp2_with fail
   refine hq.out.mono ?_;rintro e w3 ⟨m,I,rfl,hS,hI⟩;replace hS:=LH hS;replace hI:=LH hI;clear hq;go_wp2
   go_loopg [10,11,12,13,14,15] N (fun g i _ _ _ _ _ wr=>∃ j:Nat,j+g=N∧i=.int .i64 j∧Hid (I wr))
   case atStart=>exact⟨0,by omega,rfl,hI.out⟩
   case round=>
    obtain⟨j,hjg,rfl,hJ⟩:=hrel;clear hI;by_cases hlt:j<N
    ·obtain⟨g1,rfl⟩:∃ j,gk=j+1:=⟨gk - 1,by omega⟩;obtain⟨x,hx⟩:∃ x,L[j]?=some x:=⟨L[j]'(by have:=hN.out;omega),List.getElem?_eq_getElem _⟩;obtain⟨g,off,kv,dv,rfl,hgl,hr⟩:=hL.out.2.2 j x hx;have hfx:fewP x:=hfw.out x (by rw[List.take_of_length_le (by have:=hN.out;omega)];exact List.mem_of_getElem? hx);have hbelow:=hS.out.below _ hJ.out;have hcw:∀ i,wr.cell? ⟨g,i,none⟩=w.cell? ⟨g,i,none⟩:=fun i=>World.cell?_of_block (hbelow.block g hgl)
     have hr2:ActRow wr g (off+j*6) x kv dv:=⟨(hcw _).trans hr.c0,(hcw _).trans hr.c1,(hcw _).trans hr.c2,(hcw _).trans hr.c3,(hcw _).trans hr.c4,(hcw _).trans hr.c5,
      Cells.keep hr.key hbelow.size (fun g _ hg=>hbelow.block g hg),Cells.keep hr.data hbelow.size (fun g _ hg=>hbelow.block g hg),hr.long,hr.ur⟩
     obtain⟨ka,kc,rfl,hk1,hk2⟩:=hr.key.shape;obtain⟨da,dc,rfl,hd1,hd2⟩:=hr.data.shape;have hld:=load_act hr2;have hur:=hr.ur;have hkb:=hr.key;have hdb:=hr.data;have hglr:g<wr.heap.size:=Nat.lt_of_lt_of_le hgl hbelow.size;have hjI:(j:Int)<(N:Int):=by omega
     obtain⟨ab,hab⟩:∃ X,X=wr.heap.size:=⟨_,rfl⟩;have hCA:∀ o:Obj,Chg No wr (wr.alloc o):=fun o=>(Chg.refl _ _).alloc o
     obtain⟨wA,hwA⟩:∃ X,X=wr.alloc (.cells #[.int .i64 x.kind,.string x.what,.slice ka x.key.length kc,.int .i64 x.unit,.slice da x.data.length dc,.int .i64 x.num] 33):=⟨_,rfl⟩;have hIA:=LH (hS.out.no _ _ hJ.out (hCA (.cells #[.int .i64 x.kind,.string x.what,.slice ka x.key.length kc,.int .i64 x.unit,.slice da x.data.length dc,.int .i64 x.num] 33)));have hbxA:wA.heap[ab]?=some (.cells #[.int .i64 x.kind,.string x.what,.slice ka x.key.length kc,.int .i64 x.unit,.slice da x.data.length dc,.int .i64 x.num] 33 (0,0)):=by rw[hwA,hab];exact heap_alloc_new wr _
     rw[← hwA] at hIA;replace hkb:=LH hkb;replace hdb:=LH hdb;replace hr:=LH hr;replace hr2:=LH hr2;replace hfx:=LH hfx;replace hbelow:=LH hbelow;replace hld:=LH hld;replace hbxA:=LH hbxA;replace hx:=LH hx;have hwA':=LH hwA;have hab':=LH hab;clear hcw hCA;by_cases k1:x.kind=1
     ·skip;rw[k1] at hld;have e1:=LH (hS.out.sealed _ x _ _ hIA.out hfx.out hur hkb.out hdb.out);rw[k1] at hbxA hwA;subst hwA;rw[hab] at hbxA
      go_wp2_with (first|(refine wpList_load rfl 33 (.tmp 47) rfl _ _ rfl hld.out ?_)|fail)
      refine e1.out.mono ?_;rintro e w1 ⟨xa,xn,xc,E,rfl,⟨hs1,hkp⟩,h2⟩;have hb1:=(hkp _ _ _ hbxA.out).trans hbxA.out;have d1:w1.cell? ⟨wr.heap.size,1,none⟩=some (.string x.what):=cell_of hb1 1;have d2:w1.cell? ⟨wr.heap.size,2,none⟩=some (.slice ka x.key.length kc):=cell_of hb1 2;have d3:w1.cell? ⟨wr.heap.size,3,none⟩=some (.int .i64 x.unit):=cell_of hb1 3;have d4:w1.cell? ⟨wr.heap.size,4,none⟩=some (.slice da x.data.length dc):=cell_of hb1 4;have d5:w1.cell? ⟨wr.heap.size,5,none⟩=some (.int .i64 x.num):=cell_of hb1 5;have hl1:wr.heap.size<w1.heap.size:=heap_lt hb1;replace h2:=LH h2;replace hb1:=LH hb1;replace hkp:=LH hkp;clear e1
      go_wp2_with fail
      refine h2.out.mono ?_;rintro e w2 ⟨ya,yn,yc,X,rfl,hbX,hbY,hI2⟩;replace hbX:=LH hbX;replace hbY:=LH hbY;replace hI2:=LH hI2;clear h2 d1 d2 d3 d4 d5 hl1 hb1 hkp;go_wp2;obtain⟨A,tq,hA,hml,htl,hleft⟩:=hS.out.left _ hI2.out;have hdr:∀ w3,Chg No (w2).drew w3→Chg No (w2) w3:=fun w3 h=>⟨h.os,h.tape,h.output,h.size,h.block⟩
      have hsx:∀ z,Chg No (w2) z→(convert 22 9 (.slice xa xn xc)).run prog z=.ok (.string ⟨X.toArray⟩) z:=fun z hz=>
       run_string _ _ _ _ underlying22 underlying5 underlying9 _ _ _ (hbX.out.chg hz (fun g _ _=>id))
      have hsy:∀ z,Chg No (w2) z→(convert 22 9 (.slice ya yn yc)).run prog z=.ok (.string ⟨X.toArray⟩) z:=fun z hz=>
       run_string _ _ _ _ underlying22 underlying5 underlying9 _ _ _ (hbY.out.chg hz (fun g _ _=>id))
      have hleft1:∀ z,Chg No (w2) z→Calls prog 14 #[.pointer (some ⟨p,0,none⟩)] z fun e w'=>e=.returned (.int .i64 (bl - A:Nat))∧Chg No z w':=fun z hz=>(hleft z hz).1
      have hleft2:∀ z,Chg No (w2) z→z.cell? ⟨m,2,none⟩=some (.pointer (some ⟨tq,0,none⟩)):=fun z hz=>(hleft z hz).2.1
      have hleft3:∀ z,Chg No (w2) z→z.cell? ⟨tq,1,none⟩=some (.int .i64 A):=fun z hz=>(hleft z hz).2.2
      replace hdr:=LH hdr;replace hsx:=LH hsx;replace hsy:=LH hsy;replace hleft1:=LH hleft1;replace hleft2:=LH hleft2;replace hleft3:=LH hleft3;clear hleft;refine RA.rt (Chg No) [1,1,1,1,1,1,1,1,1,1,1,1,4,1,1,1,1,1,1,1,1,1,1,1,1] [] (fun _=>True) trivial (fun _=>Chg.refl _ _) (fun _ _ _ h k=>h.trans k) (h:=?_);intro cx
      repeat refine RA.qq (h:=?_)
      refine RA.cv (by kernel_rfl) (by rfl) (by rfl) (y':=.string ⟨X.toArray⟩) (fun w3 hp=>hsx.out w3 (hdr.out _ hp.1)) ?_
      repeat refine RA.qq (h:=?_)
      refine RA.cv (by kernel_rfl) (by rfl) (by rfl) (y':=.string ⟨X.toArray⟩) (fun w3 hp=>hsy.out w3 (hdr.out _ hp.1)) ?_;refine RA.ns false (by kernel_rfl) (by rfl) (by rfl) (by rfl) (by rw[str_eq];rfl) ?_
      repeat refine RA.qq (h:=?_)
      refine RA.ne false (by kernel_rfl) (by rfl) (by rfl) (by rfl) (by simp) ?_;refine RA.pf (by kernel_rfl) (by rfl) (by rfl) (by rfl) ?_
      repeat refine RA.qq (h:=?_)
      refine RA.kc (P:=prog) [.pointer (some ⟨p,0,none⟩)] (.int .i64 (bl - A:Nat)) (fun _=>True) (fun _ _=>by go_simp) (by kernel_rfl) (by rfl) (by rfl) (by kernel_rfl) (fun _ _ _ h=>h) rfl (fun w3 hp hH=>(hleft1.out w3 (hdr.out _ hp.1)).mono (by
       rintro e w4 ⟨rfl,h2⟩;exact⟨rfl,h2,trivial⟩)) ?_
      repeat refine RA.qq (h:=?_)
      refine RA.vk prog (.int .i64 bl) (h:=?_)
      repeat refine RA.qq (h:=?_)
      refine RA.fk prog (m) (2) (h:=?_);refine RA.lk prog (.pointer (some ⟨tq,0,none⟩)) (hc:=fun w3 hp=>by exact hleft2.out _ (hdr.out _ hp.1)) (h:=?_)
      repeat refine RA.qq (h:=?_)
      refine RA.fk prog (tq) (1) (h:=?_);refine RA.lk prog (.int .i64 A) (hc:=fun w3 hp=>by exact hleft3.out _ (hdr.out _ hp.1)) (h:=?_);refine RA.si (by kernel_rfl) (by rfl) (by rfl) (by rfl) ((bl - A:Nat):Int) (by omega) (by omega) ?_;refine RA.ne false (by kernel_rfl) (by rfl) (by rfl) (by rfl) (by simp) ?_;refine RA.pf (by kernel_rfl) (by rfl) (by rfl) (by rfl) ?_;refine RA.RA.done rfl (fun wZ hR hF hH=>?_);clear hF hH;simp only[RA.put,List.foldr_cons,List.foldr_nil,cx,Act.put,List.setIfInBounds_toArray,List.set_cons_succ,List.set_cons_zero];have hIZ:=LH (hS.out.no _ _ hI2.out (hdr.out _ hR));clear hR hsx hsy hleft1 hleft2 hleft3 hdr;go_wp2;go_roundg g1
      case measure=>omega
      case rel=>exact⟨j+1,by omega,by go_num,hIZ.out⟩
     ·by_cases k2:x.kind=2
      ·skip;rw[k2] at hld;have e1:=LH (hS.out.opened _ x _ _ hIA.out hfx.out hur hkb.out hdb.out);rw[k2] at hbxA hwA;subst hwA;rw[hab] at hbxA
       go_wp2_with (first|(refine wpList_load rfl 33 (.tmp 47) rfl _ _ rfl hld.out ?_)|fail)
       refine e1.out.mono ?_;rintro e w1 ⟨xa,xn,xc,E,rfl,⟨hs1,hkp⟩,h2⟩;have hb1:=(hkp _ _ _ hbxA.out).trans hbxA.out;have d1:w1.cell? ⟨wr.heap.size,1,none⟩=some (.string x.what):=cell_of hb1 1;have d2:w1.cell? ⟨wr.heap.size,2,none⟩=some (.slice ka x.key.length kc):=cell_of hb1 2;have d3:w1.cell? ⟨wr.heap.size,3,none⟩=some (.int .i64 x.unit):=cell_of hb1 3;have d4:w1.cell? ⟨wr.heap.size,4,none⟩=some (.slice da x.data.length dc):=cell_of hb1 4;have d5:w1.cell? ⟨wr.heap.size,5,none⟩=some (.int .i64 x.num):=cell_of hb1 5;have hl1:wr.heap.size<w1.heap.size:=heap_lt hb1;replace h2:=LH h2;replace hb1:=LH hb1;replace hkp:=LH hkp;clear e1
       go_wp2_with fail
       refine h2.out.mono ?_;rintro e w2 ⟨ya,yn,yc,X,rfl,hbX,hbY,hI2⟩;replace hbX:=LH hbX;replace hbY:=LH hbY;replace hI2:=LH hI2;clear h2 d1 d2 d3 d4 d5 hl1 hb1 hkp;go_wp2;obtain⟨A,tq,hA,hml,htl,hleft⟩:=hS.out.left _ hI2.out;have hdr:∀ w3,Chg No (w2).drew w3→Chg No (w2) w3:=fun w3 h=>⟨h.os,h.tape,h.output,h.size,h.block⟩
       have hsx:∀ z,Chg No (w2) z→(convert 22 9 (.slice xa xn xc)).run prog z=.ok (.string ⟨X.toArray⟩) z:=fun z hz=>
        run_string _ _ _ _ underlying22 underlying5 underlying9 _ _ _ (hbX.out.chg hz (fun g _ _=>id))
       have hsy:∀ z,Chg No (w2) z→(convert 22 9 (.slice ya yn yc)).run prog z=.ok (.string ⟨X.toArray⟩) z:=fun z hz=>
        run_string _ _ _ _ underlying22 underlying5 underlying9 _ _ _ (hbY.out.chg hz (fun g _ _=>id))
       have hleft1:∀ z,Chg No (w2) z→Calls prog 14 #[.pointer (some ⟨p,0,none⟩)] z fun e w'=>e=.returned (.int .i64 (bl - A:Nat))∧Chg No z w':=fun z hz=>(hleft z hz).1
       have hleft2:∀ z,Chg No (w2) z→z.cell? ⟨m,2,none⟩=some (.pointer (some ⟨tq,0,none⟩)):=fun z hz=>(hleft z hz).2.1
       have hleft3:∀ z,Chg No (w2) z→z.cell? ⟨tq,1,none⟩=some (.int .i64 A):=fun z hz=>(hleft z hz).2.2
       replace hdr:=LH hdr;replace hsx:=LH hsx;replace hsy:=LH hsy;replace hleft1:=LH hleft1;replace hleft2:=LH hleft2;replace hleft3:=LH hleft3;clear hleft;refine RA.rt (Chg No) [1,1,1,1,1,1,1,1,1,1,1,1,4,1,1,1,1,1,1,1,1,1,1,1,1] [] (fun _=>True) trivial (fun _=>Chg.refl _ _) (fun _ _ _ h k=>h.trans k) (h:=?_);intro cx
       repeat refine RA.qq (h:=?_)
       refine RA.cv (by kernel_rfl) (by rfl) (by rfl) (y':=.string ⟨X.toArray⟩) (fun w3 hp=>hsx.out w3 (hdr.out _ hp.1)) ?_
       repeat refine RA.qq (h:=?_)
       refine RA.cv (by kernel_rfl) (by rfl) (by rfl) (y':=.string ⟨X.toArray⟩) (fun w3 hp=>hsy.out w3 (hdr.out _ hp.1)) ?_;refine RA.ns false (by kernel_rfl) (by rfl) (by rfl) (by rfl) (by rw[str_eq];rfl) ?_
       repeat refine RA.qq (h:=?_)
       refine RA.ne false (by kernel_rfl) (by rfl) (by rfl) (by rfl) (by simp) ?_;refine RA.pf (by kernel_rfl) (by rfl) (by rfl) (by rfl) ?_
       repeat refine RA.qq (h:=?_)
       refine RA.kc (P:=prog) [.pointer (some ⟨p,0,none⟩)] (.int .i64 (bl - A:Nat)) (fun _=>True) (fun _ _=>by go_simp) (by kernel_rfl) (by rfl) (by rfl) (by kernel_rfl) (fun _ _ _ h=>h) rfl (fun w3 hp hH=>(hleft1.out w3 (hdr.out _ hp.1)).mono (by
        rintro e w4 ⟨rfl,h2⟩;exact⟨rfl,h2,trivial⟩)) ?_
       repeat refine RA.qq (h:=?_)
       refine RA.vk prog (.int .i64 bl) (h:=?_)
       repeat refine RA.qq (h:=?_)
       refine RA.fk prog (m) (2) (h:=?_);refine RA.lk prog (.pointer (some ⟨tq,0,none⟩)) (hc:=fun w3 hp=>by exact hleft2.out _ (hdr.out _ hp.1)) (h:=?_)
       repeat refine RA.qq (h:=?_)
       refine RA.fk prog (tq) (1) (h:=?_);refine RA.lk prog (.int .i64 A) (hc:=fun w3 hp=>by exact hleft3.out _ (hdr.out _ hp.1)) (h:=?_);refine RA.si (by kernel_rfl) (by rfl) (by rfl) (by rfl) ((bl - A:Nat):Int) (by omega) (by omega) ?_;refine RA.ne false (by kernel_rfl) (by rfl) (by rfl) (by rfl) (by simp) ?_;refine RA.pf (by kernel_rfl) (by rfl) (by rfl) (by rfl) ?_;refine RA.RA.done rfl (fun wZ hR hF hH=>?_);clear hF hH;simp only[RA.put,List.foldr_cons,List.foldr_nil,cx,Act.put,List.setIfInBounds_toArray,List.set_cons_succ,List.set_cons_zero];have hIZ:=LH (hS.out.no _ _ hI2.out (hdr.out _ hR));clear hR hsx hsy hleft1 hleft2 hleft3 hdr;go_wp2;go_roundg g1
       case measure=>omega
       case rel=>exact⟨j+1,by omega,by go_num,hIZ.out⟩
      ·by_cases k3:x.kind=3
       ·skip;rw[k3] at hld;have e1:=LH (hS.out.derived _ x _ _ hIA.out hfx.out hkb.out hdb.out);rw[k3] at hbxA hwA;subst hwA;rw[hab] at hbxA
        go_wp2_with (first|(refine wpList_load rfl 33 (.tmp 47) rfl _ _ rfl hld.out ?_)|fail)
        refine e1.out.mono ?_;rintro e w1 ⟨xa,xn,xc,E,rfl,⟨hs1,hkp⟩,h2⟩;have hb1:=(hkp _ _ _ hbxA.out).trans hbxA.out;have d1:w1.cell? ⟨wr.heap.size,1,none⟩=some (.string x.what):=cell_of hb1 1;have d2:w1.cell? ⟨wr.heap.size,2,none⟩=some (.slice ka x.key.length kc):=cell_of hb1 2;have d3:w1.cell? ⟨wr.heap.size,3,none⟩=some (.int .i64 x.unit):=cell_of hb1 3;have d4:w1.cell? ⟨wr.heap.size,4,none⟩=some (.slice da x.data.length dc):=cell_of hb1 4;have d5:w1.cell? ⟨wr.heap.size,5,none⟩=some (.int .i64 x.num):=cell_of hb1 5;have hl1:wr.heap.size<w1.heap.size:=heap_lt hb1;replace h2:=LH h2;replace hb1:=LH hb1;replace hkp:=LH hkp;clear e1
        go_wp2_with fail
        refine h2.out.mono ?_;rintro e w2 ⟨ya,yn,yc,X,rfl,hbX,hbY,hI2⟩;replace hbX:=LH hbX;replace hbY:=LH hbY;replace hI2:=LH hI2;clear h2 d1 d2 d3 d4 d5 hl1 hb1 hkp;go_wp2;obtain⟨A,tq,hA,hml,htl,hleft⟩:=hS.out.left _ hI2.out;have hdr:∀ w3,Chg No (w2).drew w3→Chg No (w2) w3:=fun w3 h=>⟨h.os,h.tape,h.output,h.size,h.block⟩
        have hsx:∀ z,Chg No (w2) z→(convert 22 9 (.slice xa xn xc)).run prog z=.ok (.string ⟨X.toArray⟩) z:=fun z hz=>
         run_string _ _ _ _ underlying22 underlying5 underlying9 _ _ _ (hbX.out.chg hz (fun g _ _=>id))
        have hsy:∀ z,Chg No (w2) z→(convert 22 9 (.slice ya yn yc)).run prog z=.ok (.string ⟨X.toArray⟩) z:=fun z hz=>
         run_string _ _ _ _ underlying22 underlying5 underlying9 _ _ _ (hbY.out.chg hz (fun g _ _=>id))
        have hleft1:∀ z,Chg No (w2) z→Calls prog 14 #[.pointer (some ⟨p,0,none⟩)] z fun e w'=>e=.returned (.int .i64 (bl - A:Nat))∧Chg No z w':=fun z hz=>(hleft z hz).1
        have hleft2:∀ z,Chg No (w2) z→z.cell? ⟨m,2,none⟩=some (.pointer (some ⟨tq,0,none⟩)):=fun z hz=>(hleft z hz).2.1
        have hleft3:∀ z,Chg No (w2) z→z.cell? ⟨tq,1,none⟩=some (.int .i64 A):=fun z hz=>(hleft z hz).2.2
        replace hdr:=LH hdr;replace hsx:=LH hsx;replace hsy:=LH hsy;replace hleft1:=LH hleft1;replace hleft2:=LH hleft2;replace hleft3:=LH hleft3;clear hleft;refine RA.rt (Chg No) [1,1,1,1,1,1,1,1,1,1,1,1,4,1,1,1,1,1,1,1,1,1,1,1,1] [] (fun _=>True) trivial (fun _=>Chg.refl _ _) (fun _ _ _ h k=>h.trans k) (h:=?_);intro cx
        repeat refine RA.qq (h:=?_)
        refine RA.cv (by kernel_rfl) (by rfl) (by rfl) (y':=.string ⟨X.toArray⟩) (fun w3 hp=>hsx.out w3 (hdr.out _ hp.1)) ?_
        repeat refine RA.qq (h:=?_)
        refine RA.cv (by kernel_rfl) (by rfl) (by rfl) (y':=.string ⟨X.toArray⟩) (fun w3 hp=>hsy.out w3 (hdr.out _ hp.1)) ?_;refine RA.ns false (by kernel_rfl) (by rfl) (by rfl) (by rfl) (by rw[str_eq];rfl) ?_
        repeat refine RA.qq (h:=?_)
        refine RA.ne false (by kernel_rfl) (by rfl) (by rfl) (by rfl) (by simp) ?_;refine RA.pf (by kernel_rfl) (by rfl) (by rfl) (by rfl) ?_
        repeat refine RA.qq (h:=?_)
        refine RA.kc (P:=prog) [.pointer (some ⟨p,0,none⟩)] (.int .i64 (bl - A:Nat)) (fun _=>True) (fun _ _=>by go_simp) (by kernel_rfl) (by rfl) (by rfl) (by kernel_rfl) (fun _ _ _ h=>h) rfl (fun w3 hp hH=>(hleft1.out w3 (hdr.out _ hp.1)).mono (by
         rintro e w4 ⟨rfl,h2⟩;exact⟨rfl,h2,trivial⟩)) ?_
        repeat refine RA.qq (h:=?_)
        refine RA.vk prog (.int .i64 bl) (h:=?_)
        repeat refine RA.qq (h:=?_)
        refine RA.fk prog (m) (2) (h:=?_);refine RA.lk prog (.pointer (some ⟨tq,0,none⟩)) (hc:=fun w3 hp=>by exact hleft2.out _ (hdr.out _ hp.1)) (h:=?_)
        repeat refine RA.qq (h:=?_)
        refine RA.fk prog (tq) (1) (h:=?_);refine RA.lk prog (.int .i64 A) (hc:=fun w3 hp=>by exact hleft3.out _ (hdr.out _ hp.1)) (h:=?_);refine RA.si (by kernel_rfl) (by rfl) (by rfl) (by rfl) ((bl - A:Nat):Int) (by omega) (by omega) ?_;refine RA.ne false (by kernel_rfl) (by rfl) (by rfl) (by rfl) (by simp) ?_;refine RA.pf (by kernel_rfl) (by rfl) (by rfl) (by rfl) ?_;refine RA.RA.done rfl (fun wZ hR hF hH=>?_);clear hF hH;simp only[RA.put,List.foldr_cons,List.foldr_nil,cx,Act.put,List.setIfInBounds_toArray,List.set_cons_succ,List.set_cons_zero];have hIZ:=LH (hS.out.no _ _ hI2.out (hdr.out _ hR));clear hR hsx hsy hleft1 hleft2 hleft3 hdr;go_wp2;go_roundg g1
        case measure=>omega
        case rel=>exact⟨j+1,by omega,by go_num,hIZ.out⟩
       ·skip;obtain⟨X,hX⟩:∃ X:List UInt8,X=[]:=⟨_,rfl⟩;have hbX:Hid (Bytes wA (fun _=>True) (.slice none 0 0) X):=LH (by rw[hX];exact Cells.nil _ _ 1);have hbY:Hid (Bytes wA (fun _=>True) (.slice none 0 0) X):=hbX;have hI2:=hIA;replace hX:=LH hX;clear hwA
        go_wp2_with (first|(refine wpList_load rfl 33 (.tmp 47) rfl _ _ rfl hld.out ?_)|fail)
        rw[← hwA'.out];obtain⟨A,tq,hA,hml,htl,hleft⟩:=hS.out.left _ hI2.out;have hdr:∀ w3,Chg No (wA).drew w3→Chg No (wA) w3:=fun w3 h=>⟨h.os,h.tape,h.output,h.size,h.block⟩
        have hsx:∀ z,Chg No (wA) z→(convert 22 9 (.slice none 0 0)).run prog z=.ok (.string ⟨X.toArray⟩) z:=fun z hz=>
         run_string _ _ _ _ underlying22 underlying5 underlying9 _ _ _ (hbX.out.chg hz (fun g _ _=>id))
        have hsy:∀ z,Chg No (wA) z→(convert 22 9 (.slice none 0 0)).run prog z=.ok (.string ⟨X.toArray⟩) z:=fun z hz=>
         run_string _ _ _ _ underlying22 underlying5 underlying9 _ _ _ (hbY.out.chg hz (fun g _ _=>id))
        have hleft1:∀ z,Chg No (wA) z→Calls prog 14 #[.pointer (some ⟨p,0,none⟩)] z fun e w'=>e=.returned (.int .i64 (bl - A:Nat))∧Chg No z w':=fun z hz=>(hleft z hz).1
        have hleft2:∀ z,Chg No (wA) z→z.cell? ⟨m,2,none⟩=some (.pointer (some ⟨tq,0,none⟩)):=fun z hz=>(hleft z hz).2.1
        have hleft3:∀ z,Chg No (wA) z→z.cell? ⟨tq,1,none⟩=some (.int .i64 A):=fun z hz=>(hleft z hz).2.2
        replace hdr:=LH hdr;replace hsx:=LH hsx;replace hsy:=LH hsy;replace hleft1:=LH hleft1;replace hleft2:=LH hleft2;replace hleft3:=LH hleft3;clear hleft;refine RA.rt (Chg No) [1,1,1,1,1,1,1,1,1,1,1,1,4,1,1,1,1,1,1,1,1,1,1,1,1] [] (fun _=>True) trivial (fun _=>Chg.refl _ _) (fun _ _ _ h k=>h.trans k) (h:=?_);intro cx
        repeat refine RA.qq (h:=?_)
        refine RA.cv (by kernel_rfl) (by rfl) (by rfl) (y':=.string ⟨X.toArray⟩) (fun w3 hp=>hsx.out w3 (hdr.out _ hp.1)) ?_
        repeat refine RA.qq (h:=?_)
        refine RA.cv (by kernel_rfl) (by rfl) (by rfl) (y':=.string ⟨X.toArray⟩) (fun w3 hp=>hsy.out w3 (hdr.out _ hp.1)) ?_;refine RA.ns false (by kernel_rfl) (by rfl) (by rfl) (by rfl) (by rw[str_eq];rfl) ?_
        repeat refine RA.qq (h:=?_)
        refine RA.ne false (by kernel_rfl) (by rfl) (by rfl) (by rfl) (by simp) ?_;refine RA.pf (by kernel_rfl) (by rfl) (by rfl) (by rfl) ?_
        repeat refine RA.qq (h:=?_)
        refine RA.kc (P:=prog) [.pointer (some ⟨p,0,none⟩)] (.int .i64 (bl - A:Nat)) (fun _=>True) (fun _ _=>by go_simp) (by kernel_rfl) (by rfl) (by rfl) (by kernel_rfl) (fun _ _ _ h=>h) rfl (fun w3 hp hH=>(hleft1.out w3 (hdr.out _ hp.1)).mono (by
         rintro e w4 ⟨rfl,h2⟩;exact⟨rfl,h2,trivial⟩)) ?_
        repeat refine RA.qq (h:=?_)
        refine RA.vk prog (.int .i64 bl) (h:=?_)
        repeat refine RA.qq (h:=?_)
        refine RA.fk prog (m) (2) (h:=?_);refine RA.lk prog (.pointer (some ⟨tq,0,none⟩)) (hc:=fun w3 hp=>by exact hleft2.out _ (hdr.out _ hp.1)) (h:=?_)
        repeat refine RA.qq (h:=?_)
        refine RA.fk prog (tq) (1) (h:=?_);refine RA.lk prog (.int .i64 A) (hc:=fun w3 hp=>by exact hleft3.out _ (hdr.out _ hp.1)) (h:=?_);refine RA.si (by kernel_rfl) (by rfl) (by rfl) (by rfl) ((bl - A:Nat):Int) (by omega) (by omega) ?_;refine RA.ne false (by kernel_rfl) (by rfl) (by rfl) (by rfl) (by simp) ?_;refine RA.pf (by kernel_rfl) (by rfl) (by rfl) (by rfl) ?_;refine RA.RA.done rfl (fun wZ hR hF hH=>?_);clear hF hH;simp only[RA.put,List.foldr_cons,List.foldr_nil,cx,Act.put,List.setIfInBounds_toArray,List.set_cons_succ,List.set_cons_zero];have hIZ:=LH (hS.out.no _ _ hI2.out (hdr.out _ hR));clear hR hsx hsy hleft1 hleft2 hleft3 hdr;go_wp2;go_roundg g1
        case measure=>omega
        case rel=>exact⟨j+1,by omega,by go_num,hIZ.out⟩
    ·obtain rfl:j=N:=by omega
     have h1:=LH (hS.out.isIdeal _ hJ.out);have hbelow:=LH (hS.out.below _ hJ.out);clear hlt hjg
     go_wp2_with fail
     refine h1.out.mono ?_;rintro e w' ⟨rfl,rfl⟩;have h2:=LH (haw.out wr);clear h1
     go_wp2_with fail
     refine h2.out.mono ?_;rintro e w' ⟨rfl,hb2⟩;replace hb2:=LH hb2;clear h2;go_wp2;go_ret;exact⟨rfl,hbelow.out.trans (hb2.out.mono hbelow.out.size)⟩
end Go.Proofs.YtbgfdbidbjlaaaaGreat.Fd
/-
  SuiteActs: the state of the real kind. No condition beyond what each theorem names.
-/
namespace Go.Proofs.YtbgfdbidbjlaaaaGreat.Fd
open _root_.Go.Proofs.Tryz
open Go Go.RowKit K
def sectOk (x:ActD):Prop:=keyOk x.key.length x.unit∧x.data.length % 16=0∧x.data.length≤4096
theorem may_no {w:World}{S S':Nat→Prop}{kv dv:Value}{x:ActD}(hk:Bytes w S kv x.key) (hd:Bytes w S' dv x.data) (hf:fewP x) (hu:-9223372036854775808≤x.unit∧x.unit≤9223372036854775807) (h:¬ sectOk x):
  Calls prog 39 #[kv,.int .i64 x.unit,dv] w fun e w'=>e=.returned (.bool false)∧Below w.heap.size w w':=by
 obtain⟨ka,kc,hkv,_,_⟩:=hk.shape;obtain⟨da,dc,rfl,_,_⟩:=hd.shape;by_cases h1:keyOk x.key.length x.unit
 ·obtain⟨u,hu2⟩:∃ u:Nat,x.unit=u:=⟨x.unit.toNat,by have:=h1.2.1;omega⟩;rw[hu2] at h1 ⊢;have h2:=mayKey_ok hk u h1 da x.data.length dc (by have:=hf.2.2.1;omega);rw[show decide (x.data.length % 16=0∧x.data.length≤4096)=false from decide_eq_false (fun h3=>h ⟨by rw[hu2];exact h1,h3⟩)] at h2;exact h2
 ·subst hkv;exact mayBad_ok ka x.key.length kc x.unit (by have:=hf.2.1;omega) hu.1 hu.2 h1 _ w
theorem crypt_no {x:ActD}(h:¬ sectOk x):¬ (keyB x.key.length x.unit=true∧x.data.length % 16=0∧x.data.length≤4096):=by
 rintro⟨h1,h2⟩;have h3:=by unfold keyB at h1;exact of_decide_eq_true h1
 exact h ⟨h3,h2⟩
theorem KpA.of {w w':World}(h:Below w.heap.size w w'):KpA w w':=⟨h.size,fun g _ _ hg=>h.block g (heap_lt hg)⟩
theorem bytes_in {w0 w:World}{v:Value}{l:List UInt8}(h:Bytes w0 (fun _=>True) v l) (hb:Below w0.heap.size w0 w):Bytes w (fun g=>g<w0.heap.size) v l:=
 Cells.keep (Cells.mono h (fun _ hg _=>hg)) hb.size (fun g hg _=>hb.block g hg)
theorem nil_bytes (w:World):Bytes w (fun _=>True) (.slice none 0 0) []:=Cells.nil _ _ 1
structure RealI (w0:World) (b:List UInt8) (p s m:Nat) (w:World):Prop where
 tape:∃ bv tv,TapeO w w0.heap.size p bv tv b 0 []
 suite:SuiteAt w s none (some ⟨p,0,none⟩)
 doc:∃ n0 hp xp tp F bq lv,QSuiteAt w n0 m hp xp tp (.pointer none)∧QTapeAt w F tp bq lv b 0 0
 low:Below w0.heap.size w0 w
theorem RealI.below {w0 w w':World}{b:List UInt8}{p s m:Nat}(h:RealI w0 b p s m w) (hb:Below w.heap.size w w'):RealI w0 b p s m w':=by
 obtain⟨bv,tv,h1⟩:=h.tape;obtain⟨n0,hp,xp,tp,F,bq,lv,h2,h3⟩:=h.doc;have hC:Chg No w w':=Chg.of_below hb _
 exact⟨⟨bv,tv,h1.after hb⟩,(hb.block s (heap_lt h.suite)).trans h.suite,⟨n0,hp,xp,tp,F,bq,lv,h2.keep (fun g hg=>hb.block g (by
  rcases hg with rfl|rfl|rfl
  ·exact heap_lt h2.box
  ·exact heap_lt h2.hash
  ·exact heap_lt h2.tab)),h3.chg hC⟩,h.low.trans (hb.mono h.low.size)⟩
section
variable {w0 w:World}{b:List UInt8}{p s m:Nat}
theorem RealI.crypt (back:Bool) (h:RealI w0 b p s m w){x:ActD}{kv dv:Value}(hf:fewP x) (hu:-9223372036854775808≤x.unit∧x.unit≤9223372036854775807) (hk:Bytes w0 (fun _=>True) kv x.key) (hd:Bytes w0 (fun _=>True) dv x.data):
  Alike (if back then 11 else 9) #[.pointer (some ⟨s,0,none⟩),.string x.what,kv,.int .i64 x.unit,dv] 10 #[.pointer (some ⟨m,0,none⟩),.string x.what,kv,.int .i64 x.unit,dv,.bool back] (RealI w0 b p s m) w:=by
 have hkw:=bytes_in hk h.low;have hdw:=bytes_in hd h.low;obtain⟨ka,kc,rfl,_,_⟩:=hk.shape;obtain⟨da,dc,rfl,_,_⟩:=hd.shape;by_cases hok:sectOk x
 ·obtain⟨u,hu2⟩:∃ u:Nat,x.unit=u:=⟨x.unit.toNat,by have:=hok.1.2.1;omega⟩;have hko:=hok.1;rw[hu2] at hko ⊢
  have hsecond:∀ (X:List UInt8) (w1:World) (xa:Option Addr) (xn xc:Nat),RealI w0 b p s m w1→Bytes w1 (fun _=>True) (.slice xa xn xc) X→(∀ tb,QBoxAt w1 tb→Calls prog 26 #[.pointer (some ⟨tb,0,none⟩),.slice ka x.key.length kc,.int .i64 u,.slice da x.data.length dc,.bool back] w1 fun e w'=>∃ v,e=.returned (.tuple #[v,.bool true])∧w'.ownsRow w1.heap.size 5 1 v X.length (u8s X)∧Below w1.heap.size w1 w')→
    Calls prog 10 #[.pointer (some ⟨m,0,none⟩),.string x.what,.slice ka x.key.length kc,.int .i64 u,.slice da x.data.length dc,.bool back] w1 fun e2 w2=>∃ ya yn yc X,e2=.returned (.tuple #[.slice ya yn yc,.int .i64 0])∧Bytes w2 (fun _=>True) (.slice xa xn xc) X∧Bytes w2 (fun _=>True) (.slice ya yn yc) X∧RealI w0 b p s m w2:=by
   intro X w1 xa xn xc h1 hx hq;obtain⟨n0,hp,xp,tp,F,bq,lv,h2,h3⟩:=h1.doc;refine (qSuCrypt_real h2 (keyB_ok hko) hok.2.1 hok.2.2 (fun v w'=>w'.ownsRow w1.heap.size 5 1 v X.length (u8s X)∧Below w1.heap.size w1 w') (hq xp h2.tab)).mono ?_;rintro e2 w2 ⟨v,rfl,h4,h5⟩;obtain⟨ya,yc,rfl,_,_⟩:=(Cells.own h4).shape;exact⟨ya,X.length,yc,X,rfl,Cells.keep hx h5.size (fun g _ hg=>h5.block g hg),(own_bytes h4).mono (fun _ _ _=>trivial),h1.below h5⟩
  cases back with
  | false=>
   refine seal_real h.suite _ _ _ _ _ ((xtsEnc_ok hkw u hko hdw hok.2.1 hok.2.2).mono ?_);rintro e w1 ⟨v,rfl,h1,h2⟩;obtain⟨xa,xc,rfl,_,_⟩:=(Cells.own h1).shape;have hXl:(xtsE x.key u x.data).length=x.data.length:=by simpa [u8s_length] using h1.1
   refine⟨_,_,_,_,rfl,xa,x.data.length,xc,0,rfl,KpA.of h2,hsecond (xtsE x.key u x.data) w1 xa x.data.length xc (h.below h2) ?_ ?_⟩
   ·rw[← hXl] at h1 ⊢;exact (own_bytes h1).mono (fun _ _ _=>trivial)
   ·intro tb ht;have h3:=(h.below h2).low;have hc:=qXtsE_ok (bytes_in hk h3) u hko (bytes_in hd h3) hok.2.1 hok.2.2 ht;rw[hXl];exact hc
  | true=>
   refine open_real h.suite _ _ _ _ _ ((xtsDec_ok hkw u hko hdw hok.2.1 hok.2.2).mono ?_);rintro e w1 ⟨v,rfl,h1,h2⟩;obtain⟨xa,xc,rfl,_,_⟩:=(Cells.own h1).shape;have hXl:(xtsD x.key u x.data).length=x.data.length:=by simpa [u8s_length] using h1.1
   refine⟨_,_,_,_,rfl,xa,x.data.length,xc,0,rfl,KpA.of h2,hsecond (xtsD x.key u x.data) w1 xa x.data.length xc (h.below h2) ?_ ?_⟩
   ·rw[← hXl] at h1 ⊢;exact (own_bytes h1).mono (fun _ _ _=>trivial)
   ·intro tb ht;have h3:=(h.below h2).low;have hc:=qXtsD_ok (bytes_in hk h3) u hko (bytes_in hd h3) hok.2.1 hok.2.2 ht;rw[hXl];exact hc
 ·have hm:=may_no hkw hdw hf hu hok
  have hsecond:∀ w1,RealI w0 b p s m w1→Calls prog 10 #[.pointer (some ⟨m,0,none⟩),.string x.what,.slice ka x.key.length kc,.int .i64 x.unit,.slice da x.data.length dc,.bool back] w1 fun e2 w2=>∃ ya yn yc X,e2=.returned (.tuple #[.slice ya yn yc,.int .i64 1])∧Bytes w2 (fun _=>True) (.slice none 0 0) X∧Bytes w2 (fun _=>True) (.slice ya yn yc) X∧RealI w0 b p s m w2:=fun w1 h1=>by
   refine (qSuCrypt_bad (by have:=hf.2.2.1;omega) (crypt_no hok)).mono ?_;rintro e2 w2 ⟨rfl,rfl⟩;exact⟨_,_,_,[],rfl,nil_bytes _,nil_bytes _,h1⟩
  cases back with
  | false=>
   refine seal_real h.suite _ _ _ _ _ ((xtsEncBad_ok _ _ _ hm).mono ?_);rintro e w1 ⟨rfl,h2⟩;exact⟨_,_,_,_,rfl,_,_,_,_,rfl,KpA.of h2,hsecond w1 (h.below h2)⟩
  | true=>
   refine open_real h.suite _ _ _ _ _ ((xtsDecBad_ok _ _ _ hm).mono ?_);rintro e w1 ⟨rfl,h2⟩;exact⟨_,_,_,_,rfl,_,_,_,_,rfl,KpA.of h2,hsecond w1 (h.below h2)⟩
theorem RealI.derive (h:RealI w0 b p s m w){x:ActD}{kv dv:Value}(hk:Bytes w0 (fun _=>True) kv x.key) (hd:Bytes w0 (fun _=>True) dv x.data):
  Alike 12 #[.pointer (some ⟨s,0,none⟩),.string x.what,kv,dv,.int .i64 x.unit,.int .i64 x.num] 13 #[.pointer (some ⟨m,0,none⟩),.string x.what,kv,dv,.int .i64 x.unit,.int .i64 x.num] (RealI w0 b p s m) w:=by
 have hkw:=bytes_in hk h.low;have hdw:=bytes_in hd h.low;by_cases hok:askOk x.key.length x.data.length x.unit x.num
 ·have hb:x.key.length≤128∧x.data.length≤64∧1≤x.unit∧x.unit≤10000:=by
   have h1:=hok.1;simp[mayB] at h1;omega
  obtain⟨u,hu2⟩:∃ u:Nat,x.unit=u:=⟨x.unit.toNat,by omega⟩;obtain⟨n,hn2⟩:∃ n:Nat,x.num=n:=⟨x.num.toNat,by have:=hok.2.1;omega⟩;have hm:=hok.1;have hn256:n≤256:=by have:=hok.2.2;omega
  rw[hu2] at hm ⊢;rw[hn2];refine derive_real h.suite _ _ _ _ _ _ ((key_any hkw hdw hb.1 hb.2.1 u n (by omega) (by omega) hn256).mono ?_);rintro e w1 ⟨v,rfl,h1,h2⟩;obtain⟨xa,xc,rfl,_,_⟩:=(Cells.own h1).shape;have hI1:=h.below h2;have hXl:(keyL (keyK x.key) x.data u n).length=n:=by simpa [u8s_length] using h1.1
  refine⟨_,_,_,_,rfl,xa,n,xc,0,rfl,KpA.of h2,?_⟩;obtain⟨n0,hp,xp,tp,F,bq,lv,h3,h4⟩:=hI1.doc;refine (qSuDerive_real h3 (bytes_in hk hI1.low) (bytes_in hd hI1.low) (.string x.what) u n hm hn256).mono ?_;rintro e2 w2 ⟨v2,rfl,h5,h6⟩;obtain⟨ya,yc,rfl,_,_⟩:=h5.shape;refine⟨ya,_,yc,keyL (keyK x.key) x.data u n,rfl,?_,h5.mono (fun _ _ _=>trivial),hI1.below h6⟩
  have h7:Bytes w1 (fun _=>True) (.slice xa n xc) (keyL (keyK x.key) x.data u n):=by
   show Cells w1 _ _ (keyL (keyK x.key) x.data u n).length 1 _;rw[hXl];exact (Cells.own h1).mono (fun _ _ _=>trivial)
  exact Cells.keep h7 h6.size (fun g _ hg=>h6.block g hg)
 ·obtain⟨ka,kc,rfl,_,_⟩:=hk.shape;obtain⟨da,dc,rfl,_,_⟩:=hd.shape
  have hbad:mayB x.key.length x.data.length x.unit=false∨x.num<0∨256<x.num:=by
   cases hm:mayB x.key.length x.data.length x.unit with
   | false=>exact .inl rfl
   | true=>
    right;by_cases h1:x.num<0
    ·exact .inl h1
    ·by_cases h2:256<x.num
     ·exact .inr h2
     ·exact absurd ⟨hm,by omega,by omega⟩ hok
  refine derive_real h.suite _ _ _ _ _ _ ((key_bad ka da _ kc _ dc x.unit x.num hbad w).mono ?_);rintro e w1 ⟨rfl,rfl⟩;refine⟨_,_,_,_,rfl,none,0,0,1,rfl,KpA.of (Below.refl _ _),?_⟩;obtain⟨n0,hp,xp,tp,F,bq,lv,h3,h4⟩:=h.doc;refine (qSuDerive_bad h3 hok).mono ?_;rintro e2 w2 ⟨rfl,rfl⟩;exact⟨_,_,_,[],rfl,nil_bytes _,nil_bytes _,h⟩
theorem realLaw:LawSt w0 b.length false p s m (RealI w0 b p s m) where
 no:=fun w w' h hc=>h.below (Chg.no hc)
 below:=fun w h=>h.low
 sealed:=fun w x kv dv h hf hu hk hd=>h.crypt false hf hu hk hd
 opened:=fun w x kv dv h hf hu hk hd=>h.crypt true hf hu hk hd
 derived:=fun w x kv dv h hf hk hd=>h.derive hk hd
 left:=fun w h=>by
  obtain⟨n0,hp,xp,tp,F,bq,lv,h2,h3⟩:=h.doc;refine⟨0,tp,Nat.zero_le _,heap_lt h2.box,heap_lt h3.box,fun w3 hc=>?_⟩;have h4:=h.below (Chg.no hc);obtain⟨bv,tv,h5⟩:=h4.tape;refine⟨left_ok h5.at,?_,?_⟩
  ·rw[cell_of ((hc.block m (heap_lt h2.box) id).trans h2.box)];rfl
  ·rw[cell_of ((hc.block tp (heap_lt h3.box) id).trans h3.box)];rfl
 isIdeal:=fun w h=>isIdeal_ok h.suite
end
theorem real_set {w:World}{S:Nat→Prop}{b:List UInt8}{ba:Option Addr}{bc:Nat}(hb:Bytes w S (.slice ba b.length bc) b) (hl:b.length≤3000):
  Calls prog 6 #[.slice ba b.length bc] w fun e w1=>∃ p,e=.returned (.pointer (some ⟨p,0,none⟩))∧Calls prog 7 #[.pointer (some ⟨p,0,none⟩),.bool false] w1 fun e w2=>∃ s,e=.returned (.pointer (some ⟨s,0,none⟩))∧
   Calls prog 8 #[.slice ba b.length bc,.bool false] w2 fun e w3=>∃ m I,e=.returned (.pointer (some ⟨m,0,none⟩))∧LawSt w b.length false p s m I∧I w3:=by
 refine (tapeNewO_ok hb (by omega)).mono ?_;rintro e w1 ⟨p,bv,rfl,hT,hb1⟩;refine⟨p,rfl,made_re _ _ _ ((real_ok (some ⟨p,0,none⟩) w1).mono ?_)⟩;rintro e w2 ⟨s,rfl,hsl,hs,hb2⟩;refine⟨_,rfl,s,rfl,?_⟩;have hlow:Below w.heap.size w w2:=hb1.trans (hb2.mono hb1.size);have hbw:Bytes w2 (fun g=>g<w.heap.size) (.slice ba b.length bc) b:=Cells.keep (Cells.mono hb (fun g hg _=>hg)) hlow.size (fun g hg _=>hlow.block g hg);refine (qNewReal_ok hbw (by omega) (fun g hg=>Nat.lt_of_lt_of_le hg hlow.size)).mono ?_;rintro e w3 ⟨m,hp,xp,tp,rfl,hq,ht,hb3⟩;exact⟨m,RealI w b p s m,rfl,realLaw,⟨⟨bv,_,(hT.after hb2).after hb3⟩,(hb3.block s (heap_lt hs)).trans hs,⟨_,hp,xp,tp,_,_,_,hq,ht⟩,hlow.trans (hb3.mono hlow.size)⟩⟩
end Go.Proofs.YtbgfdbidbjlaaaaGreat.Fd

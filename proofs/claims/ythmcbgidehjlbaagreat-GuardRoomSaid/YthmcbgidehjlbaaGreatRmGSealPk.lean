/-
  Texts of this claim, laid together by a program of mine. No condition beyond what each theorem names.
-/
import Derived.Test.YthmcbgidehjlbaaGreatRmGOf
import Derived.Test.YthmcbgidehjlbaaGreatRmXenc
/-
  suite.Seal of the real kind; volume.base.seal. No condition beyond what each theorem names.
-/
namespace Go.Proofs.YthmcbgidehjlbaaGreat.Fd
open _root_.Go.Proofs.Tryz
open Go Go.RowKit K
set_option maxRecDepth 100000
set_option maxHeartbeats 8000000
def TwoG (Q:Ending→World→Prop) (e:Ending) (w:World):Prop:=∃ a n c er,e=.returned (.tuple #[.slice a n c,.int .i64 er])∧Q e w
theorem sealReal {w:World}{s:Nat}{t:Option Addr}(hs:SuiteAt w s none t) (what kv dv:Value) (unit:Int) (Q:Ending→World→Prop)
  (h:Calls prog 144 #[kv,.int .i64 unit,dv] w (TwoG Q)):
  Calls prog 118 #[.pointer (some ⟨s,0,none⟩),what,kv,.int .i64 unit,dv] w Q:=by
 have hi:=LH (isIdeal_ok hs);replace h:=LH h;clear hs;go_enter func118,ntmps118
 go_wp2_with (first|(go_at_call 137;refine hi.out.mono ?_;rintro e w' ⟨rfl,rfl⟩)|fail)
 refine h.out.mono ?_;rintro e w' ⟨a,n,cp,er,rfl,hQ⟩;replace hQ:=LH hQ;go_wp2;exact hQ.out
theorem seal64 {w:World}{s:Nat}{t:Option Addr}(hs:SuiteAt w s none t) (what:Value){S S':Nat→Prop}{kv dv:Value}{key data:List UInt8}(hk:Bytes w S kv key) (hkl:key.length=64) (hd:Bytes w S' dv data) (hdl:data.length=64) (unit:Nat) (hu:unit≤65536):
  Calls prog 118 #[.pointer (some ⟨s,0,none⟩),what,kv,.int .i64 unit,dv] w fun e w'=>∃ v,e=.returned (.tuple #[v,.int .i64 0])∧w'.ownsRow w.heap.size 5 1 v 64 (u8s (xtsE key unit data))∧Below w.heap.size w w':=
 sealReal hs what kv dv unit _ ((xtsEnc_ok hk unit ⟨.inr hkl,by omega,by omega⟩ hd (by omega) (by omega)).mono fun e w' ⟨v,h1,h2,h3⟩=>by
  rw[hdl] at h2;obtain⟨g,cp,rfl,_⟩:=own_shape h2 (by omega);exact⟨_,_,_,_,h1,_,h1,h2,h3⟩)
theorem wpList_mk {P:Program}{w w':World}{ops:Array Oper}{rest:List Oper}{o:Oper}{a:Act}{Q:Exit→Act→World→Prop}(hgd:o.guard=none) (t:TypeId) (x x':Operand) (ho:o.op=.makeSlice t x x')
  (y:Value) (hx:a.eval x=y) (hx':a.eval x'=y) (v:Value) (hr:(Instr.makeSlice t y y).run P w=.ok v w') (h:wpList P ops Q rest (a.put o.dst v) w'):wpList P ops Q (o::rest) a w:=by
 refine wpList_plain hgd fun K hK=>?_
 unfold Oper.wp execOp;simp only[ho,hx,hx',Sem.run_bind,hr,Result.andThen_ok];exact hK _ _ h
def tup (u:Value) (i:Nat):Value:=match u with
 | .tuple cs=>cs.getD i undef
 | _=>undef
theorem pad_length {l:List UInt8}(h:l.length≤64):(l++List.replicate (64 - l.length) 0).length=64:=by simp;omega
theorem voSeal_ok {w:World}{xs:List Value}{d s b:Nat}{what:ByteArray}{A M:List UInt8}{t:Option Addr}(h:BaseIs xs d s b what A M) (hs:SuiteAt w s none t) (at':Nat) (hat:at'≤65536){S:Nat→Prop}{dv:Value}{l:List UInt8}(hd:Bytes w S dv l) (hl:l.length≤64):
  Calls prog 80 #[.agg xs.toArray,.int .i64 at',dv] w fun e w'=>∃ v,e=.returned (.tuple #[.agg #[.int .i64 at',v],.int .i64 0])∧w'.ownsRow w.heap.size 5 1 v 64 (u8s (xtsE A at' (l++List.replicate (64 - l.length) 0)))∧Below w.heap.size w w':=by
 obtain⟨da,dc,rfl,hdc1,hdc2⟩:=hd.shape;obtain⟨q,hq⟩:∃ q,q=w.heap.size:=⟨_,rfl⟩;obtain⟨w1,hw1⟩:∃ w1,w1=(w.alloc (.cells xs.toArray 96)).alloc (.cells #[.int .i64 0,.slice none 0 0] 142):=⟨_,rfl⟩;have hx:BoxB w1 q xs:=by rw[hw1,hq];exact (boxB_new w xs).chg ((Chg.refl _ _).alloc _)
 have b1:Below w.heap.size w w1:=by rw[hw1];exact ((Below.refl _ _).alloc (Nat.le_refl _) _).alloc (by simp) _
 have x1:w1.heap[q+1]?=some (.cells #[.int .i64 0,.slice none 0 0] 142 (0,0)):=by rw[hw1,hq];have h:=heap_alloc_new (w.alloc (.cells xs.toArray 96)) (.cells #[.int .i64 0,.slice none 0 0] 142);simp only[World.size_alloc] at h;exact h
 have s1:SuiteAt w1 s none t:=(b1.block s (heap_lt hs)).trans hs;have hd1:Bytes w1 S (.slice da l.length dc) l:=Cells.keep hd b1.size (fun g _ hg=>b1.block g hg);obtain⟨n,hn⟩:∃ n,n=l.length:=⟨_,rfl⟩;obtain⟨R,hR⟩:∃ R,R=64 - n:=⟨_,rfl⟩;have hRI:(64:Int) - n=R:=by omega
 rw[← hn] at hl hd1 ⊢;obtain⟨w2,hw2⟩:∃ w2,w2=w1.alloc (.cells (u8s (List.replicate R 0)).toArray 5):=⟨_,rfl⟩;have b2:Below w1.heap.size w1 w2:=by rw[hw2];exact (Below.refl _ _).alloc (Nat.le_refl _) _
 have hz2:Cells w2 (fun _=>True) (.slice (some ⟨w1.heap.size,0,none⟩) R R) R 1 (u8s (List.replicate R 0)):=arr16 (t:=5) (by rw[hw2];exact heap_alloc_new w1 _) (by simp) (by unfold maxLen;omega);have hd2:Bytes w2 (fun _=>True) (.slice da n dc) l:=(Cells.keep hd1 b2.size (fun g _ hg=>b2.block g hg)).mono (fun _ _ _=>trivial)
 have hP:=parts_lit (w:=w2) (S:=fun _=>True) (vs:=[.slice da n dc,.slice (some ⟨w1.heap.size,0,none⟩) R R]) (parts:=[l,List.replicate R 0]) rfl (by unfold maxLen;simp) (by
  intro j v hv
  match j with
  | 0=>cases hv;exact hd2
  | 1=>cases hv;show Cells w2 _ _ (List.replicate R (0:UInt8)).length 1 _;rw[List.length_replicate];exact hz2
  | _+2=>simp at hv)
 have hcc:=LH (concat_ok hP (by simp) (by
  intro x hx;simp only[List.mem_cons,List.not_mem_nil,or_false] at hx;rcases hx with rfl|rfl
  ·omega
  ·rw[List.length_replicate];omega))
 obtain⟨Z,hZ⟩:∃ Z,Z=l++List.replicate R 0:=⟨_,rfl⟩;have hZl:Z.length=64:=by rw[hZ];simp;omega
 have hZf:[l,List.replicate R 0].flatten=Z:=by rw[hZ];simp
 rw[hZf,hZl] at hcc;rw[← hR,← hZ];have hb12:=LH b2;have e1:=LH (show w1.heap.size=w.heap.size+1+1 by rw[hw1];simp);have e2:=LH (show w2.heap.size=w1.heap.size+1 by rw[hw2];simp);obtain⟨c,hc⟩:∃ c,c=xs.toArray:=⟨_,rfl⟩;rw[← hc] at hw1 ⊢;replace hc:=LH hc;replace hx:=LH hx;replace b1:=LH b1;replace x1:=LH x1;replace s1:=LH s1;replace hZ:=LH hZ;replace hn:=LH hn;replace hR:=LH hR;replace h:=LH h;clear hd hs hd1 hz2 hd2 hP b2 hZf;go_enter func80,ntmps80;have hw2':=LH hw2
 go_wp2_with (first|(rw[← hw1];refine wpList_mk rfl 42 _ _ rfl _ rfl rfl _ (mk_z w1 R _ (by omega) (by omega)) ?_;rw[← hw2])|fail)
 rw[← hw1,← hw2,← e1.out,← e2.out];refine hcc.out.mono ?_;rintro e w3 ⟨zv,rfl,hzv,hb3⟩;have hb2a:=hb12.out.alloc hb12.out.size (.cells #[.slice da n dc,.slice (some ⟨w1.heap.size,0,none⟩) R R] 42);have hB23:=hb2a.trans (hb3.mono hb2a.size);obtain⟨za,zc,rfl,_⟩:=own_shape hzv (by omega)
 have hzb:Bytes w3 (fun _=>True) (.slice (some ⟨za,0,none⟩) 64 zc) Z:=by
  have h:=(Cells.own hzv).mono (S':=fun _=>True) (fun _ _ _=>trivial);show Cells w3 _ _ Z.length 1 _;rw[hZl];exact h
 have hx3:=hx.out.chg (Chg.of_below hB23 _);have s3:SuiteAt w3 s none t:=(hB23.block s (heap_lt s1.out)).trans s1.out;have x3:=(hB23.block (q+1) (heap_lt x1.out)).trans x1.out;have b3:=LH (b1.out.trans (hB23.mono b1.out.size))
 have hkA:∀ w4,Chg No w3 w4→Bytes w4 (fun _=>True) (.slice (some ⟨q,5,none⟩) 64 64) A:=fun w4 hc=>by
  refine⟨by rw[u8s_length,Nat.mul_one],_,_,by rw[h.out.dl],Nat.le_of_eq h.out.dl,by unfold maxLen;omega,fun h=>(by cases h),.inr ⟨q,5,rfl,trivial,heap_lt (hx3.chg hc).at_,fun j u hu=>(hx3.chg hc).get (h.out.dat j u hu)⟩⟩
 have hse:∀ w4,Chg No w3 w4→Calls prog 118 #[.pointer (some ⟨s,0,none⟩),.string what,.slice (some ⟨q,5,none⟩) 64 64,.int .i64 at',.slice (some ⟨za,0,none⟩) 64 zc] w4 fun e w'=>∃ v,e=.returned (.tuple #[v,.int .i64 0])∧w'.ownsRow w4.heap.size 5 1 v 64 (u8s (xtsE A at' Z))∧Below w4.heap.size w4 w':=fun w4 hc=>
  seal64 (w:=w4) ((hc.block s (heap_lt s3) id).trans s3) _ (hkA w4 hc) h.out.dl (Bytes.chg hzb hc (fun _ _ _=>id)) hZl at' hat
 have hdr:∀ w4,Chg No w3.drew w4→Chg No w3 w4:=fun w3 h=>⟨h.os,h.tape,h.output,h.size,h.block⟩
 obtain⟨XE,hXE⟩:∃ X,X=xtsE A at' Z:=⟨_,rfl⟩;rw[← hXE] at hse;replace hXE:=LH hXE;replace hse:=LH hse;replace hdr:=LH hdr;replace hx3:=LH hx3;replace x3:=LH x3;rw[← hq];replace hw1:=LH hw1;replace hw2:=LH hw2;have hq':=LH hq;clear hb2a hq hb3 hB23 hzv hzb s3 hkA hcc hx s1 x1 hb12 b1;go_wp2;refine RA.rt (Chg No) [1,1,1,1,1,1,1,1,1,3,1,1,1,1,1] [] (fun _=>True) trivial (fun _=>Chg.refl _ _) (fun _ _ _ h k=>h.trans k) (h:=?_);intro cx;refine RA.fk prog (q) (1) (h:=?_);refine RA.lk prog (.pointer (some ⟨s,0,none⟩)) (hc:=fun w3 hp=>by exact (hx3.out.chg (hdr.out _ hp.1)).get h.out.c1) (h:=?_);refine RA.fk prog (q) (2) (h:=?_);refine RA.lk prog (.string what) (hc:=fun w3 hp=>by exact (hx3.out.chg (hdr.out _ hp.1)).get h.out.c2) (h:=?_);refine RA.fk prog (q) (3) (h:=?_);refine RA.fk prog (q) (5) (h:=?_);refine RA.vk prog (.slice (some ⟨q,5,none⟩) 64 64) (h:=?_)
 repeat (first|refine RA.mv (by rfl) (by rfl) (by rfl) ?_|refine RA.as (by rfl) (by rfl) (by rfl) ?_|refine RA.pt (by rfl) (by rfl) (by rfl) (by rfl) ?_|refine RA.pf (by rfl) (by rfl) (by rfl) (by rfl) ?_)
 refine RA.qc (P:=prog) [.pointer (some ⟨s,0,none⟩),.string what,.slice (some ⟨q,5,none⟩) 64 64,.int .i64 at',.slice (some ⟨za,0,none⟩) 64 zc] (fun v w3=>∃ u,v=.tuple #[u,.int .i64 0]∧w3.ownsRow w.heap.size 5 1 u 64 (u8s XE)) (fun _ _=>True) (fun _ _=>by go_simp) (by rfl) (by rfl) (by rfl) (by kernel_rfl) (fun v a b h h2=>by
  obtain⟨u,k1,k2⟩:=h2;exact⟨u,k1,owns_keep k2 (fun g hg=>h.block g (owns_lt k2 g hg) id)⟩) (fun _ _ _ _ h=>h) rfl (fun w3 hp hH=>by
  refine (hse.out w3 (hdr.out _ hp.1)).mono ?_;rintro e w4 ⟨v,rfl,k1,k2⟩;exact⟨_,rfl,Chg.of_below k2 _,⟨v,rfl,owns_base k1 (Nat.le_trans b3.out.size (hdr.out _ hp.1).size)⟩,trivial⟩) (fun u=>?_)
 repeat (first|refine RA.mv (by rfl) (by rfl) (by rfl) ?_|refine RA.as (by rfl) (by rfl) (by rfl) ?_|refine RA.pt (by rfl) (by rfl) (by rfl) (by rfl) ?_|refine RA.pf (by rfl) (by rfl) (by rfl) (by rfl) ?_)
 refine RA.vk prog (tup u 0) (hr:=fun w3 hp=>by
  obtain⟨v,rfl,_⟩:=hp.fact 0 rfl (by kernel_rfl);clear hp;go_simp;rfl) (h:=?_)
 refine RA.vk prog (tup u 1) (hr:=fun w3 hp=>by
  obtain⟨v,rfl,_⟩:=hp.fact 0 rfl (by kernel_rfl);clear hp;go_simp;rfl) (h:=?_)
 repeat (first|refine RA.mv (by rfl) (by rfl) (by rfl) ?_|refine RA.as (by rfl) (by rfl) (by rfl) ?_|refine RA.pt (by rfl) (by rfl) (by rfl) (by rfl) ?_|refine RA.pf (by rfl) (by rfl) (by rfl) (by rfl) ?_)
 refine RA.RA.done rfl (fun w5 hR hF hH=>?_);clear hH;simp only[RA.put,List.foldr_cons,List.foldr_nil,cx,Act.put,List.setIfInBounds_toArray,List.set_cons_succ,List.set_cons_zero];have hC5:=hdr.out _ hR;obtain⟨v,rfl,hv⟩:=hF _ (List.mem_cons_self ..);obtain⟨vg,vc,rfl,_⟩:=own_shape hv (by omega);simp only[tup,Array.getD_eq_getD_getElem?,List.getElem?_toArray,List.getElem?_cons_zero,List.getElem?_cons_succ,Option.getD_some];have x5:=(hC5.block (q+1) (heap_lt x3.out) id).trans x3.out;have hst:=store_struct (P:=prog) (ty:=142) (x:=[.int .i64 at',.slice (some ⟨vg,0,none⟩) 64 vc]) x5 (by kernel_rfl) rfl (by simp[Value.oneCell']);have y5:(w5.setRow (q+1) #[.int .i64 at',.slice (some ⟨vg,0,none⟩) 64 vc]).heap[q+1]?=some (.cells #[.int .i64 at',.slice (some ⟨vg,0,none⟩) 64 vc] 142 (0,0)):=setRow_heap _ _ _ _ _ _ x5;have hB5:Below w.heap.size w (w5.setRow (q+1) #[.int .i64 at',.slice (some ⟨vg,0,none⟩) 64 vc]):=below_setRow (b3.out.trans (hC5.no.mono b3.out.size)) (by rw[← hq'.out];omega) _
 have hv5:(w5.setRow (q+1) #[.int .i64 at',.slice (some ⟨vg,0,none⟩) 64 vc]).ownsRow w.heap.size 5 1 (.slice (some ⟨vg,0,none⟩) 64 vc) 64 (u8s XE):=owns_keep hv (fun g hg=>setRow_other _ _ _ _ (by
  rintro rfl;exact apartT hv x5 (by decide) hg))
 replace hst:=LH hst;replace y5:=LH y5;replace hB5:=LH hB5;replace hv5:=LH hv5;clear hC5 hR hF hv x5 hse hx3 x3 hdr
 go_wp2_with (first|(refine wpList_store rfl 142 _ _ rfl _ _ rfl rfl hst.out ?_)|fail)
 refine bodyPost_ret (results_cell_row2 results80 _ _ (q+1) 142 _ (0,0) _ rfl y5.out underlying142 rfl (by kernel_rfl)) rfl ⟨_,rfl,by rw[← hXE.out];exact hv5.out,hB5.out⟩
end Go.Proofs.YthmcbgidehjlbaaGreat.Fd
/-
  volume.table, mapped: a sector of tags, of marks. No condition beyond what each theorem names.
-/
namespace Go.Proofs.YthmcbgidehjlbaaGreat.Fd
open _root_.Go.Proofs.Tryz
open Go Go.RowKit K
set_option maxRecDepth 100000
set_option maxHeartbeats 8000000
def tagsL (L:List UInt8) (i:Nat):Nat→List UInt8
 | 0=>[]
 | j+1=>tagsL L i j++nodeL L (i+j)
theorem tagsL_length {L:List UInt8}{i j:Nat}:(tagsL L i j).length=j*16:=by
 induction j with
 | zero=>rfl
 | succ j ih=>rw[tagsL,List.length_append,ih,nodeL_length];omega
theorem voTable_ok {w:World}{t b:Nat}{gs:Nat→Nat}{key:List UInt8}{Ls:List (List UInt8)}(h:TreeAt w t b gs key Ls) (h0:0<Ls.length) (k:Nat) (hk:k≤20):
  Calls prog 83 #[.pointer (some ⟨t,0,none⟩),.int .i64 k] w fun e w'=>∃ v,e=.returned v∧w'.ownsRow w.heap.size 5 1 v 64 (u8s (tagsL (Ls.getD 0 []) (4*k) 4))∧Below w.heap.size w w':=by
 have hz1:(Value.int .u8 0).cells.size=1:=rfl;obtain⟨X,hX⟩:∃ X,X=4*k:=⟨_,rfl⟩;have hXI:(4:Int)*k=X:=by omega
 have hX80:X≤80:=by omega
 obtain⟨L,hL⟩:∃ L,L=Ls.getD 0 []:=⟨_,rfl⟩;have HL:=fun (w3:World) (hb:Below w.heap.size w w3) (i:Nat) (hi:i≤1000)=>htLeaf_ok (h.after hb) h0 i hi
 rw[← hL] at HL;rw[← hX,← hL];replace HL:=LH HL;replace hX:=LH hX;replace hL:=LH hL;clear h h0;go_enter func83,ntmps83;go_wp2
 go_loopg [4,7] 4 (fun g o ix wr=>∃ j:Nat,∃ ov:Value,ov=o∧j+g=4∧ix=.int .i64 j∧Hid (wr.ownsRow w.heap.size 5 1 ov (j*16) (u8s (tagsL L X j)))∧Hid (Below w.heap.size w wr))
 case atStart=>exact⟨0,_,rfl,by omega,rfl,World.ownsRow_nil _ _ _ _,Below.refl _ _⟩
 case round=>
  obtain⟨j,ov,rfl,hjg,rfl,HO,hbw⟩:=hrel;by_cases hlt:j<4
  ·obtain⟨g1,rfl⟩:∃ i,gk=i+1:=⟨gk - 1,by omega⟩;have hlI:(j:Int)<4:=by omega
   obtain⟨Y,hY⟩:∃ Y,Y=X+j:=⟨_,rfl⟩;have hYI:(X:Int)+j=Y:=by omega
   have hl:=LH (HL.out wr hbw.out Y (by omega));obtain⟨K1,hK1⟩:∃ K,K=nodeL L Y:=⟨_,rfl⟩;have hK1l:K1.length=16:=hK1 ▸ nodeL_length;rw[← hK1] at hl;replace hY:=LH hY;replace hK1:=LH hK1
   go_wp2_with fail
   refine hl.out.mono ?_;rintro e w4 ⟨rfl,hb4⟩;have xA:Arr (w4.alloc (.cells #[.int .u8 0,.int .u8 0,.int .u8 0,.int .u8 0,.int .u8 0,.int .u8 0,.int .u8 0,.int .u8 0,.int .u8 0,.int .u8 0,.int .u8 0,.int .u8 0,.int .u8 0,.int .u8 0,.int .u8 0,.int .u8 0] 179)) w4.heap.size 179 (List.replicate 16 0):=heap_alloc_new w4 _;have hst:=block_store xA List.length_replicate K1 hK1l;obtain⟨w5,hw5⟩:∃ w5,w5=(w4.alloc (.cells #[.int .u8 0,.int .u8 0,.int .u8 0,.int .u8 0,.int .u8 0,.int .u8 0,.int .u8 0,.int .u8 0,.int .u8 0,.int .u8 0,.int .u8 0,.int .u8 0,.int .u8 0,.int .u8 0,.int .u8 0,.int .u8 0] 179)).setRow w4.heap.size (u8s K1).toArray:=⟨_,rfl⟩;have x5:Arr w5 w4.heap.size 179 K1:=by rw[hw5];exact xA.setRow K1
   have b5:Below w4.heap.size w4 w5:=by rw[hw5];exact below_setRow ((Below.refl _ _).alloc (Nat.le_refl _) _) (Nat.le_refl _) _
   have hb45:Below wr.heap.size wr w5:=hb4.trans (b5.mono hb4.size);have hb5:Below w.heap.size w w5:=hbw.out.trans (hb45.mono hbw.out.size);have HO5:=LH (owns_keep HO.out (fun g hg=>hb45.block g (owns_lt HO.out g hg)));have HCB:=LH (arr16 x5 hK1l (by unfold maxLen;omega));have HBK:=LH (fun g=>owns_ge HO.out g);have hrs:=hb5.size;have hFL:j*16≤64:=by omega
   obtain⟨FL,hFLe⟩:∃ F,F=j*16:=⟨_,rfl⟩;rw[← hw5] at hst;rw[← hFLe] at hFL HO5;replace hst:=LH hst;replace hb5:=LH hb5;replace hw5:=LH hw5;replace hFLe:=LH hFLe;clear xA x5 b5 hb45 hb4 hl
   go_wp2_with (first|(refine wpList_store rfl 179 _ _ rfl _ _ rfl rfl hst.out ?_)|(at_builtin;refine K.append ?_ (.tmp 16) (.tmp 17) 42 ?_ w.heap.size 5 (.int .u8 0) 1 1 underlying42 infoByte hz1 (by omega) _ FL _ ?_ HO5.out (fun _=>True) _ 16 (u8s K1) ?_ HCB.out (K.u8s_one K1) (by unfold maxLen;omega) (by omega) ?_ ?_))
   any_goals (first|rfl|omega)
   intro v' w2 y1 y2 y3 y4;have Y1:=LH y1;have hb3:=LH ((Chg.of_below hb5.out No).grown y2 (fun g hg hl=>absurd (HBK.out g hg) (by omega))).no;clear y1 y2 y3 y4;go_wp2;go_roundg g1
   case measure=>omega
   case rel=>
    refine⟨j+1,_,rfl,by omega,by go_num,?_,hb3.out⟩;show World.ownsRow _ _ _ _ _ _ _;rw[tagsL,u8s_append,show (j+1)*16=FL+16 by rw[hFLe.out];omega,← hY.out,← hK1.out];exact Y1.out
  ·obtain rfl:gk=0:=by omega
   obtain rfl:j=4:=by omega
   have hlI:¬ ((4:Nat):Int)<4:=by omega
   go_wp2;go_ret;exact⟨_,rfl,HO.out,hbw.out⟩
theorem voMapped_ok {w:World}{m:Nat}{L:List UInt8}(h:MarksAt w m L):
  Calls prog 84 #[.pointer (some ⟨m,0,none⟩),.int .i64 0] w fun e w'=>∃ v,e=.returned v∧Bytes w' (fun _=>True) v L∧Below w.heap.size w w':=by
 have hl:=h.len;have hB:=LH (mkBytes_ok h);clear h;go_enter func84,ntmps84
 go_wp2_with fail
 refine hB.out.mono ?_;rintro e w1 ⟨v,rfl,hv,hb1⟩;obtain⟨g,cp,rfl,hc1,hc2⟩:=own_shape hv (by omega)
 have hbt:Bytes w1 (fun _=>True) (.slice (some ⟨g,0,none⟩) 7 cp) L:=by
  have h:=(Cells.own hv).mono (S':=fun _=>True) (fun _ _ _=>trivial);show Cells w1 _ _ L.length 1 _;rw[hl];exact h
 unfold maxLen at hc2;replace hbt:=LH hbt;replace hb1:=LH hb1;replace hl:=LH hl;clear hv hB;go_wp2;go_ret;exact⟨_,rfl,hbt.out,hb1.out⟩
end Go.Proofs.YthmcbgidehjlbaaGreat.Fd
/-
  volume.base.text: what a root's tag is of. No condition beyond what each theorem names.
-/
namespace Go.Proofs.YthmcbgidehjlbaaGreat.Fd
open _root_.Go.Proofs.Tryz
open Go Go.RowKit K
set_option maxRecDepth 100000
set_option maxHeartbeats 8000000
theorem voText_ok {w:World}{xs:List Value}{d s b:Nat}{what:ByteArray}{A M:List UInt8}(h:BaseIs xs d s b what A M) (num:Nat) (hnum:num≤1000000){T:List UInt8}(hT:T.length=16){m:Nat}{L:List UInt8}(hm:MarksAt w m L):
  Calls prog 123 #[.agg xs.toArray,.int .i64 num,.agg (u8s T).toArray,.pointer (some ⟨m,0,none⟩)] w fun e w'=>∃ v,e=.returned v∧PartsAt w' (fun _=>True) v [[118,111,108,117,109,101],numL 10,numL 100,numL num,T,L]∧Below w.heap.size w w':=by
 obtain⟨q,hq⟩:∃ q,q=w.heap.size:=⟨_,rfl⟩;obtain⟨w1,hw1⟩:∃ w1,w1=(w.alloc (.cells xs.toArray 96)).alloc (.cells (u8s T).toArray 179):=⟨_,rfl⟩;have hx:BoxB w1 q xs:=by rw[hw1,hq];exact (boxB_new w xs).chg ((Chg.refl _ _).alloc _)
 have b1:Below w.heap.size w w1:=by rw[hw1];exact ((Below.refl _ _).alloc (Nat.le_refl _) _).alloc (by simp) _
 have x1:Arr w1 (q+1) 179 T:=by rw[hw1,hq];have h:=heap_alloc_new (w.alloc (.cells xs.toArray 96)) (.cells (u8s T).toArray 179);simp only[World.size_alloc] at h;exact h
 have hm1:=hm.after b1;obtain⟨N,hN⟩:∃ N,N=w1.heap.size:=⟨_,rfl⟩;have hmk:∀ w3,Mk N w1.drew w3→Mk N w1 w3:=fun w3 h=>⟨⟨h.1.os,h.1.tape,h.1.output,h.1.size,h.1.block⟩,h.2⟩
 have hNs:∀ w3,Mk N w1 w3→N≤w3.heap.size:=fun w3 h=>hN ▸ h.1.size
 have hMB:=LH (fun w3 (hr:Mk N w1 w3)=>mkBytes_ok (hm1.after (hN ▸ hr.1)));have hTb:=LH (fun w3 (hr:Mk N w1 w3)=>hr.cells (arr16 x1 hT (by unfold maxLen;omega)));have c3:=LH (hx.get h.c3);have c4:=LH (hx.get h.c4);have hml:=LH hm.len;obtain⟨c,hc⟩:∃ c,c=xs.toArray:=⟨_,rfl⟩;obtain⟨tc,htc⟩:∃ c,c=(u8s T).toArray:=⟨_,rfl⟩;rw[← hc,← htc] at hw1 ⊢;replace hc:=LH hc;replace htc:=LH htc;replace hmk:=LH hmk;replace hNs:=LH hNs;replace b1:=LH b1;replace hN:=LH hN;clear hx x1 hm hm1 h;go_enter func123,ntmps123;go_wp2;rw[← hw1,← hq];replace hw1:=LH hw1;replace hq:=LH hq;refine RA.region (Mk N) (Mk N) [2,2,1,1,1,1,2,1,1,1,1,2,1,2,1,1,2,3,1] (fun k v w3=>match k with|6=>Bytes w3 (fun _=>True) v (numL 10)|11=>Bytes w3 (fun _=>True) v (numL 100)|13=>Bytes w3 (fun _=>True) v (numL num)|16=>Bytes w3 (fun _=>True) v L|_=>LitR N [118,111,108,117,109,101] 5 v w3) (fun _=>True) (by kernel_rfl) (Mk.refl _ _) (fun _ _ h=>h) (fun _ _ _ h k=>h.trans k) (fun _ _ _ _=>trivial) trivial (by kernel_rfl) ?_;intro cx
 refine RA.fr (by kernel_rfl) (by rfl) (fun v a b h h2=>h2.mk h) (fun w3 hp=>⟨.slice (some ⟨w3.heap.size,0,none⟩) 6 6,w3.alloc (.cells (u8s [118,111,108,117,109,101]).toArray 5),by
  show (execOp _ _).run prog w3=_;go_simp;rfl,Mk.of_chg ((Chg.refl _ _).alloc _) (hNs.out _ (hmk.out _ hp.1)),⟨w3.heap.size,(0,0),rfl,hNs.out _ (hmk.out _ hp.1),by unfold maxLen;exact Nat.le_of_ble_eq_true rfl,heap_alloc_new w3 _⟩⟩) (fun u0=>?_)
 refine RA.fr (by kernel_rfl) (by rfl) (fun v a b h h2=>h2.mk h) (fun w3 hp=>by
  obtain⟨w4,k1,k2,k3⟩:=conv_lit (P:=prog) (t:=42) underlying42 underlying5 (show LitR N [118,111,108,117,109,101] _ u0 w3 from hp.fact 0 rfl (by kernel_rfl));refine⟨u0,w4,?_,k2,k3⟩;exact RA.ex_conv (by rfl) k1) (fun u1=>?_)
 refine RA.fk prog (q) (3) (h:=?_);refine RA.fk prog (q) (3) (h:=?_);refine RA.fk prog (q) (3) (h:=?_);refine RA.lk prog (.int .i64 10) (hc:=fun w3 hp=>by exact (hmk.out _ hp.1).cell c3.out) (h:=?_)
 refine RA.frc (P:=prog) [.int .i64 10] (fun _ _=>by go_simp) (by kernel_rfl) (by rfl) (by rfl) (fun v a b h h2=>Mk.cells h h2) rfl (fun w3 hp=>(num_ok 10 (by omega) w3).mono (by
  rintro e w4 ⟨v,rfl,k1,k2⟩;exact⟨v,rfl,Mk.of_below k2 (hNs.out _ (hmk.out _ hp.1)),num_bytes k1⟩)) (fun u2=>?_)
 refine RA.fk prog (q) (3) (h:=?_);refine RA.fk prog (q) (3) (h:=?_);refine RA.fk prog (q) (4) (h:=?_);refine RA.lk prog (.int .i64 100) (hc:=fun w3 hp=>by exact (hmk.out _ hp.1).cell c4.out) (h:=?_)
 refine RA.frc (P:=prog) [.int .i64 100] (fun _ _=>by go_simp) (by kernel_rfl) (by rfl) (by rfl) (fun v a b h h2=>Mk.cells h h2) rfl (fun w3 hp=>(num_ok 100 (by omega) w3).mono (by
  rintro e w4 ⟨v,rfl,k1,k2⟩;exact⟨v,rfl,Mk.of_below k2 (hNs.out _ (hmk.out _ hp.1)),num_bytes k1⟩)) (fun u3=>?_)
 repeat (first|refine RA.mv (by rfl) (by rfl) (by rfl) ?_|refine RA.as (by rfl) (by rfl) (by rfl) ?_|refine RA.pt (by rfl) (by rfl) (by rfl) (by rfl) ?_|refine RA.pf (by rfl) (by rfl) (by rfl) (by rfl) ?_)
 refine RA.frc (P:=prog) [.int .i64 num] (fun _ _=>by go_simp) (by kernel_rfl) (by rfl) (by rfl) (fun v a b h h2=>Mk.cells h h2) rfl (fun w3 hp=>(num_ok num (by omega) w3).mono (by
  rintro e w4 ⟨v,rfl,k1,k2⟩;exact⟨v,rfl,Mk.of_below k2 (hNs.out _ (hmk.out _ hp.1)),num_bytes k1⟩)) (fun u4=>?_)
 refine RA.sal (by kernel_rfl) (by rfl) (by rfl) (y':=.slice (some ⟨q+1,0,none⟩) 16 16) (fun w3 hp=>by show (Instr.sliceAt _ _ _ _ _).run prog w3=_;go_simp) ?_
 repeat (first|refine RA.mv (by rfl) (by rfl) (by rfl) ?_|refine RA.as (by rfl) (by rfl) (by rfl) ?_|refine RA.pt (by rfl) (by rfl) (by rfl) (by rfl) ?_|refine RA.pf (by rfl) (by rfl) (by rfl) (by rfl) ?_)
 refine RA.frc (P:=prog) [.pointer (some ⟨m,0,none⟩)] (fun _ _=>by go_simp) (by kernel_rfl) (by rfl) (by rfl) (fun v a b h h2=>Mk.cells h h2) rfl (fun w3 hp=>(hMB.out w3 (hmk.out _ hp.1)).mono (by
  rintro e w4 ⟨v,rfl,k1,k2⟩;refine⟨v,rfl,Mk.of_below k2 (hNs.out _ (hmk.out _ hp.1)),?_⟩;show Cells w4 _ _ L.length 1 _;rw[hml.out];exact (Cells.own k1).mono (fun _ _ _=>trivial))) (fun u5=>?_)
 refine RA.bq (fun x w3=>PartsAt w3 (fun _=>True) x [[118,111,108,117,109,101],numL 10,numL 100,numL num,T,L]) (fun _ _=>True) (by kernel_rfl) (by rfl) (by kernel_rfl) (fun _ _ _ h k=>Mk.parts h k) (fun _ _ _ _ _=>trivial) (fun w3 hp _=>by
  have f1:=(show LitR N [118,111,108,117,109,101] _ u1 w3 from hp.fact 4 rfl (by kernel_rfl)).bytes;have f2:=(show Bytes w3 (fun _=>True) u2 (numL 10) from hp.fact 3 rfl (by kernel_rfl));have f3:=(show Bytes w3 (fun _=>True) u3 (numL 100) from hp.fact 2 rfl (by kernel_rfl));have f4:=(show Bytes w3 (fun _=>True) u4 (numL num) from hp.fact 1 rfl (by kernel_rfl));have f6:=(show Bytes w3 (fun _=>True) u5 L from hp.fact 0 rfl (by kernel_rfl))
  have f5:Bytes w3 (fun _=>True) (.slice (some ⟨q+1,0,none⟩) 16 16) T:=by
   show Cells w3 _ _ T.length 1 _;rw[hT];exact hTb.out w3 (hmk.out _ hp.1)
  have hN3:=hNs.out _ (hmk.out _ hp.1)
  have hP:=parts_lit (w:=w3) (S:=fun _=>True) (vs:=[u1,u2,u3,u4,.slice (some ⟨q+1,0,none⟩) 16 16,u5]) (parts:=[[118,111,108,117,109,101],numL 10,numL 100,numL num,T,L]) rfl (by unfold maxLen;simp) (by
   intro j v hv
   match j with
   | 0=>cases hv;exact f1
   | 1=>cases hv;exact f2
   | 2=>cases hv;exact f3
   | 3=>cases hv;exact f4
   | 4=>cases hv;exact f5
   | 5=>cases hv;exact f6
   | _+6=>simp at hv)
  refine⟨_,w3.alloc (.cells #[u1,u2,u3,u4,.slice (some ⟨q+1,0,none⟩) 16 16,u5] 42),?_,Mk.of_chg ((Chg.refl _ _).alloc _) hN3,hP,trivial⟩;obtain⟨_,_,rfl,_⟩:=f1.shape;obtain⟨_,_,rfl,_⟩:=f2.shape;obtain⟨_,_,rfl,_⟩:=f3.shape;obtain⟨_,_,rfl,_⟩:=f4.shape;obtain⟨_,_,rfl,_⟩:=f6.shape;clear f1 f2 f3 f4 f5 f6 hP hp hN3;show (execOp _ _).run prog w3=_;go_simp) (fun x=>?_)
 repeat (first|refine RA.mv (by rfl) (by rfl) (by rfl) ?_|refine RA.as (by rfl) (by rfl) (by rfl) ?_|refine RA.pt (by rfl) (by rfl) (by rfl) (by rfl) ?_|refine RA.pf (by rfl) (by rfl) (by rfl) (by rfl) ?_)
 refine RA.RA.done rfl (fun w5 hR hF hH=>?_);clear hH;simp only[RA.put,List.foldr_cons,List.foldr_nil,cx,Act.put,List.setIfInBounds_toArray,List.set_cons_succ,List.set_cons_zero];have hP:=LH (show PartsAt w5 (fun _=>True) x [[118,111,108,117,109,101],numL 10,numL 100,numL num,T,L] from hF _ (List.mem_cons_self ..));have hB:=LH (hN.out ▸ (hmk.out _ hR).1);clear hF hR;go_wp2;go_ret;exact⟨_,rfl,hP.out,b1.out.trans (hB.out.mono b1.out.size)⟩
end Go.Proofs.YthmcbgidehjlbaaGreat.Fd

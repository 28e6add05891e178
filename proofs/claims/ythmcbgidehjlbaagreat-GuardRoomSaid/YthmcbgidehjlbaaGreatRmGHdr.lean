/-
  The law's header; a book of no claims. No condition beyond what each theorem names.
-/
import Derived.Test.YthmcbgidehjlbaaGreatRmGGuard
namespace Go.Proofs.YthmcbgidehjlbaaGreat.Fd
open _root_.Go.Proofs.Tryz
open Go Go.RowKit K
set_option maxRecDepth 100000
set_option maxHeartbeats 8000000
theorem alTape_ok (s:Int) (n:Nat) (hn:0<n) (hn2:n≤10000) (w:World):Calls prog 43 #[.int .i64 s,.int .i64 n] w fun e w'=>∃ v l,e=.returned v∧l.length=n∧Bytes w' (fun g=>w.heap.size≤g) v l∧Below w.heap.size w w':=by
 have hmk:∀ u:World,_:=fun u=>mk_z u n (n:Int) rfl (by omega)
 go_enter func43,ntmps43;go_wp2;generalize IntKind.u64.wrap (IntKind.u64.wrap (IntKind.u64.wrap s*2862933555777941757)+3037000493)=A3;generalize IntKind.u64.wrap (IntKind.u64.wrap s*2862933555777941757)=A2;generalize IntKind.u64.wrap s=A1
 go_loopw [5,7] (fun x i wr=>∃ k:Nat,k≤n∧i=.int .i64 k∧(∃ X:Int,x=.int .u64 X)∧Below w.heap.size w wr∧w.heap.size<wr.heap.size∧∃ l:List UInt8,l.length=n∧Hid (Arr wr w.heap.size 5 l))
  (fun _ i _=>n - (intOf i).toNat)
 case atStart=>
  refine⟨0,by omega,rfl,⟨_,rfl⟩,(Below.refl _ _).alloc (Nat.le_refl _) _,by simp,List.replicate n 0,List.length_replicate,?_⟩;exact heap_alloc_new w _
 case round=>
  obtain⟨k,hk,rfl,⟨X,rfl⟩,hbr,hsz,l,hl,hA⟩:=hrel;replace hbr:=LH hbr;by_cases hlt:k<n
  ·have f0:=hA.out.frozen k;have c0:=hA.out.cell k (by omega);go_wp2;go_roundw
   case rel=>
    refine⟨k+1,by omega,by go_num,⟨_,rfl⟩,hbr.out.setCell (p:=⟨w.heap.size,k,none⟩) (Nat.le_refl _) _,by simpa using hsz,?_⟩
    have key:∀ Y:Int,∃ l':List UInt8,l'.length=n∧Hid (Arr (wr.setCell ⟨w.heap.size,k,none⟩ (.int .u8 (Y % 256))) w.heap.size 5 l'):=by
     intro Y;refine⟨l.set k (byte (Y % 256).toNat),List.length_set.trans hl,?_⟩;have h:=hA.out.set k (byte (Y % 256).toNat);rw[byte_toNat (by omega),Int.toNat_of_nonneg (by omega)] at h;exact h
    exact key _
   case measure=>simp[intOf];omega
  ·go_wp2;go_ret;refine⟨.slice (some ⟨w.heap.size,0,none⟩) n n,l,rfl,hl,?_,hbr.out⟩;rw[Bytes,hl];refine⟨by simp[u8s_length,hl],_,n,rfl,by omega,by unfold maxLen;omega,fun h=>(by simp at h),.inr ⟨w.heap.size,0,rfl,Nat.le_refl _,hsz,fun j u hu=>?_⟩⟩;rw[Nat.zero_add,cell_of hA.out]
   simpa using hu
theorem clNew_ok (w:World):Calls prog 39 #[] w fun e w'=>e=.returned (.pointer (some ⟨w.heap.size,0,none⟩))∧Bk w' w.heap.size 0∧w'=w.alloc (.cells #[.slice none 0 0] 145):=by
 have hf:Bk (w.alloc (.cells #[.slice none 0 0] 145)) w.heap.size 0:=⟨.slice none 0 0,heap_alloc_new w _,⟨[],World.ownsRow_nil _ _ _ _⟩,by omega⟩;replace hf:=LH hf;go_enter func39,ntmps39;go_wp2;go_ret;exact⟨rfl,hf.out,rfl⟩
def HdrC (cs:Array Value):Prop:=cs.size=98∧cs[0]?=some (.int .i64 10)∧cs[1]?=some (.int .i64 100)∧∀ j,j<96→∃ b:UInt8,cs[2+j]?=some (.int .u8 b.toNat)
theorem HdrC.set {cs:Array Value}(h:HdrC cs) (j:Nat) (b:UInt8):HdrC (cs.setIfInBounds (2+j) (.int .u8 b.toNat)):=by
 obtain⟨h1,h2,h3,h4⟩:=h;refine⟨by simpa using h1,by rw[Array.getElem?_setIfInBounds_ne (by omega)];exact h2,by rw[Array.getElem?_setIfInBounds_ne (by omega)];exact h3,fun i hi=>?_⟩;by_cases e:i=j
 ·subst e;exact⟨b,by rw[Array.getElem?_setIfInBounds_self_of_lt (by omega)]⟩
 ·rw[Array.getElem?_setIfInBounds_ne (by omega)];exact h4 i hi
theorem HdrC.list {cs:Array Value}(h:HdrC cs):∃ A M:List UInt8,A.length=64∧M.length=32∧cs=(hdrL A M).toArray:=by
 obtain⟨h1,h2,h3,h4⟩:=h
 have h5:∀ m,m≤96→∃ l:List UInt8,l.length=m∧∀ j,j<m→∃ b,l[j]?=some b∧cs[2+j]?=some (.int .u8 (UInt8.toNat b)):=by
  intro m
  induction m with
  | zero=>intro _;exact⟨[],rfl,fun j hj=>by omega⟩
  | succ m ih=>
   intro hm;obtain⟨l,hl,hj⟩:=ih (by omega);obtain⟨b,hb⟩:=h4 m (by omega);refine⟨l++[b],by simp[hl],fun j hjm=>?_⟩;by_cases e:j=m
   ·subst e;exact⟨b,by rw[List.getElem?_append_right (by omega)];simp[hl],hb⟩
   ·obtain⟨b',h6,h7⟩:=hj j (by omega);exact⟨b',by rw[List.getElem?_append_left (by omega)];exact h6,h7⟩
 obtain⟨l,hl,hj⟩:=h5 96 (by omega);refine⟨l.take 64,l.drop 64,by simp[hl],by simp[hl],?_⟩;apply Array.ext';apply List.ext_getElem?;intro i;have e:u8s (l.take 64)++u8s (l.drop 64)=u8s l:=by rw[← u8s_append,List.take_append_drop]
 show _=([.int .i64 10,.int .i64 100]++(u8s (l.take 64)++u8s (l.drop 64)))[i]?;rw[e,Array.getElem?_toList]
 match i with
 | 0=>exact h2
 | 1=>exact h3
 | i+2=>
  rw[show i+2=2+i by omega,List.getElem?_append_right (by simp)];simp only[List.length_cons,List.length_nil,show 2+i - (0+1+1)=i by omega];by_cases hi:i<96
  ·obtain⟨b,h6,h7⟩:=hj i hi;rw[h7,u8s,List.getElem?_map,h6];rfl
  ·rw[Array.getElem?_eq_none (by omega),List.getElem?_eq_none (by rw[u8s_length];omega)]
def hdr0:Array Value:=(hdrL (List.replicate 64 0) (List.replicate 32 0)).toArray
theorem hdr_built (w:World):(Instr.build 39 ([(0,.agg #[.int .i64 10,.int .i64 100])]:List (Nat×Value)).toArray).run prog w=.ok (.agg hdr0) w:=by
 refine run_build w _ _ _ ?_;kernel_rfl
theorem hdr0_ok:HdrC hdr0:=by
 refine⟨rfl,rfl,rfl,fun j hj=>⟨0,?_⟩⟩;show ([.int .i64 10,.int .i64 100]++(u8s (List.replicate 64 0)++u8s (List.replicate 32 0)):List Value).toArray[2+j]?=_;rw[← u8s_append,← List.replicate_append_replicate.symm];rw[List.getElem?_toArray,List.getElem?_append_right (by simp)];simp only[List.length_cons,List.length_nil,show 2+j - (0+1+1)=j by omega,u8s,List.map_replicate];rw[List.getElem?_replicate,if_pos (by omega)];rfl
def HSt (w:World) (q ub uo:Nat) (wr:World):Prop:=Below w.heap.size w wr∧wr.heap[q]?=some (.cells Tryz.zeroCells39 39 (0,0))∧(∃ cs,HdrC cs∧wr.heap[q+1]?=some (.cells cs 39 (0,0)))∧∀ j,j<96→∃ b:UInt8,wr.cell? ⟨ub,uo+j,none⟩=some (.int .u8 b.toNat)
theorem HSt.set {w wr:World}{q ub uo:Nat}(h:HSt w q ub uo wr) (hq:w.heap.size≤q) (hne:ub≠q+1) (j:Nat) (b:UInt8):HSt w q ub uo (wr.setCell ⟨q+1,2+j,none⟩ (.int .u8 b.toNat)):=by
 obtain⟨h1,h2,⟨cs,h3,h4⟩,h5⟩:=h;refine⟨h1.setCell (p:=⟨q+1,2+j,none⟩) (by show w.heap.size≤q+1;omega) _,(setCell_heap_ne _ _ _ (by show q≠q+1;omega)).trans h2,⟨_,h3.set j b,setCell_block h4 _ _⟩,fun i hi=>?_⟩;obtain⟨b',h6⟩:=h5 i hi;exact⟨b',(World.cell?_of_block (setCell_heap_ne _ _ _ hne)).trans h6⟩
theorem glHeader_ok (w:World):Calls prog 12 #[] w fun e w'=>∃ A M:List UInt8,A.length=64∧M.length=32∧e=.returned (.agg (hdrL A M).toArray)∧Below w.heap.size w w':=by
 obtain⟨q,hq⟩:∃ q,q=w.heap.size:=⟨_,rfl⟩;obtain⟨w0,hw0⟩:∃ w0,w0=(w.alloc (.cells Tryz.zeroCells39 39)).alloc (.cells Tryz.zeroCells39 39):=⟨_,rfl⟩;have b0:Below w.heap.size w w0:=by rw[hw0];exact ((Below.refl _ _).alloc (Nat.le_refl _) _).alloc (by simp) _
 have y0:w0.heap[q]?=some (.cells Tryz.zeroCells39 39 (0,0)):=by rw[hw0,hq];exact (Below.heap_alloc _ _ _ (by simp)).trans (heap_alloc_new w _)
 have y1:w0.heap[q+1]?=some (.cells Tryz.zeroCells39 39 (0,0)):=by rw[hw0,hq];have h:=heap_alloc_new (w.alloc (.cells Tryz.zeroCells39 39)) (.cells Tryz.zeroCells39 39);simp only[World.size_alloc] at h;exact h
 have hst:=store_struct (P:=prog) (ty:=39) (x:=hdrL (List.replicate 64 0) (List.replicate 32 0)) y1 (by rw[hdrL_length rfl rfl];exact sizeHeader) (by kernel_rfl) hdrL_one;obtain⟨w1,hw1⟩:∃ w1,w1=w0.setRow (q+1) hdr0:=⟨_,rfl⟩;have b1:Below w.heap.size w w1:=by rw[hw1];exact below_setRow b0 (by omega) _
 have x0:w1.heap[q]?=some (.cells Tryz.zeroCells39 39 (0,0)):=by rw[hw1];exact (setRow_other _ _ _ _ (by omega)).trans y0
 have x1:w1.heap[q+1]?=some (.cells hdr0 39 (0,0)):=by rw[hw1];exact setRow_heap _ _ _ _ _ _ y1
 have hT:=LH (fun w3=>alTape_ok 4 96 (by decide) (by decide) w3);have hbl:=LH hdr_built;replace hst:(Instr.storeAt 39 (.pointer (some ⟨q+1,0,none⟩)) (.agg hdr0)).run prog w0=.ok () w1:=by rw[hw1];exact hst
 rw[hq,hw0] at hst;replace b1:=LH b1;replace x0:=LH x0;replace x1:=LH x1;replace hst:=LH hst;replace hw0:=LH hw0;replace hw1:=LH hw1;have hq':=LH hq;clear b0 y0 y1 hq;go_enter func12,ntmps12
 go_wp2_with (first|(refine wpList_buildL rfl 39 _ rfl _ rfl _ (hbl.out _) ?_)|(refine wpList_store rfl 39 _ _ rfl _ _ rfl rfl hst.out ?_)|fail)
 refine (hT.out _).mono ?_;rintro e w2 ⟨u,l,rfl,hl,hu,hb2⟩;rw[← hq'.out];have hq:=hq'.out;have hbw:=b1.out.trans (hb2.mono b1.out.size);have z0:=(hb2.block q (heap_lt x0.out)).trans x0.out;have z1:=(hb2.block (q+1) (heap_lt x1.out)).trans x1.out;obtain⟨ub,uo,uc,rfl,hu1,hu2,hu3,hul,huc⟩:=Cells.at hu (by omega);have hub:ub≠q+1:=by have:=heap_lt x1.out;omega
 rw[hl];have hSt:HSt w q ub uo w2:=⟨hbw,z0,⟨_,hdr0_ok,z1⟩,fun j hj=>⟨l[j],huc j _ (by rw[u8s_get _ _ (by omega)])⟩⟩;have hset:=LH (fun (wr:World) (h:HSt w q ub uo wr) j b=>h.set (by omega) hub j b);replace hSt:=LH hSt;clear hbw hb2 hu huc hT hbl hst x0 x1 z0 z1 b1 hq hul hl hu1;go_wp2
 go_loopg [3] 64 (fun g i wr=>∃ k:Nat,k+g=64∧i=.int .i64 k∧Hid (HSt w q ub uo wr))
 case atStart=>exact⟨0,by omega,rfl,hSt.out⟩
 case round=>
  obtain⟨k,hkg,rfl,HS⟩:=hrel;clear hSt;by_cases hlt:k<64
  ·obtain⟨g1,rfl⟩:∃ i,gk=i+1:=⟨gk - 1,by omega⟩;have hlI:(k:Int)<64:=by omega
   obtain⟨-,-,⟨cs,hcs,hg⟩,hU⟩:=HS.out;obtain⟨b,hb⟩:=hU k (by omega);obtain⟨b0,hb0⟩:=hcs.2.2.2 k (by omega);have c0:=(cell_of hg (2+k)).trans hb0;have f0:=frozen_of hg (2+k);have hS2:=LH (hset.out wr HS.out k b);clear hU hcs hg HS hb0;go_wp2;go_roundg g1
   case measure=>omega
   case rel=>exact⟨k+1,by omega,by go_num,hS2.out⟩
  ·obtain rfl:gk=0:=by omega
   obtain rfl:k=64:=by omega
   clear hkg hlt;obtain⟨wo,rfl⟩:∃ wo:World,wo=wr:=⟨_,rfl⟩;go_wp2
   go_loopg [4] 32 (fun g i wr=>∃ k:Nat,k+g=32∧i=.int .i64 k∧Hid (HSt w q ub uo wr))
   case atStart=>exact⟨0,by omega,rfl,HS.out⟩
   case round=>
    obtain⟨k,hkg,rfl,HS⟩:=hrel;by_cases hlt:k<32
    ·obtain⟨g1,rfl⟩:∃ i,gk=i+1:=⟨gk - 1,by omega⟩;have hlI:(k:Int)<32:=by omega
     obtain⟨-,-,⟨cs,hcs,hg⟩,hU⟩:=HS.out;obtain⟨m,hm⟩:∃ m,m=64+k:=⟨_,rfl⟩;have hmI:(64:Int)+k=m:=by omega
     have hml:(m:Int)<96:=by omega
     obtain⟨b,hb⟩:=hU m (by omega);obtain⟨b0,hb0⟩:=hcs.2.2.2 m (by omega);have c0:=(cell_of hg (2+m)).trans hb0;have f0:=frozen_of hg (2+m);have hS2:=hset.out wr HS.out m b;rw[show 2+m=66+k by omega] at c0 f0 hS2;replace hS2:=LH hS2;replace hm:=LH hm;clear hU hcs hg HS hb0;go_wp2;go_roundg g1
     case measure=>omega
     case rel=>exact⟨k+1,by omega,by go_num,hS2.out⟩
    ·obtain rfl:gk=0:=by omega
     obtain rfl:k=32:=by omega
     clear hkg hlt;obtain⟨h1,h2,⟨cs,h3,h4⟩,h5⟩:=HS.out;obtain⟨A,M,hA,hM,rfl⟩:=h3.list;have hld:=load_struct (P:=prog) (w:=wr) (g:=q+1) (off:=0) (ty:=39) (x:=hdrL A M) underlying39 (by rw[hdrL_length hA hM];exact sizeHeader) (fun j v hv=>by rw[Nat.zero_add,cell_of h4];simpa using hv);have hst:=store_struct (P:=prog) (ty:=39) (x:=hdrL A M) h2 (by rw[hdrL_length hA hM];exact sizeHeader) (by rw[hdrL_length hA hM];kernel_rfl) hdrL_one;have x5:(wr.setRow q (hdrL A M).toArray).heap[q]?=some (.cells (hdrL A M).toArray 39 (0,0)):=setRow_heap _ _ _ _ _ _ h2;have b5:Below w.heap.size w (wr.setRow q (hdrL A M).toArray):=below_setRow h1 (by have:=hq'.out;omega) _;have hsz:=hdrL_length hA hM;obtain⟨C,hC⟩:∃ C,C=(hdrL A M).toArray:=⟨_,rfl⟩;have hCs:(prog.info? 39).map (·.size)=some C.size:=by rw[hC,List.size_toArray,hsz];exact sizeHeader
     rw[← hC] at hld hst x5 b5;replace hld:=LH hld;replace hst:=LH hst;replace x5:=LH x5;replace b5:=LH b5;replace hC:=LH hC;replace hCs:=LH hCs;clear h1 h2 h3 h4 h5 HS hsz
     go_wp2_with (first|(refine wpList_load rfl 39 _ rfl _ _ rfl hld.out ?_)|(refine wpList_store rfl 39 _ _ rfl _ _ rfl rfl hst.out ?_)|fail)
     refine bodyPost_ret (results_cell_row results12 _ _ q 39 _ (0,0) _ rfl x5.out underlying39 rfl hCs.out) rfl ⟨A,M,hA,hM,by rw[hC.out],b5.out⟩
end Go.Proofs.YthmcbgidehjlbaaGreat.Fd

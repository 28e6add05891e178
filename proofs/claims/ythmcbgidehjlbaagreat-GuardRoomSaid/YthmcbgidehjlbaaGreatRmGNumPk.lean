/-
  Texts of this claim, laid together by a program of mine. No condition beyond what each theorem names.
-/
import Derived.Test.YthmcbgidehjlbaaGreatRmGPaths
import Derived.Test.YthmcbgidehjlbaaGreatRmSum
/-
  header.Num: a number's bytes; mac.Framed, slices.Concat: texts, one behind the other. No condition beyond what each theorem names.
-/
namespace Go.Proofs.YthmcbgidehjlbaaGreat.K
open _root_.Go.Proofs.Tryz
open Go Go.RowKit
set_option maxRecDepth 100000
set_option maxHeartbeats 4000000
theorem push_below {w x w4:World}{B:Nat}{v:Value}(hB:B≤w.heap.size) (hb:Below B w x) (hc:Chg (fun g=>v.ownBlock=some g) x w4) (hge:∀ g,v.ownBlock=some g→B≤g):Below B w w4:=
 hb.trans (hc.below (Nat.le_trans hB hb.size) (fun g hg e=>by have:=hge g e;omega))
end Go.Proofs.YthmcbgidehjlbaaGreat.K
namespace Go.Proofs.YthmcbgidehjlbaaGreat.Fd
open _root_.Go.Proofs.Tryz
open Go Go.RowKit K
set_option maxRecDepth 100000
set_option maxHeartbeats 4000000
def numG:Nat→Nat→List UInt8
 | 0,_=>[]
 | k+1,n=>byte (n % 256)::numG k (n / 256)
def numL (n:Nat):List UInt8:=numG 8 n
theorem numG_length {k:Nat}:∀ {n:Nat},(numG k n).length=k:=by
 induction k with
 | zero=>intro n;rfl
 | succ k ih=>intro n;simp[numG,ih]
theorem numL_length {n:Nat}:(numL n).length=8:=numG_length
theorem u8s_byte {B:Nat}(h:B<256):u8s [byte B]=[.int .u8 B]:=by simp[u8s,u8,byte_toNat h]
theorem num_ok (n:Nat) (hn:n≤9223372036854775807) (w:World):
  Calls prog 124 #[.int .i64 n] w fun e w'=>∃ v,e=.returned v∧w'.ownsRow w.heap.size 5 1 v 8 (u8s (numL n))∧Below w.heap.size w w':=by
 have hz1:(Value.int .u8 0).cells.size=1:=rfl;obtain⟨R,hR⟩:∃ R,R=numL n:=⟨_,rfl⟩;rw[← hR];replace hR:=LH hR;go_enter func124,ntmps124;go_wp2
 go_loopg [0,2,3] 8 (fun g x o i wr=>∃ m j:Nat,∃ l:List UInt8,x=.int .i64 m∧m≤9223372036854775807∧i=.int .i64 j∧j+g=8∧l.length=j∧Hid (l++numG g m=R)∧Hid (wr.ownsRow w.heap.size 5 1 o l.length (u8s l))∧Hid (Below w.heap.size w wr))
 case atStart=>exact⟨n,0,[],rfl,hn,rfl,rfl,rfl,hR.out.symm,World.ownsRow_nil _ _ _ _,Below.refl _ _⟩
 case round=>
  obtain⟨m,j,l,rfl,hm,rfl,hjg,hl,hF,HO,hbr⟩:=hrel;by_cases hlt:j<8
  ·obtain⟨g1,rfl⟩:∃ i,gk=i+1:=⟨gk - 1,by omega⟩;obtain⟨B,hB⟩:∃ B,B=m % 256:=⟨_,rfl⟩;obtain⟨D,hD⟩:∃ D,D=m / 256:=⟨_,rfl⟩
   have hF2:Hid ((l++[byte B])++numG g1 D=R):=by
    rw[hB,hD,← hF.out,numG,List.append_assoc];rfl
   have hBl:B<256:=by omega
   have hconv:IntKind.u8.wrap (m:Int)=(B:Int):=by rw[IntKind.wrap_u8'];omega
   have hshr:(m:Int) / 256=(D:Int):=by omega
   have hDl:D≤9223372036854775807:=by omega
   replace hB:=LH hB;replace hD:=LH hD;clear hF;have hlI:(j:Int)<8:=by omega
   have ho2:(wr.alloc (.cells #[.int .u8 B] 5)).ownsRow _ _ _ _ _ _:=owns_keep HO.out (fun g hg=>Below.heap_alloc _ _ _ (owns_lt HO.out g hg));have HO2:=LH ho2;have HCB:=LH (lit_cells wr #[.int .u8 B] 5 1 1 rfl (by unfold maxLen;omega));have HBK:=LH (fun g=>owns_ge HO.out g);have hrs:=hbr.out.size;clear ho2
   go_wp2_with (at_builtin;refine K.append ?_ (.tmp 5) (.tmp 8) 42 ?_ w.heap.size 5 (.int .u8 0) 1 1 underlying42 infoByte hz1 (by omega) _ l.length _ ?_ HO2.out (fun _=>True) _ 1 [.int .u8 B] ?_ HCB.out (by simp[Value.oneCell']) (by unfold maxLen;omega) (by omega) ?_ ?_)
   ·rfl
   ·rfl
   ·omega
   intro v' w2 x1 x2 x3 x4;have X1:=LH x1;have hb2:Below w.heap.size w (wr.alloc (.cells #[.int .u8 B] 5)):=hbr.out.alloc hbr.out.size _;have hb3:=LH ((Chg.of_below hb2 No).grown x2 (fun g hg hl=>absurd (HBK.out g hg) (by omega))).no;clear x1 x2 x3 x4 hb2;go_wp2;go_roundg g1
   case measure=>omega
   case rel=>
    refine⟨D,j+1,l++[byte B],rfl,hDl,by go_num,by omega,by simp[hl],hF2.out,?_,hb3.out⟩;show World.ownsRow _ _ _ _ _ _ _;rw[u8s_append,List.length_append,u8s_byte hBl,hl];exact X1.out
  ·obtain rfl:gk=0:=by omega
   have hfin:l=R:=by rw[← hF.out,numG,List.append_nil]
   have hl8:l.length=8:=by omega
   replace hfin:=LH hfin;replace hl8:=LH hl8;have hlI:¬ (j:Int)<8:=by omega
   clear hF;go_wp2;go_ret;refine⟨_,rfl,?_,hbr.out⟩;have h:=HO.out;rw[hl8.out,hfin.out] at h;exact h
end Go.Proofs.YthmcbgidehjlbaaGreat.Fd
/-
  Cells of whatever type: whole structs loaded, stored, built, out of values that are not looked into. No condition beyond what each theorem names.
-/
namespace Go.Proofs.YthmcbgidehjlbaaGreat.K
open Go Go.RowKit
theorem splice_get {α:Type}{l x:List α}{o:Nat}(h:o+x.length≤l.length) (j:Nat):(splice l o x)[j]?=if j<o then l[j]? else if j<o+x.length then x[j - o]? else l[j]?:=by
 have e1:(l.take o).length=o:=List.length_take_of_le (by omega);unfold splice;split
 ·rw[List.getElem?_append_left (by omega),List.getElem?_take,if_pos (by omega)]
 ·split
  ·rw[List.getElem?_append_right (by omega),e1,List.getElem?_append_left (by omega)]
  ·rw[List.getElem?_append_right (by omega),e1,List.getElem?_append_right (by omega),List.getElem?_drop];congr 1;omega
theorem fold_get (off:Nat):∀ (cs:List Value) (k:Nat) (a:Array Value) (_:off+k+cs.length≤a.size) (j:Nat),((cs.zipIdx k).foldl (fun (a:Array Value) (p:Value×Nat)=>a.setIfInBounds (off+p.2) p.1) a)[j]?=if j<off+k then a[j]? else if j<off+k+cs.length then cs[j - (off+k)]? else a[j]?:=by
 intro cs
 induction cs with
 | nil=>
  intro k a h j;simp only[List.zipIdx_nil,List.foldl_nil,List.length_nil];split
  ·rfl
  ·rw[if_neg (by omega)]
 | cons c cs ih=>
  intro k a h j;simp only[List.length_cons] at h;rw[List.zipIdx_cons,List.foldl_cons,ih (k+1) _ (by simp;omega)];simp only[List.length_cons];rcases Nat.lt_trichotomy j (off+k) with hj|hj|hj
  ·rw[if_pos (show j<off+(k+1) by omega),if_pos hj,Array.getElem?_setIfInBounds_ne (by omega)]
  ·subst hj;rw[if_pos (show off+k<off+(k+1) by omega),if_neg (show ¬ off+k<off+k by omega),if_pos (show off+k<off+k+(cs.length+1) by omega),Nat.sub_self,List.getElem?_cons_zero,Array.getElem?_setIfInBounds_self_of_lt (by omega)]
  ·rw[if_neg (show ¬ j<off+(k+1) by omega),if_neg (show ¬ j<off+k by omega)];by_cases h2:j<off+(k+1)+cs.length
   ·rw[if_pos h2,if_pos (show j<off+k+(cs.length+1) by omega)];obtain⟨i,rfl⟩:∃ i,j=off+k+1+i:=⟨j - (off+k+1),by omega⟩;rw[show off+k+1+i - (off+(k+1))=i by omega,show off+k+1+i - (off+k)=i+1 by omega,List.getElem?_cons_succ]
   ·rw[if_neg h2,if_neg (show ¬ j<off+k+(cs.length+1) by omega),Array.getElem?_setIfInBounds_ne (by omega)]
theorem fold_splice (off:Nat) (cs:List Value) (k:Nat) (a:Array Value) (h:off+k+cs.length≤a.size):((cs.zipIdx k).foldl (fun (a:Array Value) (p:Value×Nat)=>a.setIfInBounds (off+p.2) p.1) a).toList=splice a.toList (off+k) cs:=by
 apply List.ext_getElem?;intro j;rw[splice_get (by simpa using h),Array.getElem?_toList,fold_get off cs k a h j];simp only[Array.getElem?_toList]
theorem fill_cons {place:Nat→Option (Nat×Nat)}{cells:Array Value}{i off size:Nat}{v:Value}{rest:List (Nat×Value)}(hp:place i=some (off,size)) (hv:v.cells.size=size) (hl:off+size≤cells.size):
  Instr.fill place cells ((i,v)::rest)=Instr.fill place (splice cells.toList off v.cells.toList).toArray rest:=by
 subst hv;have h:=fold_splice off v.cells.toList 0 cells (by simpa using hl)
 have e:(v.cells.zipIdx.foldl (fun cs (c,j)=>cs.setIfInBounds (off+j) c) cells)=(splice cells.toList off v.cells.toList).toArray:=by
  rw[← Array.foldl_toList,Array.toList_zipIdx];apply Array.ext';rw[h];rfl
 rw[Instr.fill,hp];simp only[ne_eq,not_true_eq_false,decide_false,Bool.false_or,decide_eq_true_eq];rw[if_neg (by omega),e]
section
variable {P:Program}
theorem load_struct {w:World}{g off:Nat}{ty:TypeId}{fs:Array Field}{x:List Value}(hu:P.underlying ty=some (.struct fs)) (hi:(P.info? ty).map (·.size)=some x.length)
  (hx:∀ j v,x[j]?=some v→w.cell? ⟨g,off+j,none⟩=some v):(Instr.loadAt ty (.pointer (some ⟨g,off,none⟩))).run P w=.ok (.agg x.toArray) w:=by
 have hl2:(loadCells ⟨g,off,none⟩ x.length).run P w=.ok x.toArray w:=
  run_loadCells_list (P:=P) w ⟨g,off,none⟩ x (fun j v hv=>by rw[Addr.add_lit];exact hx j v hv)
 have h:(loadVar ty ⟨g,off,none⟩).run P w=.ok (.agg x.toArray) w:=by
  cases hq:P.info? ty with
  | none=>simp[hq] at hi
  | some i=>
   have hs:i.size=x.length:=by simpa [hq] using hi
   have hagg:(isAgg ty).run P w=.ok true w:=by
    unfold isAgg;rw[Sem.run_bind,run_underlying hu w];simp
   simp[loadVar,Sem.run_bind,hagg,sizeOf,typeInfo,hq,hs,hl2]
 simp only[Instr.loadAt,Instr.sureAddr,Sem.run_bind,Sem.run_pure,Result.andThen];exact h
theorem zero_run {t:TypeId}{z:Value}{i:TypeInfo}(h:P.info? t=some i) (hz:i.zero=some z) (w:World):(zeroValue t).run P w=.ok z w:=by
 simp[zeroValue,typeInfo,h,hz]
theorem slice_one {w:World}{t e:TypeId}{c:Array Value}{z:Value}{bytes:Nat}(ht:P.underlying t=some (.slice e)) (hi:(P.info? e).map (fun i=>(i.zero,i.size,i.bytes))=some (some z,c.size,bytes)) (h0:0<c.size) (hm:c.size≤1000) (hz:z.cells.size=c.size):
  (Instr.buildSlice t 1 #[(0,.agg c)]).run P w=.ok (.slice (some ⟨w.heap.size,0,none⟩) 1 1) (w.alloc (.cells c e)):=by
 obtain⟨i,hi1,hi2,hi3,hi4⟩:=info_parts hi
 have hf:Instr.fill (fun i=>some (i*c.size,c.size)) ((Array.range (1*c.size)).map (z.cells[· % z.cells.size]!)) [(0,.agg c)]=some c:=by
  rw[fill_cons (off:=0) (size:=c.size) (by simp) rfl (by simp)];rw[Instr.fill];congr 1;apply Array.ext';simp[splice,Value.cells]
 have hs:(sizeOf e).run P w=.ok c.size w:=by simp[sizeOf,typeInfo,hi1,hi3]
 have hzr:(zeroValue e).run P w=.ok z w:=zero_run hi1 hi2 w;have hn1:¬ (16777216<c.size):=by omega
 have hn2:¬ (c=#[]):=by rintro rfl;simp at h0
 rw[Nat.one_mul] at hf;simp[Instr.buildSlice,run_underlying ht,hs,hn1,hn2,hzr,hf,newRow]
theorem ex_slice1 {ρ:Operand→Value}{x:Operand}{ds:Option Tmp}{ty:TypeId}{ps:String}{af:Array Edge}{gu:Option (Nat×Bool)}{w:World}{t e:TypeId}{c:Array Value}{z:Value}{bytes:Nat}(hx:ρ x=.agg c) (ht:P.underlying t=some (.slice e)) (hi:(P.info? e).map (fun i=>(i.zero,i.size,i.bytes))=some (some z,c.size,bytes)) (h0:0<c.size) (hm:c.size≤1000) (hz:z.cells.size=c.size):
  (execOp ρ ⟨ds,.buildSlice t 1 #[(0,x)],ty,ps,af,gu⟩).run P w=.ok (.value (.slice (some ⟨w.heap.size,0,none⟩) 1 1)) (w.alloc (.cells c e)):=by
 have h:=slice_one (P:=P) (w:=w) ht hi h0 hm hz;unfold execOp;simp[hx,h,Result.andThen]
end
theorem own_cells' {w:World}{base:Nat}{e:TypeId}{sz:Nat}{v:Value}{n:Nat}{xs:List Value}(h:w.ownsRow base e sz v n xs){g:Nat}(hg:v.ownBlock=some g):∃ cur,w.heap[g]?=some (.cells cur e (0,0)):=by
 rcases h.2 with ⟨rfl,_⟩|⟨g',cap,cur,rfl,_,h3,_⟩
 ·cases hg
 ·cases hg
  exact⟨cur,h3⟩
theorem apartT {w:World}{base:Nat}{e:TypeId}{sz:Nat}{v:Value}{n:Nat}{xs:List Value}(h:w.ownsRow base e sz v n xs){p:Nat}{cs:Array Value}{t:TypeId}{m:Nat×Nat}(hp:w.heap[p]?=some (.cells cs t m)) (hne:e≠t):v.ownBlock≠some p:=by
 intro hg;obtain⟨cur,hc⟩:=own_cells' h hg;rw[hp] at hc;simp only[Option.some.injEq,Obj.cells.injEq] at hc;exact hne hc.2.1.symm
end Go.Proofs.YthmcbgidehjlbaaGreat.K

/-
 Parts of the proof. No condition beyond what each theorem names.
-/
import Derived.Laws.ResultCell
import Derived.Test.YthmcbgidehjlbaaGreatFrAh
import Derived.Test.YthmcbgidehjlbaaGreatFrAm
import Derived.Test.YthmcbgidehjlbaaGreatFrAs
set_option maxRecDepth 100000
set_option maxHeartbeats 8000000
namespace Go.Proofs.YthmcbgidehjlbaaGreat.K
open _root_.Go.Proofs.Tryz
open Go Go.RowKit
theorem sE {P:Program}{fn:Func}{p u:Tmp}{ty:TypeId}(h:fn.results=#[.cell p ty,.tmp u]) (tmps:Array Value) (w:World) (g:Nat) (t:TypeId) (cs:Array Value) (fr:Nat×Nat) (d:TypeDesc)
  (hp:tmps.getD p undef=iq g) (hg:w.heap[g]?=some (.cells cs t fr))
  (hu:P.underlying ty=some d) (hd:(match d with|.struct _|.array _ _=>true|_=>false)=true) (hi:(P.info? ty).map (·.size)=some cs.size):
  (results fn tmps).run P w=.ok (.tuple #[.agg cs,tmps.getD u undef]) w:=by
 rw[results_cell_tmp h,hp];simp[asAddr,cR w g t ty cs fr d hg hu hd hi,Result.andThen]
theorem uA {α:Type}(A T x:List α) (o:Nat){n:Nat}(hn:n=A.length+o):splice (A++T) n x=A++splice T o x:=by
 subst hn
 have a:List.take (A.length+o) (A++T)=A++T.take o:=by rw[eN,bh om];congr 2;omega
 have b:List.drop (A.length+o+x.length) (A++T)=T.drop (o+x.length):=by rw[List.drop_append,eV om,bE];congr 1;omega
 simp[splice,a,b]
end Go.Proofs.YthmcbgidehjlbaaGreat.K
namespace Go.Proofs.YthmcbgidehjlbaaGreat.Fd
open _root_.Go.Proofs.Tryz
open Go Go.RowKit K
variable {M:iz}{d b:Nat}{gH:ByteArray}
theorem vH {P:Program}{w:World}{ops:Array Oper}{rest:List Oper}{o:Oper}{a:Act}{Q:Exit->Act->World->Prop}(hgd:o.guard=none) (t:TypeId) (xs:List (Nat×Operand)) (ho:o.op=.build t xs.toArray)
  (ys:List (Nat×Value)) (hx:xs.map (λp=>(p.1,a.eval p.2))=ys) (v:Value) (hr:(Instr.build t ys.toArray).run P w=.ok v w) (h:wpList P ops Q rest (a.put o.dst v) w):wpList P ops Q (o::rest) a w:=by
 refine cN hgd λK b=>?_
 unfold Oper.wp execOp;simp only[ho,cI];rw[show (xs.map λx=>match x with|(i,x)=>(i,a.eval x))=ys from hx];simp only[aM,hr,bu];exact b _ _ h
def nP (d s b:Nat) (gH:ByteArray) (D M:iz) (i j k l:Int):List Value:=([iq d,iq s,.string gH]++kT D M)++[iq b,iw i,iw j,iw k,iw l]
theorem Ii (d s b:Nat) (gH:ByteArray){D:iz}(hD:D.length=64) (hM:M.length=32) (w:World):(Instr.build 96 ([(0,iq d),(1,iq s),(2,.string gH),(3,.agg (kT D M).toArray),(4,iq b)]:List (Nat×Value)).toArray).run prog w=.ok (.agg (nP d s b gH D M 0 0 0 0).toArray) w:=by
 refine e9 w _ _ _ ?_;have a:=oC hD hM;rw[wX (places:=[(0,1),(1,1),(2,1),(3,98),(101,1),(102,2),(104,2)]) (z:=.agg #[.pointer none,.pointer none,.string ⟨#[]⟩,iw 0,iw 0,iy 0,iy 0,iy 0,iy 0,iy 0,iy 0,iy 0,iy 0,iy 0,iy 0,iy 0,iy 0,iy 0,iy 0,iy 0,iy 0,iy 0,iy 0,iy 0,iy 0,iy 0,iy 0,iy 0,iy 0,iy 0,iy 0,iy 0,iy 0,iy 0,iy 0,iy 0,iy 0,iy 0,iy 0,iy 0,iy 0,iy 0,iy 0,iy 0,iy 0,iy 0,iy 0,iy 0,iy 0,iy 0,iy 0,iy 0,iy 0,iy 0,iy 0,iy 0,iy 0,iy 0,iy 0,iy 0,iy 0,iy 0,iy 0,iy 0,iy 0,iy 0,iy 0,iy 0,iy 0,iy 0,iy 0,iy 0,iy 0,iy 0,iy 0,iy 0,iy 0,iy 0,iy 0,iy 0,iy 0,iy 0,iy 0,iy 0,iy 0,iy 0,iy 0,iy 0,iy 0,iy 0,iy 0,iy 0,iy 0,iy 0,iy 0,iy 0,iy 0,iy 0,iy 0,iy 0,iy 0,.pointer none,iw 0,iw 0,iw 0,iw 0]) underlying96 kr kr];show Instr.fill _ #[.pointer none,.pointer none,.string ⟨#[]⟩,iw 0,iw 0,iy 0,iy 0,iy 0,iy 0,iy 0,iy 0,iy 0,iy 0,iy 0,iy 0,iy 0,iy 0,iy 0,iy 0,iy 0,iy 0,iy 0,iy 0,iy 0,iy 0,iy 0,iy 0,iy 0,iy 0,iy 0,iy 0,iy 0,iy 0,iy 0,iy 0,iy 0,iy 0,iy 0,iy 0,iy 0,iy 0,iy 0,iy 0,iy 0,iy 0,iy 0,iy 0,iy 0,iy 0,iy 0,iy 0,iy 0,iy 0,iy 0,iy 0,iy 0,iy 0,iy 0,iy 0,iy 0,iy 0,iy 0,iy 0,iy 0,iy 0,iy 0,iy 0,iy 0,iy 0,iy 0,iy 0,iy 0,iy 0,iy 0,iy 0,iy 0,iy 0,iy 0,iy 0,iy 0,iy 0,iy 0,iy 0,iy 0,iy 0,iy 0,iy 0,iy 0,iy 0,iy 0,iy 0,iy 0,iy 0,iy 0,iy 0,iy 0,iy 0,iy 0,iy 0,iy 0,iy 0,.pointer none,iw 0,iw 0,iw 0,iw 0] [(0,iq d),(1,iq s),(2,.string gH),(3,.agg (kT D M).toArray),(4,iq b)]=_;rw[pC (off:=0) (size:=1) rfl rfl (cF rfl),pC (off:=1) (size:=1) rfl rfl (cF rfl),pC (off:=2) (size:=1) rfl rfl (cF rfl),pC (off:=3) (size:=98) rfl (by simp[Value.cells,a]) (cF rfl)]
 have e:splice (splice (splice (splice (#[.pointer none,.pointer none,.string ⟨#[]⟩,iw 0,iw 0,iy 0,iy 0,iy 0,iy 0,iy 0,iy 0,iy 0,iy 0,iy 0,iy 0,iy 0,iy 0,iy 0,iy 0,iy 0,iy 0,iy 0,iy 0,iy 0,iy 0,iy 0,iy 0,iy 0,iy 0,iy 0,iy 0,iy 0,iy 0,iy 0,iy 0,iy 0,iy 0,iy 0,iy 0,iy 0,iy 0,iy 0,iy 0,iy 0,iy 0,iy 0,iy 0,iy 0,iy 0,iy 0,iy 0,iy 0,iy 0,iy 0,iy 0,iy 0,iy 0,iy 0,iy 0,iy 0,iy 0,iy 0,iy 0,iy 0,iy 0,iy 0,iy 0,iy 0,iy 0,iy 0,iy 0,iy 0,iy 0,iy 0,iy 0,iy 0,iy 0,iy 0,iy 0,iy 0,iy 0,iy 0,iy 0,iy 0,iy 0,iy 0,iy 0,iy 0,iy 0,iy 0,iy 0,iy 0,iy 0,iy 0,iy 0,iy 0,iy 0,iy 0,iy 0,iy 0,iy 0,.pointer none,iw 0,iw 0,iw 0,iw 0]:Array Value).toList 0 (iq d).cells.toList).toArray.toList 1 (iq s).cells.toList).toArray.toList 2 (Value.string gH).cells.toList).toArray.toList 3 (Value.agg (kT D M).toArray).cells.toList=([iq d,iq s,.string gH]++kT D M)++[.pointer none,iw 0,iw 0,iw 0,iw 0]:=by show List.take 3 _++(kT D M++List.drop (3+(kT D M).length) _)=_;rw[a,cC];rfl
 rw[e,pC (off:=101) (size:=1) rfl rfl (by simp[a]),Instr.fill];congr 2;show splice (([iq d,iq s,.string gH]++kT D M)++[.pointer none,iw 0,iw 0,iw 0,iw 0]) 101 _=_;rw[uA _ _ _ 0 (by simp[a])];rfl
theorem xr {s:Nat}{D:iz}{i j k l:Int}(hD:D.length=64) (hM:M.length=32):(nP d s b gH D M i j k l).length=106:=by simp[nP,oC hD hM]
theorem Ij {s:Nat}{D:iz}{i j k l:Int}:∀ v ∈ nP d s b gH D M i j k l,v.oneCell'=true:=by intro v hv;simp only[nP,bw,bi,bL,bS] at hv;rcases hv with ((rfl|rfl|rfl)|hv)|rfl|rfl|rfl|rfl|rfl<;>first|rfl|exact ux v hv
theorem Ik {s:Nat}{D:iz}(hD:D.length=64) (hM:M.length=32):splice (nP d s b gH D M 0 0 0 0) 102 [iw 10,iw 50]=nP d s b gH D M 10 50 0 0:=by unfold nP;rw[uA _ _ _ 1 (by simp[oC hD hM])];rfl
theorem Il {s:Nat}{D:iz}(hD:D.length=64) (hM:M.length=32):splice (nP d s b gH D M 10 50 0 0) 104 [iw 60,iw 50]=o9 d s b gH D M:=by
 have e:o9 d s b gH D M=nP d s b gH D M 10 50 60 50:=by rw[o9,nP,cC]
 rw[e];unfold nP;rw[uA _ _ _ 3 (by simp[oC hD hM])];rfl
theorem Im (D M:iz) (w:World):Calls prog 96 #[.agg (kT D M).toArray] w λe w'=>e=.returned (.bool true)/\Below w.heap.size w w':=by
 have x:=aj w (.cells (kT D M).toArray 39);have c0:(w.alloc (.cells (kT D M).toArray 39)).cell? (iu w.heap.size 0)=some (iw 10):=by rw[cell_of x];rfl
 have c1:(w.alloc (.cells (kT D M).toArray 39)).cell? (iu w.heap.size 1)=some (iw 100):=by rw[cell_of x];rfl
 obtain⟨c,hc⟩:=Ex ((kT D M).toArray);rw[<-hc] at c0 c1 ⊢;replace hc:=LH hc;clear x;go_enter func96,ntmps96;go_wp2;go_ret;exact⟨rfl,(ag _ _).alloc (ae _) _⟩
theorem rv:(prog.info? 39).map (·.size)=some 98:=kr
theorem Io {w:World}{F:Nat→Prop}{d s b:Nat}{Dk0:D.Dk}(h:D.At w F d Dk0) (hs:Dk0.size=120) (gH:ByteArray){A M:iz}(hA:A.length=64) (hM:M.length=32):
  Calls prog 60 #[.pointer (some ⟨d,0,none⟩),.pointer (some ⟨s,0,none⟩),.string gH,.agg (kT A M).toArray,.pointer (some ⟨b,0,none⟩)] w λe w'=>e=.returned (.tuple #[.agg (o9 d s b gH A M).toArray,.int .i64 0])∧Below w.heap.size w w':=by
 obtain⟨q,hq⟩:=Ex w.heap.size;obtain⟨w1,hw1⟩:=Ex ((w.alloc (.cells (kT A M).toArray 39)).alloc (.cells Tryz.zeroCells96 96));have b1:Below w.heap.size w w1:=by rw[hw1];exact ((ag _ _).alloc (ae _) _).alloc (by simp) _
 have x1:w1.heap[q]?=some (.cells (kT A M).toArray 39 (0,0)):=by rw[hw1,hq];exact (aB _ _ _ (by simp)).trans (aj w _)
 have x2:w1.heap[q+1]?=some (.cells Tryz.zeroCells96 96 (0,0)):=by rw[hw1,hq];have h:=aj (w.alloc (.cells (kT A M).toArray 39)) (.cells Tryz.zeroCells96 96);simp only[aN] at h;exact h
 have hC:=LH (λw3=>Im A M w3);have hS:=LH (λw3 (hc:aA No w1 w3)=>D.xn ((h.ki (aA.dD b1 No) (λ_ _=>id)).ki hc (λ_ _=>id)))
 have hld:∀ w3,aA No w1 w3→(Instr.loadAt 39 (.pointer (some ⟨q,0,none⟩))).run prog w3=.ok (.agg (kT A M).toArray) w3:=λw3 hc=>mE underlying39 (by rw[oC hA hM];exact rv) (λj v hv=>by rw[aw,cell_of ((hc.block q (dC x1) id).trans x1)];simpa using hv)
 have c0:w1.cell? ⟨q,0,none⟩=some (.int .i64 10):=by rw[cell_of x1];rfl
 have c1:w1.cell? ⟨q,1,none⟩=some (.int .i64 100):=by rw[cell_of x1];rfl
 have hbb:=LH (Ii d s b gH hA hM);obtain⟨c,hc⟩:=Ex ((kT A M).toArray);rw[← hc] at hC hw1 hld hbb x1 ⊢;have hql:=LH (dC x1);have hdr:∀ w3,aA No w1.drew w3→aA No w1 w3:=λw3 h=>⟨h.os,h.tape,h.output,h.size,h.block⟩
 replace hc:=LH hc;replace hld:=LH hld;replace hdr:=LH hdr;replace b1:=LH b1;replace x1:=LH x1;replace x2:=LH x2;replace c0:=LH c0;replace c1:=LH c1;replace hs:=LH hs;clear h;go_enter func60,ntmps60;go_wp2;rw[← hw1,← hq];replace hw1:=LH hw1;replace hq:=LH hq;refine RA.rt (aA No) [1,1,1,1,4,1,1,1,1,1,1,1,4,1,1,1,1,1,1,1,4,1,1,1,1,1,1] [] (λ_=>True) trivial (λ_=>aA.refl _ _) (λ_ _ _ h k=>h.trans k) (h:=?_);intro cx
 repeat (first|refine RA.mv (by rfl) (by rfl) (by rfl) ?_|refine RA.as (by rfl) (by rfl) (by rfl) ?_|refine RA.pt (by rfl) (by rfl) (by rfl) (by rfl) ?_|refine RA.pf (by rfl) (by rfl) (by rfl) (by rfl) ?_)
 refine RA.vk prog (.bool false) (h:=?_)
 repeat (first|refine RA.mv (by rfl) (by rfl) (by rfl) ?_|refine RA.as (by rfl) (by rfl) (by rfl) ?_|refine RA.pt (by rfl) (by rfl) (by rfl) (by rfl) ?_|refine RA.pf (by rfl) (by rfl) (by rfl) (by rfl) ?_)
 refine RA.ld (by kernel_rfl) (by rfl) (by rfl) (y':=.agg c) (λw3 hp=>hld.o w3 (hdr.o _ hp.1)) ?_;refine RA.kc (P:=prog) [.agg c] (.bool true) (λ_=>True) (λ_ _=>by go_simp) (by kernel_rfl) (by rfl) (by rfl) (by kernel_rfl) (λ_ _ _ h=>h) rfl (λw3 hp hH=>(hC.o w3).mono (by rintro e w4 ⟨rfl,h2⟩;exact⟨rfl,aA.dD h2 _,trivial⟩)) ?_;refine RA.nt (by rfl) (by rfl) (by rfl) ?_;refine RA.vk prog (.bool false) (h:=?_)
 repeat (first|refine RA.mv (by rfl) (by rfl) (by rfl) ?_|refine RA.as (by rfl) (by rfl) (by rfl) ?_|refine RA.pt (by rfl) (by rfl) (by rfl) (by rfl) ?_|refine RA.pf (by rfl) (by rfl) (by rfl) (by rfl) ?_)
 refine RA.fk prog (q) (0) (h:=?_);refine RA.fk prog (q) (1) (h:=?_);refine RA.lk prog (.int .i64 100) (hc:=λw3 hp=>by exact ((hdr.o _ hp.1).cell (p:=⟨q,1,none⟩) hql.o id).trans c1.o) (h:=?_)
 repeat (first|refine RA.mv (by rfl) (by rfl) (by rfl) ?_|refine RA.as (by rfl) (by rfl) (by rfl) ?_|refine RA.pt (by rfl) (by rfl) (by rfl) (by rfl) ?_|refine RA.pf (by rfl) (by rfl) (by rfl) (by rfl) ?_)
 refine RA.kc (P:=prog) [.pointer (some ⟨d,0,none⟩)] (.int .i64 120) (λ_=>True) (λ_ _=>by go_simp) (by kernel_rfl) (by rfl) (by rfl) (by kernel_rfl) (λ_ _ _ h=>h) rfl (λw3 hp hH=>(hS.o w3 (hdr.o _ hp.1)).mono (by rintro e w4 ⟨rfl,rfl⟩;exact⟨by rw[hs.o];rfl,aA.refl _ _,trivial⟩)) ?_;refine RA.vk prog (.bool false) (h:=?_)
 repeat (first|refine RA.mv (by rfl) (by rfl) (by rfl) ?_|refine RA.as (by rfl) (by rfl) (by rfl) ?_|refine RA.pt (by rfl) (by rfl) (by rfl) (by rfl) ?_|refine RA.pf (by rfl) (by rfl) (by rfl) (by rfl) ?_)
 refine RA.fk prog (q) (0) (h:=?_);refine RA.fk prog (q) (0) (h:=?_);refine RA.lk prog (.int .i64 10) (hc:=λw3 hp=>by exact ((hdr.o _ hp.1).cell (p:=⟨q,0,none⟩) hql.o id).trans c0.o) (h:=?_)
 repeat (first|refine RA.mv (by rfl) (by rfl) (by rfl) ?_|refine RA.as (by rfl) (by rfl) (by rfl) ?_|refine RA.pt (by rfl) (by rfl) (by rfl) (by rfl) ?_|refine RA.pf (by rfl) (by rfl) (by rfl) (by rfl) ?_)
 refine RA.kc (P:=prog) [.pointer (some ⟨d,0,none⟩)] (.int .i64 120) (λ_=>True) (λ_ _=>by go_simp) (by kernel_rfl) (by rfl) (by rfl) (by kernel_rfl) (λ_ _ _ h=>h) rfl (λw3 hp hH=>(hS.o w3 (hdr.o _ hp.1)).mono (by rintro e w4 ⟨rfl,rfl⟩;exact⟨by rw[hs.o];rfl,aA.refl _ _,trivial⟩)) ?_;refine RA.fk prog (q) (0) (h:=?_);refine RA.fk prog (q) (1) (h:=?_);refine RA.lk prog (.int .i64 100) (hc:=λw3 hp=>by exact ((hdr.o _ hp.1).cell (p:=⟨q,1,none⟩) hql.o id).trans c1.o) (h:=?_);refine RA.vk prog (.int .i64 20) (hr:=λw hp=>by (try go_simp);rfl) (h:=?_);refine RA.vk prog (.bool false) (h:=?_)
 repeat (first|refine RA.mv (by rfl) (by rfl) (by rfl) ?_|refine RA.as (by rfl) (by rfl) (by rfl) ?_|refine RA.pt (by rfl) (by rfl) (by rfl) (by rfl) ?_|refine RA.pf (by rfl) (by rfl) (by rfl) (by rfl) ?_)
 refine RA.RA.done rfl (λw2 hR hF hH=>?_);clear hF hH;simp only[RA.put,List.foldr_cons,List.foldr_nil,cx,Act.put,ar,aq,au]
 try simp only[cn]
 try simp only[cG]
 have hC2:=hdr.o _ hR;have hB2:=LH (b1.o.trans (hC2.no.mono b1.o.size));have y2:=(hC2.block (q+1) (dC x2.o) id).trans x2.o;have hld2:=LH (hld.o w2 hC2);have z0:=LH ((hC2.cell (p:=⟨q,0,none⟩) hql.o id).trans c0.o);have z1:=LH ((hC2.cell (p:=⟨q,1,none⟩) hql.o id).trans c1.o);clear hR hC2 hS hC hld hdr;have hst:=mf (P:=prog) (ty:=96) y2 (by rw[xr (d:=d) (s:=s) (b:=b) (gH:=gH) (i:=0) (j:=0) (k:=0) (l:=0) hA hM];exact uy) (by rw[xr hA hM];rfl) Ij;have y3:(w2.setRow (q+1) (nP d s b gH A M 0 0 0 0).toArray).heap[q+1]?=some (.cells (nP d s b gH A M 0 0 0 0).toArray 96 (0,0)):=aJ _ _ _ _ _ _ y2;have hB3:Below w.heap.size w (w2.setRow (q+1) (nP d s b gH A M 0 0 0 0).toArray):=below_setRow hB2.o (by rw[← hq.o];omega) _;obtain⟨w3,hw3⟩:=Ex (w2.setRow (q+1) (nP d s b gH A M 0 0 0 0).toArray);obtain⟨B0,hB0⟩:=Ex (nP d s b gH A M 0 0 0 0);rw[← hw3] at hst y3 hB3;rw[← hB0] at hst y3 hbb;have zz0:w3.cell? ⟨q,0,none⟩=some (.int .i64 10):=by rw[hw3];exact (az (w:=w2) (a:=⟨q,0,none⟩) (aG w2 (q+1) q _ (by omega))).trans z0.o
 have zz1:w3.cell? ⟨q,1,none⟩=some (.int .i64 100):=by rw[hw3];exact (az (w:=w2) (a:=⟨q,1,none⟩) (aG w2 (q+1) q _ (by omega))).trans z1.o
 replace hst:=LH hst;replace y3:=LH y3;replace hB3:=LH hB3;replace hw3:=LH hw3;replace hB0:=LH hB0;clear y2
 go_wp2_with (first|(refine kQ rfl 39 _ rfl _ _ rfl hld2.o ?_)|(refine vH rfl 96 _ rfl _ rfl _ (hbb.o _) ?_)|(refine kI rfl 96 _ _ rfl _ _ rfl rfl hst.o ?_)|fail)
 refine (P.Ho (f:=10) (c:=50) (g:=60) (d:=50) (b:=true) (by decide) (by decide) (by decide) w3).mono ?_;rintro e w4 ⟨rfl,hb4⟩;have y4:=(hb4.block (q+1) (dC y3.o)).trans y3.o;have hB4:Below w.heap.size w w4:=hB3.o.trans (hb4.mono hB3.o.size);obtain⟨w5,hw5⟩:=Ex (w4.setRow (q+1) (nP d s b gH A M 10 50 0 0).toArray);obtain⟨w6,hw6⟩:=Ex (w5.setRow (q+1) (o9 d s b gH A M).toArray);have hst1:=tX (P:=prog) (ty:=27) (off:=102) (x:=[.int .i64 10,.int .i64 50]) y4 (by kernel_rfl) (by rw[hB0.o,aT,xr hA hM];decide) (by simp[Value.oneCell']);rw[show B0.toArray.toList=B0 from rfl,hB0.o,Ik hA hM,← hw5] at hst1;have y5:w5.heap[q+1]?=some (.cells (nP d s b gH A M 10 50 0 0).toArray 96 (0,0)):=by rw[hw5];exact aJ _ _ _ _ _ _ y4
 have hst2:=tX (P:=prog) (ty:=27) (off:=104) (x:=[.int .i64 60,.int .i64 50]) y5 (by kernel_rfl) (by rw[aT,xr hA hM];decide) (by simp[Value.oneCell']);rw[show (nP d s b gH A M 10 50 0 0).toArray.toList=nP d s b gH A M 10 50 0 0 from rfl,Il hA hM,← hw6] at hst2;have y6:w6.heap[q+1]?=some (.cells (o9 d s b gH A M).toArray 96 (0,0)):=by rw[hw6];exact aJ _ _ _ _ _ _ y5
 have hIs:=BQ d s b gH hA hM;obtain⟨BL,hBL⟩:=Ex (o9 d s b gH A M);rw[← hBL] at y6 hIs hw6;have hld6:(Instr.loadAt 96 (.pointer (some ⟨q+1,0,none⟩))).run prog w6=.ok (.agg BL.toArray) w6:=(mU.mk y6).load hIs.len;have hst6:=mf (P:=prog) (ty:=96) (x:=BL) y6 (by rw[hIs.len];exact uy) (by simp) hIs.one;have y7:(w6.setRow (q+1) BL.toArray).heap[q+1]?=some (.cells BL.toArray 96 (0,0)):=aJ _ _ _ _ _ _ y6;have hB7:Below w.heap.size w (w6.setRow (q+1) BL.toArray):=below_setRow (by rw[hw6];exact below_setRow (by rw[hw5];exact below_setRow hB4 (by rw[← hq.o];omega) _) (by rw[← hq.o];omega) _) (by rw[← hq.o];omega) _;have hlen:=LH hIs.len;replace hst1:=LH hst1;replace hst2:=LH hst2;replace hld6:=LH hld6;replace hst6:=LH hst6;replace y7:=LH y7;replace hB7:=LH hB7;clear hb4 y4 hB4 y5 y6 hIs zz0 zz1 hst y3 hB3 hld2 hbb;replace hw5:=LH hw5;replace hw6:=LH hw6;replace hBL:=LH hBL
 go_wp2_with (first|(refine kI rfl 27 _ _ rfl _ _ rfl rfl hst1.o ?_)|(refine kI rfl 27 _ _ rfl _ _ rfl rfl hst2.o ?_)|(refine kQ rfl 96 _ rfl _ _ rfl hld6.o ?_)|(refine kI rfl 96 _ _ rfl _ _ rfl rfl hst6.o ?_)|fail)
 refine aI (sE results60 _ _ (q+1) 96 _ (0,0) _ rfl y7.o underlying96 rfl (by rw[aT,hlen.o];exact uy)) rfl ⟨by rw[← hBL.o];rfl,hB7.o⟩
variable {w:World}{t:Option Addr}{dv:Value}
def B9 (Q:Ending->World->Prop) (e:Ending) (w:World):Prop:=∃ a n c b,e=.returned (.tuple #[.slice a n c,iw b])/\Q e w
theorem Ip {s:Nat}(hs:kR w s none t) (gH kv dv:Value) (unit:Int) (Q:Ending->World->Prop)
  (h:Calls prog 144 #[kv,iw unit,dv] w (B9 Q)):
  Calls prog 118 #[iq s,gH,kv,iw unit,dv] w Q:=by
 have hi:=LH (AD hs);replace h:=LH h;clear hs;go_enter func118,ntmps118
 go_wp2_with (first|(go_at_call 137;refine hi.o.mono ?_;rintro e w' ⟨rfl,rfl⟩)|fail)
 refine h.o.mono ?_;rintro e w' ⟨a,n,cp,c,rfl,b⟩;replace b:=LH b;go_wp2;exact b.o
theorem Ca {s:Nat}(hs:kR w s none t) (gH:Value){S S':Nat->Prop}{kv:Value}{key data:iz}(hk:Bytes w S kv key) (hkl:key.length=64) (hd:Bytes w S' dv data) (hdl:data.length=64) (unit:Nat) (hu:unit<=65536):
  Calls prog 118 #[iq s,gH,kv,iw unit,dv] w λe w'=>∃ v,e=.returned (.tuple #[v,iw 0])/\w'.ownsRow w.heap.size 5 1 v 64 (aQ (nw key unit data))/\Below w.heap.size w w':=
 Ip hs gH kv dv unit _ ((GC hk unit ⟨.inr hkl,by omega,by omega⟩ hd om om).mono λe w' ⟨v,h1,a,b⟩=>by rw[hdl] at a;obtain⟨g,cp,rfl,_⟩:=kz a om;exact⟨_,_,_,_,h1,_,h1,a,b⟩)
theorem Cb {P:Program}{w':World}{ops:Array Oper}{rest:List Oper}{o:Oper}{a:Act}{Q:Exit->Act->World->Prop}(hgd:o.guard=none) (t:TypeId) (x x':Operand) (ho:o.op=.makeSlice t x x')
  (y:Value) (hx:a.eval x=y) (hx':a.eval x'=y) (v:Value) (hr:(Instr.makeSlice t y y).run P w=.ok v w') (h:wpList P ops Q rest (a.put o.dst v) w'):wpList P ops Q (o::rest) a w:=by
 refine cN hgd λK b=>?_
 unfold Oper.wp execOp;simp only[ho,hx,hx',aM,hr,bu];exact b _ _ h
def kW (u:Value) (i:Nat):Value:=match u with
 | .tuple cs=>cs.getD i undef
 | _=>undef
theorem oP {l:iz}(h:l.length<=64):(l++List.replicate (64 - l.length) 0).length=64:=by simp;omega
theorem vI {xs:List Value}{d s b:Nat}{gH:ByteArray}{A M:iz}(h:ou xs d s b gH A M) (hs:kR w s none t) (at':Nat) (hat:at'<=65536){S:Nat->Prop}{l:iz}(hd:Bytes w S dv l) (hl:l.length<=64):
  Calls prog 80 #[.agg xs.toArray,iw at',dv] w λe w'=>∃ v,e=.returned (.tuple #[.agg #[iw at',v],iw 0])/\w'.ownsRow w.heap.size 5 1 v 64 (aQ (nw A at' (l++List.replicate (64 - l.length) 0)))/\Below w.heap.size w w':=by
 obtain⟨da,dc,rfl,an,ax⟩:=hd.shape;obtain⟨q,hq⟩:=Ex w.heap.size;obtain⟨y,i⟩:=Ex ((w.alloc (.cells xs.toArray 96)).alloc (.cells #[iw 0,.slice none 0 0] 142));have J:mU y q xs:=by rw[i,hq];exact (rU w xs).ki ((aA.refl _ _).alloc _)
 have b1:Below w.heap.size w y:=by rw[i];exact ((ag _ _).alloc (ae _) _).alloc sm _
 have X:y.heap[q+1]?=some (.cells #[iw 0,.slice none 0 0] 142 (0,0)):=by rw[i,hq];have h:=aj (w.alloc (.cells xs.toArray 96)) (.cells #[iw 0,.slice none 0 0] 142);simp only[aN] at h;exact h
 have s1:kR y s none t:=(b1.block s (dC hs)).trans hs;have Q:Bytes y S (.slice da l.length dc) l:=Cells.dB hd b1.size (λg _ hg=>b1.block g hg);obtain⟨n,hn⟩:=Ex l.length;obtain⟨R,L⟩:=Ex (64 - n);have b4:(64:Int) - n=R:=om;rw[<-hn] at hl Q ⊢;obtain⟨w2,p⟩:=Ex (y.alloc (.cells (aQ (List.replicate R 0)).toArray 5));have b2:Below y.heap.size y w2:=by rw[p];exact (ag _ _).alloc (ae _) _
 have aa:Cells w2 (λ_=>True) (ir y.heap.size R R) R 1 (aQ (List.replicate R 0)):=sw (t:=5) (by rw[p];exact aj y _) sm mx;have a7:Bytes w2 (λ_=>True) (.slice da n dc) l:=(Cells.dB Q b2.size (λg _ hg=>b2.block g hg)).mono (λ_ _ _=>trivial)
 have hP:=rl (w:=w2) (S:=λ_=>True) (vs:=[.slice da n dc,ir y.heap.size R R]) (parts:=[l,List.replicate R 0]) rfl (by unfold maxLen;simp) (by
  intro j v hv
  match j with
  | 0=>cases hv;exact a7
  | 1=>cases hv;show Cells w2 _ _ (List.replicate R (0:UInt8)).length 1 _;rw[aK];exact aa
  | _+2=>simp at hv)
 have O:=LH (vq hP sm (by
  intro x J;simp only[bi,bL,bS] at J;rcases J with rfl|rfl
  ·omega
  ·rw[aK];omega))
 obtain⟨Z,U⟩:=Ex (l++List.replicate R 0);have N:Z.length=64:=by rw[U];simp;omega
 have a1:[l,List.replicate R 0].flatten=Z:=by rw[U];simp
 rw[a1,N] at O;rw[<-L,<-U];have E:=LH b2;have e1:=LH (show y.heap.size=w.heap.size+1+1 by rw[i];simp);have e2:=LH (show w2.heap.size=y.heap.size+1 by rw[p];simp);obtain⟨c,hc⟩:=Ex xs.toArray;rw[<-hc] at i ⊢;refine G9 hc J b1 X s1 U hn L h ?_;clear hc J b1 X s1 U hn L h;intro hc J b1 X s1 U hn L h;clear hd hs Q aa a7 hP b2 a1;go_enter func80,ntmps80;have ay:=LH p
 go_wp2_with (first|(rw[<-i];refine Cb rfl 42 _ _ rfl _ rfl rfl _ (ui y R _ om om) ?_;rw[<-p])|fail)
 rw[<-i,<-p,<-e1.o,<-e2.o];refine O.o.mono ?_;rintro e z ⟨zv,rfl,T,a6⟩;have F:=E.o.alloc E.o.size (.cells #[.slice da n dc,ir y.heap.size R R] 42);have m:=F.trans (a6.mono F.size);obtain⟨za,zc,rfl,_⟩:=kz T om
 have ad:Bytes z (λ_=>True) (ir za 64 zc) Z:=by have h:=(Cells.own T).mono (S':=λ_=>True) (λ_ _ _=>trivial);show Cells z _ _ Z.length 1 _;rw[N];exact h
 have r:=J.o.ki (aA.dD m _);have s3:kR z s none t:=(m.block s (dC s1.o)).trans s1.o;have Y:=(m.block (q+1) (dC X.o)).trans X.o;have b3:=LH (b1.o.trans (m.mono b1.o.size))
 have a8:∀ C,aA No z C->Bytes C (λ_=>True) (.slice (some (iu q 5)) 64 64) A:=λC hc=>by refine⟨by rw[km,aY],_,_,by rw[h.o.dl],cJ h.o.dl,by unfold maxLen;omega,λh=>(by cases h),.inr ⟨q,5,rfl,trivial,dC (r.ki hc).at_,λj u hu=>(r.ki hc).get (h.o.BO j u hu)⟩⟩
 have B:∀ C,aA No z C->Calls prog 118 #[iq s,.string gH,.slice (some (iu q 5)) 64 64,iw at',ir za 64 zc] C λe w'=>∃ v,e=.returned (.tuple #[v,iw 0])/\w'.ownsRow C.heap.size 5 1 v 64 (aQ (nw A at' Z))/\Below C.heap.size C w':=λC hc=>Ca (w:=C) ((hc.block s (dC s3) id).trans s3) _ (a8 C hc) h.o.dl (Bytes.ki ad hc (λ_ _ _=>id)) N at' hat
 have f:=Dr z
 obtain⟨XE,D⟩:=Ex (nw A at' Z);rw[<-D] at B;refine G5 D B f r Y ?_;clear D B f r Y;intro D B f r Y;rw[<-hq];replace i:=LH i;replace p:=LH p;have af:=LH hq;clear F hq a6 m T ad s3 a8 O J s1 X E b1;go_wp2;refine RA.rt (aA No) [1,1,1,1,1,1,1,1,1,3,1,1,1,1,1] [] (λ_=>True) trivial (λ_=>aA.refl _ _) (λ_ _ _ h k=>h.trans k) (h:=?_);intro cx;refine RA.fk prog q 1 (h:=?_);refine RA.lk prog (iq s) (hc:=λz hp=>by exact (r.o.ki (f.o _ hp.1)).get h.o.c1) (h:=?_);refine RA.fk prog q 2 (h:=?_);refine RA.lk prog (.string gH) (hc:=λz hp=>by exact (r.o.ki (f.o _ hp.1)).get h.o.c2) (h:=?_);refine RA.fk prog q 3 (h:=?_);refine RA.fk prog q 5 (h:=?_);refine RA.vk prog (.slice (some (iu q 5)) 64 64) (h:=?_)
 repeat refine RA.qq ?_
 refine RA.qc (P:=prog) [iq s,.string gH,.slice (some (iu q 5)) 64 64,iw at',ir za 64 zc] (λv z=>∃ u,v=.tuple #[u,iw 0]/\z.ownsRow w.heap.size 5 1 u 64 (aQ XE)) (hs:=λv a b h h2=>by
  obtain⟨u,k1,k2⟩:=h2;exact⟨u,k1,dE k2 (λg hg=>h.block g (kt k2 g hg) id)⟩) (hr:=λz hp hH=>by
  refine (B.o z (f.o _ hp.1)).mono ?_;rintro e C ⟨v,rfl,k1,k2⟩;exact⟨_,rfl,aA.dD k2 _,⟨v,rfl,kU k1 (am b3.o.size (f.o _ hp.1).size)⟩,trivial⟩) (hn:=λu=>?_)
 repeat refine RA.qq ?_
 refine RA.vk prog (kW u 0) (hr:=λz hp=>by obtain⟨v,rfl,_⟩:=hp.fact 0 rfl kr;clear hp;go_simp;rfl) (h:=?_)
 refine RA.vk prog (kW u 1) (hr:=λz hp=>by obtain⟨v,rfl,_⟩:=hp.fact 0 rfl kr;clear hp;go_simp;rfl) (h:=?_)
 repeat refine RA.qq ?_
 refine RA.RA.done rfl (λw5 L hF hH=>?_);clear hH;simp only[RA.RP,cx];have K:=f.o _ L;obtain⟨v,rfl,hv⟩:=hF _ (cq ..);obtain⟨W,V,rfl,_⟩:=kz hv om;simp only[kW,TP];have x5:=(K.block (q+1) (dC Y.o) id).trans Y.o;have H:=mf (P:=prog) (ty:=142) (x:=[iw at',ir W 64 V]) x5 kr rfl (by simp[Value.oneCell']);have y5:(w5.setRow (q+1) #[iw at',ir W 64 V]).heap[q+1]?=some (.cells #[iw at',ir W 64 V] 142 (0,0)):=aJ _ _ _ _ _ _ x5;have G:Below w.heap.size w (w5.setRow (q+1) #[iw at',ir W 64 V]):=below_setRow (b3.o.trans (K.no.mono b3.o.size)) (by rw[<-af.o];omega) _
 have I:(w5.setRow (q+1) #[iw at',ir W 64 V]).ownsRow w.heap.size 5 1 (ir W 64 V) 64 (aQ XE):=dE hv (λg hg=>aG _ _ _ _ (by rintro rfl;exact o6 hv x5 de hg))
 refine G4 H y5 G I ?_;clear H y5 G I;intro H y5 G I;clear K L hF hv x5 B r Y f
 go_wp2_with (first|(refine kI rfl 142 _ _ rfl _ _ rfl rfl H.o ?_)|fail)
 refine aI (sE results80 _ _ (q+1) 142 _ (0,0) _ rfl y5.o underlying142 rfl kr) rfl ⟨_,rfl,by rw[<-D.o];exact I.o,G.o⟩
def rW (L:iz) (i:Nat):Nat->iz
 | 0=>[]
 | j+1=>rW L i j++oA L (i+j)
theorem xt {L:iz}{i j:Nat}:(rW L i j).length=j*16:=by
 induction j with
 | zero=>rfl
 | succ j ih=>rw[rW,aE,ih,um];omega
theorem Cc {w:World}{t b:Nat}{gs:Nat->Nat}{key:iz}{Ls:List iz}(h:ll w t b gs key Ls) (h0:0<Ls.length) (k:Nat) (hk:k<=20):
  Calls prog 83 #[iq t,iw k] w λe w'=>∃ v,e=.returned v/\w'.ownsRow w.heap.size 5 1 v 64 (aQ (rW ((Ls.getD 0 []).take (kp (0:Nat)*16)) (4*k) 4))/\Below w.heap.size w w':=by
 have J:(iy 0).cells.size=1:=rfl;obtain⟨X,F⟩:=Ex (4*k);have S:(4:Int)*k=X:=om;have P:X<=80:=om;obtain⟨L,z⟩:=Ex ((Ls.getD 0 []).take (kp (0:Nat)*16));have x:=λ(Z:World) (hb:Below w.heap.size w Z) (i:Nat) (hi:i<=1000)=>BJ (h.after hb) h0 i hi
 rw[<-z] at x;rw[<-F,<-z];revert F z x;refine H3 ?_;intro F z x;clear h h0;go_enter func83,ntmps83;go_wp2
 go_loopg [4,7] 4 (λg o ix wr=>∃ j:Nat,∃ ov:Value,ov=o/\j+g=4/\ix=iw j/\Hd (wr.ownsRow w.heap.size 5 1 ov (j*16) (aQ (rW L X j)))/\Hd (Below w.heap.size w wr))
 case atStart=>exact⟨0,_,rfl,by omega,rfl,aS _ _ _ _,ag _ _⟩
 case round=>
  obtain⟨j,ov,rfl,U,rfl,y,m⟩:=hrel;by_cases V:j<4
  ·obtain⟨g1,rfl⟩:∃ i,gk=i+1:=⟨gk - 1,by omega⟩;have I:(j:Int)<4:=om;obtain⟨Y,G⟩:=Ex (X+j);have T:(X:Int)+j=Y:=om;have A:=LH (x.o wr m.o Y om);obtain⟨r,c⟩:=Ex (oA L Y);have p:r.length=16:=c ▸ um;rw[<-c] at A;replace G:=LH G;replace c:=LH c
   go_wp2_with fail
   refine A.o.mono ?_;rintro e q ⟨rfl,s⟩;have M:ke (q.alloc (.cells #[iy 0,iy 0,iy 0,iy 0,iy 0,iy 0,iy 0,iy 0,iy 0,iy 0,iy 0,iy 0,iy 0,iy 0,iy 0,iy 0] 179)) q.heap.size 179 (List.replicate 16 0):=aj q _;have n:=nn M aK r p;obtain⟨B,f⟩:=Ex ((q.alloc (.cells #[iy 0,iy 0,iy 0,iy 0,iy 0,iy 0,iy 0,iy 0,iy 0,iy 0,iy 0,iy 0,iy 0,iy 0,iy 0,iy 0] 179)).setRow q.heap.size (aQ r).toArray);have Q:ke B q.heap.size 179 r:=by rw[f];exact M.setRow r
   have O:Below q.heap.size q B:=by rw[f];exact below_setRow ((ag _ _).alloc (ae _) _) (ae _) _
   have d:Below wr.heap.size wr B:=s.trans (O.mono s.size);have l:Below w.heap.size w B:=m.o.trans (d.mono m.o.size);have u:=LH (dE y.o (λg hg=>d.block g (kt y.o g hg)));have D:=LH (sw Q p mx);have C:=LH (λg=>kJ y.o g);have W:=l.size;have E:j*16<=64:=om;obtain⟨N,a⟩:=Ex (j*16);rw[<-f] at n;rw[<-a] at E u;revert n f l a;refine H4 ?_;intro n f l a;clear M Q O d s A
   go_wp2_with (first|(refine kI rfl 179 _ _ rfl _ _ rfl rfl n.o ?_)|(at_builtin;refine K.append ?_ (.tmp 16) (.tmp 17) 42 ?_ w.heap.size 5 (iy 0) 1 1 underlying42 nu J om _ N _ ?_ u.o (λ_=>True) _ 16 (aQ r) ?_ D.o (K.nJ r) mx om ?_ ?_))
   any_goals (first|rfl|omega)
   intro v' w2 y1 y2 y3 y4;have R:=LH y1;have H:=LH ((aA.dD l.o No).grown y2 (λg hg A=>absurd (C.o g hg) om)).no;clear y1 y2 y3 y4;go_wp2;go_roundg g1
   case measure=>omega
   case rel=>refine⟨j+1,_,rfl,by omega,by go_num,?_,H.o⟩;show World.ownsRow _ _ _ _ _ _ _;rw[rW,nI,show (j+1)*16=N+16 by rw[a.o];omega,<-G.o,<-c.o];exact R.o
  ·obtain rfl:gk=0:=om;obtain rfl:j=4:=om;have I:¬ ((4:Nat):Int)<4:=om;go_wp2;go_ret;exact⟨_,rfl,y.o,m.o⟩
theorem Cd {w:World}{m:Nat}{L:iz}(h:mj w m L):
  Calls prog 84 #[iq m,iw 0] w λe w'=>∃ v,e=.returned v/\Bytes w' (λ_=>True) v L/\Below w.heap.size w w':=by
 have d:=h.len;have f:=LH (yJ h);clear h;go_enter func84,ntmps84
 go_wp2_with fail
 refine f.o.mono ?_;rintro e i ⟨v,rfl,hv,a⟩;obtain⟨g,cp,rfl,j,c⟩:=kz hv om
 have b:Bytes i (λ_=>True) (ir g 7 cp) L:=by have h:=(Cells.own hv).mono (S':=λ_=>True) (λ_ _ _=>trivial);show Cells i _ _ L.length 1 _;rw[d];exact h
 unfold maxLen at c;revert d a b;refine H3 ?_;intro d a b;clear hv f;go_wp2;go_ret;exact⟨_,rfl,b.o,a.o⟩
theorem Iq {w:World}{xs:List Value}{d s b:Nat}{gH:ByteArray}{A M:iz}(h:ou xs d s b gH A M) (num:Nat) (hnum:num<=1000000){T:iz}(hT:T.length=16){m:Nat}{L:iz}(hm:mj w m L):
  Calls prog 123 #[.agg xs.toArray,iw num,.agg (aQ T).toArray,iq m] w λe w'=>∃ v,e=.returned v/\kP w' (λ_=>True) v [[118,111,108,117,109,101],kj 10,kj 100,kj num,T,L]/\Below w.heap.size w w':=by
 obtain⟨q,E⟩:=Ex w.heap.size;obtain⟨u,l⟩:=Ex ((w.alloc (.cells xs.toArray 96)).alloc (.cells (aQ T).toArray 179));have J:mU u q xs:=by rw[l,E];exact (rU w xs).ki ((aA.refl _ _).alloc _)
 have b1:Below w.heap.size w u:=by rw[l];exact ((ag _ _).alloc (ae _) _).alloc sm _
 have Y:ke u (q+1) 179 T:=by rw[l,E];have h:=aj (w.alloc (.cells xs.toArray 96)) (.cells (aQ T).toArray 179);simp only[aN] at h;exact h
 have D:=hm.after b1;obtain⟨N,B⟩:=Ex u.heap.size;have g:∀ f,Mk N u.drew f->Mk N u f:=λf h=>⟨⟨h.1.os,h.1.tape,h.1.output,h.1.size,h.1.block⟩,h.2⟩
 have i:∀ f,Mk N u f->N<=f.heap.size:=λf h=>B ▸ h.1.size
 have G:=LH (λf (hr:Mk N u f)=>yJ (D.after (B ▸ hr.1)));have H:=LH (λf (hr:Mk N u f)=>hr.cells (sw Y hT mx));have c3:=LH (J.get h.c3);have c4:=LH (J.get h.c4);have I:=LH hm.len;obtain⟨c,hc⟩:=Ex xs.toArray;obtain⟨tc,y⟩:=Ex ((aQ T).toArray);rw[<-hc,<-y] at l ⊢;revert b1 B g i hc y;refine H6 ?_;intro b1 B g i hc y;clear J Y hm D h;go_enter func123,ntmps123;go_wp2;rw[<-l,<-E];replace l:=LH l;replace E:=LH E;refine RA.region (Mk N) (Mk N) [2,2,1,1,1,1,2,1,1,1,1,2,1,2,1,1,2,3,1] (λk v f=>match k with|6=>Bytes f (λ_=>True) v (kj 10)|11=>Bytes f (λ_=>True) v (kj 100)|13=>Bytes f (λ_=>True) v (kj num)|16=>Bytes f (λ_=>True) v L|_=>mJ N [118,111,108,117,109,101] 5 v f) (λ_=>True) kr (Mk.refl _ _) (λ_ _ h=>h) (λ_ _ _ h k=>h.trans k) (λ_ _ _ _=>trivial) trivial kr ?_;intro cx
 refine RA.fr (hs:=λv a b h n=>n.mk h) (hr:=λf hp=>⟨ir f.heap.size 6 6,f.alloc (.cells (aQ [118,111,108,117,109,101]).toArray 5),by show (execOp _ _).run prog f=_;go_simp;rfl,Mk.mh ((aA.refl _ _).alloc _) (i.o _ (g.o _ hp.1)),⟨f.heap.size,(0,0),rfl,i.o _ (g.o _ hp.1),by unfold maxLen;exact cF rfl,aj f _⟩⟩) (h:=λX=>?_)
 refine RA.fr (hs:=λv a b h n=>n.mk h) (hr:=λf hp=>by obtain⟨z,p,r,k3⟩:=vv (P:=prog) (t:=42) underlying42 underlying5 (show mJ N [118,111,108,117,109,101] _ X f from hp.fact 0 rfl kr);refine⟨X,z,?_,r,k3⟩;exact RA.xf rf p) (h:=λK=>?_)
 refine RA.fk prog q 3 (h:=?_);refine RA.fk prog q 3 (h:=?_);refine RA.fk prog q 3 (h:=?_);refine RA.lk prog (iw 10) (hc:=λf hp=>by exact (g.o _ hp.1).cell c3.o) (h:=?_)
 refine RA.pU (P:=prog) [iw 10] (λ_ _=>by go_simp) kr rf rf (λv a b h n=>Mk.cells h n) rfl (λf hp=>(oL 10 om f).mono (by rintro e z ⟨v,rfl,p,r⟩;exact⟨v,rfl,Mk.dD r (i.o _ (g.o _ hp.1)),pV p⟩)) (λO=>?_)
 refine RA.fk prog q 3 (h:=?_);refine RA.fk prog q 3 (h:=?_);refine RA.fk prog q 4 (h:=?_);refine RA.lk prog (iw 100) (hc:=λf hp=>by exact (g.o _ hp.1).cell c4.o) (h:=?_)
 refine RA.pU (P:=prog) [iw 100] (λ_ _=>by go_simp) kr rf rf (λv a b h n=>Mk.cells h n) rfl (λf hp=>(oL 100 om f).mono (by rintro e z ⟨v,rfl,p,r⟩;exact⟨v,rfl,Mk.dD r (i.o _ (g.o _ hp.1)),pV p⟩)) (λQ=>?_)
 repeat refine RA.qq ?_
 refine RA.pU (P:=prog) [iw num] (λ_ _=>by go_simp) kr rf rf (λv a b h n=>Mk.cells h n) rfl (λf hp=>(oL num om f).mono (by rintro e z ⟨v,rfl,p,r⟩;exact⟨v,rfl,Mk.dD r (i.o _ (g.o _ hp.1)),pV p⟩)) (λR=>?_)
 refine RA.qU (y':=ir (q+1) 16 16) (hr:=λf hp=>by show (Instr.sliceAt _ _ _ _ _).run prog f=_;go_simp) (h:=?_)
 repeat refine RA.qq ?_
 refine RA.pU (P:=prog) [iq m] (λ_ _=>by go_simp) kr rf rf (λv a b h n=>Mk.cells h n) rfl (λf hp=>(G.o f (g.o _ hp.1)).mono (by rintro e z ⟨v,rfl,p,r⟩;refine⟨v,rfl,Mk.dD r (i.o _ (g.o _ hp.1)),?_⟩;show Cells z _ _ L.length 1 _;rw[I.o];exact (Cells.own p).mono (λ_ _ _=>trivial))) (λU=>?_)
 refine RA.bq (λx f=>kP f (λ_=>True) x [[118,111,108,117,109,101],kj 10,kj 100,kj num,T,L]) (hs:=λ_ _ _ h k=>Mk.parts h k) (he:=λ_ _ _ _ _=>trivial) (hr:=(λf hp _=>by
  have f1:=(show mJ N [118,111,108,117,109,101] _ K f from hp.fact 4 rfl kr).bytes;have f2:=(show Bytes f (λ_=>True) O (kj 10) from hp.fact 3 rfl kr);have f3:=(show Bytes f (λ_=>True) Q (kj 100) from hp.fact 2 rfl kr);have f4:=(show Bytes f (λ_=>True) R (kj num) from hp.fact 1 rfl kr);have f6:=(show Bytes f (λ_=>True) U L from hp.fact 0 rfl kr)
  have f5:Bytes f (λ_=>True) (ir (q+1) 16 16) T:=by show Cells f _ _ T.length 1 _;rw[hT];exact H.o f (g.o _ hp.1)
  have C:=i.o _ (g.o _ hp.1)
  have F:=rl (w:=f) (S:=λ_=>True) (vs:=[K,O,Q,R,ir (q+1) 16 16,U]) (parts:=[[118,111,108,117,109,101],kj 10,kj 100,kj num,T,L]) rfl (by unfold maxLen;simp) (by
   intro j v hv
   match j with
   | 0=>cases hv;exact f1
   | 1=>cases hv;exact f2
   | 2=>cases hv;exact f3
   | 3=>cases hv;exact f4
   | 4=>cases hv;exact f5
   | 5=>cases hv;exact f6
   | _+6=>simp at hv)
  refine⟨_,f.alloc (.cells #[K,O,Q,R,ir (q+1) 16 16,U] 42),?_,Mk.mh ((aA.refl _ _).alloc _) C,F,trivial⟩;obtain⟨_,_,rfl,_⟩:=f1.shape;obtain⟨_,_,rfl,_⟩:=f2.shape;obtain⟨_,_,rfl,_⟩:=f3.shape;obtain⟨_,_,rfl,_⟩:=f4.shape;obtain⟨_,_,rfl,_⟩:=f6.shape;clear f1 f2 f3 f4 f5 f6 F hp C;show (execOp _ _).run prog f=_;go_simp)) (hn:=λx=>?_)
 repeat refine RA.qq ?_
 refine RA.RA.done rfl (λw5 W V hH=>?_);clear hH;simp only[RA.RP,cx];have F:=LH (show kP w5 (λ_=>True) x [[118,111,108,117,109,101],kj 10,kj 100,kj num,T,L] from V _ (cq ..));have Z:=LH (B.o ▸ (g.o _ W).1);clear V W;go_wp2;go_ret;exact⟨_,rfl,F.o,b1.o.trans (Z.o.mono b1.o.size)⟩
theorem mj.bk {w w':World}{m b n:Nat}{L:List UInt8}(h:mj w m L) (hB:Bk w b n) (hG:kf No b w w'):mj w' m L:=h.dB (fun g hg ⟨cs,t,ht,hc⟩=>by
 rw[hc];rcases ht with rfl|rfl
 ·exact hG.at hB hc id (by decide) (by decide)
 ·exact hG.at hB hc id (by decide) (by decide))
theorem Ce {w:World}{g:Nat}{H:List UInt8}(h:ke w g 209 H) (hl:H.length=32):Bytes w (fun _=>True) (.slice (some ⟨g,0,none⟩) 16 32) (H.take 16):=by
 have h16:(H.take 16).length=16:=by rw[List.length_take];omega
 refine⟨by rw[km,Nat.mul_one],_,_,by rw[h16],by omega,by unfold maxLen;omega,fun h=>(by cases h),.inr ⟨g,0,rfl,trivial,dC h,fun j u hu=>?_⟩⟩;rw[Nat.zero_add,cell_of h];have hj:j<16:=by have:=(List.getElem?_eq_some_iff.1 hu).1;rw[km] at this;omega
 rw[← hu];simp[aQ,hj]
theorem Cf {w:World}{xs:List Value}{d s b n t m:Nat}{gH:ByteArray}{A M:List UInt8}{tp:Option Addr}{gs:Nat→Nat}{Ls:List (List UInt8)}{L key:List UInt8}(h:ou xs d s b gH A M) (hs:kR w s none tp) (hT:ll w t b gs key Ls) (hLs:Ls.length=4) (hB:Bk w b n) (hn:n<1000000) (hm:mj w m L) (num:Nat) (hnum:num≤1000000):
  Calls prog 85 #[.agg xs.toArray,.agg #[.pointer (some ⟨t,0,none⟩),.pointer (some ⟨m,0,none⟩),.int .i64 num]] w fun e w'=>∃ v,e=.returned (.tuple #[.agg #[.int .i64 24,v],.int .i64 0])∧(∃ Z:List UInt8,Z.length=64∧w'.ownsRow w.heap.size 5 1 v 64 (aQ Z))∧Bk w' b (n+1)∧kf No b w w':=by
 obtain⟨q,hq⟩:∃ q,q=w.heap.size:=⟨_,rfl⟩;obtain⟨w1,hw1⟩:∃ w1,w1=((w.alloc (.cells xs.toArray 96)).alloc (.cells #[.pointer (some ⟨t,0,none⟩),.pointer (some ⟨m,0,none⟩),.int .i64 num] 100)).alloc (.cells #[.int .i64 0,.slice none 0 0] 142):=⟨_,rfl⟩;have hx:mU w1 q xs:=by rw[hw1,hq];exact (rU w xs).ki (((aA.refl _ _).alloc _).alloc _)
 have b1:Below w.heap.size w w1:=by rw[hw1];exact (((Below.refl _ _).alloc (Nat.le_refl _) _).alloc (by simp) _).alloc (by simp;omega) _
 have x1:w1.heap[q+1]?=some (.cells #[.pointer (some ⟨t,0,none⟩),.pointer (some ⟨m,0,none⟩),.int .i64 num] 100 (0,0)):=by
  rw[hw1,hq];have h:=heap_alloc_new (w.alloc (.cells xs.toArray 96)) (.cells #[.pointer (some ⟨t,0,none⟩),.pointer (some ⟨m,0,none⟩),.int .i64 num] 100);simp only[World.size_alloc] at h;exact (Below.heap_alloc _ _ _ (by simp)).trans h
 have x2:w1.heap[q+1+1]?=some (.cells #[.int .i64 0,.slice none 0 0] 142 (0,0)):=by
  rw[hw1,hq];have h:=heap_alloc_new ((w.alloc (.cells xs.toArray 96)).alloc (.cells #[.pointer (some ⟨t,0,none⟩),.pointer (some ⟨m,0,none⟩),.int .i64 num] 100)) (.cells #[.int .i64 0,.slice none 0 0] 142);simp only[World.size_alloc] at h;exact h
 have hT1:=hT.after b1;have hm1:=hm.after b1;have hLl:=hm.len;have hB1:=hB.after b1;have s1:kR w1 s none tp:=(b1.block s (dC hs)).trans hs;have hRt:=LH (Hf hT1 hLs);obtain⟨T,hTe⟩:∃ T,T=oA ((Ls.getD 3 []).take (kp (3:Nat)*16)) 0:=⟨_,rfl⟩;have hTl:T.length=16:=hTe ▸ um;rw[← hTe] at hRt;have e0:=cell_of x1 0;obtain⟨c,hc⟩:∃ c,c=xs.toArray:=⟨_,rfl⟩;rw[← hc] at hw1 ⊢;replace hc:=LH hc;replace hx:=LH hx;replace b1:=LH b1;replace x1:=LH x1;replace x2:=LH x2;replace hm1:=LH hm1;replace hB1:=LH hB1;replace s1:=LH s1;replace h:=LH h;replace hTe:=LH hTe;clear hT hm hB hs hT1;go_enter func85,ntmps85;have hw1':=LH hw1;have hq':=LH hq;subst hq
 go_wp2_with (first|(rw[← hw1])|fail)
 try rw[← hw1]
 refine hRt.out.mono ?_;rintro e w2 ⟨rfl,hb2⟩;obtain⟨q,hq⟩:∃ q,q=w.heap.size:=⟨_,rfl⟩;rw[← hq] at e0 hx x1 x2 ⊢;have hC2:aA No w1 w2:=aA.dD hb2 _;obtain⟨p6,hp6⟩:∃ p,p=w2.heap.size:=⟨_,rfl⟩;have xA:ke (w2.alloc (.cells #[.int .u8 0,.int .u8 0,.int .u8 0,.int .u8 0,.int .u8 0,.int .u8 0,.int .u8 0,.int .u8 0,.int .u8 0,.int .u8 0,.int .u8 0,.int .u8 0,.int .u8 0,.int .u8 0,.int .u8 0,.int .u8 0] 179)) p6 179 (List.replicate 16 0):=by rw[hp6];exact heap_alloc_new w2 _
 have hst:=nn xA List.length_replicate T hTl;obtain⟨w3,hw3⟩:∃ w3,w3=(w2.alloc (.cells #[.int .u8 0,.int .u8 0,.int .u8 0,.int .u8 0,.int .u8 0,.int .u8 0,.int .u8 0,.int .u8 0,.int .u8 0,.int .u8 0,.int .u8 0,.int .u8 0,.int .u8 0,.int .u8 0,.int .u8 0,.int .u8 0] 179)).setRow p6 (aQ T).toArray:=⟨_,rfl⟩;have y3:ke w3 p6 179 T:=by rw[hw3];exact xA.setRow T
 have b23:Below w2.heap.size w2 w3:=by rw[hw3];exact below_setRow ((Below.refl _ _).alloc (Nat.le_refl _) _) (by omega) _
 have b13:Below w1.heap.size w1 w3:=hb2.trans (b23.mono hb2.size);rw[← hw3] at hst;subst hp6;replace hst:=LH hst;replace hw3:=LH hw3
 go_wp2_with (first|(refine kI rfl 179 _ _ rfl _ _ rfl rfl hst.out ?_)|fail)
 have hB3:=hB1.out.after b13;have x3:=(b13.block q (dC hx.out.at_)).trans hx.out.at_;have x3':=(b13.block (q+1) (dC x1.out)).trans x1.out;have x3'':=(b13.block (q+1+1) (dC x2.out)).trans x2.out;have m3:=hm1.out.after b13;have s3:=(b13.block s (dC s1.out)).trans s1.out;obtain⟨p6,hp6⟩:∃ p,p=w2.heap.size:=⟨_,rfl⟩;rw[← hp6] at y3 ⊢;have hxq:∀ w4,RB b w3 w4→mU w4 q xs:=fun w4 hr=>⟨hr.2.2.at hB3 x3 id (by decide) (by decide)⟩
 have hxs:∀ w4,RB b w3 w4→w4.heap[q+1]?=some (.cells #[.pointer (some ⟨t,0,none⟩),.pointer (some ⟨m,0,none⟩),.int .i64 num] 100 (0,0)):=fun w4 hr=>hr.2.2.at hB3 x3' id (by decide) (by decide)
 have hxr:∀ w4,RB b w3 w4→w4.heap[q+1+1]?=some (.cells #[.int .i64 0,.slice none 0 0] 142 (0,0)):=fun w4 hr=>hr.2.2.at hB3 x3'' id (by decide) (by decide)
 have hxt:∀ w4,RB b w3 w4→ke w4 p6 179 T:=fun w4 hr=>hr.2.2.at hB3 y3 id (by decide) (by decide)
 have hxm:∀ w4,RB b w3 w4→mj w4 m L:=fun w4 hr=>m3.bk hB3 hr.2.2
 have hxu:∀ w4,RB b w3 w4→kR w4 s none tp:=fun w4 hr=>hr.2.2.at hB3 s3 id (by decide) (by decide)
 have hxk:∀ w4,RB b w3 w4→Bytes w4 (fun _=>True) (.slice (some ⟨q,69,none⟩) 32 32) M:=fun w4 hr=>by
  refine⟨by rw[km,Nat.mul_one],_,_,by rw[h.out.ml],Nat.le_of_eq h.out.ml,by unfold maxLen;omega,fun h=>(by cases h),.inr ⟨q,69,rfl,trivial,dC (hxq w4 hr).at_,fun j u hu=>(hxq w4 hr).get (h.out.Hq j u hu)⟩⟩
 have hBd:Bk w3.drew b n:=hB3.dB (fun _ _ _=>rfl);have hR0:RB b w3.drew w3.drew:=⟨⟨n,hBd⟩,⟨n,hBd⟩,kf.refl⟩;have hdr:∀ w4,RB b w3.drew w4→RB b w3 w4:=fun w4 h=>⟨⟨n,hB3⟩,h.2.1,h.2.2.drew⟩
 have htx:=LH (fun w4 (hr:RB b w3 w4)=>Iq (w:=w4) h.out num hnum hTl (hxm w4 hr));have hB3w:kf No b w w3:=(kf.dD b1.out).trans (kf.dD b13);have hs13:w.heap.size≤w3.heap.size:=Nat.le_trans b1.out.size b13.size;replace hxq:=LH hxq;replace hxs:=LH hxs;replace hxr:=LH hxr;replace hxt:=LH hxt;replace hxu:=LH hxu;replace hxk:=LH hxk;replace hBd:=LH hBd;replace hR0:=LH hR0;replace hdr:=LH hdr;replace hB3w:=LH hB3w;replace hB3:=LH hB3;replace hs13:=LH hs13;rw[← hc.out] at htx;clear e0 hb2 hC2 xA y3 b23 b13 x3 x3' x3'' m3 s3 hxm hRt hst hx x1 x2 hm1 hB1 s1;rw[← hq];replace hq:=LH hq;replace hp6:=LH hp6;replace hw1:=LH hw1;refine RA.oz (RB b) (fun x y=>(∃ n,Bk x b n)∧aA No x y) [1,1,1,1,1,1,1,1,1,1,1,3,3,2,7] [14] (fun _ v w4=>∃ p,v=.pointer (some ⟨p,0,none⟩)∧w3.heap.size≤p∧ke w4 p 209 (List.replicate 32 0)) (fun w4=>Bk w4 b n) (by kernel_rfl) hR0.out (fun x y h=>⟨h.1,by obtain⟨k,hk⟩:=h.1;exact⟨k,hk.after h.2.no⟩,kf.ti h.2⟩) (fun _ _ _ h k=>h.trans k) (fun _ _ h k=>k.after h.2.no) hBd.out (by kernel_rfl) (by kernel_rfl) ?_;intro cx;refine RA.fk prog (q) (101) (h:=?_);refine RA.lk prog (.pointer (some ⟨b,0,none⟩)) (hc:=fun w3 hp=>by exact (hxq.out _ (hdr.out _ hp.1)).get h.out.Hr) (h:=?_);refine RA.fk prog (q) (3) (h:=?_);refine RA.fk prog (q) (69) (h:=?_);refine RA.qU (by kernel_rfl) (by rfl) (by rfl) (y':=.slice (some ⟨q,69,none⟩) 32 32) (fun w3 hp=>by show (Instr.sliceAt _ _ _ _ _).run prog w3=_;go_simp) ?_;refine RA.ld (by kernel_rfl) (by rfl) (by rfl) (y':=.agg c) (fun w3 hp=>by rw[hc.out];exact (hxq.out _ (hdr.out _ hp.1)).load h.out.len) ?_;refine RA.fk prog (q+1) (2) (h:=?_);refine RA.lk prog (.int .i64 num) (hc:=fun w3 hp=>by exact cell_of (hxs.out _ (hdr.out _ hp.1)) 2) (h:=?_);refine RA.ld (by kernel_rfl) (by rfl) (by rfl) (y':=.agg (aQ T).toArray) (fun w3 hp=>mY (P:=prog) (hxt.out _ (hdr.out _ hp.1)) underlying179 (kV hTl)) ?_;refine RA.fk prog (q+1) (1) (h:=?_);refine RA.lk prog (.pointer (some ⟨m,0,none⟩)) (hc:=fun w3 hp=>by exact cell_of (hxs.out _ (hdr.out _ hp.1)) 1) (h:=?_)
 refine RA.qc (P:=prog) [.agg c,.int .i64 num,.agg (aQ T).toArray,.pointer (some ⟨m,0,none⟩)] (fun _ _=>True) (fun v w4=>Bk w4 b n∧kP w4 (fun _=>True) v [[118,111,108,117,109,101],kj 10,kj 100,kj num,T,L]) (fun _ _=>by go_simp) (by kernel_rfl) (by rfl) (by rfl) (by kernel_rfl) (fun _ _ _ _ _=>trivial) (fun v x y hE hk=>⟨hk.1.after hE.2.no,hk.2.dB hE.2.size (fun g _ hg=>hE.2.block g hg id)⟩) rfl (fun w4 hp hH=>by
  refine (htx.out w4 (hdr.out _ hp.1)).mono ?_;rintro e w5 ⟨v,rfl,k1,k2⟩;exact⟨v,rfl,⟨⟨n,hH⟩,⟨n,hH.after k2⟩,kf.dD k2⟩,trivial,hH.after k2,k1⟩) (fun u1=>?_)
 refine RA.qc (P:=prog) [.pointer (some ⟨b,0,none⟩),.slice (some ⟨q,69,none⟩) 32 32,u1] (fun v _=>∃ H:List UInt8,H.length=32∧v=.agg (aQ H).toArray) (fun _ w4=>Bk w4 b (n+1)) (fun _ _=>by go_simp) (by kernel_rfl) (by rfl) (by rfl) (by kernel_rfl) (fun _ _ _ _ h=>h) (fun v x y hE hk=>hk.after hE.2.no) rfl (fun w4 hp hH=>by
  obtain⟨hH1,k2⟩:=hH
  have hlen:∀ x ∈ [[118,111,108,117,109,101],kj 10,kj 100,kj num,T,L],x.length≤1000:=by
   intro x hx;simp only[List.mem_cons,List.not_mem_nil,or_false] at hx;rcases hx with rfl|rfl|rfl|rfl|rfl|rfl
   ·simp
   ·rw[nF];omega
   ·rw[nF];omega
   ·rw[nF];omega
   ·omega
   ·omega
  refine (vr hH1 hn (hxk.out _ (hdr.out _ hp.1)) (by rw[h.out.ml];omega) k2 (by simp) (fun x hx=>by have:=hlen x hx;omega) (xh hlen (by simp))).mono ?_;rintro e w5 ⟨rfl,k4,k5⟩;exact⟨_,rfl,⟨⟨n,hH1⟩,⟨n+1,k4⟩,k5⟩,⟨_,rk,rfl⟩,k4⟩) (fun u2=>?_)
 refine RA.fr (by kernel_rfl) (by rfl) (fun v x y hr hk=>by
  obtain⟨p,h1,h2,h3⟩:=hk;obtain⟨⟨k,hk⟩,_,hG⟩:=hr;exact⟨p,h1,h2,hG.at hk h3 id (by decide) (by decide)⟩) (fun w4 hp=>⟨.pointer (some ⟨w4.heap.size,0,none⟩),w4.alloc (.cells (aQ (List.replicate 32 0)).toArray 209),by
  show (execOp _ _).run prog w4=_;go_simp;rfl,⟨(hdr.out _ hp.1).2.1,(aA.refl _ _).alloc _⟩,w4.heap.size,rfl,(hdr.out _ hp.1).2.2.size,heap_alloc_new w4 _⟩) (fun u3=>?_)
 refine RA.lr (fun w5=>∃ (p:Nat) (H:List UInt8),u3=.pointer (some ⟨p,0,none⟩)∧H.length=32∧ke w5 p 209 H∧Bk w5 b (n+1)∧RB b w3 w5) (by kernel_rfl) (by rfl) (by kernel_rfl) (fun x y hE hk=>by
  obtain⟨p,H,h1,h2,h3,h4,h5⟩:=hk;exact⟨p,H,h1,h2,h3.dB (hE.2.block p (dC h3) id),h4.after hE.2.no,h5.1,⟨_,h4.after hE.2.no⟩,h5.2.2.trans (kf.ti hE.2)⟩) (fun w4 hp0 hH=>by
  have hp:=hp0.first (by kernel_rfl);obtain⟨p,rfl,h2,h3⟩:=hp.fact 0 rfl (by kernel_rfl);obtain⟨H,hHl,rfl⟩:=hp.fact 1 rfl (by kernel_rfl);have hr:=hdr.out _ hp.1;have hBk:Bk (w4.setRow p (aQ H).toArray) b (n+1):=hH.dB (fun g hg hl=>setRow_other _ _ _ _ (fun e=>kn.type hH h3 (by decide) (by decide) (e ▸ hg)));exact⟨w4.setRow p (aQ H).toArray,RA.kL (by rfl) (by rfl) (th h3 hHl),p,H,rfl,hHl,h3.setRow H,hBk,hr.1,⟨_,hBk⟩,hr.2.2.then (aA.setRow (g:=p) (C:=fun g=>g=p) (aA.refl _ _) (fun _=>rfl) _) (fun g hg e=>absurd hg (by omega)) (fun _ e=>kn.type hH h3 (by decide) (by decide) (.inl e.symm))⟩) ?_
 refine RA.RA.kZ (fun w5 hH=>?_);simp only[RA.put,List.foldr_cons,List.foldr_nil,cx,Act.put,List.setIfInBounds_toArray,List.set_cons_succ,List.set_cons_zero];obtain⟨p7,H,rfl,hHl,hH5,hB5,hR5⟩:=hH;have hx5:=LH (hxq.out w5 hR5);have hs5:=LH (hxs.out w5 hR5);have hr5:=LH (hxr.out w5 hR5);have ht5:=LH (hxt.out w5 hR5);have hu5:=LH (hxu.out w5 hR5);have hG5:=LH (hB3w.out.trans hR5.2.2);have hW5:w.heap.size≤w5.heap.size:=Nat.le_trans hs13.out hR5.2.2.size;replace hH5:=LH hH5;replace hB5:=LH hB5;replace hW5:=LH hW5;have hra:=fun w6=>yP h.out w6
 rw[← hc.out] at hra;replace hra:=LH hra;have hql:=LH (dC hx5.out.at_);have hdr5:∀ w3,aA No w5.drew w3→aA No w5 w3:=fun w3 h=>⟨h.os,h.tape,h.output,h.size,h.block⟩
 replace hdr5:=LH hdr5;clear hR5 hxq hxs hxr hxt hxu hxk htx hB3w hBd hR0 hdr hB3 hs13;go_wp2;refine RA.rt (aA No) [1,1,4,1,1,3,1,1,3,3,3,1,1,7,5] [13] (fun _=>True) (trivial) (fun _=>aA.refl _ _) (fun _ _ _ h k=>h.trans k) (h:=?_);intro cx;refine RA.ld (by kernel_rfl) (by rfl) (by rfl) (y':=.agg c) (fun w3 hp=>by rw[hc.out];exact (hx5.out.ki (hdr5.out _ hp.1)).load h.out.len) ?_;refine RA.ld (by kernel_rfl) (by rfl) (by rfl) (y':=.agg c) (fun w3 hp=>by rw[hc.out];exact (hx5.out.ki (hdr5.out _ hp.1)).load h.out.len) ?_;refine RA.kc (P:=prog) [.agg c] (.int .i64 24) (fun _=>True) (fun _ _=>by go_simp) (by kernel_rfl) (by rfl) (by rfl) (by kernel_rfl) (fun _ _ _ h=>h) rfl (fun w3 hp hH=>(hra.out w3).mono (by rintro e w4 ⟨rfl,h2⟩;exact⟨rfl,aA.dD h2 _,trivial⟩)) ?_;refine RA.fk prog (q+1) (2) (h:=?_);refine RA.lk prog (.int .i64 num) (hc:=fun w3 hp=>by exact cell_of (((hdr5.out _ hp.1).block (q+1) (dC hs5.out) id).trans hs5.out) 2) (h:=?_)
 refine RA.qc (P:=prog) [.int .i64 num] (fun v w3=>Bytes w3 (fun _=>True) v (kj num)) (fun _ _=>True) (fun _ _=>by go_simp) (by kernel_rfl) (by rfl) (by rfl) (by kernel_rfl) (fun v a b h h2=>h2.ki h (fun _ _ _=>id)) (fun _ _ _ _ h=>h) rfl (fun w3 hp hH=>(oL num (by omega) w3).mono (by
  rintro e w4 ⟨v,rfl,k1,k2⟩;exact⟨v,rfl,aA.dD k2 _,pV k1,trivial⟩)) (fun u=>?_)
 refine RA.qU (by kernel_rfl) (by rfl) (by rfl) (y':=.slice (some ⟨p6,0,none⟩) 16 16) (fun w3 hp=>by show (Instr.sliceAt _ _ _ _ _).run prog w3=_;go_simp) ?_;refine RA.yc (by kernel_rfl) (by rfl) (by rfl) (by rfl) (y':=.slice (some ⟨p7,0,none⟩) 16 32) (fun w3 hp=>by show (Instr.sliceAt _ _ _ _ _).run prog w3=_;go_simp) ?_
 refine RA.bq (fun x w3=>kP w3 (fun _=>True) x [kj num,T,H.take 16]) (fun _ _=>True) (by kernel_rfl) (by rfl) (by kernel_rfl) (fun _ _ _ h k=>k.dB h.size (fun b _ hb=>h.block b hb id)) (fun _ _ _ _ _=>trivial) (fun w3 hp _=>by
  have f1:=(show Bytes w3 (fun _=>True) u (kj num) from hp.fact 0 rfl (by kernel_rfl));have hc3:=hdr5.out _ hp.1
  have f2:Bytes w3 (fun _=>True) (.slice (some ⟨p6,0,none⟩) 16 16) T:=by
   show Cells w3 _ _ T.length 1 _;rw[hTl];exact sw (ht5.out.dB (hc3.block p6 (dC ht5.out) id)) hTl (by unfold maxLen;omega)
  have f3:Bytes w3 (fun _=>True) (.slice (some ⟨p7,0,none⟩) 16 32) (H.take 16):=Ce (hH5.out.dB (hc3.block p7 (dC hH5.out) id)) hHl
  have hP:=rl (w:=w3) (S:=fun _=>True) (vs:=[u,.slice (some ⟨p6,0,none⟩) 16 16,.slice (some ⟨p7,0,none⟩) 16 32]) (parts:=[kj num,T,H.take 16]) rfl (by unfold maxLen;simp) (by
   intro j v hv
   match j with
   | 0=>cases hv;exact f1
   | 1=>cases hv;exact f2
   | 2=>cases hv;exact f3
   | _+3=>simp at hv)
  refine⟨_,w3.alloc (.cells #[u,.slice (some ⟨p6,0,none⟩) 16 16,.slice (some ⟨p7,0,none⟩) 16 32] 42),?_,(aA.refl _ _).alloc _,hP,trivial⟩;obtain⟨_,_,rfl,_⟩:=f1.shape;clear f1 f2 f3 hP hp hc3;show (execOp _ _).run prog w3=_;go_simp) (fun x=>?_)
 refine RA.qc (P:=prog) [x] (fun v w3=>Bytes w3 (fun _=>True) v [kj num,T,H.take 16].flatten) (fun _ _=>True) (fun _ _=>by go_simp) (by kernel_rfl) (by rfl) (by rfl) (by kernel_rfl) (fun v a b h h2=>h2.ki h (fun _ _ _=>id)) (fun _ _ _ _ h=>h) rfl (fun w3 hp hH=>by
  have hlen:∀ y ∈ [kj num,T,H.take 16],y.length≤100000:=by
   intro y hy;simp only[List.mem_cons,List.not_mem_nil,or_false] at hy;rcases hy with rfl|rfl|rfl
   ·rw[nF];omega
   ·omega
   ·rw[List.length_take];omega
  refine (vq (hp.fact 0 rfl (by kernel_rfl)) (by simp) hlen).mono ?_;rintro e w4 ⟨v,rfl,k1,k2⟩;exact⟨v,rfl,aA.dD k2 _,(Cells.own k1).mono (fun _ _ _=>trivial),trivial⟩) (fun y=>?_)
 refine RA.qc (P:=prog) [.agg c,.int .i64 24,y] (fun v w3=>∃ z Z,v=.tuple #[.agg #[.int .i64 24,z],.int .i64 0]∧List.length Z=64∧w3.ownsRow w5.heap.size 5 1 z 64 (aQ Z)) (fun _ _=>True) (fun _ _=>by go_simp) (by kernel_rfl) (by rfl) (by rfl) (by kernel_rfl) (fun v a b h h2=>by
  obtain⟨z,Z,k1,k2,k3⟩:=h2;exact⟨z,Z,k1,k2,dE k3 (fun g hg=>h.block g (kt k3 g hg) id)⟩) (fun _ _ _ _ h=>h) rfl (fun w3 hp hH=>by
  have hc3:=hdr5.out _ hp.1;have f1:=(show Bytes w3 (fun _=>True) y [kj num,T,H.take 16].flatten from hp.fact 0 rfl (by kernel_rfl))
  have hfl:[kj num,T,H.take 16].flatten.length≤64:=by
   simp only[List.flatten_cons,List.flatten_nil,List.append_nil,List.length_append,nF,List.length_take];omega
  have hse:=vI (w:=w3) h.out ((hc3.block s (dC hu5.out) id).trans hu5.out) 24 (by omega) f1 hfl;rw[← hc.out] at hse;refine hse.mono ?_;rintro e w4 ⟨v,rfl,k1,k2⟩;exact⟨_,rfl,aA.dD k2 _,⟨v,_,rfl,by rw[rj (by rw[oP hfl])];exact oP hfl,kU k1 hc3.size⟩,trivial⟩) (fun z=>?_)
 refine RA.vk prog (kW z 0) (hr:=fun w3 hp=>by
  obtain⟨v,Z,rfl,_⟩:=hp.fact 0 rfl (by kernel_rfl);clear hp;go_simp;rfl) (h:=?_)
 refine RA.vk prog (kW z 1) (hr:=fun w3 hp=>by
  obtain⟨v,Z,rfl,_⟩:=hp.fact 0 rfl (by kernel_rfl);clear hp;go_simp;rfl) (h:=?_)
 refine RA.lr (fun w6=>∃ (v:Value) (Z:List UInt8),z=.tuple #[.agg #[.int .i64 24,v],.int .i64 0]∧Z.length=64∧w6.ownsRow w5.heap.size 5 1 v 64 (aQ Z)∧w6.heap[q+1+1]?=some (.cells #[.int .i64 24,v] 142 (0,0))∧aA (fun g=>g=q+1+1) w5 w6) (by kernel_rfl) (by rfl) (by kernel_rfl) (fun _ _ h k=>h ▸ k) (fun w4 hp0 hH=>by
  have hp:=hp0.first (by kernel_rfl);obtain⟨v,Z,rfl,k2,k3⟩:=hp.fact 0 rfl (by kernel_rfl);obtain⟨vg,vc,rfl,_⟩:=kz k3 (by omega);have hc4:=hdr5.out _ hp.1;have x4:=(hc4.block (q+1+1) (dC hr5.out) id).trans hr5.out
  refine⟨w4.setRow (q+1+1) #[.int .i64 24,.slice (some ⟨vg,0,none⟩) 64 vc],RA.kL (by rfl) (by rfl) (mf (P:=prog) (ty:=142) (x:=[.int .i64 24,.slice (some ⟨vg,0,none⟩) 64 vc]) x4 (by kernel_rfl) rfl (by simp[Value.oneCell'])),_,Z,rfl,k2,dE k3 (fun g hg=>setRow_other _ _ _ _ (by
   rintro rfl;exact o6 k3 x4 (by decide) hg)),setRow_heap _ _ _ _ _ _ x4,aA.setRow (g:=q+1+1) (C:=fun g=>g=q+1+1) (hc4.mono (fun _ _ h=>h.elim)) (fun _=>rfl) _⟩) ?_
 refine RA.pq (h:=?_);refine RA.RA.kZ (fun w6 hH=>?_);simp only[RA.put,List.foldr_cons,List.foldr_nil,cx,Act.put,List.setIfInBounds_toArray,List.set_cons_succ,List.set_cons_zero];obtain⟨v,Z,rfl,hZl,hv6,hr6,hC6⟩:=hH
 have hB6:Bk w6 b (n+1):=hB5.out.dB (fun g hg hl=>hC6.block g hl (by
  rintro rfl;exact kn.type hB5.out hr5.out (by decide) (by decide) hg))
 have hG6:kf No b w w6:=hG5.out.then hC6 (fun i hi e=>absurd hi (by rw[e,hq.out];omega)) (fun _ e=>kn.type hB5.out hr5.out (by decide) (by decide) (.inl e.symm));have hv6':=kU hv6 hW5.out;simp only[kW,Array.getD_eq_getD_getElem?,List.getElem?_toArray,List.getElem?_cons_zero,List.getElem?_cons_succ,Option.getD_some];replace hB6:=LH hB6;replace hG6:=LH hG6;replace hr6:=LH hr6;replace hv6':=LH hv6';clear hC6 hv6;go_wp2;refine bodyPost_ret (sE results85 _ _ (q+1+1) 142 _ (0,0) _ rfl hr6.out underlying142 rfl (by kernel_rfl)) rfl ⟨_,rfl,⟨Z,hZl,hv6'.out⟩,hB6.out,hG6.out⟩
variable {ws:List (Nat×Value)}{og eg:Nat}
def ng (ws:List (Nat×Value)):List Value:=ws.flatMap λp=>[iw p.1,p.2]
theorem xu {p:Nat×Value}:ng (ws++[p])=ng ws++[iw p.1,p.2]:=by simp[ng]
theorem Cg:(prog.info? 142).map (λi=>(i.zero,i.size,i.bytes))=some (some (.agg #[iw 0,.slice none 0 0]),2,32):=kr
structure sF (w:World) (og eg B:Nat) (ws:List (Nat×Value)):Prop where
 box:∃ ov,w.heap[og]?=some (.cells #[ov] 105 (0,0))/\w.ownsRow B 142 2 ov ws.length (ng ws)
 err:w.heap[eg]?=some (.cells #[iw 0] 47 (0,0))
 qm:∀ p ∈ ws,(0<p.1/\p.1<60)/\∃ Z:iz,Z.length=64/\w.ownsRow B 5 1 p.2 64 (aQ Z)
 ge:B<=og/\B<=eg
def vJ (t:TypeId):Prop:=t=105\/t=142\/t=47
def FT (T:TypeId->Prop) (w w':World):Prop:=∀ (g:Nat) (cs:Array Value) (t:TypeId) (m:Nat×Nat),w.heap[g]?=some (.cells cs t m)->¬ T t->w'.heap[g]?=some (.cells cs t m)
theorem sF.dB {w w':World}{B:Nat}(h:sF w og eg B ws) (hk:∀ (g:Nat) (cs:Array Value) (t:TypeId),(vJ t\/t=5)->w.heap[g]?=some (.cells cs t (0,0))->w'.heap[g]?=some (.cells cs t (0,0))):sF w' og eg B ws:=by
 obtain⟨ov,h1,a⟩:=h.box;refine⟨⟨ov,hk _ _ _ (.inl (.inl rfl)) h1,dE a (λg hg=>?_)⟩,hk _ _ _ (.inl (.inr (.inr rfl))) h.err,λp hp=>?_,h.ge⟩
 ·obtain⟨cur,hc⟩:=kA a hg;rw[hc];exact hk _ _ _ (.inl (.inr (.inl rfl))) hc
 ·obtain⟨c,Z,d,b⟩:=h.qm p hp;refine⟨c,Z,d,dE b (λg hg=>?_)⟩;obtain⟨cur,hc⟩:=kA b hg;rw[hc];exact hk _ _ _ (.inr rfl) hc
theorem yT {w:World}{B:Nat}(h:sF w og eg B ws) (hB:B<=w.heap.size) (hfew:ws.length<=1000) (at':Nat) (hat:0<at'/\at'<60){v:Value}{Z:iz}(hZ:Z.length=64) (hv:w.ownsRow B 5 1 v 64 (aQ Z)):
  Calls prog 100 #[.agg #[iw at',v],iw 0,iq eg,iq og] w λe w'=>e=.returned (.tuple #[])/\sF w' og eg B (ws++[(at',v)])/\Below B w w'/\FT vJ w w'/\(∀ g,g<w.heap.size->(∀ cs t m,w.heap[g]?≠some (.cells cs t m))->w'.heap[g]?=w.heap[g]?):=by
 obtain⟨y,x,rfl,U,V⟩:=kz hv om;obtain⟨ov,D,s⟩:=h.box;obtain⟨n,z⟩:=Ex ws.length;rw[<-z] at s hfew;obtain⟨R,S,rfl,_⟩:=(Cells.own s).shape;obtain⟨M,A⟩:=Ex (w.alloc (.cells #[iw at',ir y 64 x] 142));have b1:Below w.heap.size w M:=by rw[A];exact (ag _ _).alloc (ae _) _
 have T:M.heap[w.heap.size]?=some (.cells #[iw at',ir y 64 x] 142 (0,0)):=by rw[A];exact aj w _
 have p1:=(b1.block og (dC D)).trans D;have p2:=(b1.block eg (dC h.err)).trans h.err;have c0:=cell_of T 0;have c1:=cell_of T 1;have d0:=cell_of p1 0;have d1:=cell_of p2 0;have Q:=dE s (λg hg=>b1.block g (kt s g hg));have X:=LH (dE Q (λg hg=>aB M (.cells #[iw at',ir y 64 x] 142) g (kt Q g hg)));have I:=LH (mC M #[iw at',ir y 64 x] 142 1 2 rfl mx);have q:B<=(M.alloc (.cells #[iw at',ir y 64 x] 142)).heap.size:=by rw[aN];have:=b1.size;omega
 have E:=LH (b1.alloc b1.size (.cells #[iw at',ir y 64 x] 142));refine G8 D s h hv z b1 p1 p2 ?_;clear D s h hv z b1 p1 p2;intro D s h hv z b1 p1 p2;clear T Q;go_enter func100,ntmps100;have W:=LH A;subst A
 go_wp2_with (at_builtin;refine K.append ?_ (.tmp 8) (.tmp 10) 105 ?_ B 142 (.agg #[iw 0,.slice none 0 0]) 2 32 underlying105 Cg rfl om _ n _ ?_ X.o (λ_=>True) _ 1 [iw at',ir y 64 x] ?_ I.o (by simp[Value.oneCell']) mx om ?_ ?_)
 any_goals (first|rfl|omega|exact q)
 intro v' w2 y1 y2 y3 y4;obtain⟨G,l⟩:=Ex ((w.alloc (.cells #[iw at',ir y 64 x] 142)).alloc (.cells #[iw at',ir y 64 x] 142));have y2:G.grownBy w2 (Value.slice R n S).ownBlock:=by rw[l];exact y2
 have E:=LH (show Below w.heap.size w G by rw[l];exact E.o);have q:B<=G.heap.size:=by rw[l];exact q
 have hold:∀ g,g<w.heap.size->G.heap[g]?=w.heap[g]?:=λg hg=>E.o.block g hg
 have c:∀ (g:Nat) (cs:Array Value) (ty:TypeId) (m:Nat×Nat),w.heap[g]?=some (.cells cs ty m)->ty≠142->w2.heap[g]?=some (.cells cs ty m):=λg cs ty m hg r=>by rw[y2.block g (aH (dC hg) E.o.size) (λe=>?_),hold g (dC hg),hg];obtain⟨cur,hc⟩:=kA s.o e.symm;rw[hg] at hc;simp only[IJ] at hc;exact r hc.2.1
 have H:=c og _ _ _ D.o de;have N:=c eg _ _ _ h.o.err de
 have r:eg≠og:=by rintro rfl;have e:=H.symm.trans N;simp only[IJ] at e;exact absurd e.2.1 de
 obtain⟨j,i,rfl,_⟩:=kz y1 om;have Y:=lz H 0 (ir j (n+1) i);have O:(w2.setCell (iu og 0) (ir j (n+1) i)).heap[eg]?=some (.cells #[iw 0] 47 (0,0)):=(kD _ _ _ r).trans N;have f1:w2.cell? (iu og 0)=some (.slice R n S):=by rw[cell_of H];rfl
 have f2:w2.frozen? (iu og 0)=false:=kY H 0;have f3:(w2.setCell (iu og 0) (ir j (n+1) i)).cell? (iu eg 0)=some (iw 0):=by rw[cell_of O];rfl
 have f4:(w2.setCell (iu og 0) (ir j (n+1) i)).frozen? (iu eg 0)=false:=kY O 0;obtain⟨C,d⟩:=Ex ((w2.setCell (iu og 0) (ir j (n+1) i)).setCell (iu eg 0) (iw 0));have b:∀ g,g≠og->g≠eg->C.heap[g]?=w2.heap[g]?:=λg h1 h2=>by rw[d,kD _ _ _ h2,kD _ _ _ h1]
 have z1:C.heap[og]?=some (.cells #[ir j (n+1) i] 105 (0,0)):=by rw[d,kD _ _ _ r.symm];exact Y
 have z2:C.heap[eg]?=some (.cells #[iw 0] 47 (0,0)):=by rw[d];exact lz O 0 (iw 0)
 have f:FT vJ w C:=λg cs ty m hg z=>by
  have P:=c g cs ty m hg (λe=>z (.inr (.inl e)));rw[b g ?_ ?_,P]
  ·rintro rfl;rw[D.o] at hg;simp only[IJ] at hg;exact z (.inl hg.2.1.symm)
  ·rintro rfl;rw[h.o.err] at hg;simp only[IJ] at hg;exact z (.inr (.inr hg.2.1.symm))
 have k:Below B w C:=by have h0:Below B w w2:=(E.o.mono hB).trans ((aA.refl _ _:aA (λg=>(Value.slice R n S).ownBlock=some g) G G).grown y2 (λ_ h _=>h) |>.below q (λg hg e=>by have:=kJ s.o g e;omega));rw[d];exact (h0.setCell h.o.ge.1 _).setCell h.o.ge.2 _
 have a:∀ g,g<w.heap.size->(∀ cs t m,w.heap[g]?≠some (.cells cs t m))->C.heap[g]?=w.heap[g]?:=λg hg F=>by rw[b g (by rintro rfl;exact F _ _ _ D.o) (by rintro rfl;exact F _ _ _ h.o.err),y2.block g (aH hg E.o.size) (λe=>?_),hold g hg];obtain⟨cur,hc⟩:=kA s.o e.symm;exact F _ _ _ hc
 have J:sF C og eg B (ws++[(at',ir y 64 x)]):=by
  refine⟨⟨_,z1,?_⟩,z2,λp hp=>?_,h.o.ge⟩
  ·rw[aE,<-z.o,xu];refine dE y1 (λg hg=>b g ?_ ?_)
   ·rintro rfl;exact o6 y1 H de hg
   ·rintro rfl;exact o6 y1 N de hg
  ·have L:∀ {u:Value}{Z:iz},w.ownsRow B 5 1 u 64 (aQ Z)->C.ownsRow B 5 1 u 64 (aQ Z):=λ{u Z} hu=>dE hu (λg hg=>by obtain⟨cur,hc⟩:=kA hu hg;rw[hc];exact f g _ _ _ hc (by rintro (e|e|e)<;>exact absurd e de))
   rcases bw.1 hp with hp|hp
   ·obtain⟨k1,Z',k2,k3⟩:=h.o.qm p hp;exact⟨k1,Z',k2,L k3⟩
   ·simp only[cD] at hp;subst hp;exact⟨hat,Z,hZ,L hv.o⟩
 rw[d] at f k J a;refine G4 f k J a ?_;clear f k J a;intro f k J a;clear b z1 z2 H N Y O c hold y1 y2 y3 y4 r;replace d:=LH d;replace l:=LH l;clear q E X I;go_wp2;go_end0;exact⟨rfl,J.o,k.o,f.o,a.o⟩
end Go.Proofs.YthmcbgidehjlbaaGreat.Fd
namespace Go.Proofs.YthmcbgidehjlbaaGreat.RA
open _root_.Go.Proofs.Tryz
open Go
section
variable {c:Cx}{Z:Act->World->Prop}{os:List Oper}{i:Nat}{K:List (Nat×Value)}{G:List (Nat×(World->Prop))}{U:List Nat}{H:World->Prop}{ty:TypeId}{ps:String}{af:Array Edge}{gu:Option (Nat×Bool)}
theorem Ir {f:FuncId}{z:Operand}{caps:List Value}{xs:List Operand}{ats:Array TypeId}{ys:List Value}{ds:Option Nat}(hz:ky c K z=some (.func (.func f) #[] caps.toArray)) (ha:xs.map (ky c K)=ys.map some) (w:World){P:Program}
  (hf:(callFunc f (ys++caps).toArray).run P w=.ok (.enter f (ys++caps).toArray) w):
  (execOp (ev c.a0 K) ⟨ds,.call ⟨.value z,xs.toArray,ats⟩,ty,ps,af,gu⟩).run P w=.ok (.enter f (ys++caps).toArray) w:=by
 unfold execOp;simp only[resolve,invoke,kH hz,cI,yb ha]
 simpa [Deferred.ofValue] using hf
theorem vK {d:Nat}{P:Program}{f:FuncId}{z:Operand}{xs:List Operand}{ats:Array TypeId}(caps ys:List Value) (h':Value->World->Prop) (hf:∀ args w,(callFunc f args).run P w=.ok (.enter f args) w)
  (hk:kl c i=6) (hg:gd c.ops c.a0 K ⟨some d,.call ⟨.value z,xs.toArray,ats⟩,ty,ps,af,gu⟩=true) (hz:ky c K z=some (.func (.func f) #[] caps.toArray)) (ha:xs.map (ky c K)=ys.map some) (hu:(U.all λk=>(c.pr.getD i 0).testBit k)=true) (he:∀ v,lR c.E (h' v)) (hP:c.P=P)
  (hr:∀ w,qy c i G w->H w->Calls P f (ys++caps).toArray w λe w'=>∃ v,e=.returned v/\h' v w')
  (hn:∀ u,RA c Z os (i+1) ((d,u)::K) ((i,λ_=>True)::G) (i::U) (h' u)):RA c Z (⟨some d,.call ⟨.value z,xs.toArray,ats⟩,ty,ps,af,gu⟩::os) i K G U H:=
 RA.xZ h' hk hg he hu (λw hp hH=>uV (by rw[hP];exact Ir hz ha w (hf _ w)) (by rw[hP];exact (hr w hp hH).mono λe w' ⟨v,h1,a⟩=>⟨v,h1,a⟩)) hn
end
end Go.Proofs.YthmcbgidehjlbaaGreat.RA
namespace Go.Proofs.YthmcbgidehjlbaaGreat.Fd
open _root_.Go.Proofs.Tryz
open Go Go.RowKit K
theorem xw {w:World}{g j:Nat}{cs:Array Value}{t:TypeId}{m:Nat×Nat}{v:Value}(h:w.heap[g]?=some (.cells cs t m)) (hj:cs[j]?=some v):w.setCell (iu g j) v=w:=by
 have e:(w.setCell (iu g j) v).heap=w.heap:=by
  apply ga;intro i;by_cases hi:i=g
  ·subst hi;rw[lz h,h,Array.setIfInBounds];congr 2;obtain⟨a,he⟩:=bm.1 hj;rw[dif_pos a,<-he];exact Array.set_getElem_self a
  ·exact kD _ _ _ hi
 show ({ w with heap:=(w.setCell (iu g j) v).heap }:World)=w;rw[e]
structure ob (w0 wr:World) (xs:List Value) (q s b t m num:Nat) (tp:Option Addr) (gs:Nat->Nat) (key:iz) (Ls:List iz) (L:iz) (og eg n:Nat) (ws:List (Nat×Value)):Prop where
 bx:mU wr q xs
 sx:wr.heap[q+1]?=some (.cells #[iq t,iq m,iw num] 100 (0,0))
 tr:ll wr t b gs key Ls
 mr:mj wr m L
 su:kR wr s none tp
 bk:Bk wr b n
 out:sF wr og eg w0.heap.size ws
 fr:kf (λg=>w0.heap.size<=g) b w0 wr
 sz:w0.heap.size<=wr.heap.size
 bn:b<w0.heap.size
abbrev ob.o:=@ob.«out»
section
variable {w0 wr w':World}{xs:List Value}{q s b t m num:Nat}{tp:Option Addr}{gs:Nat->Nat}{key:iz}{Ls:List iz}{L:iz}{og eg n n':Nat}{ws ws':List (Nat×Value)}
theorem ob.below (h:ob w0 wr xs q s b t m num tp gs key Ls L og eg n ws) (hb:Below wr.heap.size wr w'):ob w0 w' xs q s b t m num tp gs key Ls L og eg n ws:=⟨h.bx.ki (aA.dD hb _),(hb.block _ (dC h.sx)).trans h.sx,h.tr.after hb,h.mr.after hb,(hb.block _ (dC h.su)).trans h.su,h.bk.after hb,h.o.dB (λg _ _ _ hg=>(hb.block g (dC hg)).trans hg),h.fr.trans (kf.dD hb),am h.sz hb.size,h.bn⟩
theorem ob.pb (h:ob w0 wr xs q s b t m num tp gs key Ls L og eg n ws) (hg:kf No b wr w') (hB:Bk w' b n'):ob w0 w' xs q s b t m num tp gs key Ls L og eg n' ws:=⟨⟨hg.at h.bk h.bx.at_ id de de⟩,hg.at h.bk h.sx id de de,h.tr.bk h.bk hg,h.mr.bk h.bk hg,hg.at h.bk h.su id de de,hB,h.o.dB (λg cs ty a hc=>hg.at h.bk hc id (by rcases a with (rfl|rfl|rfl)|rfl<;>decide) (by rcases a with (rfl|rfl|rfl)|rfl<;>decide)),h.fr.trans (hg.mono (λ_ _ e=>e.elim)),am h.sz hg.size,h.bn⟩
theorem ob.put (h:ob w0 wr xs q s b t m num tp gs key Ls L og eg n ws) (hO:sF w' og eg w0.heap.size ws') (hb:Below w0.heap.size wr w') (hF:FT vJ wr w'):ob w0 w' xs q s b t m num tp gs key Ls L og eg n ws':=by
 have a:∀ {ty:TypeId},ty=96\/ty=100\/ty=127\/ty=189\/ty=5\/ty=190\/ty=179\/ty=195\/ty=145\/ty=223->¬ vJ ty:=by intro ty c;rcases c with rfl|rfl|rfl|rfl|rfl|rfl|rfl|rfl|rfl|rfl<;>(rintro (e|e|e)<;>exact absurd e de)
 refine⟨⟨hF _ _ _ _ h.bx.at_ (a (.inl rfl))⟩,hF _ _ _ _ h.sx (a (.inr (.inl rfl))),h.tr.dB (λg cs ty c hg=>?_),h.mr.dB (λg hg ⟨cs,ty,c,hc⟩=>?_),hF _ _ _ _ h.su (a (.inr (.inr (.inl rfl)))),h.bk.dB (λg hg _=>?_),hO,h.fr.trans (kf.mh (C:=λg=>w0.heap.size<=g) ⟨hb.os,hb.tape,hb.output,hb.size,λg _ hg=>hb.block g om⟩ (λ_=>by have:=h.bn;omega)),am h.sz hb.size,h.bn⟩
 ·rw[hg];refine hF _ _ _ _ hg (a ?_);rcases c with rfl|rfl|rfl|rfl<;>simp
 ·rw[hc];refine hF _ _ _ _ hc (a ?_);rcases c with rfl|rfl<;>simp
 ·obtain⟨cs,t,m,hc,ht⟩:=kn.obj h.bk hg;rw[hc];exact hF _ _ _ _ hc (a (by rcases ht with rfl|rfl<;>simp))
end
theorem Is {w:World}{xs:List Value}{d s b n t m:Nat}{gH:ByteArray}{A M:iz}{tp:Option Addr}{gs:Nat->Nat}{Ls:List iz}{L key:iz}(h:ou xs d s b gH A M) (hs:kR w s none tp) (hT:ll w t b gs key Ls) (hLs:Ls.length=4) (hB:Bk w b n) (hn:n<1000000) (hm:mj w m L) (num:Nat) (hnum:num<=1000000):
  Calls prog 63 #[.agg xs.toArray,.agg #[iq t,iq m,iw num]] w λe w'=>∃ ov,e=.returned (.tuple #[ov,iw 0])/\(∃ ws,ws.length=15/\w'.ownsRow w.heap.size 142 2 ov 15 (ng ws)/\(∀ p ∈ ws,(0<p.1/\p.1<60)/\∃ Z:iz,Z.length=64/\w'.ownsRow w.heap.size 5 1 p.2 64 (aQ Z)))/\Bk w' b (n+1)/\ll w' t b gs key Ls/\mj w' m L/\kf No b w w':=by
 obtain⟨q,hq⟩:=Ex w.heap.size;obtain⟨w1,E⟩:=Ex ((((w.alloc (.cells xs.toArray 96)).alloc (.cells #[iq t,iq m,iw num] 100)).alloc (.cells #[.slice none 0 0] 105)).alloc (.cells #[iw 0] 47));have b1:Below w.heap.size w w1:=by rw[E];exact ((((ag _ _).alloc (ae _) _).alloc sm _).alloc (by simp;omega) _).alloc (by simp;omega) _
 have G:∀ (W:World) (o o':Obj),((W.alloc o).alloc o').heap[W.heap.size]?=some o:=λW o o'=>(aB _ _ _ sm).trans (aj W o)
 have x0:w1.heap[q]?=some (.cells xs.toArray 96 (0,0)):=by rw[E,hq];exact (aB _ _ _ (by simp;omega)).trans ((aB _ _ _ (by simp;omega)).trans (G w _ _))
 have x1:w1.heap[q+1]?=some (.cells #[iq t,iq m,iw num] 100 (0,0)):=by rw[E,hq];have h:=G (w.alloc (.cells xs.toArray 96)) (.cells #[iq t,iq m,iw num] 100) (.cells #[.slice none 0 0] 105);simp only[aN] at h;exact (aB _ _ _ sm).trans h
 have x2:w1.heap[q+1+1]?=some (.cells #[.slice none 0 0] 105 (0,0)):=by rw[E,hq];have h:=G ((w.alloc (.cells xs.toArray 96)).alloc (.cells #[iq t,iq m,iw num] 100)) (.cells #[.slice none 0 0] 105) (.cells #[iw 0] 47);simp only[aN] at h;exact h
 have x3:w1.heap[q+1+1+1]?=some (.cells #[iw 0] 47 (0,0)):=by rw[E,hq];have h:=aj (((w.alloc (.cells xs.toArray 96)).alloc (.cells #[iq t,iq m,iw num] 100)).alloc (.cells #[.slice none 0 0] 105)) (.cells #[iw 0] 47);simp only[aN] at h;exact h
 obtain⟨og,K⟩:=Ex (q+1+1);obtain⟨eg,X⟩:=Ex (og+1)
 have S1:ob w w1 xs q s b t m num tp gs key Ls L og eg n []:=⟨⟨x0⟩,x1,hT.after b1,hm.after b1,(b1.block s (dC hs)).trans hs,hB.after b1,⟨⟨_,by rw[K];exact x2,aS _ _ _ _⟩,by rw[X,K];exact x3,λp hp=>absurd hp sm,by omega,by omega⟩,kf.dD b1,b1.size,by obtain⟨lv,hx⟩:=hB.box;exact dC hx⟩
 have F:∀ y,mU y q xs->(Instr.loadAt 96 (iq q)).run prog y=.ok (.agg xs.toArray) y:=λy hx=>hx.load h.len
 have V:=λy=>BR h y
 have T:=λy=>BS h y
 have a6:=λy=>xk h y
 have U:=λ(y:World) (hs:kR y s none tp) (a:Nat) (ha:a<=65536) (S:Nat->Prop) (dv:Value) (l:iz) (hd:Bytes y S dv l) (hl:l.length<=64)=>vI h hs a ha hd hl
 have a8:=λ(y:World) (ws:List (Nat×Value)) (R:ob w y xs q s b t m num tp gs key Ls L og eg n ws)=>Cf h R.su R.tr hLs R.bk hn R.mr num hnum
 obtain⟨c,hc⟩:=Ex xs.toArray;rw[<-hc] at E F V T a6 U a8 ⊢;refine G9 hc F V T a6 U a8 h S1 ?_;clear hc F V T a6 U a8 h S1;intro hc F V T a6 U a8 h S1;have an:=LH (λy (hx:mU y q xs)=>hx.get h.o.uw);clear x0 x1 x2 x3 b1 G hT hm hB hs;go_enter func63,ntmps63;have bA:=LH E
 go_wp2_with (first|(rw[<-E,<-hq,<-K,<-X];refine kQ rfl 96 _ rfl _ _ rfl (F.o _ S1.o.bx) ?_)|fail)
 rw[<-E,<-hq,<-K,<-X];refine G4 E hq K X ?_;clear E hq K X;intro E hq K X;refine (V.o w1).mono ?_;rintro e w2 ⟨rfl,b2⟩;have S2:=LH (S1.o.below b2);clear b2 S1 V;go_wp2
 go_loopg [12] 13 (λg ix wr=>∃ k ws,k+g=13/\ix=iw (k:Nat)/\List.length ws=k/\Hd (ob w wr xs q s b t m num tp gs key Ls L og eg n ws))
 case atStart=>exact⟨0,[],by omega,rfl,rfl,S2.o⟩
 case round=>
  obtain⟨k,ws,b7,rfl,a1,S⟩:=hrel;by_cases b8:k<13
  ·obtain⟨g1,rfl⟩:∃ i,gk=i+1:=⟨gk - 1,by omega⟩;have bD:(k:Int)<13:=om;obtain⟨Y,hY⟩:=Ex (10+k);have bC:(10:Int)+k=Y:=om;have bz:Y<23:=om;obtain⟨wo,rfl⟩:=Ex (wr:World);have J:=Dr wo
   have B:∀ y,aA No wo.drew y->ob w y xs q s b t m num tp gs key Ls L og eg n ws:=λy h=>S.o.below (J y h).no
   replace B:=LH B;replace J:=LH J;replace hY:=LH hY;go_wp2;refine RA.rt (aA No) [1,1,1,1,1,1,1,1,1,1,3,3,1,1,6] [14] (λ_=>True) trivial (λ_=>aA.refl _ _) (λ_ _ _ h k=>h.trans k) (h:=?_);intro cx
   repeat refine RA.qq ?_
   refine RA.ld (y':=.agg c) (hr:=λy hp=>F.o y (B.o _ hp.1).bx) (h:=?_);refine RA.fk prog q 102 (h:=?_);refine RA.fk prog q 102 (h:=?_);refine RA.lk prog (iw 10) (hc:=λy hp=>by exact an.o _ (B.o _ hp.1).bx) (h:=?_)
   repeat refine RA.qq ?_
   refine RA.vw prog (iw Y) (h:=?_);refine RA.fk prog (q+1) 0 (h:=?_);refine RA.lk prog (iq t) (hc:=λy hp=>by exact cell_of (B.o _ hp.1).sx 0) (h:=?_)
   repeat refine RA.qq ?_
   refine RA.qc (P:=prog) [iq t,iw k] (λv y=>∃ l:iz,l.length=64/\Bytes y (λ_=>True) v l) (hs:=λv a b h h2=>by
    obtain⟨l,Q,I⟩:=h2;exact⟨l,Q,I.ki h (λ_ _ _=>id)⟩) (hr:=λy hp hH=>by
    refine (Cc (B.o _ hp.1).tr om k om).mono ?_;rintro e C ⟨v,rfl,Q,I⟩;refine⟨v,rfl,aA.dD I _,⟨rW ((Ls.getD 0 []).take (kp (0:Nat)*16)) (4*k) 4,xt,?_⟩,trivial⟩;show Cells C _ _ (rW ((Ls.getD 0 []).take (kp (0:Nat)*16)) (4*k) 4).length 1 _;rw[xt];exact (Cells.own Q).mono (λ_ _ _=>trivial)) (hn:=λu=>?_)
   refine RA.qc (P:=prog) [.agg c,iw Y,u] (λv y=>∃ z Z,v=.tuple #[.agg #[iw Y,z],iw 0]/\List.length Z=64/\y.ownsRow w.heap.size 5 1 z 64 (aQ Z)) (hs:=λv a b h h2=>by
    obtain⟨z,Z,Q,I,k3⟩:=h2;exact⟨z,Z,Q,I,dE k3 (λg hg=>h.block g (kt k3 g hg) id)⟩) (hr:=λy hp hH=>by
    have D:=B.o _ hp.1;obtain⟨l,Q,I⟩:=hp.fact 0 rfl kr;refine (U.o y D.su Y om _ _ l I om).mono ?_;rintro e C ⟨v,rfl,k3,k4⟩;exact⟨_,rfl,aA.dD k4 _,⟨v,_,rfl,by rw[rj (by rw[oP om])];exact oP om,kU k3 D.sz⟩,trivial⟩) (hn:=λz=>?_)
   refine RA.vk prog (kW z 0) (hr:=λy hp=>by obtain⟨v,Z,rfl,_⟩:=hp.fact 0 rfl kr;clear hp;go_simp;rfl) (h:=?_)
   refine RA.vk prog (kW z 1) (hr:=λy hp=>by obtain⟨v,Z,rfl,_⟩:=hp.fact 0 rfl kr;clear hp;go_simp;rfl) (h:=?_)
   refine RA.vK (P:=prog) (f:=100) [iq eg,iq og] [kW z 0,kW z 1] (λ_ C=>∃ p,ob w C xs q s b t m num tp gs key Ls L og eg n (ws++[p])) (λ_ _=>by go_simp) kr rf rf rf kr (λ_ _ _ h k=>h ▸ k) rfl (λy af hH=>by have hp:=af.first kr;have D:=B.o _ hp.1;obtain⟨v,Z,rfl,I,k3⟩:=hp.fact 0 rfl kr;refine (yT D.o D.sz om Y om I k3).mono ?_;rintro e C ⟨rfl,j1,j2,j3,-⟩;exact⟨_,rfl,(Y,v),D.put j1 j2 j3⟩) (λr=>?_)
   refine RA.RA.kZ (λH hH=>?_);simp only[RA.RP,cx];obtain⟨p,S5⟩:=hH;replace S5:=LH S5;go_wp2;go_roundg g1
   case measure=>omega
   case rel=>exact⟨k+1,ws++[p],by omega,by go_num,by simp[a1],S5.o⟩
  ·obtain rfl:gk=0:=om;obtain rfl:k=13:=om;obtain⟨wo,rfl⟩:=Ex (wr:World);clear b8 b7
   go_wp2_with (first|(refine kQ rfl 96 _ rfl _ _ rfl (F.o _ S.o.bx) ?_)|fail)
   refine (T.o wo).mono ?_;rintro e y ⟨rfl,b3⟩;have R:=LH (S.o.below b3);clear b3 S T;go_wp2
   go_loopg [33] 1 (λg ix wr=>∃ ws,((g=1/\ix=iw 0/\List.length ws=13)\/(g=0/\ix=iw 1/\List.length ws=14))/\Hd (ob w wr xs q s b t m num tp gs key Ls L og eg n ws))
   case atStart=>exact⟨ws,.inl ⟨rfl,rfl,a1⟩,R.o⟩
   case round=>
    obtain⟨ws,ba,S⟩:=hrel;obtain⟨wo,rfl⟩:=Ex (wr:World);rcases ba with ⟨rfl,rfl,a1⟩|⟨rfl,rfl,a1⟩
    ·have J:=Dr wo
     have B:∀ y,aA No wo.drew y->ob w y xs q s b t m num tp gs key Ls L og eg n ws:=λy h=>S.o.below (J y h).no
     replace B:=LH B;replace J:=LH J;go_wp2;refine RA.rt (aA No) [1,1,1,4,1,1,1,1,1,3,3,1,1,6] [13] (λ_=>True) trivial (λ_=>aA.refl _ _) (λ_ _ _ h k=>h.trans k) (h:=?_);intro cx
     repeat refine RA.qq ?_
     refine RA.ld (y':=.agg c) (hr:=λy hp=>F.o y (B.o _ hp.1).bx) (h:=?_);refine RA.ld (y':=.agg c) (hr:=λy hp=>F.o y (B.o _ hp.1).bx) (h:=?_);refine RA.kc (P:=prog) [.agg c] (iw 23) (hr:=λy hp hH=>(a6.o y).mono (by rintro e C ⟨rfl,h2⟩;exact⟨rfl,aA.dD h2 _,trivial⟩)) (hn:=?_)
     repeat refine RA.qq ?_
     refine RA.vk prog (iw 23) (hr:=λw hp=>by (try go_simp);rfl) (h:=?_);refine RA.fk prog (q+1) 1 (h:=?_);refine RA.lk prog (iq m) (hc:=λy hp=>by exact cell_of (B.o _ hp.1).sx 1) (h:=?_)
     repeat refine RA.qq ?_
     refine RA.qc (P:=prog) [iq m,iw 0] (λv y=>Bytes y (λ_=>True) v L) (hs:=λv a b h h2=>h2.ki h (λ_ _ _=>id)) (hr:=λy hp hH=>by refine (Cd (B.o _ hp.1).mr).mono ?_;rintro e C ⟨v,rfl,Q,I⟩;exact⟨v,rfl,aA.dD I _,Q,trivial⟩) (hn:=λu=>?_)
     refine RA.qc (P:=prog) [.agg c,iw 23,u] (λv y=>∃ z Z,v=.tuple #[.agg #[iw 23,z],iw 0]/\List.length Z=64/\y.ownsRow w.heap.size 5 1 z 64 (aQ Z)) (hs:=λv a b h h2=>by
      obtain⟨z,Z,Q,I,k3⟩:=h2;exact⟨z,Z,Q,I,dE k3 (λg hg=>h.block g (kt k3 g hg) id)⟩) (hr:=λy hp hH=>by
      have D:=B.o _ hp.1;have I:=(show Bytes y (λ_=>True) u L from hp.fact 0 rfl kr);have bB:=D.mr.len;refine (U.o y D.su 23 om _ _ L I om).mono ?_;rintro e C ⟨v,rfl,k3,k4⟩;exact⟨_,rfl,aA.dD k4 _,⟨v,_,rfl,by rw[rj (by rw[oP om])];exact oP om,kU k3 D.sz⟩,trivial⟩) (hn:=λz=>?_)
     refine RA.vk prog (kW z 0) (hr:=λy hp=>by obtain⟨v,Z,rfl,_⟩:=hp.fact 0 rfl kr;clear hp;go_simp;rfl) (h:=?_)
     refine RA.vk prog (kW z 1) (hr:=λy hp=>by obtain⟨v,Z,rfl,_⟩:=hp.fact 0 rfl kr;clear hp;go_simp;rfl) (h:=?_)
     refine RA.vK (P:=prog) (f:=100) [iq eg,iq og] [kW z 0,kW z 1] (λ_ C=>∃ p,ob w C xs q s b t m num tp gs key Ls L og eg n (ws++[p])) (λ_ _=>by go_simp) kr rf rf rf kr (λ_ _ _ h k=>h ▸ k) rfl (λy af hH=>by have hp:=af.first kr;have D:=B.o _ hp.1;obtain⟨v,Z,rfl,I,k3⟩:=hp.fact 0 rfl kr;refine (yT D.o D.sz om 23 om I k3).mono ?_;rintro e C ⟨rfl,j1,j2,j3,-⟩;exact⟨_,rfl,(23,v),D.put j1 j2 j3⟩) (λr=>?_)
     refine RA.RA.kZ (λH hH=>?_);simp only[RA.RP,cx];obtain⟨p,S5⟩:=hH;replace S5:=LH S5;go_wp2;go_roundg 0
     case measure=>omega
     case rel=>exact⟨ws++[p],.inr ⟨rfl,rfl,by simp[a1]⟩,S5.o⟩
    ·have b5:=LH (mE (P:=prog) (w:=wo) (g:=q+1) (off:=0) (ty:=100) (x:=[iq t,iq m,iw num]) underlying100 kr (λj v hv=>by rw[aw,cell_of S.o.sx];simpa using hv))
     go_wp2_with (first|(refine kQ rfl 96 _ rfl _ _ rfl (F.o _ S.o.bx) ?_)|(refine kQ rfl 100 _ rfl _ _ rfl b5.o ?_)|fail)
     refine (a8.o wo ws S.o).mono ?_;rintro e y ⟨v,rfl,⟨Z,b6,hv⟩,ax,ay⟩;have R:=S.o.pb ay ax;have b4:=LH (yT R.o R.sz om 24 om b6 (kU hv S.o.sz));replace R:=LH R;clear ay ax hv S b5
     go_wp2_with fail
     refine b4.o.mono ?_;rintro e C ⟨rfl,j1,j2,j3,-⟩;have S4:=R.o.put j1 j2 j3;obtain⟨ov,o1,o2⟩:=S4.o.box;have o3:=S4.o.err;clear j1 j2 j3 b4 R;replace S4:=LH S4;go_wp2;obtain⟨oa,oc,rfl,_⟩:=(Cells.own o2).shape;have ad:(ws++[(24,v)]).length=15:=by rw[aE,a1];rfl
     rw[ad] at o2 o1
     have hs0:∀ H,C.drew=H->(Instr.storeAt 105 (iq og) (.slice oa 15 oc)).run prog H=.ok () H:=λH e=>by subst e;have f0:C.drew.cell? (iu og 0)=some (.slice oa 15 oc):=cell_of o1 0;have f1:C.drew.frozen? (iu og 0)=false:=kY o1 0;have f2:C.drew.setCell (iu og 0) (.slice oa 15 oc)=C.drew:=xw (w:=C.drew) o1 rfl;clear o1 o2 o3;go_simp
     have aa:∀ H,C.drew=H->(Instr.storeAt 47 (iq eg) (iw 0)).run prog H=.ok () H:=λH e=>by subst e;have f0:C.drew.cell? (iu eg 0)=some (iw 0):=cell_of o3 0;have f1:C.drew.frozen? (iu eg 0)=false:=kY o3 0;have f2:C.drew.setCell (iu eg 0) (iw 0)=C.drew:=xw (w:=C.drew) o3 rfl;clear o1 o2 o3;go_simp
     have p0:∀ H,C.drew=H->H.cell? (iu og 0)=some (.slice oa 15 oc):=λH e=>by subst e;exact cell_of o1 0
     have p1:∀ H,C.drew=H->H.cell? (iu eg 0)=some (iw 0):=λH e=>by subst e;exact cell_of o3 0
     have k0:C.drew.cell? (iu og 0)=some (.slice oa 15 oc):=cell_of o1 0;have Q:C.drew.cell? (iu eg 0)=some (iw 0):=cell_of o3 0;have N:=S4.o.o.qm;have O:kf No b w C:=S4.o.fr.mono (λg hg e=>absurd e om);refine G9 hs0 aa p0 p1 o2 N O k0 Q ?_;clear hs0 aa p0 p1 o2 N O k0 Q;intro hs0 aa p0 p1 o2 N O k0 Q;clear o1 o3;refine RA.region (·=·) (·=·) [1,1,2,2] (λ_ _ _=>True) (λ_=>True) kr rfl (λ_ _ h=>h) (λ_ _ _ h k=>h.trans k) (λ_ _ _ _=>trivial) trivial kr ?_;intro cx;refine RA.lk prog (.slice oa 15 oc) (hc:=λy hp=>by exact p0.o _ hp.1) (h:=?_);refine RA.lk prog (iw 0) (hc:=λy hp=>by exact p1.o _ hp.1) (h:=?_);refine RA.sg rf rf (λw=>rfl) (λ_ _=>trivial) (λy hp=>RA.kL rf rf (hs0.o y hp.1)) (λu1=>?_);refine RA.sg rf rf (λw=>rfl) (λ_ _=>trivial) (λy hp=>RA.kL rf rf (aa.o y hp.1)) (λu2=>?_);refine RA.RA.done rfl (λw6 hR hF hH=>?_);clear hF hH;simp only[RA.RP,cx]
     try simp only[cn]
     try simp only[cG]
     have a7:C.drew=w6:=hR;clear hR;have bl:=p0.o w6 a7;have bp:=p1.o w6 a7;replace a7:=LH a7;go_wp2;refine aI (v:=.tuple #[.slice oa 15 oc,iw 0]) (by simp[results,results63,go_sem,bl,bp];try rfl) rfl ?_;obtain rfl:=a7.o;refine⟨_,rfl,⟨_,ad,o2.o,N.o⟩,S4.o.bk.dB (λ_ _ _=>rfl),S4.o.tr.dB (λ_ _ _ _ _=>rfl),S4.o.mr.dB (λ_ _ _=>rfl),O.o.xb⟩
def mM (d s b:Nat) (gH:ByteArray) (dv mv:Value):List Value:=[iq d,iq s,.string gH,iw 25,iw 35,dv,mv,iq b]
theorem uB:(prog.info? 174).map (·.size)=some 8:=kr
theorem It {d s b:Nat}{gH:ByteArray}{da ma:Option Addr}{dn dc mn mc:Nat}:∀ v ∈ mM d s b gH (.slice da dn dc) (.slice ma mn mc),v.oneCell'=true:=by simp[mM,Value.oneCell']
structure od (w:World) (q:Nat) (st:List Value):Prop where
 at_:w.heap[q]?=some (.cells st.toArray 174 (0,0))
section
variable {w w':World}{q d s b:Nat}{st:List Value}{gH:ByteArray}{dv mv:Value}
theorem od.get (h:od w q st){j:Nat}{v:Value}(hj:st[j]?=some v):w.cell? (iu q j)=some v:=by rw[cell_of h.at_];simpa using hj
theorem od.ki (h:od w q st) (hc:aA No w w'):od w' q st:=⟨(hc.block q (dC h.at_) id).trans h.at_⟩
theorem od.load (h:od w q st) (hl:st.length=8):(Instr.loadAt 174 (iq q)).run prog w=.ok (.agg st.toArray) w:=mE underlying174 (by rw[hl];exact uB) (λj v hv=>by rw[aw];exact h.get hv)
theorem tw (w:World) (st:List Value):od (w.alloc (.cells st.toArray 174)) w.heap.size st:=⟨aj w _⟩
end
theorem Iu {w:World}{F:Nat->Prop}{d s b:Nat}{Dk0:D.Dk}(h:D.At w F d Dk0) (hs:Dk0.size=120) (gH:ByteArray) (da ma:Option Addr) (dc mc:Nat):
  Calls prog 103 #[.agg (mM d s b gH (.slice da 64 dc) (.slice ma 32 mc)).toArray] w λe w'=>e=.returned (iw 0)/\Below w.heap.size w w':=by
 obtain⟨st,g⟩:=Ex (mM d s b gH (.slice da 64 dc) (.slice ma 32 mc));obtain⟨q,v⟩:=Ex w.heap.size;obtain⟨r,j⟩:=Ex (w.alloc (.cells st.toArray 174));have A:od r q st:=by rw[j,v];exact tw w st
 have b1:Below w.heap.size w r:=by rw[j];exact (ag _ _).alloc (ae _) _
 have y:=LH (λf (hc:aA No r f)=>D.xn ((h.ki (aA.dD b1 No) (λ_ _=>id)).ki hc (λ_ _=>id)))
 have hg:∀ f,aA No r f->f.cell? (iu q 0)=some (iq d)/\f.cell? (iu q 1)=some (iq s)/\f.cell? (iu q 3)=some (iw 25)/\f.cell? (iu q 4)=some (iw 35)/\f.cell? (iu q 5)=some (.slice da 64 dc)/\f.cell? (iu q 6)=some (.slice ma 32 mc):=λf hc=>by have l:=A.ki hc;exact⟨l.get (by rw[g];rfl),l.get (by rw[g];rfl),l.get (by rw[g];rfl),l.get (by rw[g];rfl),l.get (by rw[g];rfl),l.get (by rw[g];rfl)⟩
 obtain⟨g0,g1,g3,g4,g5,g6⟩:=hg r (aA.refl _ _);have i:=Dr r
 rw[<-g];obtain⟨c,hc⟩:=Ex st.toArray;rw[<-hc] at j ⊢;refine G6 hc g hg i b1 hs ?_;clear hc g hg i b1 hs;intro hc g hg i b1 hs;clear h A;go_enter func103,ntmps103;have C:=LH (lq g0);rw[j,v] at g0 g1 g3 g4 g5 g6;replace v:=LH v;replace j:=LH j;go_wp2;rw[<-j.o,<-v.o];clear g0 g1 g3 g4 g5 g6;refine RA.rt (aA No) [1,1,1,1,1,4,1,1] [] (λ_=>True) trivial (λ_=>aA.refl _ _) (λ_ _ _ h k=>h.trans k) (h:=?_);intro cx;refine RA.fk prog q 3 (h:=?_);refine RA.fk prog q 4 (h:=?_);refine RA.lk prog (iw 35) (hc:=λf hp=>by exact (hg.o _ (i.o _ hp.1)).2.2.2.1) (h:=?_);refine RA.fk prog q 0 (h:=?_);refine RA.lk prog (iq d) (hc:=λf hp=>by exact (hg.o _ (i.o _ hp.1)).1) (h:=?_);refine RA.kc (P:=prog) [iq d] (iw 120) (hr:=λf hp hH=>(y.o f (i.o _ hp.1)).mono (by rintro e E ⟨rfl,rfl⟩;exact⟨by rw[hs.o];rfl,aA.refl _ _,trivial⟩)) (hn:=?_);refine RA.vk prog (.bool false) (h:=?_)
 repeat refine RA.qq ?_
 refine RA.RA.done rfl (λw2 t x hH=>?_);clear x hH;simp only[RA.RP,cx]
 try simp only[cn]
 try simp only[cG]
 have n:=i.o _ t;have m:=LH (λf (hc:aA No w2 f)=>hg.o f (n.trans hc));have u:=LH (λf (hc:aA No w2 f)=>y.o f (n.trans hc));have z:=LH (b1.o.trans (n.no.mono b1.o.size));have a:=Dr w2
 replace a:=LH a;clear t n hg y i;go_wp2;refine RA.rt (aA No) [1,1,1,1,1,4,1,1,1,1,1,1] [] (λ_=>True) trivial (λ_=>aA.refl _ _) (λ_ _ _ h k=>h.trans k) (h:=?_);intro cx;refine RA.fk prog q 3 (h:=?_);refine RA.fk prog q 3 (h:=?_);refine RA.lk prog (iw 25) (hc:=λf hp=>by exact (m.o _ (a.o _ hp.1)).2.2.1) (h:=?_);refine RA.fk prog q 0 (h:=?_);refine RA.lk prog (iq d) (hc:=λf hp=>by exact (m.o _ (a.o _ hp.1)).1) (h:=?_);refine RA.kc (P:=prog) [iq d] (iw 120) (hr:=λf hp hH=>(u.o f (a.o _ hp.1)).mono (by rintro e E ⟨rfl,rfl⟩;exact⟨by rw[hs.o];rfl,aA.refl _ _,trivial⟩)) (hn:=?_);refine RA.fk prog q 3 (h:=?_);refine RA.fk prog q 4 (h:=?_);refine RA.lk prog (iw 35) (hc:=λf hp=>by exact (m.o _ (a.o _ hp.1)).2.2.2.1) (h:=?_);refine RA.vk prog (iw 85) (hr:=λw hp=>by (try go_simp);rfl) (h:=?_);refine RA.vk prog (.bool false) (h:=?_)
 repeat refine RA.qq ?_
 refine RA.RA.done rfl (λG t x hH=>?_);clear x hH;simp only[RA.RP,cx]
 try simp only[cn]
 try simp only[cG]
 have p:=a.o _ t;obtain⟨g0,g1,g3,g4,g5,g6⟩:=m.o G p;have B:=LH (z.o.trans (p.no.mono z.o.size));clear t p m u a;go_wp2;go_ret;exact⟨rfl,B.o⟩
theorem xx {w:World}{d s b:Nat}{gH:ByteArray}{A:iz}{t:Option Addr}{ka ma:Option Addr}{kc mc:Nat}{SK:Nat->Prop}(hk:Bytes w SK (.slice ka 64 kc) A) (hAl:A.length=64) (hs:kR w s none t) (at':Nat) (hat:at'<=60000){S:Nat->Prop}{dv:Value}{l:iz}(hd:Bytes w S dv l) (hl:l.length<=64):
  Calls prog 90 #[.agg (mM d s b gH (.slice ka 64 kc) (.slice ma 32 mc)).toArray,iw at',dv] w λe w'=>∃ v,e=.returned (.tuple #[.agg #[iw (25+at':Nat),v],iw 0])/\w'.ownsRow w.heap.size 5 1 v 64 (aQ (nw A (25+at') (l++List.replicate (64 - l.length) 0)))/\Below w.heap.size w w':=by
 obtain⟨xs,m⟩:=Ex (mM d s b gH (.slice ka 64 kc) (.slice ma 32 mc));obtain⟨Y,hY⟩:=Ex (25+at');have b7:(25:Int)+at'=Y:=om;have aa:Y<=65536:=om;rw[<-m,<-hY];replace hY:=LH hY;obtain⟨da,dc,rfl,ax,ay⟩:=hd.shape;obtain⟨q,hq⟩:=Ex w.heap.size;obtain⟨p,f⟩:=Ex ((w.alloc (.cells xs.toArray 174)).alloc (.cells #[iw 0,.slice none 0 0] 168));have G:od p q xs:=by rw[f,hq];exact (tw w xs).ki ((aA.refl _ _).alloc _)
 have b1:Below w.heap.size w p:=by rw[f];exact ((ag _ _).alloc (ae _) _).alloc sm _
 have T:p.heap[q+1]?=some (.cells #[iw 0,.slice none 0 0] 168 (0,0)):=by rw[f,hq];have h:=aj (w.alloc (.cells xs.toArray 174)) (.cells #[iw 0,.slice none 0 0] 168);simp only[aN] at h;exact h
 have s1:kR p s none t:=(b1.block s (dC hs)).trans hs;have K:Bytes p S (.slice da l.length dc) l:=Cells.dB hd b1.size (λg _ hg=>b1.block g hg);obtain⟨n,hn⟩:=Ex l.length;obtain⟨R,hR⟩:=Ex (64 - n);have b6:(64:Int) - n=R:=om;rw[<-hn] at hl K ⊢;obtain⟨w2,k⟩:=Ex (p.alloc (.cells (aQ (List.replicate R 0)).toArray 5));have b2:Below p.heap.size p w2:=by rw[k];exact (ag _ _).alloc (ae _) _
 have a7:Cells w2 (λ_=>True) (ir p.heap.size R R) R 1 (aQ (List.replicate R 0)):=sw (t:=5) (by rw[k];exact aj p _) sm mx;have a1:Bytes w2 (λ_=>True) (.slice da n dc) l:=(Cells.dB K b2.size (λg _ hg=>b2.block g hg)).mono (λ_ _ _=>trivial)
 have hP:=rl (w:=w2) (S:=λ_=>True) (vs:=[.slice da n dc,ir p.heap.size R R]) (parts:=[l,List.replicate R 0]) rfl (by unfold maxLen;simp) (by
  intro j v hv
  match j with
  | 0=>cases hv;exact a1
  | 1=>cases hv;show Cells w2 _ _ (List.replicate R (0:UInt8)).length 1 _;rw[aK];exact a7
  | _+2=>simp at hv)
 have J:=LH (vq hP sm (by
  intro x G;simp only[bi,bL,bS] at G;rcases G with rfl|rfl
  ·omega
  ·rw[aK];omega))
 obtain⟨Z,N⟩:=Ex (l++List.replicate R 0);have I:Z.length=64:=by rw[N];simp;omega
 have V:[l,List.replicate R 0].flatten=Z:=by rw[N];simp
 rw[V,I] at J;rw[<-hR,<-N];have y:=LH b2;have e1:=LH (show p.heap.size=w.heap.size+1+1 by rw[f];simp);have e2:=LH (show w2.heap.size=p.heap.size+1 by rw[k];simp);obtain⟨c,hc⟩:=Ex xs.toArray;rw[<-hc] at f ⊢;refine G8 hc G b1 T s1 N hn hR ?_;clear hc G b1 T s1 N hn hR;intro hc G b1 T s1 N hn hR;have ad:=LH (Cells.dB hk b1.o.size (λg _ hg=>b1.o.block g hg):Bytes p SK (.slice ka 64 kc) A);replace m:=LH m;clear hd hs hk K a7 a1 hP b2 V;go_enter func90,ntmps90;have b4:=LH k
 go_wp2_with (first|(rw[<-f];refine Cb rfl 42 _ _ rfl _ rfl rfl _ (ui p R _ om om) ?_;rw[<-k])|fail)
 rw[<-f,<-k,<-e1.o,<-e2.o];refine J.o.mono ?_;rintro e H ⟨zv,rfl,L,W⟩;have z:=y.o.alloc y.o.size (.cells #[.slice da n dc,ir p.heap.size R R] 42);have a:=z.trans (W.mono z.size);obtain⟨za,zc,rfl,_⟩:=kz L om
 have a8:Bytes H (λ_=>True) (ir za 64 zc) Z:=by have h:=(Cells.own L).mono (S':=λ_=>True) (λ_ _ _=>trivial);show Cells H _ _ Z.length 1 _;rw[I];exact h
 have i:=G.o.ki (aA.dD a _);have s3:kR H s none t:=(a.block s (dC s1.o)).trans s1.o;have U:=(a.block (q+1) (dC T.o)).trans T.o;have b3:=LH (b1.o.trans (a.mono b1.o.size));have af:=LH (Cells.dB ad.o a.size (λg _ hg=>a.block g hg):Bytes H SK (.slice ka 64 kc) A)
 have r:∀ M,aA No H M->Calls prog 118 #[iq s,.string gH,.slice ka 64 kc,iw Y,ir za 64 zc] M λe w'=>∃ v,e=.returned (.tuple #[v,iw 0])/\w'.ownsRow M.heap.size 5 1 v 64 (aQ (nw A Y Z))/\Below M.heap.size M w':=λM hc=>Ca (w:=M) ((hc.block s (dC s3) id).trans s3) _ (Bytes.ki af.o hc (λ_ _ _=>id)) hAl (Bytes.ki a8 hc (λ_ _ _=>id)) I Y aa
 have D:=Dr H
 obtain⟨XE,u⟩:=Ex (nw A Y Z);rw[<-u] at r;refine G5 u r D i U ?_;clear u r D i U;intro u r D i U;rw[<-hq];replace f:=LH f;replace k:=LH k;have an:=LH hq;clear z hq W a L a8 s3 J G s1 T y b1;have d1:=i.o.get (j:=1) (by rw[m.o];rfl);have d2:=i.o.get (j:=2) (by rw[m.o];rfl);have d3:=i.o.get (j:=3) (by rw[m.o];rfl);have d5:=i.o.get (j:=5) (by rw[m.o];rfl)
 go_wp2_with fail
 refine (r.o H (aA.refl _ _)).mono ?_;rintro e w5 ⟨v,rfl,a6,X⟩;have C:aA No H w5:=aA.dD X _;have hv:=kU a6 b3.o.size;obtain⟨Q,O,rfl,_⟩:=kz hv om;clear d1 d2 d3 d5 a6 X;have x5:=(C.block (q+1) (dC U.o) id).trans U.o;have b5:w5.cell? (iu q 3)=some (iw 25):=(i.o.ki C).get (by rw[m.o];rfl);have E:=mf (P:=prog) (ty:=168) (x:=[iw Y,ir Q 64 O]) x5 kr rfl (by simp[Value.oneCell']);have y5:(w5.setRow (q+1) #[iw Y,ir Q 64 O]).heap[q+1]?=some (.cells #[iw Y,ir Q 64 O] 168 (0,0)):=aJ _ _ _ _ _ _ x5;have B:Below w.heap.size w (w5.setRow (q+1) #[iw Y,ir Q 64 O]):=below_setRow (b3.o.trans (C.no.mono b3.o.size)) (by rw[<-an.o];omega) _
 have F:(w5.setRow (q+1) #[iw Y,ir Q 64 O]).ownsRow w.heap.size 5 1 (ir Q 64 O) 64 (aQ XE):=dE hv (λg hg=>aG _ _ _ _ (by rintro rfl;exact o6 hv x5 de hg))
 refine G4 E y5 B F ?_;clear E y5 B F;intro E y5 B F;clear C hv x5 r i U D
 go_wp2_with (first|(refine kI rfl 168 _ _ rfl _ _ rfl rfl E.o ?_)|fail)
 refine aI (sE results90 _ _ (q+1) 168 _ (0,0) _ rfl y5.o underlying168 rfl kr) rfl ⟨_,rfl,by rw[<-u.o];exact F.o,B.o⟩
def EX (N b:Nat) (x y:World):Prop:=(∃ n,Bk x b n)/\Mk N x y/\∀ (g:Nat) (C:Array Value) (t:TypeId) (m:Nat×Nat),x.heap[g]?=some (.cells C t m)->t≠5->y.heap[g]?=some (.cells C t m)
structure RX (N b:Nat) (x y:World):Prop where
 b0:∃ n,Bk x b n
 b1:∃ n,Bk y b n
 os:y.os=x.os
 tape:y.tape=x.tape
 output:y.output=x.output
 size:x.heap.size<=y.heap.size
 lU:∀ g,g<N->g<x.heap.size->¬ kn x b g->y.heap[g]?=x.heap[g]?
 other:∀ (g:Nat) (C:Array Value) (t:TypeId) (m:Nat×Nat),x.heap[g]?=some (.cells C t m)->t≠5->t≠223->t≠145->y.heap[g]?=some (.cells C t m)
 row:∀ (g:Nat) (C:Array Value) (m:Nat×Nat),x.heap[g]?=some (.cells C 5 m)->∃ m',y.heap[g]?=some (.cells C 5 m')
 pD:∀ g,g<x.heap.size->b<=g->mw y b g->mw x b g
section
variable {N b n:Nat}{x y z:World}
theorem RX.trans (h:RX N b x y) (k:RX N b y z):RX N b x z:=by
 refine⟨h.b0,k.b1,k.os.trans h.os,k.tape.trans h.tape,k.output.trans h.output,am h.size k.size,λg hg c i=>?_,λg C t m hg h1 d f=>k.other g C t m (h.other g C t m hg h1 d f) h1 d f,λg C m hg=>?_,λg hg hb e=>h.pD g hg hb (k.pD g (aH hg h.size) hb e)⟩
 ·have e:=h.lU g hg c i;rw[k.lU g hg (aH c h.size) ?_,e];exact λj=>i (j.imp id (λa=>⟨a.1,h.pD g c a.1 a.2⟩))
 ·obtain⟨m',h'⟩:=h.row g C m hg;exact k.row g C m' h'
theorem EX.bk (h:EX N b x y) (hB:Bk x b n):Bk y b n:=hB.dB (λg hg _=>by obtain⟨cs,t,m,hc,ht⟩:=kn.obj hB hg;rw[hc];exact h.2.2 _ _ _ _ hc (by rcases ht with rfl|rfl<;>decide))
theorem EX.rx (h:EX N b x y):RX N b x y:=by
 obtain⟨n,a⟩:=h.1
 refine⟨⟨n,a⟩,⟨n,h.bk a⟩,h.2.1.1.os,h.2.1.1.tape,h.2.1.1.output,h.2.1.1.size,λg hg _ _=>h.2.1.1.block g hg,λg C t m hg h1 _ _=>h.2.2 g C t m hg h1,λg C m hg=>h.2.1.2 g C _ m hg,λg hg d e=>mw.block (by obtain⟨lv,c⟩:=a.box;rw[c];exact h.2.2 _ _ _ _ c de) e⟩
theorem EX.mh (hB:∃ n,Bk x b n) (h:aA No x y) (hN:N<=x.heap.size):EX N b x y:=⟨hB,Mk.mh h hN,λg _ _ _ hg _=>(h.block g (dC hg) id).trans hg⟩
theorem EX.dD (hB:∃ n,Bk x b n) (h:Below x.heap.size x y) (hN:N<=x.heap.size):EX N b x y:=EX.mh hB (aA.dD h _) hN
theorem RX.ow {k:Nat}(hB:Bk x b n) (hB':Bk y b k) (h:kf No b x y):RX N b x y:=⟨⟨n,hB⟩,⟨k,hB'⟩,h.os,h.tape,h.output,h.size,λg _ f d=>h.block g f (λe=>e.elim id d),λg C t m hg _ a c=>h.at hB hg id a c,λg C m hg=>⟨m,h.at hB hg id de de⟩,h.row⟩
theorem RX.pb (h:RX N b x y) (hN:N=x.heap.size):kf No b x y:=⟨⟨h.os,h.tape,h.output,h.size,λg hg a=>h.lU g (hN ▸ hg) hg (λe=>a (.inr e))⟩,h.pD⟩
def oe (l:iz) (v:Value) (w:World):Prop:=∃ g m cap cur,v=ir g l.length cap/\l.length<=cap/\cap<=maxLen/\w.heap[g]?=some (.cells cur 5 m)/\cur.toList.take l.length=aQ l
theorem oe.own {l:iz}{v:Value}{w:World}{B k:Nat}(h:w.ownsRow B 5 1 v k (aQ l)) (hk:l.length=k) (h0:0<k):oe l v w:=by
 obtain⟨f,h|⟨g,cap,cur,h1,_,b,c,d,e,a⟩⟩:=h
 ·omega
 ·subst hk;exact⟨g,_,cap,cur,h1,c,d,b,by rw[aY] at a;exact a⟩
theorem oe.bytes {l:iz}{v:Value}{w:World}(h:oe l v w):Bytes w (λ_=>True) v l:=by
 obtain⟨g,m,cap,cur,h1,b,c,a,d⟩:=h;refine⟨by rw[km,aY],_,_,h1,b,c,λh=>(by cases h),.inr ⟨g,0,rfl,trivial,dC a,λj u hu=>?_⟩⟩;rw[aw,cell_of a,<-cZ];have e:j<l.length:=by have:=(aD.1 hu).1;rw[km] at this;exact this
 rw[<-dV e,d];exact hu
theorem oe.rx {l:iz}{v:Value}(h:oe l v x) (hr:RX N b x y):oe l v y:=by obtain⟨g,m,cap,cur,h1,a,c,d,e⟩:=h;obtain⟨m',f⟩:=hr.row g cur m d;exact⟨g,m',cap,cur,h1,a,c,f,e⟩
theorem Iv {w:World}{N:Nat}{l:iz}{v:Value}(h:mJ N l 5 v w):∃ w',(convert 42 42 v).run prog w=.ok v w'/\Mk N w w'/\mJ N l 5 v w'/\∀ (g:Nat) (C:Array Value) (t:TypeId) (m:Nat×Nat),w.heap[g]?=some (.cells C t m)->t≠5->w'.heap[g]?=some (.cells C t m):=by
 have k:=h;obtain⟨g,m,rfl,p,q,i⟩:=h;obtain⟨w',f,n,o⟩:=vv (P:=prog) (t:=42) underlying42 underlying5 k;refine⟨w',f,n,o,λj C t r a c=>?_⟩
 have d:w.shape? g=some (5,(aQ l).toArray.size):=by unfold World.shape?;rw[i]
 have e:w'=w.freeze (iu g ((aQ l).toArray.size)) 1:=by simp[convert,bb underlying42,bb underlying5,markStringish,d] at f;exact f.symm
 have b:j≠g:=by rintro rfl;rw[i] at a;simp only[IJ] at a;exact c a.2.1.symm
 rw[e];unfold World.freeze;rw[ah de];show (w.heap.modify g _)[j]?=_;rw[dW,ah (bY b)];exact a
theorem mJ.rx {l:iz}{v:Value}(h:mJ N l 5 v x) (hr:RX N b x y):mJ N l 5 v y:=by obtain⟨g,m,h1,a,c,d⟩:=h;obtain⟨m',e⟩:=hr.row g _ m d;exact⟨g,m',h1,a,c,e⟩
end
end Go.Proofs.YthmcbgidehjlbaaGreat.Fd

/-
  Acts that came in. No condition beyond what each theorem names.
-/
import Derived.Test.YtbgfdbidbjlaaaaGreatSaOpen
import Derived.Test.YtbgfdbidbjlaaaaGreatSaQSuDerPk
import Derived.Deep.Slices
namespace Go.Proofs.YtbgfdbidbjlaaaaGreat.Fd
open _root_.Go.Proofs.Tryz
open Go Go.ChangeShapes Go.WideShapes Go.ChangeAt Go.RowKit Go.Deep Go.Joins K
set_option maxRecDepth 100000
section
variable {H:Type}{enc:TypeId×Value→H}{w:World}{base:Nat}{held:Bool}
theorem cell_bytes {P:Program}{t e:TypeId}{fuel:Nat}{c:Value}{x:DataW H×List MemPlace}(ht:P.underlying t=some (.slice e)) (he:P.underlying e=some (.int .u8)) (hc:P.cellsOf e=1)
  (h:DataW.trod enc P w base (fun _=>true) held fuel t [c]=some x):∃ l:List UInt8,Bytes w (fun _=>True) c l:=by
 suffices hs:∃ a len cap zs,c=.slice a len cap∧IsRow .u8 w a len cap zs by
  obtain⟨a,len,cap,zs,rfl,hz⟩:=hs;exact hz.bytes
 rcases open_ints ht he hc h with ⟨hcs,_⟩|⟨x,l,c,zs,hcs,_,hl,hm,hz,_,hcell,hwz⟩
 ·simp at hcs;subst hcs;exact⟨_,_,_,[],rfl,.inl ⟨rfl,rfl,rfl,rfl⟩⟩
 ·simp at hcs;subst hcs;exact⟨_,_,_,zs,rfl,.inr ⟨_,rfl,hl,hm,by simpa using hz,hcell,hwz⟩⟩
theorem trod_struct6 {P:Program}{t:TypeId}{f0 f1 f2 f3 f4 f5:Field}{fuel:Nat}{cs:List Value}{x:DataW H×List MemPlace}(ht:P.underlying t=some (.struct #[f0,f1,f2,f3,f4,f5])) (h:DataW.trod enc P w base (fun _=>true) held fuel t cs=some x):
  ∃ y0 y1 y2 y3 y4 y5 n,cs.length=P.cellsOf t∧DataW.trod enc P w base (fun _=>true) held n f0.type ((cs.drop f0.offset).take (P.cellsOf f0.type))=some y0∧DataW.trod enc P w base (fun _=>true) held n f1.type ((cs.drop f1.offset).take (P.cellsOf f1.type))=some y1∧
   DataW.trod enc P w base (fun _=>true) held n f2.type ((cs.drop f2.offset).take (P.cellsOf f2.type))=some y2∧DataW.trod enc P w base (fun _=>true) held n f3.type ((cs.drop f3.offset).take (P.cellsOf f3.type))=some y3∧
   DataW.trod enc P w base (fun _=>true) held n f4.type ((cs.drop f4.offset).take (P.cellsOf f4.type))=some y4∧DataW.trod enc P w base (fun _=>true) held n f5.type ((cs.drop f5.offset).take (P.cellsOf f5.type))=some y5:=by
 obtain⟨xs,n,_,rfl,hl,hlen,hf⟩:=DataW.trod_struct ht h
 match xs,hlen with
 | [y0,y1,y2,y3,y4,y5],_=>exact⟨y0,y1,y2,y3,y4,y5,n,hl,by simpa using hf 0 f0 rfl,by simpa using hf 1 f1 rfl,by simpa using hf 2 f2 rfl,by simpa using hf 3 f3 rfl,by simpa using hf 4 f4 rfl,by simpa using hf 5 f5 rfl⟩
theorem add_nought (x:Addr):(x.add (0*6)).add 0=x:=by simp[Addr.add]
theorem add2 (g off i j:Nat):((⟨g,off,none⟩:Addr).add i).add j=⟨g,off+i+j,none⟩:=by
 rw[add_plain,add_plain]
def ActIs (w:World) (cs:List Value) (q:ActD×Value×Value):Prop:=
 cs=[.int .i64 q.1.kind,.string q.1.what,q.2.1,.int .i64 q.1.unit,q.2.2,.int .i64 q.1.num]∧Bytes w (fun _=>True) q.2.1 q.1.key∧Bytes w (fun _=>True) q.2.2 q.1.data∧q.1.what.size≤maxLen∧(-9223372036854775808≤q.1.unit∧q.1.unit≤9223372036854775807)
theorem sixC {cs:List Value}(h:cs.length=6):∃ c0 c1 c2 c3 c4 c5,cs=[c0,c1,c2,c3,c4,c5]:=by
 match cs,h with
 | [c0,c1,c2,c3,c4,c5],_=>exact⟨c0,c1,c2,c3,c4,c5,rfl⟩
theorem act_is {fuel:Nat}{cs:List Value}{x:DataW H×List MemPlace}(h:DataW.trod enc prog w base (fun _=>true) held fuel 33 cs=some x):∃ q,ActIs w cs q:=by
 obtain⟨y0,y1,y2,y3,y4,y5,n,hl,h0,h1,h2,h3,h4,h5⟩:=trod_struct6 underlying33 h;rw[show prog.cellsOf 33=6 by kernel_rfl] at hl;obtain⟨c0,c1,c2,c3,c4,c5,rfl⟩:=sixC hl;have hc1:prog.cellsOf 3=1:=by kernel_rfl
 have hc2:prog.cellsOf 9=1:=by kernel_rfl
 have hc3:prog.cellsOf 22=1:=by kernel_rfl
 simp only[hc1,hc2,hc3,List.drop,List.take] at h0 h1 h2 h3 h4 h5;obtain⟨z0,q0,_,_⟩:=DataW.trod_int underlying3 h0;obtain⟨z1,q1,_,w1⟩:=DataW.trod_string underlying9 h1;obtain⟨z2,w2⟩:=cell_bytes underlying22 underlying5 (by kernel_rfl) h2;obtain⟨z3,q3,_,w3⟩:=DataW.trod_int underlying3 h3;obtain⟨z4,w4⟩:=cell_bytes underlying22 underlying5 (by kernel_rfl) h4;obtain⟨z5,q5,_,_⟩:=DataW.trod_int underlying3 h5;cases q0
 cases q1
 cases q3
 cases q5
 exact⟨(⟨z0,z1,z2,z3,z4,z5⟩,c2,c4),rfl,w2,w4,w1,wf_i64 w3⟩
theorem in_acts {r:Reach}{b0:Nat}{v:Value}{d:DataW H}{p:List MemPlace}(hv:Value.okWide prog w r b0 23 v) (h:DataW.Trod enc prog w base (fun _=>true) held 23 v d p):
  ∃ a cap,∃ L:List ActD,v=.slice a L.length cap∧ActsAt w a cap L:=by
 obtain⟨a,len,cap,rfl⟩:=okWide_slice underlying23 hv;obtain⟨fuel,hf⟩:=h;rcases open_slice underlying23 hf with ⟨hcs,_⟩|⟨x,l,c,m,n,D,Pl,hcs,_,hl,hm,hmm,_,hx⟩
 ·simp[Value.cells] at hcs;obtain⟨rfl,rfl,rfl⟩:=hcs;exact⟨none,0,[],rfl,Nat.le_refl _,by unfold maxLen;omega,fun j x hj=>by simp at hj⟩
 ·simp[Value.cells] at hcs;obtain⟨rfl,rfl,rfl⟩:=hcs;simp only[if_true] at hmm;rw[hmm] at hx
  have hone:∀ i,i<len→∃ q:ActD×Value×Value,∃ cs,cs.length=6∧(∀ j,j<6→w.cell? ((x.add (i*6)).add j)=cs[j]?)∧ActIs w cs q:=fun i hi=>by
   obtain⟨cs,h1,h2⟩:=hx i (by omega);rw[show prog.cellsOf 33=6 by kernel_rfl] at h1;obtain⟨_,h3,h4⟩:=World.cells?_some h1;obtain⟨q,hq⟩:=act_is h2;exact⟨q,cs,h3,h4,hq⟩
  have:Inhabited (ActD×Value×Value):=⟨(⟨0,ByteArray.empty,[],0,[],0⟩,undef,undef)⟩;obtain⟨f,hfq⟩:=choose_lt hone;refine⟨some x,cap,(List.range len).map (fun i=>(f i).1),by simp,by simpa using hl,hm,fun j y hj=>?_⟩
  have hjl:j<len:=by
   have:=(List.getElem?_eq_some_iff.1 hj).1
   simpa using this
  simp[List.getElem?_map,List.getElem?_range hjl] at hj;subst hj;obtain⟨cs,h3,h4,h5,h6,h7,h8,h9⟩:=hfq j hjl;subst h5;obtain⟨g,off,spot⟩:=x
  have hspot:spot=none:=by
   obtain⟨cs,k3,k4,k5,_⟩:=hfq 0 (by omega);subst k5;have hc0:=k4 0 (by omega);rw[add_nought] at hc0;exact World.cell?_spot hc0
  subst hspot
  have hcc:∀ k,k<6→w.cell? ⟨g,off+j*6+k,none⟩=([Value.int .i64 (f j).1.kind,.string (f j).1.what,(f j).2.1,.int .i64 (f j).1.unit,(f j).2.2,.int .i64 (f j).1.num]:List Value)[k]?:=fun k hk=>by
   have:=h4 k hk;rw[add2] at this;exact this
  refine⟨g,off,_,_,rfl,?_,hcc 0 (by omega),hcc 1 (by omega),hcc 2 (by omega),hcc 3 (by omega),hcc 4 (by omega),hcc 5 (by omega),h6,h7,h8,h9⟩;exact cell_lt (hcc 0 (by omega))
end
end Go.Proofs.YtbgfdbidbjlaaaaGreat.Fd

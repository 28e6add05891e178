/-
  More words for a region that draws its order. No condition: a tool for the other texts.
-/
import Derived.Test.YthmcbgidehjlbaaGreatRmRegion
namespace Go.Proofs.YthmcbgidehjlbaaGreat.RA
open Go
variable {c:Cx}{Z:Act→World→Prop}{os:List Oper}{i:Nat}{K:List (Nat×Value)}{G:List (Nat×(World→Prop))}{U:List Nat}{H:World→Prop}{ty:TypeId}{ps:String}{af:Array Edge}{gu:Option (Nat×Bool)}
theorem fr {d:Nat}{op:Op}(hk:kindOf c i=2) (hg:gd c.ops c.a0 K ⟨some d,op,ty,ps,af,gu⟩=true) (hs:∀ v,Stab c.R (c.tbl i v))
  (hr:∀ w,Pre c i G w→∃ y w',(execOp (ev c.a0 K) ⟨some d,op,ty,ps,af,gu⟩).run c.P w=.ok (.value y) w'∧c.E w w'∧c.tbl i y w')
  (h:∀ u,RA c Z os (i+1) ((d,u)::K) ((i,c.tbl i u)::G) (i::U) H):RA c Z (⟨some d,op,ty,ps,af,gu⟩::os) i K G U H:=
 RA.free hk hg hs (fun w hp=>by
  obtain⟨y,w',h1,h2,h3⟩:=hr w hp;unfold opw;rw[h1];exact⟨h2,h3⟩) h
theorem nst {op:Op}(hk:kindOf c i=2) (hg:gd c.ops c.a0 K ⟨none,op,ty,ps,af,gu⟩=true) (he:∀ w,c.E w w) (ht:∀ v w,c.tbl i v w)
  (hr:∀ w,Pre c i G w→(execOp (ev c.a0 K) ⟨none,op,ty,ps,af,gu⟩).run c.P w=.ok .skip w)
  (h:∀ u,RA c Z os (i+1) K ((i,c.tbl i u)::G) (i::U) H):RA c Z (⟨none,op,ty,ps,af,gu⟩::os) i K G U H:=
 RA.free hk hg (fun v w w' _ _=>ht v w') (fun w hp=>by
  unfold opw;rw[hr w hp];exact⟨he w,ht _ w⟩) h
theorem ex_callv {f:FuncId}{z:Operand}{xs:List Operand}{ats:Array TypeId}{ys:List Value}{ds:Option Nat}(hz:evo c K z=some (.func (.func f) #[] #[])) (ha:xs.map (evo c K)=ys.map some) (w:World){P:Program}
  (hf:(callFunc f ys.toArray).run P w=.ok (.enter f ys.toArray) w):
  (execOp (ev c.a0 K) ⟨ds,.call ⟨.value z,xs.toArray,ats⟩,ty,ps,af,gu⟩).run P w=.ok (.enter f ys.toArray) w:=by
 unfold execOp;simp only[resolve,invoke,evo_ev hz,List.map_toArray,map_evo ha]
 simpa [Deferred.ofValue] using hf
theorem kcv {d:Nat}{P:Program}{f:FuncId}{z:Operand}{xs:List Operand}{ats:Array TypeId}(ys:List Value) (y:Value) (h':World→Prop) (hf:∀ args w,(callFunc f args).run P w=.ok (.enter f args) w)
  (hk:kindOf c i=4) (hg:gd c.ops c.a0 K ⟨some d,.call ⟨.value z,xs.toArray,ats⟩,ty,ps,af,gu⟩=true) (hz:evo c K z=some (.func (.func f) #[] #[])) (ha:xs.map (evo c K)=ys.map some) (hu:(U.all fun k=>(c.pr.getD i 0).testBit k)=true) (he:Stab c.E h') (hP:c.P=P)
  (hr:∀ w,Pre c i G w→H w→Calls P f ys.toArray w fun e w'=>e=.returned y∧c.R w w'∧h' w')
  (hn:RA c Z os (i+1) ((d,y)::K) G (i::U) h'):RA c Z (⟨some d,.call ⟨.value z,xs.toArray,ats⟩,ty,ps,af,gu⟩::os) i K G U H:=
 k P y h' f (args:=ys.toArray) hk hg he hu hP (fun w=>ex_callv hz ha w (hf _ w)) hr hn
end Go.Proofs.YthmcbgidehjlbaaGreat.RA

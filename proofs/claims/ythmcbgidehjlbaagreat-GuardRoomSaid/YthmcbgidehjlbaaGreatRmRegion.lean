/-
  A rule for a region that draws its order: it is walked once, in the order of the text, each operation in whatever world it may meet.
  No condition: a tool for the other texts.
-/
import Derived.WalkKit
namespace Go.Proofs.YthmcbgidehjlbaaGreat.RA
open Go
def ev (a0:Act) (K:List (Nat×Value)):Operand→Value
 | .tmp t=>match K.lookup t with|some v=>v|none=>a0.eval (.tmp t)
 | .const v=>v
 | .global g=>.pointer (some ⟨g,0,none⟩)
 | .func f=>.func (.func f) #[] #[]
def gd (ops:List Oper) (a0:Act) (K:List (Nat×Value)) (o:Oper):Bool:=
 match o.guard with
 | none=>true
 | some (j,want)=>match (ops[j]?).bind (·.dst) with
  | some d=>match ev a0 K (.tmp d) with
   | .bool b=>b == want
   | _=>false
  | none=>false
def add (o:Oper) (v:Value) (K:List (Nat×Value)):List (Nat×Value):=
 match o.dst with
 | some d=>(d,v)::K
 | none=>K
def vd (o:Oper) (v:Value):Value:=match o.dst with|some _=>v|none=>undef
def opw (P:Program) (o:Oper) (ρ:Operand→Value) (w:World) (N:Value→World→Prop):Prop:=
 match (execOp ρ o).run P w with
 | .ok (.value v) w'=>N v w'
 | .ok .skip w'=>N undef w'
 | .ok (.enter f args) w'=>Calls P f args w' fun e w''=>∃ v,e=.returned v∧N v w''
 | _=>False
inductive PT where
 | nil
 | nxt (t:PT)
 | val (v:Value) (t:PT)
 | free (t:Value→PT)
 | sq (g h:Value→World→Prop) (t:Value→PT)
 | sqv (v:Value) (h:World→Prop) (t:PT)
structure St where
 t:PT
 K:List (Nat×Value)
 G:List (Nat×(World→Prop))
 U:List Nat
 H:World→Prop
structure Cx where
 P:Program
 R:World→World→Prop
 E:World→World→Prop
 a0:Act
 w0:World
 ops:List Oper
 pr:List Nat
 kd:List Nat
 tl:List Nat
 tbl:Nat→Value→World→Prop
def kindOf (c:Cx) (i:Nat):Nat:=
 if c.kd.getD i 9=0∨c.kd.getD i 9=5 then c.kd.getD i 9
 else if c.kd.getD i 9=6∨c.kd.getD i 9=7 then (if c.tl.contains i=true then c.kd.getD i 9 else 9)
 else if (c.tl.all fun t=>(c.pr.getD t 0).testBit i)=true then c.kd.getD i 9 else 9
def In (pr:List Nat) (i k:Nat):Prop:=(pr.getD i 0).testBit k=true
variable (c:Cx)
def Pre (i:Nat) (G:List (Nat×(World→Prop))) (w:World):Prop:=c.R c.w0 w∧∀ f ∈ G,In c.pr i f.1→f.2 w
def PreT (i:Nat) (G:List (Nat×(World→Prop))) (w:World):Prop:=(∀ t ∈ c.tl,¬ In c.pr i t)→Pre c i G w
def Stab (R:World→World→Prop) (F:World→Prop):Prop:=∀ w w',R w w'→F w→F w'
def adv (σ:Nat→Value) (i:Nat) (o:Oper) (s:St):St:=
 match s.t with
 | .nil=>s
 | .nxt t=>{ s with t:=t,K:=add o undef s.K }
 | .val v t=>{ s with t:=t,K:=add o v s.K }
 | .free t=>{ s with t:=t (σ i),K:=add o (σ i) s.K,G:=(i,c.tbl i (σ i))::s.G,U:=i::s.U }
 | .sq g h t=>{ t:=t (σ i),K:=add o (σ i) s.K,G:=(i,g (σ i))::s.G,U:=i::s.U,H:=h (σ i) }
 | .sqv v h t=>{ s with t:=t,K:=add o v s.K,U:=i::s.U,H:=h }
def Cond (i:Nat) (o:Oper) (s:St):Prop:=
 match s.t with
 | .nil=>False
 | .nxt _=>kindOf c i=0∧gd c.ops c.a0 s.K o=false
 | .val v _=>gd c.ops c.a0 s.K o=true∧((kindOf c i=1∧∀ w,Pre c i s.G w→(execOp (ev c.a0 s.K) o).run c.P w=.ok (.value v) w)∨(kindOf c i=5∧∀ w,(execOp (ev c.a0 s.K) o).run c.P w=.ok (.value v) w))
 | .free _=>kindOf c i=2∧gd c.ops c.a0 s.K o=true∧(∀ v,Stab c.R (c.tbl i v))∧
   ∀ w,Pre c i s.G w→opw c.P o (ev c.a0 s.K) w fun v w'=>c.E w w'∧c.tbl i (vd o v) w'
 | .sq g h _=>gd c.ops c.a0 s.K o=true∧(∀ v,Stab c.E (h v))∧(∀ k ∈ s.U,In c.pr i k)∧
   ((kindOf c i=3∧(∀ v,Stab c.R (g v))∧∀ w,Pre c i s.G w→s.H w→opw c.P o (ev c.a0 s.K) w fun v w'=>c.R w w'∧g (vd o v) w'∧h (vd o v) w')∨
    (kindOf c i=6∧(∀ v,Stab c.R (g v))∧∀ w,PreT c i s.G w→s.H w→opw c.P o (ev c.a0 s.K) w fun v w'=>h (vd o v) w'))
 | .sqv v h _=>gd c.ops c.a0 s.K o=true∧Stab c.E h∧(∀ k ∈ s.U,In c.pr i k)∧
   ((kindOf c i=4∧∀ w,Pre c i s.G w→s.H w→opw c.P o (ev c.a0 s.K) w fun v' w'=>(o.dst.isSome=true→v'=v)∧c.R w w'∧h w')∨
    (kindOf c i=7∧∀ w,PreT c i s.G w→s.H w→opw c.P o (ev c.a0 s.K) w fun v' w'=>(o.dst.isSome=true→v'=v)∧h w'))
def isL (n:Nat):Prop:=n=3∨n=4∨n=6∨n=7
def put (a0:Act) (K:List (Nat×Value)):Act:=K.foldr (fun p a=>a.put (some p.1) p.2) a0
def Good (Z:Act→World→Prop) (σ:Nat→Value):List Oper→Nat→St→Prop
 | [],_,s=>∀ w,(c.tl=[]→c.R c.w0 w)→(c.tl=[]→∀ f ∈ s.G,f.2 w)→s.H w→Z (put c.a0 s.K) w
 | o::os,i,s=>Cond c i o s∧Good Z σ os (i+1) (adv c σ i o s)
def RA (Z:Act→World→Prop) (os:List Oper) (i:Nat) (K:List (Nat×Value)) (G:List (Nat×(World→Prop))) (U:List Nat) (H:World→Prop):Prop:=
 ∃ t,∀ σ,Good c Z σ os i ⟨t,K,G,U,H⟩
section steps
variable {c}{Z:Act→World→Prop}{os:List Oper}{i:Nat}{K:List (Nat×Value)}{G:List (Nat×(World→Prop))}{U:List Nat}{H:World→Prop}{o:Oper}
theorem RA.done (ht:c.tl=[]) (h:∀ w,c.R c.w0 w→(∀ f ∈ G,f.2 w)→H w→Z (put c.a0 K) w):RA c Z [] i K G U H:=⟨.nil,fun _ w h1 h2 h3=>h w (h1 ht) (h2 ht) h3⟩
theorem RA.doneT (h:∀ w,H w→Z (put c.a0 K) w):RA c Z [] i K G U H:=⟨.nil,fun _ w _ _ h3=>h w h3⟩
theorem RA.skip (hk:kindOf c i=0) (hg:gd c.ops c.a0 K o=false) (h:RA c Z os (i+1) (add o undef K) G U H):RA c Z (o::os) i K G U H:=by
 obtain⟨t,ht⟩:=h;exact⟨.nxt t,fun σ=>⟨⟨hk,hg⟩,ht σ⟩⟩
theorem RA.val (v:Value) (hk:kindOf c i=1) (hg:gd c.ops c.a0 K o=true) (hr:∀ w,Pre c i G w→(execOp (ev c.a0 K) o).run c.P w=.ok (.value v) w)
  (h:RA c Z os (i+1) (add o v K) G U H):RA c Z (o::os) i K G U H:=by
 obtain⟨t,ht⟩:=h;exact⟨.val v t,fun σ=>⟨⟨hg,.inl ⟨hk,hr⟩⟩,ht σ⟩⟩
theorem RA.valp (v:Value) (hk:kindOf c i=5) (hg:gd c.ops c.a0 K o=true) (hr:∀ w,(execOp (ev c.a0 K) o).run c.P w=.ok (.value v) w)
  (h:RA c Z os (i+1) (add o v K) G U H):RA c Z (o::os) i K G U H:=by
 obtain⟨t,ht⟩:=h;exact⟨.val v t,fun σ=>⟨⟨hg,.inr ⟨hk,hr⟩⟩,ht σ⟩⟩
theorem RA.free (hk:kindOf c i=2) (hg:gd c.ops c.a0 K o=true) (hs:∀ v,Stab c.R (c.tbl i v))
  (hr:∀ w,Pre c i G w→opw c.P o (ev c.a0 K) w fun v w'=>c.E w w'∧c.tbl i (vd o v) w')
  (h:∀ u,RA c Z os (i+1) (add o u K) ((i,c.tbl i u)::G) (i::U) H):RA c Z (o::os) i K G U H:=by
 have ⟨t,ht⟩:=Classical.axiomOfChoice h;exact⟨.free t,fun σ=>⟨⟨hk,hg,hs,hr⟩,ht (σ i) σ⟩⟩
theorem RA.sq (g h:Value→World→Prop) (hk:kindOf c i=3) (hg:gd c.ops c.a0 K o=true) (hs:∀ v,Stab c.R (g v)) (he:∀ v,Stab c.E (h v)) (hu:(U.all fun k=>(c.pr.getD i 0).testBit k)=true)
  (hr:∀ w,Pre c i G w→H w→opw c.P o (ev c.a0 K) w fun v w'=>c.R w w'∧g (vd o v) w'∧h (vd o v) w')
  (hn:∀ u,RA c Z os (i+1) (add o u K) ((i,g u)::G) (i::U) (h u)):RA c Z (o::os) i K G U H:=by
 have ⟨t,ht⟩:=Classical.axiomOfChoice hn;exact⟨.sq g h t,fun σ=>⟨⟨hg,he,(List.all_eq_true.1 hu),.inl ⟨hk,hs,hr⟩⟩,ht (σ i) σ⟩⟩
theorem RA.sqt (h:Value→World→Prop) (hk:kindOf c i=6) (hg:gd c.ops c.a0 K o=true) (he:∀ v,Stab c.E (h v)) (hu:(U.all fun k=>(c.pr.getD i 0).testBit k)=true)
  (hr:∀ w,PreT c i G w→H w→opw c.P o (ev c.a0 K) w fun v w'=>h (vd o v) w')
  (hn:∀ u,RA c Z os (i+1) (add o u K) ((i,fun _=>True)::G) (i::U) (h u)):RA c Z (o::os) i K G U H:=by
 have ⟨t,ht⟩:=Classical.axiomOfChoice hn;exact⟨.sq (fun _ _=>True) h t,fun σ=>⟨⟨hg,he,(List.all_eq_true.1 hu),.inr ⟨hk,fun _ _ _ _ h=>h,hr⟩⟩,ht (σ i) σ⟩⟩
theorem RA.sqv (v:Value) (h:World→Prop) (hk:kindOf c i=4) (hg:gd c.ops c.a0 K o=true) (he:Stab c.E h) (hu:(U.all fun k=>(c.pr.getD i 0).testBit k)=true)
  (hr:∀ w,Pre c i G w→H w→opw c.P o (ev c.a0 K) w fun v' w'=>(o.dst.isSome=true→v'=v)∧c.R w w'∧h w')
  (hn:RA c Z os (i+1) (add o v K) G (i::U) h):RA c Z (o::os) i K G U H:=by
 obtain⟨t,ht⟩:=hn;exact⟨.sqv v h t,fun σ=>⟨⟨hg,he,(List.all_eq_true.1 hu),.inl ⟨hk,hr⟩⟩,ht σ⟩⟩
theorem RA.sqvt (v:Value) (h:World→Prop) (hk:kindOf c i=7) (hg:gd c.ops c.a0 K o=true) (he:Stab c.E h) (hu:(U.all fun k=>(c.pr.getD i 0).testBit k)=true)
  (hr:∀ w,PreT c i G w→H w→opw c.P o (ev c.a0 K) w fun v' w'=>(o.dst.isSome=true→v'=v)∧h w')
  (hn:RA c Z os (i+1) (add o v K) G (i::U) h):RA c Z (o::os) i K G U H:=by
 obtain⟨t,ht⟩:=hn;exact⟨.sqv v h t,fun σ=>⟨⟨hg,he,(List.all_eq_true.1 hu),.inr ⟨hk,hr⟩⟩,ht σ⟩⟩
end steps
def mask (acc:List Nat) (es:List Edge):Nat:=es.foldl (fun s e=>if Region.binds .any e then s ||| 2 ^ e.on ||| acc.getD e.on 0 else s) 0
def mkPr:List Oper→List Nat→List Nat
 | [],acc=>acc
 | o::os,acc=>mkPr os (acc++[mask acc o.after.toList])
def dstOf (ops:List Oper) (k:Nat):Option Nat:=(ops[k]?).bind (·.dst)
def idx:List (Option Nat)→Nat→Nat→Option Nat
 | [],_,_=>none
 | d::ds,t,i=>match d with
  | some d=>if d == t then some i else idx ds t (i+1)
  | none=>idx ds t (i+1)
def chk1 (n:Nat) (ds:List (Option Nat)) (pr:List Nat) (i:Nat) (o:Oper):Bool:=
 (match o.op with|.select ..=>false|_=>true) &&
 (match o.dst with|some d=>d<n && idx ds d 0 == some i|none=>true) &&
 (o.after.toList.all fun e=>!Region.binds .any e || e.on<i) &&
 (pr.getD i 0 == mask pr o.after.toList) &&
 (o.op.operands.toList.all fun x=>match x with
  | .tmp t=>(match idx ds t 0 with|some k=>(pr.getD i 0).testBit k || (pr.getD k 0).testBit i|none=>true)
  | _=>true) &&
 (match o.guard with|some (j,_)=>(pr.getD i 0).testBit j|none=>true)
def chkFrom (n:Nat) (ds:List (Option Nat)) (pr:List Nat):Nat→List Oper→Bool
 | _,[]=>true
 | i,o::os=>chk1 n ds pr i o && chkFrom n ds pr (i+1) os
def chk (n:Nat) (ops:List Oper) (pr:List Nat):Bool:=chkFrom n (ops.map (·.dst)) pr 0 ops
theorem Pre.fact {c:Cx}{i:Nat}{G:List (Nat×(World→Prop))}{w:World}(hp:Pre c i G w) (n:Nat){k:Nat}{F:World→Prop}(h:G[n]?=some (k,F)) (hk:(c.pr.getD i 0).testBit k=true):F w:=
 hp.2 (k,F) (List.mem_of_getElem? h) hk
def bs (a0:Act) (t:Nat):Value:=a0.eval (.tmp t)
@[go_sem] theorem ev_nil (a0:Act) (t:Nat):ev a0 [] (.tmp t)=bs a0 t:=rfl
@[go_sem] theorem ev_cons (a0:Act) (K:List (Nat×Value)) (d t:Nat) (v:Value):ev a0 ((d,v)::K) (.tmp t)=if t=d then v else ev a0 K (.tmp t):=by
 unfold ev;simp only[List.lookup_cons];by_cases h:t=d
 ·subst h;simp
 ·have:(t == d)=false:=by simpa using h
  simp[this,h]
@[go_sem] theorem ev_const (a0:Act) (K:List (Nat×Value)) (v:Value):ev a0 K (.const v)=v:=rfl
@[go_sem] theorem ev_global (a0:Act) (K:List (Nat×Value)) (g:Nat):ev a0 K (.global g)=.pointer (some ⟨g,0,none⟩):=rfl
@[go_sem] theorem ev_func (a0:Act) (K:List (Nat×Value)) (f:Nat):ev a0 K (.func f)=.func (.func f) #[] #[]:=rfl
attribute [go_sem] add
theorem opw_calls {P:Program}{o:Oper}{ρ:Operand→Value}{w:World}{N:Value→World→Prop}{f:FuncId}{args:Array Value}
  (hr:(execOp ρ o).run P w=.ok (.enter f args) w) (h:Calls P f args w fun e w'=>∃ v,e=.returned v∧N v w'):opw P o ρ w N:=by
 unfold opw;rw[hr];exact h
section user
variable {c:Cx}{Z:Act→World→Prop}{os:List Oper}{i:Nat}{K:List (Nat×Value)}{G:List (Nat×(World→Prop))}{U:List Nat}{H:World→Prop}{o:Oper}
theorem n (hk:kindOf c i=0) (hg:gd c.ops c.a0 K o=false) (h:RA c Z os (i+1) (add o undef K) G U H):RA c Z (o::os) i K G U H:=RA.skip hk hg h
theorem v (P:Program){x:Value}(hk:kindOf c i=1) (hg:gd c.ops c.a0 K o=true) (hP:c.P=P) (hr:∀ w,Pre c i G w→(execOp (ev c.a0 K) o).run P w=.ok (.value x) w)
  (h:RA c Z os (i+1) (add o x K) G U H):RA c Z (o::os) i K G U H:=RA.val x hk hg (by rw[hP];exact hr) h
theorem k (P:Program) (x:Value) (h':World→Prop) (f:FuncId){args:Array Value}(hk:kindOf c i=4) (hg:gd c.ops c.a0 K o=true) (he:Stab c.E h') (hu:(U.all fun k=>(c.pr.getD i 0).testBit k)=true) (hP:c.P=P)
  (hx:∀ w,(execOp (ev c.a0 K) o).run P w=.ok (.enter f args) w)
  (hr:∀ w,Pre c i G w→H w→Calls P f args w fun e w'=>e=.returned x∧c.R w w'∧h' w')
  (hn:RA c Z os (i+1) (add o x K) G (i::U) h'):RA c Z (o::os) i K G U H:=
 RA.sqv x h' hk hg he hu (fun w hp hH=>opw_calls (by rw[hP];exact hx w) (by rw[hP];exact (hr w hp hH).mono fun e w' ⟨h1,h2,h3⟩=>⟨x,h1,fun _=>rfl,h2,h3⟩)) hn
theorem q (P:Program) (g h':Value→World→Prop) (f:FuncId){args:Array Value}(hk:kindOf c i=3) (hg:gd c.ops c.a0 K o=true) (hd:o.dst.isSome=true) (hs:∀ v,Stab c.R (g v)) (he:∀ v,Stab c.E (h' v)) (hu:(U.all fun k=>(c.pr.getD i 0).testBit k)=true) (hP:c.P=P)
  (hx:∀ w,(execOp (ev c.a0 K) o).run P w=.ok (.enter f args) w)
  (hr:∀ w,Pre c i G w→H w→Calls P f args w fun e w'=>∃ x,e=.returned x∧c.R w w'∧g x w'∧h' x w')
  (hn:∀ u,RA c Z os (i+1) (add o u K) ((i,g u)::G) (i::U) (h' u)):RA c Z (o::os) i K G U H:=
 RA.sq g h' hk hg hs he hu (fun w hp hH=>opw_calls (by rw[hP];exact hx w) (by
  rw[hP]
  have e:∀ x,vd o x=x:=fun x=>by
   unfold vd;cases hd':o.dst<;>simp[hd'] at hd ⊢
  exact (hr w hp hH).mono fun e' w' ⟨x,h1,h2,h3,h4⟩=>⟨x,h1,h2,by rw[e];exact h3,by rw[e];exact h4⟩)) hn
def evo (c:Cx) (K:List (Nat×Value)):Operand→Option Value
 | .tmp t=>match K.lookup t with|some v=>some v|none=>c.a0.tmps.toList[t]?
 | .const v=>some v
 | .global g=>some (.pointer (some ⟨g,0,none⟩))
 | .func f=>some (.func (.func f) #[] #[])
theorem evo_ev {x:Operand}{y:Value}(h:evo c K x=some y):ev c.a0 K x=y:=by
 cases x with
 | tmp t=>
  simp only[evo,ev] at h ⊢;cases hl:K.lookup t with
  | some v=>simp only[hl,Option.some.injEq] at h ⊢;exact h
  | none=>
   simp only[hl] at h ⊢;have h':c.a0.tmps[t]?=some y:=by simpa using h
   simp[Act.eval,h']
 | const v=>exact Option.some.inj h
 | global g=>exact Option.some.inj h
 | func f=>exact Option.some.inj h
theorem pv {d:Nat}{y:Value}(hk:kindOf c i=1) (hg:gd c.ops c.a0 K o=true) (hd:o.dst=some d) (hr:∀ w,Pre c i G w→(execOp (ev c.a0 K) o).run c.P w=.ok (.value y) w)
  (h:RA c Z os (i+1) ((d,y)::K) G U H):RA c Z (o::os) i K G U H:=
 RA.val y hk hg hr (by simpa [add,hd] using h)
section pures
variable {d:Nat}{x x' x'':Operand}{y y':Value}{ty tx tx':TypeId}{ps:String}{af:Array Edge}{gu:Option (Nat×Bool)}
theorem mv (hk:kindOf c i=1) (hg:gd c.ops c.a0 K ⟨some d,.move x,ty,ps,af,gu⟩=true) (hx:evo c K x=some y) (h:RA c Z os (i+1) ((d,y)::K) G U H):RA c Z (⟨some d,.move x,ty,ps,af,gu⟩::os) i K G U H:=
 pv hk hg rfl (fun w _=>by simp[go_sem,execOp,evo_ev hx]) h
theorem as (hk:kindOf c i=1) (hg:gd c.ops c.a0 K ⟨some d,.assign x,ty,ps,af,gu⟩=true) (hx:evo c K x=some y) (h:RA c Z os (i+1) ((d,y)::K) G U H):RA c Z (⟨some d,.assign x,ty,ps,af,gu⟩::os) i K G U H:=
 pv hk hg rfl (fun w _=>by simp[go_sem,execOp,evo_ev hx]) h
theorem pt (hk:kindOf c i=1) (hg:gd c.ops c.a0 K ⟨some d,.pick x x' x'',ty,ps,af,gu⟩=true) (hx:evo c K x=some (.bool true)) (hy:evo c K x'=some y) (h:RA c Z os (i+1) ((d,y)::K) G U H):RA c Z (⟨some d,.pick x x' x'',ty,ps,af,gu⟩::os) i K G U H:=
 pv hk hg rfl (fun w _=>by simp[go_sem,execOp,evo_ev hx,evo_ev hy]) h
theorem pf (hk:kindOf c i=1) (hg:gd c.ops c.a0 K ⟨some d,.pick x x' x'',ty,ps,af,gu⟩=true) (hx:evo c K x=some (.bool false)) (hy:evo c K x''=some y) (h:RA c Z os (i+1) ((d,y)::K) G U H):RA c Z (⟨some d,.pick x x' x'',ty,ps,af,gu⟩::os) i K G U H:=
 pv hk hg rfl (fun w _=>by simp[go_sem,execOp,evo_ev hx,evo_ev hy]) h
theorem eq {k:IntKind}{a b:Int}(r:Bool) (hk:kindOf c i=1) (hg:gd c.ops c.a0 K ⟨some d,.binOp .eql tx x x' tx',ty,ps,af,gu⟩=true) (hx:evo c K x=some (.int k a)) (hy:evo c K x'=some (.int k b)) (hr:(a == b)=r) (h:RA c Z os (i+1) ((d,.bool r)::K) G U H):RA c Z (⟨some d,.binOp .eql tx x x' tx',ty,ps,af,gu⟩::os) i K G U H:=
 pv hk hg rfl (fun w _=>by simp[go_sem,execOp,evo_ev hx,evo_ev hy,← hr]) h
theorem ne {k:IntKind}{a b:Int}(r:Bool) (hk:kindOf c i=1) (hg:gd c.ops c.a0 K ⟨some d,.binOp .neq tx x x' tx',ty,ps,af,gu⟩=true) (hx:evo c K x=some (.int k a)) (hy:evo c K x'=some (.int k b)) (hr:(a != b)=r) (h:RA c Z os (i+1) ((d,.bool r)::K) G U H):RA c Z (⟨some d,.binOp .neq tx x x' tx',ty,ps,af,gu⟩::os) i K G U H:=
 pv hk hg rfl (fun w _=>by simp[go_sem,execOp,evo_ev hx,evo_ev hy,← hr]) h
theorem lt {k:IntKind}{a b:Int}(r:Bool) (hk:kindOf c i=1) (hg:gd c.ops c.a0 K ⟨some d,.binOp .lss tx x x' tx',ty,ps,af,gu⟩=true) (hx:evo c K x=some (.int k a)) (hy:evo c K x'=some (.int k b)) (hr:decide (a<b)=r) (h:RA c Z os (i+1) ((d,.bool r)::K) G U H):RA c Z (⟨some d,.binOp .lss tx x x' tx',ty,ps,af,gu⟩::os) i K G U H:=
 pv hk hg rfl (fun w _=>by simp[go_sem,execOp,evo_ev hx,evo_ev hy,← hr]) h
theorem le {k:IntKind}{a b:Int}(r:Bool) (hk:kindOf c i=1) (hg:gd c.ops c.a0 K ⟨some d,.binOp .leq tx x x' tx',ty,ps,af,gu⟩=true) (hx:evo c K x=some (.int k a)) (hy:evo c K x'=some (.int k b)) (hr:decide (a≤b)=r) (h:RA c Z os (i+1) ((d,.bool r)::K) G U H):RA c Z (⟨some d,.binOp .leq tx x x' tx',ty,ps,af,gu⟩::os) i K G U H:=
 pv hk hg rfl (fun w _=>by simp[go_sem,execOp,evo_ev hx,evo_ev hy,← hr]) h
theorem ge {k:IntKind}{a b:Int}(r:Bool) (hk:kindOf c i=1) (hg:gd c.ops c.a0 K ⟨some d,.binOp .geq tx x x' tx',ty,ps,af,gu⟩=true) (hx:evo c K x=some (.int k a)) (hy:evo c K x'=some (.int k b)) (hr:decide (b≤a)=r) (h:RA c Z os (i+1) ((d,.bool r)::K) G U H):RA c Z (⟨some d,.binOp .geq tx x x' tx',ty,ps,af,gu⟩::os) i K G U H:=
 pv hk hg rfl (fun w _=>by simp[go_sem,execOp,evo_ev hx,evo_ev hy,← hr]) h
theorem es {a b:ByteArray}(r:Bool) (hk:kindOf c i=1) (hg:gd c.ops c.a0 K ⟨some d,.binOp .eql tx x x' tx',ty,ps,af,gu⟩=true) (hx:evo c K x=some (.string a)) (hy:evo c K x'=some (.string b)) (hr:(a.toList == b.toList)=r) (h:RA c Z os (i+1) ((d,.bool r)::K) G U H):RA c Z (⟨some d,.binOp .eql tx x x' tx',ty,ps,af,gu⟩::os) i K G U H:=
 pv hk hg rfl (fun w _=>by simp[go_sem,execOp,evo_ev hx,evo_ev hy,← hr]) h
theorem nt {b:Bool}(hk:kindOf c i=1) (hg:gd c.ops c.a0 K ⟨some d,.unOp .not tx x,ty,ps,af,gu⟩=true) (hx:evo c K x=some (.bool b)) (h:RA c Z os (i+1) ((d,.bool (!b))::K) G U H):RA c Z (⟨some d,.unOp .not tx x,ty,ps,af,gu⟩::os) i K G U H:=
 pv hk hg rfl (fun w _=>by simp[go_sem,execOp,evo_ev hx]) h
theorem cv (hk:kindOf c i=1) (hg:gd c.ops c.a0 K ⟨some d,.convert tx tx' x,ty,ps,af,gu⟩=true) (hx:evo c K x=some y) (hr:∀ w,Pre c i G w→(convert tx tx' y).run c.P w=.ok y' w) (h:RA c Z os (i+1) ((d,y')::K) G U H):RA c Z (⟨some d,.convert tx tx' x,ty,ps,af,gu⟩::os) i K G U H:=
 pv hk hg rfl (fun w hp=>by simp[go_sem,execOp,evo_ev hx,hr w hp]) h
theorem ld (hk:kindOf c i=1) (hg:gd c.ops c.a0 K ⟨some d,.load tx x,ty,ps,af,gu⟩=true) (hx:evo c K x=some y) (hr:∀ w,Pre c i G w→(Instr.loadAt tx y).run c.P w=.ok y' w) (h:RA c Z os (i+1) ((d,y')::K) G U H):RA c Z (⟨some d,.load tx x,ty,ps,af,gu⟩::os) i K G U H:=
 pv hk hg rfl (fun w hp=>by simp[execOp,evo_ev hx,hr w hp]) h
theorem map_evo {xs:List Operand}{ys:List Value}(h:xs.map (evo c K)=ys.map some):xs.map (ev c.a0 K)=ys:=by
 induction xs generalizing ys with
 | nil=>cases ys with
  | nil=>rfl
  | cons y ys=>cases h
 | cons x xs ih=>cases ys with
  | nil=>cases h
  | cons y ys=>
   simp only[List.map_cons,List.cons.injEq] at h ⊢;exact⟨evo_ev h.1,ih h.2⟩
theorem ex_call {f:FuncId}{xs:List Operand}{ats:Array TypeId}{ys:List Value}{ds:Option Nat}(ha:xs.map (evo c K)=ys.map some):
  execOp (ev c.a0 K) ⟨ds,.call ⟨.value (.func f),xs.toArray,ats⟩,ty,ps,af,gu⟩=callFunc f ys.toArray:=by
 have:execOp (ev c.a0 K) ⟨ds,.call ⟨.value (.func f),xs.toArray,ats⟩,ty,ps,af,gu⟩=callFunc f (#[]++xs.toArray.map (ev c.a0 K)++#[]):=rfl;rw[this,List.map_toArray,map_evo ha];simp
theorem kc {P:Program}{f:FuncId}{xs:List Operand}{ats:Array TypeId}(ys:List Value) (y:Value) (h':World→Prop) (hf:∀ args w,(callFunc f args).run P w=.ok (.enter f args) w)
  (hk:kindOf c i=4) (hg:gd c.ops c.a0 K ⟨some d,.call ⟨.value (.func f),xs.toArray,ats⟩,ty,ps,af,gu⟩=true) (ha:xs.map (evo c K)=ys.map some) (hu:(U.all fun k=>(c.pr.getD i 0).testBit k)=true) (he:Stab c.E h') (hP:c.P=P)
  (hr:∀ w,Pre c i G w→H w→Calls P f ys.toArray w fun e w'=>e=.returned y∧c.R w w'∧h' w')
  (hn:RA c Z os (i+1) ((d,y)::K) G (i::U) h'):RA c Z (⟨some d,.call ⟨.value (.func f),xs.toArray,ats⟩,ty,ps,af,gu⟩::os) i K G U H:=
 k P y h' f (args:=ys.toArray) hk hg he hu hP (fun w=>by rw[ex_call ha];exact hf _ w) hr hn
theorem qc {P:Program}{f:FuncId}{xs:List Operand}{ats:Array TypeId}(ys:List Value) (g h':Value→World→Prop) (hf:∀ args w,(callFunc f args).run P w=.ok (.enter f args) w)
  (hk:kindOf c i=3) (hg:gd c.ops c.a0 K ⟨some d,.call ⟨.value (.func f),xs.toArray,ats⟩,ty,ps,af,gu⟩=true) (ha:xs.map (evo c K)=ys.map some) (hu:(U.all fun k=>(c.pr.getD i 0).testBit k)=true) (hs:∀ v,Stab c.R (g v)) (he:∀ v,Stab c.E (h' v)) (hP:c.P=P)
  (hr:∀ w,Pre c i G w→H w→Calls P f ys.toArray w fun e w'=>∃ x,e=.returned x∧c.R w w'∧g x w'∧h' x w')
  (hn:∀ u,RA c Z os (i+1) ((d,u)::K) ((i,g u)::G) (i::U) (h' u)):RA c Z (⟨some d,.call ⟨.value (.func f),xs.toArray,ats⟩,ty,ps,af,gu⟩::os) i K G U H:=
 q P g h' f (args:=ys.toArray) hk hg rfl hs he hu hP (fun w=>by rw[ex_call ha];exact hf _ w) hr hn
theorem fa {n:Nat}(hk:kindOf c i=1) (hg:gd c.ops c.a0 K ⟨some d,.fieldAddr tx x n,ty,ps,af,gu⟩=true) (hx:evo c K x=some y) (hr:∀ w,Pre c i G w→(Instr.fieldAt tx y n).run c.P w=.ok y' w) (h:RA c Z os (i+1) ((d,y')::K) G U H):RA c Z (⟨some d,.fieldAddr tx x n,ty,ps,af,gu⟩::os) i K G U H:=
 pv hk hg rfl (fun w hp=>by simp[execOp,evo_ev hx,hr w hp]) h
theorem nc {ad:Addr}(hk:kindOf c i=1) (hg:gd c.ops c.a0 K ⟨some d,.nilCheck x,ty,ps,af,gu⟩=true) (hx:evo c K x=some (.pointer (some ad))) (h:RA c Z os (i+1) ((d,.pointer (some ad))::K) G U H):RA c Z (⟨some d,.nilCheck x,ty,ps,af,gu⟩::os) i K G U H:=
 pv hk hg rfl (fun w hp=>by simp[execOp,evo_ev hx]) h
theorem ia (hk:kindOf c i=1) (hg:gd c.ops c.a0 K ⟨some d,.indexAddr tx x x',ty,ps,af,gu⟩=true){z:Value}(hx:evo c K x=some y) (hz:evo c K x'=some z) (hr:∀ w,Pre c i G w→(Instr.indexAt tx y z).run c.P w=.ok y' w) (h:RA c Z os (i+1) ((d,y')::K) G U H):RA c Z (⟨some d,.indexAddr tx x x',ty,ps,af,gu⟩::os) i K G U H:=
 pv hk hg rfl (fun w hp=>by simp[execOp,evo_ev hx,evo_ev hz,hr w hp]) h
theorem ix (hk:kindOf c i=1) (hg:gd c.ops c.a0 K ⟨some d,.index tx x x',ty,ps,af,gu⟩=true){z:Value}(hx:evo c K x=some y) (hz:evo c K x'=some z) (hr:∀ w,Pre c i G w→(Instr.index tx y z).run c.P w=.ok y' w) (h:RA c Z os (i+1) ((d,y')::K) G U H):RA c Z (⟨some d,.index tx x x',ty,ps,af,gu⟩::os) i K G U H:=
 pv hk hg rfl (fun w hp=>by simp[execOp,evo_ev hx,evo_ev hz,hr w hp]) h
theorem slo (hk:kindOf c i=1) (hg:gd c.ops c.a0 K ⟨some d,.slice tx x (some x') none none,ty,ps,af,gu⟩=true){z:Value}(hx:evo c K x=some y) (hz:evo c K x'=some z) (hr:∀ w,Pre c i G w→(Instr.sliceAt tx y (some z) none none).run c.P w=.ok y' w) (h:RA c Z os (i+1) ((d,y')::K) G U H):RA c Z (⟨some d,.slice tx x (some x') none none,ty,ps,af,gu⟩::os) i K G U H:=
 pv hk hg rfl (fun w hp=>by simp[execOp,evo_ev hx,evo_ev hz,hr w hp]) h
theorem shi (hk:kindOf c i=1) (hg:gd c.ops c.a0 K ⟨some d,.slice tx x none (some x') none,ty,ps,af,gu⟩=true){z:Value}(hx:evo c K x=some y) (hz:evo c K x'=some z) (hr:∀ w,Pre c i G w→(Instr.sliceAt tx y none (some z) none).run c.P w=.ok y' w) (h:RA c Z os (i+1) ((d,y')::K) G U H):RA c Z (⟨some d,.slice tx x none (some x') none,ty,ps,af,gu⟩::os) i K G U H:=
 pv hk hg rfl (fun w hp=>by simp[execOp,evo_ev hx,evo_ev hz,hr w hp]) h
theorem slh (hk:kindOf c i=1) (hg:gd c.ops c.a0 K ⟨some d,.slice tx x (some x') (some x'') none,ty,ps,af,gu⟩=true){z z':Value}(hx:evo c K x=some y) (hz:evo c K x'=some z) (hz':evo c K x''=some z') (hr:∀ w,Pre c i G w→(Instr.sliceAt tx y (some z) (some z') none).run c.P w=.ok y' w) (h:RA c Z os (i+1) ((d,y')::K) G U H):RA c Z (⟨some d,.slice tx x (some x') (some x'') none,ty,ps,af,gu⟩::os) i K G U H:=
 pv hk hg rfl (fun w hp=>by simp[execOp,evo_ev hx,evo_ev hz,evo_ev hz',hr w hp]) h
theorem sal (hk:kindOf c i=1) (hg:gd c.ops c.a0 K ⟨some d,.slice tx x none none none,ty,ps,af,gu⟩=true) (hx:evo c K x=some y) (hr:∀ w,Pre c i G w→(Instr.sliceAt tx y none none none).run c.P w=.ok y' w) (h:RA c Z os (i+1) ((d,y')::K) G U H):RA c Z (⟨some d,.slice tx x none none none,ty,ps,af,gu⟩::os) i K G U H:=
 pv hk hg rfl (fun w hp=>by simp[execOp,evo_ev hx,hr w hp]) h
theorem ai {a b:Int}(hk:kindOf c i=1) (hg:gd c.ops c.a0 K ⟨some d,.binOp .add tx x x' tx',ty,ps,af,gu⟩=true) (hx:evo c K x=some (.int .i64 a)) (hz:evo c K x'=some (.int .i64 b)) (r:Int) (he:a+b=r) (hr:-9223372036854775808≤r∧r≤9223372036854775807) (h:RA c Z os (i+1) ((d,.int .i64 r)::K) G U H):RA c Z (⟨some d,.binOp .add tx x x' tx',ty,ps,af,gu⟩::os) i K G U H:=
 pv hk hg rfl (fun w hp=>by
  have e:IntKind.i64.wrap r=r:=by
   simp[IntKind.wrap,IntKind.signed,IntKind.bits];omega
  simp[go_sem,execOp,evo_ev hx,evo_ev hz,Op.intArith,he,e]) h
theorem si {a b:Int}(hk:kindOf c i=1) (hg:gd c.ops c.a0 K ⟨some d,.binOp .sub tx x x' tx',ty,ps,af,gu⟩=true) (hx:evo c K x=some (.int .i64 a)) (hz:evo c K x'=some (.int .i64 b)) (r:Int) (he:a - b=r) (hr:-9223372036854775808≤r∧r≤9223372036854775807) (h:RA c Z os (i+1) ((d,.int .i64 r)::K) G U H):RA c Z (⟨some d,.binOp .sub tx x x' tx',ty,ps,af,gu⟩::os) i K G U H:=
 pv hk hg rfl (fun w hp=>by
  have e:IntKind.i64.wrap r=r:=by
   simp[IntKind.wrap,IntKind.signed,IntKind.bits];omega
  simp[go_sem,execOp,evo_ev hx,evo_ev hz,Op.intArith,he,e]) h
theorem mi {a b:Int}(hk:kindOf c i=1) (hg:gd c.ops c.a0 K ⟨some d,.binOp .mul tx x x' tx',ty,ps,af,gu⟩=true) (hx:evo c K x=some (.int .i64 a)) (hz:evo c K x'=some (.int .i64 b)) (r:Int) (he:a*b=r) (hr:-9223372036854775808≤r∧r≤9223372036854775807) (h:RA c Z os (i+1) ((d,.int .i64 r)::K) G U H):RA c Z (⟨some d,.binOp .mul tx x x' tx',ty,ps,af,gu⟩::os) i K G U H:=
 pv hk hg rfl (fun w hp=>by
  have e:IntKind.i64.wrap r=r:=by
   simp[IntKind.wrap,IntKind.signed,IntKind.bits];omega
  simp[go_sem,execOp,evo_ev hx,evo_ev hz,Op.intArith,he,e]) h
theorem ln (hk:kindOf c i=1) (hg:gd c.ops c.a0 K ⟨some d,.call ⟨.builtin .len,#[x],#[tx]⟩,ty,ps,af,gu⟩=true) (hx:evo c K x=some y) (hr:∀ w,Pre c i G w→(Builtin.len_ #[tx] ty #[y]).run c.P w=.ok y' w) (h:RA c Z os (i+1) ((d,y')::K) G U H):RA c Z (⟨some d,.call ⟨.builtin .len,#[x],#[tx]⟩,ty,ps,af,gu⟩::os) i K G U H:=
 pv hk hg rfl (fun w hp=>by simp[go_sem,evo_ev hx,hr w hp]) h
theorem bc (y:Value) (h':World→Prop){op:Op}(hk:kindOf c i=4) (hg:gd c.ops c.a0 K ⟨some d,op,ty,ps,af,gu⟩=true) (hu:(U.all fun k=>(c.pr.getD i 0).testBit k)=true) (he:Stab c.E h')
  (hr:∀ w,Pre c i G w→H w→∃ w',(execOp (ev c.a0 K) ⟨some d,op,ty,ps,af,gu⟩).run c.P w=.ok (.value y) w'∧c.R w w'∧h' w')
  (hn:RA c Z os (i+1) ((d,y)::K) G (i::U) h'):RA c Z (⟨some d,op,ty,ps,af,gu⟩::os) i K G U H:=
 RA.sqv y h' hk hg he hu (fun w hp hH=>by
  obtain⟨w',h1,h2,h3⟩:=hr w hp hH;unfold opw;rw[h1];exact⟨fun _=>rfl,h2,h3⟩) hn
theorem bq (g h':Value→World→Prop){op:Op}(hk:kindOf c i=3) (hg:gd c.ops c.a0 K ⟨some d,op,ty,ps,af,gu⟩=true) (hu:(U.all fun k=>(c.pr.getD i 0).testBit k)=true) (hs:∀ v,Stab c.R (g v)) (he:∀ v,Stab c.E (h' v))
  (hr:∀ w,Pre c i G w→H w→∃ y w',(execOp (ev c.a0 K) ⟨some d,op,ty,ps,af,gu⟩).run c.P w=.ok (.value y) w'∧c.R w w'∧g y w'∧h' y w')
  (hn:∀ u,RA c Z os (i+1) ((d,u)::K) ((i,g u)::G) (i::U) (h' u)):RA c Z (⟨some d,op,ty,ps,af,gu⟩::os) i K G U H:=
 RA.sq g h' hk hg hs he hu (fun w hp hH=>by
  obtain⟨y,w',h1,h2,h3,h4⟩:=hr w hp hH;unfold opw;rw[h1];exact⟨h2,h3,h4⟩) hn
theorem ex_copy {z:Operand}{t1 t2:TypeId}{ds:Option Nat}{P:Program}{w w':World}{p q y:Value}(hx:evo c K x=some p) (hz:evo c K z=some q) (hr:(Builtin.copy_ #[t1,t2] ty #[p,q]).run P w=.ok y w'):
  (execOp (ev c.a0 K) ⟨ds,.call ⟨.builtin .copy,#[x,z],#[t1,t2]⟩,ty,ps,af,gu⟩).run P w=.ok (.value y) w':=by
 unfold execOp;simp only[resolve,invoke,builtin,Sem.run_bind,Sem.run_pure,Result.andThen_ok,List.map_toArray,List.map_cons,List.map_nil,evo_ev hx,evo_ev hz,hr]
theorem ex_append {z:Operand}{t1 t2:TypeId}{ds:Option Nat}{P:Program}{w w':World}{p q y:Value}(hx:evo c K x=some p) (hz:evo c K z=some q) (hr:(Builtin.append_ #[t1,t2] ty #[p,q]).run P w=.ok y w'):
  (execOp (ev c.a0 K) ⟨ds,.call ⟨.builtin .append,#[x,z],#[t1,t2]⟩,ty,ps,af,gu⟩).run P w=.ok (.value y) w':=by
 unfold execOp;simp only[resolve,invoke,builtin,Sem.run_bind,Sem.run_pure,Result.andThen_ok,List.map_toArray,List.map_cons,List.map_nil,evo_ev hx,evo_ev hz,hr]
theorem _root_.Go.Proofs.YthmcbgidehjlbaaGreat.RA.PreT.first {c:Cx}{i:Nat}{G:List (Nat×(World→Prop))}{w:World}(h:PreT c i G w) (hc:(c.tl.all fun t=>!(c.pr.getD i 0).testBit t)=true):Pre c i G w:=
 h fun t ht hin=>by
  have:=List.all_eq_true.1 hc t ht;unfold In at hin;rw[hin] at this;cases this
theorem stt (h':World→Prop){op:Op}(hk:kindOf c i=7) (hg:gd c.ops c.a0 K ⟨none,op,ty,ps,af,gu⟩=true) (hu:(U.all fun k=>(c.pr.getD i 0).testBit k)=true) (he:Stab c.E h')
  (hr:∀ w,PreT c i G w→H w→∃ w',(execOp (ev c.a0 K) ⟨none,op,ty,ps,af,gu⟩).run c.P w=.ok .skip w'∧h' w')
  (hn:RA c Z os (i+1) K G (i::U) h'):RA c Z (⟨none,op,ty,ps,af,gu⟩::os) i K G U H:=
 RA.sqvt undef h' hk hg he hu (fun w hp hH=>by
  obtain⟨w',h1,h2⟩:=hr w hp hH;unfold opw;rw[h1];exact⟨fun h=>(by cases h),h2⟩) hn
theorem bqt (h':Value→World→Prop){op:Op}(hk:kindOf c i=6) (hg:gd c.ops c.a0 K ⟨some d,op,ty,ps,af,gu⟩=true) (hu:(U.all fun k=>(c.pr.getD i 0).testBit k)=true) (he:∀ v,Stab c.E (h' v))
  (hr:∀ w,PreT c i G w→H w→∃ y w',(execOp (ev c.a0 K) ⟨some d,op,ty,ps,af,gu⟩).run c.P w=.ok (.value y) w'∧h' y w')
  (hn:∀ u,RA c Z os (i+1) ((d,u)::K) ((i,fun _=>True)::G) (i::U) (h' u)):RA c Z (⟨some d,op,ty,ps,af,gu⟩::os) i K G U H:=
 RA.sqt h' hk hg he hu (fun w hp hH=>by
  obtain⟨y,w',h1,h2⟩:=hr w hp hH;unfold opw;rw[h1];exact h2) hn
theorem pw {d:Nat}{op:Op}{y:Value}(hk:kindOf c i=5) (hg:gd c.ops c.a0 K ⟨some d,op,ty,ps,af,gu⟩=true) (hr:∀ w,(execOp (ev c.a0 K) ⟨some d,op,ty,ps,af,gu⟩).run c.P w=.ok (.value y) w)
  (h:RA c Z os (i+1) ((d,y)::K) G U H):RA c Z (⟨some d,op,ty,ps,af,gu⟩::os) i K G U H:=
 RA.valp y hk hg hr h
theorem pnc {d:Nat}{ad:Addr}(hk:kindOf c i=5) (hg:gd c.ops c.a0 K ⟨some d,.nilCheck x,ty,ps,af,gu⟩=true) (hx:evo c K x=some (.pointer (some ad))) (h:RA c Z os (i+1) ((d,.pointer (some ad))::K) G U H):RA c Z (⟨some d,.nilCheck x,ty,ps,af,gu⟩::os) i K G U H:=
 pw hk hg (fun w=>by simp[execOp,evo_ev hx]) h
theorem pmv {d:Nat}(hk:kindOf c i=5) (hg:gd c.ops c.a0 K ⟨some d,.move x,ty,ps,af,gu⟩=true) (hx:evo c K x=some y) (h:RA c Z os (i+1) ((d,y)::K) G U H):RA c Z (⟨some d,.move x,ty,ps,af,gu⟩::os) i K G U H:=
 pw hk hg (fun w=>by simp[execOp,evo_ev hx]) h
theorem pfa {d n:Nat}(hk:kindOf c i=5) (hg:gd c.ops c.a0 K ⟨some d,.fieldAddr tx x n,ty,ps,af,gu⟩=true) (hx:evo c K x=some y) (hr:∀ w,(Instr.fieldAt tx y n).run c.P w=.ok y' w) (h:RA c Z os (i+1) ((d,y')::K) G U H):RA c Z (⟨some d,.fieldAddr tx x n,ty,ps,af,gu⟩::os) i K G U H:=
 pw hk hg (fun w=>by simp[execOp,evo_ev hx,hr w]) h
theorem ex_store {P:Program}{w w':World}{p q:Value}{z:Operand}{ds:Option Nat}(hx:evo c K x=some p) (hz:evo c K z=some q) (hr:(Instr.storeAt tx p q).run P w=.ok () w'):
  (execOp (ev c.a0 K) ⟨ds,.store tx x z,ty,ps,af,gu⟩).run P w=.ok .skip w':=by
 unfold execOp;simp only[evo_ev hx,evo_ev hz,Sem.run_bind,hr];rfl
theorem st (h':World→Prop){op:Op}(hk:kindOf c i=4) (hg:gd c.ops c.a0 K ⟨none,op,ty,ps,af,gu⟩=true) (hu:(U.all fun k=>(c.pr.getD i 0).testBit k)=true) (he:Stab c.E h')
  (hr:∀ w,Pre c i G w→H w→∃ w',(execOp (ev c.a0 K) ⟨none,op,ty,ps,af,gu⟩).run c.P w=.ok .skip w'∧c.R w w'∧h' w')
  (hn:RA c Z os (i+1) K G (i::U) h'):RA c Z (⟨none,op,ty,ps,af,gu⟩::os) i K G U H:=
 RA.sqv undef h' hk hg he hu (fun w hp hH=>by
  obtain⟨w',h1,h2,h3⟩:=hr w hp hH;unfold opw;rw[h1];exact⟨fun h=>(by cases h),h2,h3⟩) hn
def qv (c:Cx) (K:List (Nat×Value)):Op→Option Value
 | .move x=>evo c K x
 | .assign x=>evo c K x
 | .nilCheck x=>match evo c K x with
  | some (.pointer (some a))=>some (.pointer (some a))
  | _=>none
 | _=>none
theorem qq {op:Op}(hk:kindOf c i=1:=by kernel_rfl) (hg:gd c.ops c.a0 K ⟨some d,op,ty,ps,af,gu⟩=true:=by rfl) (hx:qv c K op=some y:=by rfl) (h:RA c Z os (i+1) ((d,y)::K) G U H):RA c Z (⟨some d,op,ty,ps,af,gu⟩::os) i K G U H:=by
 unfold qv at hx;split at hx
 ·exact mv hk hg hx h
 ·exact as hk hg hx h
 ·split at hx
  ·rename_i hx2;cases hx
   exact nc hk hg hx2 h
  ·cases hx
 ·cases hx
theorem pq {op:Op}(hk:kindOf c i=5:=by rfl) (hg:gd c.ops c.a0 K ⟨some d,op,ty,ps,af,gu⟩=true:=by rfl) (hx:qv c K op=some y:=by rfl) (h:RA c Z os (i+1) ((d,y)::K) G U H):RA c Z (⟨some d,op,ty,ps,af,gu⟩::os) i K G U H:=by
 unfold qv at hx;split at hx
 ·exact pmv hk hg hx h
 ·exact pw hk hg (fun w=>by simp[execOp,evo_ev hx]) h
 ·split at hx
  ·rename_i hx2;cases hx
   exact pnc hk hg hx2 h
  ·cases hx
 ·cases hx
theorem fk (P:Program) (b j:Nat){n k:Nat}(hk:kindOf c i=1:=by kernel_rfl) (hg:gd c.ops c.a0 K ⟨some d,.fieldAddr tx x n,ty,ps,af,gu⟩=true:=by rfl) (hx:evo c K x=some (.pointer (some ⟨b,k,none⟩)):=by rfl) (hP:c.P=P:=by rfl)
  (hr:∀ w,(Instr.fieldAt tx (.pointer (some ⟨b,k,none⟩)) n).run P w=.ok (.pointer (some ⟨b,j,none⟩)) w:=by intro _;go_simp) (h:RA c Z os (i+1) ((d,.pointer (some ⟨b,j,none⟩))::K) G U H):RA c Z (⟨some d,.fieldAddr tx x n,ty,ps,af,gu⟩::os) i K G U H:=
 fa hk hg hx (fun w _=>by rw[hP];exact hr w) h
theorem pk (P:Program) (b j:Nat){n k:Nat}(hk:kindOf c i=5:=by rfl) (hg:gd c.ops c.a0 K ⟨some d,.fieldAddr tx x n,ty,ps,af,gu⟩=true:=by rfl) (hx:evo c K x=some (.pointer (some ⟨b,k,none⟩)):=by rfl) (hP:c.P=P:=by rfl)
  (hr:∀ w,(Instr.fieldAt tx (.pointer (some ⟨b,k,none⟩)) n).run P w=.ok (.pointer (some ⟨b,j,none⟩)) w:=by intro _;go_simp) (h:RA c Z os (i+1) ((d,.pointer (some ⟨b,j,none⟩))::K) G U H):RA c Z (⟨some d,.fieldAddr tx x n,ty,ps,af,gu⟩::os) i K G U H:=
 pfa hk hg hx (fun w=>by rw[hP];exact hr w) h
theorem lk (P:Program) (v:Value){a:Addr}(hk:kindOf c i=1:=by kernel_rfl) (hg:gd c.ops c.a0 K ⟨some d,.load tx x,ty,ps,af,gu⟩=true:=by rfl) (hx:evo c K x=some (.pointer (some a)):=by rfl) (hP:c.P=P:=by rfl)
  (hc:∀ w,Pre c i G w→w.cell? a=some v) (hr:∀ w,w.cell? a=some v→(Instr.loadAt tx (.pointer (some a))).run P w=.ok v w:=by intro _ _;go_simp) (h:RA c Z os (i+1) ((d,v)::K) G U H):RA c Z (⟨some d,.load tx x,ty,ps,af,gu⟩::os) i K G U H:=
 ld hk hg hx (fun w hp=>by rw[hP];exact hr w (hc w hp)) h
theorem ik (P:Program) (b j:Nat){z:Value}(hk:kindOf c i=1:=by kernel_rfl) (hg:gd c.ops c.a0 K ⟨some d,.indexAddr tx x x',ty,ps,af,gu⟩=true:=by rfl) (hx:evo c K x=some y:=by rfl) (hz:evo c K x'=some z:=by rfl) (hP:c.P=P:=by rfl)
  (hr:∀ w,(Instr.indexAt tx y z).run P w=.ok (.pointer (some ⟨b,j,none⟩)) w:=by intro _;go_simp;all_goals (intro h;omega)) (h:RA c Z os (i+1) ((d,.pointer (some ⟨b,j,none⟩))::K) G U H):RA c Z (⟨some d,.indexAddr tx x x',ty,ps,af,gu⟩::os) i K G U H:=
 ia hk hg hx hz (fun w _=>by rw[hP];exact hr w) h
theorem vk (P:Program) (v:Value){op:Op}(hk:kindOf c i=1:=by kernel_rfl) (hg:gd c.ops c.a0 K ⟨some d,op,ty,ps,af,gu⟩=true:=by rfl) (hP:c.P=P:=by rfl) (hr:∀ w,Pre c i G w→(execOp (ev c.a0 K) ⟨some d,op,ty,ps,af,gu⟩).run P w=.ok (.value v) w:=by intro _ _;go_simp)
  (h:RA c Z os (i+1) ((d,v)::K) G U H):RA c Z (⟨some d,op,ty,ps,af,gu⟩::os) i K G U H:=RA.val v hk hg (by rw[hP];exact hr) h
theorem vw (P:Program) (v:Value){op:Op}(hk:kindOf c i=1:=by kernel_rfl) (hg:gd c.ops c.a0 K ⟨some d,op,ty,ps,af,gu⟩=true:=by rfl) (hP:c.P=P:=by rfl) (hr:∀ w,Pre c i G w→(execOp (ev c.a0 K) ⟨some d,op,ty,ps,af,gu⟩).run P w=.ok (.value v) w:=by
  intro _ _;(try go_simp);try (first|(rw[IntKind.wrap_i64];omega)|(rw[IntKind.wrap_u32'];omega)|(rw[IntKind.wrap_u8'];omega)|omega))
  (h:RA c Z os (i+1) ((d,v)::K) G U H):RA c Z (⟨some d,op,ty,ps,af,gu⟩::os) i K G U H:=RA.val v hk hg (by rw[hP];exact hr) h
end pures
end user
def stAt (s0:St) (σ:Nat→Value):Nat→St
 | 0=>s0
 | m+1=>match c.ops[m]? with
  | some o=>adv c σ m o (stAt s0 σ m)
  | none=>stAt s0 σ m
theorem cond_kind {c:Cx}{i:Nat}{o:Oper}{s:St}(h:Cond c i o s):match s.t with
  | .nil=>False
  | .nxt _=>kindOf c i=0
  | .val _ _=>kindOf c i=1∨kindOf c i=5
  | .free _=>kindOf c i=2
  | .sq _ _ _=>kindOf c i=3∨kindOf c i=6
  | .sqv _ _ _=>kindOf c i=4∨kindOf c i=7:=by
 unfold Cond at h;cases ht:s.t<;>simp only[ht] at h ⊢
 ·exact h.1
 ·exact h.2.imp (·.1) (·.1)
 ·exact h.1
 ·exact h.2.2.2.imp (·.1) (·.1)
 ·exact h.2.2.2.imp (·.1) (·.1)
theorem cond_waits {c:Cx}{i:Nat}{o:Oper}{s:St}(h:Cond c i o s) (hl:isL (kindOf c i)):∀ k ∈ s.U,In c.pr i k:=by
 have hk:=cond_kind h;unfold Cond at h;unfold isL at hl;cases ht:s.t<;>simp only[ht] at h hk
 ·rw[hk] at hl;simp at hl
 ·rcases hk with hk|hk<;>(rw[hk] at hl;simp at hl)
 ·rw[hk] at hl;simp at hl
 ·exact h.2.2.1
 ·exact h.2.2.1
def tailOn (c:Cx) (lst:Array Bool):Prop:=∃ t ∈ c.tl,lst.getD t false=true
theorem kind_tail {c:Cx}{i:Nat}(h:kindOf c i=6∨kindOf c i=7):i ∈ c.tl:=by
 unfold kindOf at h;split at h
 ·omega
 ·split at h
  ·split at h
   ·rename_i h';simpa using h'
   ·omega
  ·split at h<;>omega
theorem kind_head {c:Cx}{i:Nat}(h:kindOf c i=1∨kindOf c i=2∨kindOf c i=3∨kindOf c i=4):∀ t ∈ c.tl,In c.pr t i:=by
 unfold kindOf at h;split at h
 ·omega
 ·split at h
  ·split at h<;>omega
  ·split at h
   ·rename_i h';exact fun t ht=>List.all_eq_true.1 h' t ht
   ·omega
section sound
variable {c}{s0:St}{Z:Act→World→Prop}
theorem stAt_succ {σ:Nat→Value}{m:Nat}{o:Oper}(h:c.ops[m]?=some o):stAt c s0 σ (m+1)=adv c σ m o (stAt c s0 σ m):=by simp[stAt,h]
theorem good_all {σ:Nat→Value}:∀ (os:List Oper) (i:Nat),os=c.ops.drop i→Good c Z σ os i (stAt c s0 σ i)→
  (∀ m o,i≤m→c.ops[m]?=some o→Cond c m o (stAt c s0 σ m))∧
   (i≤c.ops.length→∀ w,(c.tl=[]→c.R c.w0 w)→(c.tl=[]→∀ f ∈ (stAt c s0 σ c.ops.length).G,f.2 w)→(stAt c s0 σ c.ops.length).H w→Z (put c.a0 (stAt c s0 σ c.ops.length).K) w):=by
 intro os
 induction os with
 | nil=>
  intro i hd hg
  have hl:c.ops.length≤i:=by
   have:=congrArg List.length hd;simp at this;omega
  refine⟨fun m o hm ho=>?_,fun hi=>?_⟩
  ·have:=(List.getElem?_eq_some_iff.1 ho).1;omega
  ·have:i=c.ops.length:=by omega
   subst this;exact hg
 | cons o os ih=>
  intro i hd hg;obtain⟨h1,h2⟩:=hg
  have hi:i<c.ops.length:=by
   have:=congrArg List.length hd;simp at this;omega
  have hd':c.ops.drop i=c.ops[i]::c.ops.drop (i+1):=List.drop_eq_getElem_cons hi;rw[hd'] at hd;injection hd with e1 e2;have ho:c.ops[i]?=some o:=by rw[List.getElem?_eq_getElem hi,e1]
  rw[← stAt_succ ho] at h2;obtain⟨r1,r2⟩:=ih (i+1) e2 h2;refine⟨fun m o' hm ho'=>?_,fun _=>r2 (by omega)⟩;by_cases hmi:m=i
  ·subst hmi;rw[ho] at ho';cases ho'
   exact h1
  ·exact r1 m o' (by omega) ho'
def nodeVal (c:Cx) (s0:St) (σ:Nat→Value) (k:Nat):Value:=
 match (stAt c s0 σ k).t with
 | .nxt _=>undef
 | .val v _=>v
 | .sqv v _ _=>v
 | _=>σ k
def nodeFact (c:Cx) (s0:St) (σ:Nat→Value) (k:Nat) (w:World):Prop:=
 match (stAt c s0 σ k).t with
 | .free _=>c.tbl k (σ k) w
 | .sq g _ _=>g (σ k) w
 | _=>True
variable (hs0:s0.K=[]∧s0.G=[]∧s0.U=[])
variable {σ:Nat→Value}(hc:∀ m o,c.ops[m]?=some o→Cond c m o (stAt c s0 σ m))
include hc in
theorem adv_K {m:Nat}{o:Oper}(h:c.ops[m]?=some o):(stAt c s0 σ (m+1)).K=add o (nodeVal c s0 σ m) (stAt c s0 σ m).K:=by
 have:=hc m o h;rw[stAt_succ h];unfold adv nodeVal Cond at*;cases ht:(stAt c s0 σ m).t<;>simp_all
include hc in
theorem adv_G {m:Nat}{o:Oper}(h:c.ops[m]?=some o):∀ f ∈ (stAt c s0 σ (m+1)).G,f ∈ (stAt c s0 σ m).G∨(f.1=m∧∀ w,f.2 w↔nodeFact c s0 σ m w):=by
 have:=hc m o h;rw[stAt_succ h];unfold adv nodeFact Cond at*;intro f;cases ht:(stAt c s0 σ m).t<;>simp_all
 ·rintro (rfl|h)<;>simp_all
 ·rintro (rfl|h)<;>simp_all
include hc in
theorem adv_U {m:Nat}{o:Oper}(h:c.ops[m]?=some o) (k:Nat):k ∈ (stAt c s0 σ (m+1)).U↔k ∈ (stAt c s0 σ m).U∨(k=m∧(kindOf c m=2∨isL (kindOf c m))):=by
 have hk:=cond_kind (hc m o h);rw[stAt_succ h];unfold adv isL;cases ht:(stAt c s0 σ m).t<;>simp only[ht] at hk ⊢
 ·rw[hk];simp
 ·rcases hk with hk|hk<;>(rw[hk];simp)
 ·rw[hk];simp[or_comm]
 ·rcases hk with hk|hk<;>(rw[hk];simp[or_comm])
 ·rcases hk with hk|hk<;>(rw[hk];simp[or_comm])
include hc in
theorem adv_H {m:Nat}{o:Oper}(h:c.ops[m]?=some o) (hl:¬ isL (kindOf c m)):(stAt c s0 σ (m+1)).H=(stAt c s0 σ m).H:=by
 have hk:=cond_kind (hc m o h);rw[stAt_succ h];unfold adv isL at*;cases ht:(stAt c s0 σ m).t<;>simp only[ht] at hk ⊢
 ·rcases hk with hk|hk<;>(rw[hk] at hl;simp at hl)
 ·rcases hk with hk|hk<;>(rw[hk] at hl;simp at hl)
include hc in
theorem H_same {m m':Nat}(hm:m≤m') (hl:m'≤c.ops.length) (hk:∀ k,m≤k→k<m'→¬ isL (kindOf c k)):(stAt c s0 σ m').H=(stAt c s0 σ m).H:=by
 induction m' with
 | zero=>
  have:m=0:=by omega
  subst this;rfl
 | succ m' ih=>
  by_cases e:m=m'+1
  ·subst e;rfl
  ·have hlt:m'<c.ops.length:=by omega
   rw[adv_H hc (List.getElem?_eq_getElem hlt) (hk m' (by omega) (by omega)),ih (by omega) (by omega) (fun k h1 h2=>hk k h1 (by omega))]
include hc in
theorem H_stab (h0:Stab c.E s0.H):∀ m,m≤c.ops.length→Stab c.E (stAt c s0 σ m).H:=by
 intro m
 induction m with
 | zero=>intro _;exact h0
 | succ m ih=>
  intro hm;have hlt:m<c.ops.length:=by omega
  have ho:=List.getElem?_eq_getElem hlt;have:=hc m _ ho;have:=ih (by omega);rw[stAt_succ ho];unfold adv Cond at*;cases ht:(stAt c s0 σ m).t<;>simp_all
include hc hs0 in
theorem U_iff:∀ m,m≤c.ops.length→∀ k,k ∈ (stAt c s0 σ m).U↔k<m∧(kindOf c k=2∨isL (kindOf c k)):=by
 intro m
 induction m with
 | zero=>intro _ k;simp[stAt,hs0.2.2]
 | succ m ih=>
  intro hm k;have hlt:m<c.ops.length:=by omega
  rw[adv_U hc (List.getElem?_eq_getElem hlt),ih (by omega)];constructor
  ·rintro (⟨h1,h2⟩|⟨rfl,h2⟩)
   ·exact⟨by omega,h2⟩
   ·exact⟨by omega,h2⟩
  ·rintro⟨h1,h2⟩;by_cases e:k=m
   ·subst e;exact .inr ⟨rfl,h2⟩
   ·exact .inl ⟨by omega,h2⟩
include hc hs0 in
theorem G_fact:∀ m,m≤c.ops.length→∀ f ∈ (stAt c s0 σ m).G,f.1<m∧∀ w,f.2 w↔nodeFact c s0 σ f.1 w:=by
 intro m
 induction m with
 | zero=>intro _ f hf;simp[stAt,hs0.2.1] at hf
 | succ m ih=>
  intro hm f hf;have hlt:m<c.ops.length:=by omega
  rcases adv_G hc (List.getElem?_eq_getElem hlt) f hf with h|⟨h1,h2⟩
  ·have:=ih (by omega) f h;exact⟨by omega,this.2⟩
  ·rw[h1];exact⟨by omega,h2⟩
include hc hs0 in
theorem K_look (hd:∀ (i k d:Nat),dstOf c.ops i=some d→dstOf c.ops k=some d→i=k):∀ m,m≤c.ops.length→∀ t,
  (∀ k,k<m→dstOf c.ops k=some t→(stAt c s0 σ m).K.lookup t=some (nodeVal c s0 σ k))∧
  ((∀ k,k<m→dstOf c.ops k≠some t)→(stAt c s0 σ m).K.lookup t=none):=by
 intro m
 induction m with
 | zero=>intro _ t;exact⟨fun k hk=>by omega,fun _=>by simp[stAt,hs0.1]⟩
 | succ m ih=>
  intro hm t;have hlt:m<c.ops.length:=by omega
  have ho:=List.getElem?_eq_getElem hlt;obtain⟨r1,r2⟩:=ih (by omega) t;rw[adv_K hc ho];have hdm:dstOf c.ops m=(c.ops[m]).dst:=by simp[dstOf,ho]
  unfold add;cases hdst:(c.ops[m]).dst with
  | none=>
   rw[hdst] at hdm;refine⟨fun k hk hkt=>r1 k ?_ hkt,fun h=>r2 fun k hk=>h k (by omega)⟩;by_cases e:k=m
   ·subst e;rw[hdm] at hkt;cases hkt
   ·omega
  | some d=>
   rw[hdst] at hdm;simp only[List.lookup_cons];by_cases e:t=d
   ·subst e;simp only[beq_self_eq_true];refine⟨fun k hk hkt=>?_,fun h=>absurd hdm (h m (by omega))⟩;rw[hd k m t hkt hdm]
   ·have:(t == d)=false:=by simpa using e
    simp only[this];refine⟨fun k hk hkt=>r1 k ?_ hkt,fun h=>r2 fun k hk=>h k (by omega)⟩;by_cases e':k=m
    ·subst e';rw[hdm] at hkt;cases hkt;exact absurd rfl e
    ·omega
end sound
theorem stAt_congr {c:Cx}{s0:St}{σ σ':Nat→Value}(hc:∀ m o,c.ops[m]?=some o→Cond c m o (stAt c s0 σ m)):∀ m,m≤c.ops.length→
  (∀ k ∈ (stAt c s0 σ m).U,σ k=σ' k)→stAt c s0 σ m=stAt c s0 σ' m:=by
 intro m
 induction m with
 | zero=>intro _ _;rfl
 | succ m ih=>
  intro hm h;have hlt:m<c.ops.length:=by omega
  have ho:=List.getElem?_eq_getElem hlt;have e:=ih (by omega) fun k hk=>h k ((adv_U hc ho k).2 (.inl hk))
  have hu:=fun hk=>h m ((adv_U hc ho m).2 (.inr ⟨rfl,hk⟩))
  have hk:=cond_kind (hc m _ ho);rw[stAt_succ ho,stAt_succ ho,← e];unfold adv;cases ht:(stAt c s0 σ m).t<;>simp only[ht] at hk ⊢
  ·rw[hu (.inl hk)]
  ·have:isL (kindOf c m):=by unfold isL;omega
   rw[hu (.inr this)]
theorem put_look (a0:Act):∀ (K:List (Nat×Value)) (t:Nat),(put a0 K).tmps.size=a0.tmps.size∧(put a0 K).defers=a0.defers∧
  (put a0 K).tmps[t]?=match K.lookup t with
   | some v=>if t<a0.tmps.size then some v else none
   | none=>a0.tmps[t]?:=by
 intro K
 induction K with
 | nil=>intro t;simp[put]
 | cons p K ih=>
  intro t;obtain⟨d,v⟩:=p;obtain⟨h1,h2,h3⟩:=ih t;have e:put a0 ((d,v)::K)=(put a0 K).put (some d) v:=rfl;rw[e];refine⟨by simp[Act.put,h1],by simp[Act.put,h2],?_⟩;simp only[Act.put,List.lookup_cons];by_cases ht:t=d
  ·subst ht;simp only[beq_self_eq_true,Array.getElem?_setIfInBounds,if_true,h1]
  ·have:(t == d)=false:=by simpa using ht
   simp only[this];rw[Array.getElem?_setIfInBounds_ne (fun h=>ht h.symm),h3]
structure Fit (c:Cx):Prop where
 sel:∀ (i:Nat) (o:Oper),c.ops[i]?=some o→∀ cs b,o.op≠.select cs b
 dst:∀ (i:Nat) (o:Oper) (d:Nat),c.ops[i]?=some o→o.dst=some d→d<c.a0.tmps.size
 one:∀ (i k d:Nat),dstOf c.ops i=some d→dstOf c.ops k=some d→i=k
 back:∀ (i:Nat) (o:Oper),c.ops[i]?=some o→∀ e ∈ o.after,Region.binds .any e=true→e.on<i
 pre:∀ (i:Nat) (o:Oper),c.ops[i]?=some o→∀ k,In c.pr i k→k<i∧∃ e ∈ o.after,Region.binds .any e=true∧(e.on=k∨In c.pr e.on k)
 use:∀ (i:Nat) (o:Oper),c.ops[i]?=some o→∀ t,Operand.tmp t ∈ o.op.operands→∀ k,dstOf c.ops k=some t→In c.pr i k∨In c.pr k i
 grd:∀ (i:Nat) (o:Oper),c.ops[i]?=some o→∀ j want,o.guard=some (j,want)→In c.pr i j
theorem dstOf_lt {ops:List Oper}{k d:Nat}(h:dstOf ops k=some d):k<ops.length:=by
 rcases Nat.lt_or_ge k ops.length with h'|h'
 ·exact h'
 ·simp[dstOf,List.getElem?_eq_none h'] at h
theorem idx_some {k:Nat}:∀ (ds:List (Option Nat)) (t i:Nat),idx ds t i=some k→i≤k∧ds[k - i]?=some (some t)∧∀ j,i≤j→j<k→ds[j - i]?≠some (some t):=by
 intro ds
 induction ds with
 | nil=>intro t i h;cases h
 | cons d ds ih=>
  intro t i h
  have rcur:idx ds t (i+1)=some k→d≠some t→i≤k∧(d::ds)[k - i]?=some (some t)∧∀ j,i≤j→j<k→(d::ds)[j - i]?≠some (some t):=by
   intro h hne;obtain⟨h1,h2,h3⟩:=ih t (i+1) h;refine⟨by omega,?_,fun j hj1 hj2=>?_⟩
   ·rw[show k - i=(k - (i+1))+1 from by omega,List.getElem?_cons_succ];exact h2
   ·by_cases e:j=i
    ·subst e
     simpa using hne
    ·rw[show j - i=(j - (i+1))+1 from by omega,List.getElem?_cons_succ];exact h3 j (by omega) hj2
  cases d with
  | none=>exact rcur h (by simp)
  | some d=>
   simp only[idx] at h;by_cases e:d=t
   ·subst e;simp at h;subst h;exact⟨Nat.le_refl _,by simp,fun j h1 h2=>by omega⟩
   ·rw[if_neg (by simpa using e)] at h;exact rcur h (by simpa using e)
theorem idx_none:∀ (ds:List (Option Nat)) (t i:Nat),idx ds t i=none→∀ j:Nat,ds[j]?≠some (some t):=by
 intro ds
 induction ds with
 | nil=>intro t i _ j;simp
 | cons d ds ih=>
  intro t i h j
  have h':idx ds t (i+1)=none∧d≠some t:=by
   cases d with
   | none=>exact⟨h,by simp⟩
   | some d=>
    simp only[idx] at h;by_cases e:d=t
    ·subst e;simp at h
    ·rw[if_neg (by simpa using e)] at h;exact⟨h,by simpa using e⟩
  cases j with
  | zero=>simpa using h'.2
  | succ j=>simpa using ih t (i+1) h'.1 j
theorem mask_bit (acc:List Nat) (k:Nat):∀ (es:List Edge) (s:Nat),(es.foldl (fun s e=>if Region.binds .any e then s ||| 2 ^ e.on ||| acc.getD e.on 0 else s) s).testBit k=true→
  s.testBit k=true∨∃ e ∈ es,Region.binds .any e=true∧(e.on=k∨In acc e.on k):=by
 intro es
 induction es with
 | nil=>intro s h;exact .inl h
 | cons e es ih=>
  intro s h;simp only[List.foldl_cons] at h;rcases ih _ h with h|⟨e',he,h⟩
  ·by_cases hb:Region.binds .any e=true
   ·rw[if_pos hb] at h;simp only[Nat.testBit_or,Bool.or_eq_true,Nat.testBit_two_pow] at h;rcases h with (h|h)|h
    ·exact .inl h
    ·exact .inr ⟨e,by simp,hb,.inl (by simpa using h)⟩
    ·exact .inr ⟨e,by simp,hb,.inr h⟩
   ·rw[if_neg hb] at h;exact .inl h
  ·exact .inr ⟨e',by simp[he],h⟩
theorem chk_all (n:Nat) (ds:List (Option Nat)) (pr:List Nat):∀ (os:List Oper) (i:Nat),chkFrom n ds pr i os=true→∀ j o,os[j]?=some o→chk1 n ds pr (i+j) o=true:=by
 intro os
 induction os with
 | nil=>intro i _ j o h;simp at h
 | cons x os ih=>
  intro i h j o ho;simp only[chkFrom,Bool.and_eq_true] at h;cases j with
  | zero=>simp at ho;subst ho;exact h.1
  | succ j=>
   have:=ih (i+1) h.2 j o (by simpa using ho);rw[show i+(j+1)=i+1+j from by omega];exact this
theorem Fit.of_chk (c:Cx) (h:chk c.a0.tmps.size c.ops c.pr=true):Fit c:=by
 have key:∀ (i:Nat) (o:Oper),c.ops[i]?=some o→_:=fun i o ho=>by
  have:=chk_all _ _ _ _ _ h i o ho;simp only[Nat.zero_add,chk1,Bool.and_eq_true] at this;exact this
 have hds:∀ k t,(c.ops.map (·.dst))[k]?=some (some t)↔dstOf c.ops k=some t:=by
  intro k t;simp only[List.getElem?_map,dstOf];cases c.ops[k]?<;>simp
 have edge:∀ (i:Nat) (o:Oper),c.ops[i]?=some o→∀ e ∈ o.after,Region.binds .any e=true→e.on<i:=by
  intro i o ho e he hb;have:=(key i o ho).1.1.1.2;have:=List.all_eq_true.1 this e (by simpa using he)
  simpa [hb] using this
 have bit:∀ (i:Nat) (o:Oper),c.ops[i]?=some o→∀ k,In c.pr i k→∃ e ∈ o.after,Region.binds .any e=true∧(e.on=k∨In c.pr e.on k):=by
  intro i o ho k hk;have h1:=(key i o ho).1.1.2;unfold In at hk;rw[beq_iff_eq.1 h1] at hk;rcases mask_bit c.pr k _ _ hk with h2|⟨e,he,h2⟩
  ·simp at h2
  ·exact⟨e,by simpa using he,h2⟩
 have lt:∀ (i:Nat),i<c.ops.length→∀ k,In c.pr i k→k<i:=by
  intro i
  induction i using Nat.strongRecOn with
  | _ i ih=>
   intro hi k hk;obtain⟨e,he,hb,h2⟩:=bit i _ (List.getElem?_eq_getElem hi) k hk;have:=edge i _ (List.getElem?_eq_getElem hi) e he hb;rcases h2 with rfl|h2
   ·exact this
   ·have:=ih e.on this (by omega) k h2;omega
 refine⟨?_,?_,?_,edge,fun i o ho k hk=>⟨lt i (List.getElem?_eq_some_iff.1 ho).1 k hk,bit i o ho k hk⟩,?_,?_⟩
 ·intro i o ho cs b e;have:=(key i o ho).1.1.1.1.1;simp[e] at this
 ·intro i o d ho hd;have:=(key i o ho).1.1.1.1.2;simp[hd] at this;exact this.1
 ·intro i k d hi hk;obtain⟨oi,hoi,hdi⟩:=Option.bind_eq_some_iff.1 hi;obtain⟨ok,hok,hdk⟩:=Option.bind_eq_some_iff.1 hk;have h1:=(key i oi hoi).1.1.1.1.2;have h2:=(key k ok hok).1.1.1.1.2;simp only[hdi,hdk,Bool.and_eq_true,beq_iff_eq] at h1 h2;have:=h1.2.symm.trans h2.2;exact Option.some.inj this
 ·intro i o ho t ht k hk;have:=(key i o ho).1.2;have:=List.all_eq_true.1 this (.tmp t) (by simpa using ht);simp only at this;cases hix:idx (c.ops.map (·.dst)) t 0 with
  | none=>exact absurd ((hds k t).2 hk) (idx_none _ _ _ hix k)
  | some k'=>
   rw[hix] at this;obtain⟨_,h2,h3⟩:=idx_some _ _ _ hix;have hk':dstOf c.ops k'=some t:=(hds k' t).1 (by simpa using h2);obtain⟨ok,hok,hdk⟩:=Option.bind_eq_some_iff.1 hk;have h4:=(key k ok hok).1.1.1.1.2;simp only[hdk,Bool.and_eq_true,beq_iff_eq] at h4;have h5:=h4.2;rw[hix] at h5;cases h5
   simp only[Bool.or_eq_true] at this;exact this
 ·intro i o ho j want hg;have:=(key i o ho).2;simp only[hg] at this;exact this
def On (lst:Array Bool) (k:Nat):Prop:=lst.getD k false=true
def Agree (c:Cx) (σ:Nat→Value) (lst:Array Bool) (a:Act):Prop:=
 ∀ k o,c.ops[k]?=some o→On lst k→match o.dst with|some d=>a.tmps[d]?=some (σ k)|none=>σ k=undef
structure Inv (c:Cx) (s0:St) (lst:Array Bool) (a:Act) (w:World):Prop where
 lsz:lst.size=c.ops.length
 tsz:a.tmps.size=c.a0.tmps.size
 def_:a.defers=c.a0.defers
 base:∀ t,(∀ k,dstOf c.ops k=some t→¬ On lst k)→a.tmps[t]?=c.a0.tmps[t]?
 rel:¬ tailOn c lst→c.R c.w0 w
 shut:∀ i,On lst i→∀ k,In c.pr i k→On lst k
 fact:∀ σ,Agree c σ lst a→(∀ k o,c.ops[k]?=some o→On lst k→(∀ d,o.dst=some d→a.tmps[d]?=some (nodeVal c s0 σ k))∧(¬ tailOn c lst→nodeFact c s0 σ k w))∧
  (∀ m,m≤c.ops.length→(∀ k,k<c.ops.length→isL (kindOf c k)→(On lst k↔k<m))→(stAt c s0 σ m).H w)
theorem agree_some (c:Cx) (lst:Array Bool) (a:Act) (hf:Fit c) (ht:a.tmps.size=c.a0.tmps.size):∃ σ,Agree c σ lst a:=by
 refine⟨fun k=>match dstOf c.ops k with|some d=>a.tmps.getD d undef|none=>undef,?_⟩;intro k o ho _;cases hd:o.dst with
 | none=>simp[dstOf,ho,hd]
 | some d=>
  have:=hf.dst k o d ho hd;simp[dstOf,ho,hd,ht,this]
section step
variable {c:Cx}{s0:St}{lst:Array Bool}{a:Act}{w:World}{i:Nat}{o:Oper}
theorem on_set {k:Nat}(hi:i<lst.size):On (lst.setIfInBounds i true) k↔On lst k∨k=i:=by
 unfold On;by_cases e:k=i
 ·subst e;simp[hi]
 ·simp[e,Array.getElem?_setIfInBounds_ne (fun h=>e h.symm)]
theorem Inv.next (hf:Fit c) (hs0:s0.K=[]∧s0.G=[]∧s0.U=[]) (hE0:Stab c.E s0.H) (hRt:∀ a b d,c.R a b→c.R b d→c.R a d)
  (hc:∀ σ m o,c.ops[m]?=some o→Cond c m o (stAt c s0 σ m))
  (inv:Inv c s0 lst a w) (hi:i ∈ Region.ready .any c.ops.toArray lst) (ho:c.ops[i]?=some o){v:Value}{w':World}
  (hR:¬ tailOn c (lst.setIfInBounds i true)→w'=w∨c.R w w') (hG:∀ σ,Agree c σ (lst.setIfInBounds i true) (a.put o.dst v)→(∀ d,o.dst=some d→nodeVal c s0 σ i=v)∧(¬ tailOn c (lst.setIfInBounds i true)→nodeFact c s0 σ i w'))
  (hH:(¬ isL (kindOf c i)∧(w'=w∨c.E w w'))∨(isL (kindOf c i)∧∀ σ,Agree c σ (lst.setIfInBounds i true) (a.put o.dst v)→(stAt c s0 σ (i+1)).H w')):
  Inv c s0 (lst.setIfInBounds i true) (a.put o.dst v) w':=by
 have hil:i<c.ops.length:=(List.getElem?_eq_some_iff.1 ho).1;have hib:i<lst.size:=by rw[inv.lsz];exact hil
 obtain⟨hnot,o',ho',hrd⟩:lst.getD i true=false∧∃ o',c.ops.toArray[i]?=some o'∧∀ e ∈ o'.after,Region.binds .any e=true→lst.getD e.on false=true:=by
  have:=mem_ready.1 hi
  simpa using this
 obtain rfl:o'=o:=by simp at ho';rw[ho] at ho';exact (Option.some.inj ho').symm
 have hnon:¬ On lst i:=by unfold On;simp[hib] at hnot ⊢;exact hnot
 have hpre:∀ k,In c.pr i k→On lst k:=by
  intro k hk;obtain⟨_,e,he,hb,h⟩:=hf.pre i o' ho k hk;rcases h with rfl|h
  ·exact hrd e he hb
  ·exact inv.shut _ (hrd e he hb) k h
 have hslot:∀ k ok d,c.ops[k]?=some ok→ok.dst=some d→k≠i→(a.put o'.dst v).tmps[d]?=a.tmps[d]?:=by
  intro k ok d hk hd hne;cases hd':o'.dst with
  | none=>rfl
  | some d'=>
   have:d'≠d:=fun e=>hne (hf.one k i d (by simp[dstOf,hk,hd]) (by simp[dstOf,ho,hd',e]))
   simp[Act.put,Array.getElem?_setIfInBounds_ne this]
 have hagree:∀ σ,Agree c σ (lst.setIfInBounds i true) (a.put o'.dst v)→Agree c σ lst a:=by
  intro σ h k ok hk hon;have:=h k ok hk ((on_set hib).2 (.inl hon));cases hd:ok.dst with
  | none=>simpa [hd] using this
  | some d=>
   simp only[hd] at this;show a.tmps[d]?=some (σ k);rw[← hslot k ok d hk hd (fun e=>hnon (e ▸ hon))];exact this
 have htl:¬ tailOn c (lst.setIfInBounds i true)→¬ tailOn c lst:=fun h ⟨t,ht,hon⟩=>h ⟨t,ht,(on_set hib).2 (.inl hon)⟩
 have hstab:¬ tailOn c (lst.setIfInBounds i true)→∀ (F:World→Prop),Stab c.R F→F w→F w':=by
  intro hno F hF h;rcases hR hno with rfl|hR
  ·exact h
  ·exact hF _ _ hR h
 refine⟨by simp[inv.lsz],?_,?_,?_,?_,?_,?_⟩
 ·cases o'.dst<;>simp[Act.put,inv.tsz]
 ·cases o'.dst<;>simp[Act.put,inv.def_]
 ·intro t ht;rw[← inv.base t (fun k hk hon=>ht k hk ((on_set hib).2 (.inl hon)))];cases hd':o'.dst with
  | none=>rfl
  | some d'=>
   have:d'≠t:=fun e=>ht i (by simp[dstOf,ho,hd',e]) ((on_set hib).2 (.inr rfl))
   simp[Act.put,Array.getElem?_setIfInBounds_ne this]
 ·intro hno;rcases hR hno with rfl|hR
  ·exact inv.rel (htl hno)
  ·exact hRt _ _ _ (inv.rel (htl hno)) hR
 ·intro k hk j hj;rcases (on_set hib).1 hk with h|rfl
  ·exact (on_set hib).2 (.inl (inv.shut k h j hj))
  ·exact (on_set hib).2 (.inl (hpre j hj))
 ·intro σ hσ;obtain⟨f1,f2⟩:=inv.fact σ (hagree σ hσ);have hcσ:=hc σ;refine⟨?_,?_⟩
  ·intro k ok hk hon;by_cases e:k=i
   ·subst e;rw[ho] at hk;cases hk;obtain⟨g1,g2⟩:=hG σ hσ;refine⟨fun d hd=>?_,g2⟩;rw[g1 d hd];have:=hf.dst k o' d ho hd;simp[Act.put,hd,inv.tsz,this]
   ·have honk:On lst k:=by
     rcases (on_set hib).1 hon with h|h
     ·exact h
     ·exact absurd h e
    obtain⟨g1,g2⟩:=f1 k ok hk honk;refine⟨fun d hd=>by rw[hslot k ok d hk hd e];exact g1 d hd,?_⟩;intro hno;have g2':=g2 (htl hno);have hck:=hcσ k ok hk;unfold nodeFact Cond at*;cases ht:(stAt c s0 σ k).t<;>simp only[ht] at g2' hck ⊢
    ·exact hstab hno _ (hck.2.2.1 (σ k)) g2'
    ·exact hstab hno _ (hck.2.2.2.elim (fun h=>h.2.1 (σ k)) (fun h=>h.2.1 (σ k))) g2'
  ·intro m hm hmk;rcases hH with ⟨hk,hw⟩|⟨hk,hw⟩
   ·have:=f2 m hm fun k hk1 hk2=>by
     rw[← hmk k hk1 hk2,on_set hib];constructor
     ·exact .inl
     ·rintro (h|rfl)
      ·exact h
      ·exact absurd hk2 hk
    rcases hw with rfl|hw
    ·exact this
    ·exact H_stab hcσ hE0 m hm _ _ hw this
   ·have him:i<m:=(hmk i hil hk).1 ((on_set hib).2 (.inr rfl));rw[H_same hcσ (m:=i+1) (m':=m) (by omega) hm fun k h1 h2 h3=>?_]
    ·exact hw σ hσ
    ·have hkl:k<c.ops.length:=by omega
     have hon:On lst k:=by
      rcases (on_set hib).1 ((hmk k hkl h3).2 h2) with h|h
      ·exact h
      ·omega
     have hck:=hcσ k _ (List.getElem?_eq_getElem hkl);have hui:i ∈ (stAt c s0 σ k).U:=(U_iff hs0 hcσ k (by omega) i).2 ⟨by omega,.inr hk⟩;exact hnon (inv.shut k hon i (cond_waits hck h3 i hui))
end step
section main
variable {c:Cx}{s0:St}{Q:Exit→Act→World→Prop}
theorem opw_mono {P:Program}{o:Oper}{ρ:Operand→Value}{w:World}{N N':Value→World→Prop}(hn:∀ v w',N v w'→N' v w') (h:opw P o ρ w N):opw P o ρ w N':=by
 unfold opw at*;generalize (execOp ρ o).run P w=r at*;cases r with
 | ok n w'=>cases n<;>simp only at h ⊢<;>first|exact hn _ _ h|exact Calls.mono h (fun e w'' ⟨v,he,hv⟩=>⟨v,he,hn _ _ hv⟩)
 | halt x w'=>exact h
theorem opw_congr {P:Program}{o:Oper}{ρ ρ':Operand→Value}{w:World}{N:Value→World→Prop}(he:execOp ρ o=execOp ρ' o) (h:opw P o ρ w N):opw P o ρ' w N:=by
 unfold opw at*;rw[← he];exact h
theorem wp_of_opw {P:Program}{o:Oper}{a:Act}{w:World}{K:Act→World→Prop}(h:opw P o a.eval w fun v w'=>K (a.put o.dst v) w'):o.wp P a w K Q:=by
 unfold opw at h;unfold Oper.wp;generalize (execOp a.eval o).run P w=r at*;cases r with
 | ok n w'=>
  cases n<;>simp only[Oper.upon] at h ⊢
  ·exact h
  ·exact h
  ·exact Calls.mono h (fun e w'' ⟨v,he,hv⟩=>by subst he;exact hv)
 | halt x w'=>exact h.elim
theorem Inv.step (hf:Fit c) (hs0:s0.K=[]∧s0.G=[]∧s0.U=[]) (hE0:Stab c.E s0.H) (hER:∀ w w',c.E w w'→c.R w w') (hRt:∀ a b d,c.R a b→c.R b d→c.R a d)
  (hc:∀ σ m o,c.ops[m]?=some o→Cond c m o (stAt c s0 σ m))
  (htk:∀ t ∈ c.tl,isL (kindOf c t)){lst:Array Bool}{a:Act}{w:World}{i:Nat}(inv:Inv c s0 lst a w) (hi:i ∈ Region.ready .any c.ops.toArray lst):
  wpOp c.P c.ops.toArray Q i (fun a' w'=>Inv c s0 (lst.setIfInBounds i true) a' w') a w:=by
 obtain⟨hnot,o,ho',hrd⟩:lst.getD i true=false∧∃ o',c.ops.toArray[i]?=some o'∧∀ e ∈ o'.after,Region.binds .any e=true→lst.getD e.on false=true:=by
  have:=mem_ready.1 hi
  simpa using this
 have ho:c.ops[i]?=some o:=by simpa using ho'
 have hil:i<c.ops.length:=(List.getElem?_eq_some_iff.1 ho).1
 have hpre:∀ k,In c.pr i k→On lst k:=by
  intro k hk;obtain⟨_,e,he,hb,h⟩:=hf.pre i o ho k hk;rcases h with rfl|h
  ·exact hrd e he hb
  ·exact inv.shut _ (hrd e he hb) k h
 have hib0:i<lst.size:=by rw[inv.lsz];exact hil
 have hnon0:¬ On lst i:=by unfold On;simp[hib0] at hnot ⊢;exact hnot
 have hlook:∀ σ,Agree c σ lst a→∀ t,(∀ k,dstOf c.ops k=some t→In c.pr i k∨In c.pr k i)→ev c.a0 (stAt c s0 σ i).K (.tmp t)=a.eval (.tmp t)∧
   ∀ k,dstOf c.ops k=some t→a.tmps[t]?=some (ev c.a0 (stAt c s0 σ i).K (.tmp t)):=by
  intro σ hσ t ht;obtain⟨k1,k2⟩:=K_look hs0 (hc σ) hf.one i (by omega) t;by_cases hex:∃ k,dstOf c.ops k=some t
  ·obtain⟨k,hk⟩:=hex;have hkl:=dstOf_lt hk;have hko:=List.getElem?_eq_getElem hkl;have hkd:(c.ops[k]).dst=some t:=by simpa [dstOf,hko] using hk
   rcases ht k hk with hkp|hkp
   ·have hki:=(hf.pre i o ho k hkp).1;have hv:=((inv.fact σ hσ).1 k _ hko (hpre k hkp)).1 t hkd;have e:ev c.a0 (stAt c s0 σ i).K (.tmp t)=nodeVal c s0 σ k:=by simp[ev,k1 k hki hk]
    rw[e];refine⟨by simp[Act.eval,hv],fun _ _=>hv⟩
   ·have hik:=(hf.pre k _ hko i hkp).1;have hoff:∀ k',dstOf c.ops k'=some t→¬ On lst k':=fun k' hk' hon=>hnon0 (inv.shut k' hon i (by rw[hf.one k' k t hk' hk];exact hkp))
    have hb:=inv.base t hoff;have hno:∀ k',k'<i→dstOf c.ops k'≠some t:=fun k' hk' h=>by have:=hf.one k' k t h hk;omega
    have htl:t<c.a0.tmps.size:=hf.dst k _ t hko hkd;refine⟨by simp[ev,k2 hno,Act.eval,hb],fun _ _=>?_⟩;rw[hb];simp[ev,k2 hno,Act.eval,htl]
  ·have hno:∀ k,dstOf c.ops k≠some t:=fun k h=>hex ⟨k,h⟩
   refine⟨by simp[ev,k2 fun k _=>hno k,Act.eval,inv.base t (fun k h=>absurd h (hno k))],fun k hk=>absurd hk (hno k)⟩
 have heval:∀ σ,Agree c σ lst a→execOp (ev c.a0 (stAt c s0 σ i).K) o=execOp a.eval o:=by
  intro σ hσ;refine execOp_congr o (hf.sel i o ho) fun x hx=>?_
  cases x with
  | tmp t=>exact (hlook σ hσ t (hf.use i o ho t hx)).1
  | const v=>rfl
  | global g=>rfl
  | func f=>rfl
 have hguard:∀ σ,Agree c σ lst a→gd c.ops c.a0 (stAt c s0 σ i).K o=Region.wanted o (yielded c.ops.toArray a.tmps):=by
  intro σ hσ;unfold gd Region.wanted yielded;cases hg:o.guard with
  | none=>rfl
  | some p=>
   obtain⟨j,want⟩:=p;simp only;have hj:=hf.grd i o ho j want hg;have e:(c.ops.toArray[j]?).bind (·.dst)=(c.ops[j]?).bind (·.dst):=by simp
   rw[e];cases hd:(c.ops[j]?).bind (·.dst) with
   | none=>simp
   | some d=>
    have hdj:dstOf c.ops j=some d:=hd;have h1:=(hlook σ hσ d (fun k hk=>.inl (by rw[hf.one k j d hk hdj];exact hj))).2 j hdj;simp only[Option.bind_some,h1];cases ev c.a0 (stAt c s0 σ i).K (.tmp d)<;>first|rfl|(rename_i b;cases b<;>cases want<;>rfl)
 have hPre:¬ tailOn c lst→∀ σ,Agree c σ lst a→Pre c i (stAt c s0 σ i).G w:=by
  intro hno σ hσ;refine⟨inv.rel hno,fun f hf1 hf2=>?_⟩;obtain⟨_,h2⟩:=G_fact hs0 (hc σ) i (by omega) f hf1;have hl:f.1<c.ops.length:=by have:=(hf.pre i o ho f.1 hf2).1;omega
  exact (h2 w).2 (((inv.fact σ hσ).1 f.1 _ (List.getElem?_eq_getElem hl) (hpre f.1 hf2)).2 hno)
 have hib:i<lst.size:=by rw[inv.lsz];exact hil
 have hnon:¬ On lst i:=by unfold On;simp[hib] at hnot ⊢;exact hnot
 have hold:∀ v σ,Agree c σ (lst.setIfInBounds i true) (a.put o.dst v)→Agree c σ lst a:=by
  intro v σ h k ok hk hon;have hki:k≠i:=fun e=>hnon (e ▸ hon)
  have:=h k ok hk ((on_set hib).2 (.inl hon));cases hd:ok.dst with
  | none=>simpa [hd] using this
  | some d=>
   simp only[hd] at this;show a.tmps[d]?=some (σ k);rw[← this];cases hd':o.dst with
   | none=>rfl
   | some d'=>
    have:d'≠d:=fun e=>hki (hf.one k i d (by simp[dstOf,hk,hd]) (by simp[dstOf,ho,hd',e]))
    simp[Act.put,Array.getElem?_setIfInBounds_ne this]
 have hnew:∀ v σ,Agree c σ (lst.setIfInBounds i true) (a.put o.dst v)→σ i=vd o v:=by
  intro v σ h;have:=h i o ho ((on_set hib).2 (.inr rfl));cases hd:o.dst with
  | none=>simpa [hd,vd] using this
  | some d=>
   have hsz:=hf.dst i o d ho hd;simp[hd,Act.put,inv.tsz,hsz] at this;simp[vd,hd,this]
 obtain⟨σ0,hσ0⟩:=agree_some c lst a hf inv.tsz;have hC:=hc σ0 i o ho;have hEv:=heval σ0 hσ0;have hGd:=hguard σ0 hσ0;have hHead:(kindOf c i=1∨kindOf c i=2∨kindOf c i=3∨kindOf c i=4)→¬ tailOn c lst:=fun hk ⟨t,ht,hon⟩=>hnon (inv.shut t hon i (kind_head hk t ht))
 have hHi:isL (kindOf c i)→(∀ k ∈ (stAt c s0 σ0 i).U,In c.pr i k)→(stAt c s0 σ0 i).H w:=by
  intro hl hU;refine (inv.fact σ0 hσ0).2 i (by omega) fun k hk1 hk2=>⟨fun hon=>?_,fun hlt=>?_⟩
  ·rcases Nat.lt_trichotomy k i with h1|h1|h1
   ·exact h1
   ·exact absurd (h1 ▸ hon) hnon
   ·have hck:=hc σ0 k _ (List.getElem?_eq_getElem hk1);have hui:i ∈ (stAt c s0 σ0 k).U:=(U_iff hs0 (hc σ0) k (by omega) i).2 ⟨h1,.inr hl⟩;exact absurd (inv.shut k hon i (cond_waits hck hk2 i hui)) hnon
  ·exact hpre k (hU k ((U_iff hs0 (hc σ0) i (by omega) k).2 ⟨hlt,.inr hk2⟩))
 have hTail:isL (kindOf c i)→(∀ k ∈ (stAt c s0 σ0 i).U,In c.pr i k)→(∀ t ∈ c.tl,¬ In c.pr i t)→(∀ t ∈ c.tl,isL (kindOf c t))→¬ tailOn c lst:=by
  rintro hl hU hnt hall ⟨t,ht,hon⟩;have hon':On lst t:=hon
  have htl:t<c.ops.length:=by
   rcases Nat.lt_or_ge t c.ops.length with h|h
   ·exact h
   ·unfold On at hon';rw[← inv.lsz] at h;simp[Array.getElem?_eq_none h] at hon'
  rcases Nat.lt_trichotomy t i with h1|h1|h1
  ·exact hnt t ht (hU t ((U_iff hs0 (hc σ0) i (by omega) t).2 ⟨h1,.inr (hall t ht)⟩))
  ·exact absurd (h1 ▸ hon') hnon
  ·have hck:=hc σ0 t _ (List.getElem?_eq_getElem htl);have hui:i ∈ (stAt c s0 σ0 t).U:=(U_iff hs0 (hc σ0) t (by omega) i).2 ⟨h1,.inr hl⟩;exact absurd (inv.shut t hon' i (cond_waits hck (hall t ht) i hui)) hnon
 have hsame:∀ v,(∀ k ∈ (stAt c s0 σ0 i).U,In c.pr i k)→∀ σ,Agree c σ (lst.setIfInBounds i true) (a.put o.dst v)→stAt c s0 σ i=stAt c s0 σ0 i:=by
  intro v hU σ hσ;refine (stAt_congr (hc σ0) i (by omega) fun k hk=>?_).symm;have hon:=hpre k (hU k hk);have hkl:k<c.ops.length:=by have:=((U_iff hs0 (hc σ0) i (by omega) k).1 hk).1;omega
  have h1:=hσ0 k _ (List.getElem?_eq_getElem hkl) hon;have h2:=hold v σ hσ k _ (List.getElem?_eq_getElem hkl) hon;cases hd:(c.ops[k]).dst with
  | none=>simp only[hd] at h1 h2;rw[h1,h2]
  | some d=>simp only[hd] at h1 h2;rw[h1] at h2;exact Option.some.inj h2
 have hPT:isL (kindOf c i)→(∀ k ∈ (stAt c s0 σ0 i).U,In c.pr i k)→PreT c i (stAt c s0 σ0 i).G w:=fun hl hU hnt=>hPre (hTail hl hU hnt htk) σ0 hσ0
 unfold wpOp;simp only[ho'];have kinds:∀ σ,Cond c i o (stAt c s0 σ i):=fun σ=>hc σ i o ho
 have nx:=@Inv.next c s0 lst a w i o hf hs0 hE0 hRt hc inv hi ho;have hset:i ∈ c.tl→tailOn c (lst.setIfInBounds i true):=fun h=>⟨i,h,(on_set hib).2 (.inr rfl)⟩
 unfold Cond at hC;cases ht:(stAt c s0 σ0 i).t<;>simp only[ht] at hC
 case nxt t=>
  rw[if_neg (by rw[← hGd,hC.2];simp)];refine nx (fun _=>.inl rfl) (fun σ hσ=>?_) (.inl ⟨by rw[hC.1];unfold isL;decide,.inl rfl⟩);have hk:=cond_kind (kinds σ);unfold nodeVal nodeFact;cases hts:(stAt c s0 σ i).t<;>simp only[hts] at hk ⊢<;>first|(rw[hC.1] at hk;simp at hk;done)|exact⟨fun _ _=>rfl,fun _=>trivial⟩|simp
 case val v t=>
  have hrun:(execOp (ev c.a0 (stAt c s0 σ0 i).K) o).run c.P w=.ok (.value v) w:=hC.2.elim (fun h=>h.2 w (hPre (hHead (.inl h.1)) σ0 hσ0)) (fun h=>h.2 w);rw[if_pos (by rw[← hGd,hC.1])];refine .inl (wp_of_opw ?_);unfold opw;rw[← hEv,hrun];have hkk:kindOf c i=1∨kindOf c i=5:=hC.2.imp (·.1) (·.1);refine nx (fun _=>.inl rfl) (fun σ hσ=>?_) (.inl ⟨by unfold isL;omega,.inl rfl⟩);have hσ':=hold v σ hσ;have hks:=kinds σ;have hk:=cond_kind hks;unfold Cond at hks;unfold nodeVal nodeFact;cases hts:(stAt c s0 σ i).t<;>simp only[hts] at hk hks ⊢
  case val v' t'=>
   have h':(execOp (ev c.a0 (stAt c s0 σ i).K) o).run c.P w=.ok (.value v') w:=hks.2.elim (fun h=>h.2 w (hPre (hHead (.inl h.1)) σ hσ')) (fun h=>h.2 w);rw[heval σ hσ',← hEv,hrun] at h';cases h'
   exact⟨fun _ _=>rfl,fun _=>trivial⟩
  all_goals omega
 case free t=>
  rw[if_pos (by rw[← hGd,hC.2.1])];refine .inl (wp_of_opw ?_);have hrun:=hC.2.2.2 w (hPre (hHead (.inr (.inl hC.1))) σ0 hσ0);refine opw_congr hEv (opw_mono (fun v w' hv=>?_) hrun);refine nx (fun _=>.inr (hER _ _ hv.1)) (fun σ hσ=>?_) (.inl ⟨by rw[hC.1];unfold isL;decide,.inr hv.1⟩);have hn:=hnew v σ hσ;have hk:=cond_kind (kinds σ);unfold nodeVal nodeFact;cases hts:(stAt c s0 σ i).t<;>simp only[hts] at hk ⊢
  case free t'=>exact⟨fun d hd=>by rw[hn];simp[vd,hd],fun _=>by rw[hn];exact hv.2⟩
  all_goals omega
 case sq g h t=>
  rw[if_pos (by rw[← hGd,hC.1])];refine .inl (wp_of_opw ?_);have hl:isL (kindOf c i):=by unfold isL;rcases hC.2.2.2 with h|h<;>omega
  have hH:=hHi hl hC.2.2.1;have same:=fun v=>hsame v hC.2.2.1
  rcases hC.2.2.2 with hq|hq
  ·have hrun:=hq.2.2 w (hPre (hHead (.inr (.inr (.inl hq.1)))) σ0 hσ0) hH;refine opw_congr hEv (opw_mono (fun v w' hv=>?_) hrun);refine nx (fun _=>.inr hv.1) (fun σ hσ=>?_) (.inr ⟨hl,fun σ hσ=>?_⟩)
   ·have hn:=hnew v σ hσ;unfold nodeVal nodeFact;rw[same v σ hσ];simp only[ht];exact⟨fun d hd=>by rw[hn];simp[vd,hd],fun _=>by rw[hn];exact hv.2.1⟩
   ·have hn:=hnew v σ hσ;rw[stAt_succ ho,same v σ hσ];unfold adv;simp only[ht];rw[hn];exact hv.2.2
  ·have hrun:=hq.2.2 w (hPT hl hC.2.2.1) hH;have hto:=hset (kind_tail (.inl hq.1));refine opw_congr hEv (opw_mono (fun v w' hv=>?_) hrun);refine nx (fun hno=>absurd hto hno) (fun σ hσ=>?_) (.inr ⟨hl,fun σ hσ=>?_⟩)
   ·have hn:=hnew v σ hσ;unfold nodeVal nodeFact;rw[same v σ hσ];simp only[ht];exact⟨fun d hd=>by rw[hn];simp[vd,hd],fun hno=>absurd hto hno⟩
   ·have hn:=hnew v σ hσ;rw[stAt_succ ho,same v σ hσ];unfold adv;simp only[ht];rw[hn];exact hv
 case sqv v0 h t=>
  rw[if_pos (by rw[← hGd,hC.1])];refine .inl (wp_of_opw ?_);have hl:isL (kindOf c i):=by unfold isL;rcases hC.2.2.2 with h|h<;>omega
  have hH:=hHi hl hC.2.2.1;have same:=fun v=>hsame v hC.2.2.1
  rcases hC.2.2.2 with hq|hq
  ·have hrun:=hq.2 w (hPre (hHead (.inr (.inr (.inr hq.1)))) σ0 hσ0) hH;refine opw_congr hEv (opw_mono (fun v w' hv=>?_) hrun);refine nx (fun _=>.inr hv.2.1) (fun σ hσ=>?_) (.inr ⟨hl,fun σ hσ=>?_⟩)
   ·unfold nodeVal nodeFact;rw[same v σ hσ];simp only[ht];exact⟨fun d hd=>(hv.1 (by simp[hd])).symm,fun _=>trivial⟩
   ·rw[stAt_succ ho,same v σ hσ];unfold adv;simp only[ht];exact hv.2.2
  ·have hrun:=hq.2 w (hPT hl hC.2.2.1) hH;have hto:=hset (kind_tail (.inr hq.1));refine opw_congr hEv (opw_mono (fun v w' hv=>?_) hrun);refine nx (fun hno=>absurd hto hno) (fun σ hσ=>?_) (.inr ⟨hl,fun σ hσ=>?_⟩)
   ·unfold nodeVal nodeFact;rw[same v σ hσ];simp only[ht];exact⟨fun d hd=>(hv.1 (by simp[hd])).symm,fun hno=>absurd hto hno⟩
   ·rw[stAt_succ ho,same v σ hσ];unfold adv;simp only[ht];exact hv.2
theorem all_on (hf:Fit c){lst:Array Bool}(hl:lst.size=c.ops.length) (h:Region.ready .any c.ops.toArray lst=[]):∀ k,k<c.ops.length→On lst k:=by
 intro k
 induction k using Nat.strongRecOn with
 | _ k ih=>
  intro hk;by_cases hon:On lst k
  ·exact hon
  ·exfalso;have hko:=List.getElem?_eq_getElem hk
   have:k ∈ Region.ready .any c.ops.toArray lst:=by
    refine mem_ready.2 ?_
    have h1:lst.getD k true=false:=by
     unfold On at hon;have hkb:k<lst.size:=by omega
     simp[hkb] at hon ⊢;exact hon
    have h2:∀ e ∈ (c.ops[k]).after,Region.binds .any e=true→lst.getD e.on false=true:=fun e he hb=>ih e.on (hf.back k _ hko e he hb) (by have:=hf.back k _ hko e he hb;omega)
    simp[h1,hko]
    simpa using h2
   rw[h] at this;cases this
theorem wpAny_inv (hf:Fit c) (hs0:s0.K=[]∧s0.G=[]∧s0.U=[]) (hE0:Stab c.E s0.H) (hER:∀ w w',c.E w w'→c.R w w') (hRt:∀ a b d,c.R a b→c.R b d→c.R a d)
  (htk:∀ t ∈ c.tl,isL (kindOf c t)) (hg:∀ σ,Good c (Q .normal) σ c.ops 0 s0):∀ (fuel:Nat) (lst:Array Bool) (a:Act) (w:World),Inv c s0 lst a w→lst.toList.count false≤fuel→
   wpAny c.P .any c.ops.toArray Q fuel lst a w:=by
 have hall:=fun σ=>good_all (c:=c) (s0:=s0) (Z:=Q .normal) (σ:=σ) c.ops 0 (by simp) (hg σ)
 have hc:∀ σ m o,c.ops[m]?=some o→Cond c m o (stAt c s0 σ m):=fun σ m o ho=>(hall σ).1 m o (Nat.zero_le _) ho
 have fin:∀ (lst:Array Bool) (a:Act) (w:World),Inv c s0 lst a w→Region.ready .any c.ops.toArray lst=[]→Q .normal a w:=by
  intro lst a w inv hr;have hon:=all_on hf inv.lsz hr;obtain⟨σ,hσ⟩:=agree_some c lst a hf inv.tsz;obtain⟨f1,f2⟩:=inv.fact σ hσ;have hnt:c.tl=[]→¬ tailOn c lst:=fun e ⟨t,ht,_⟩=>by rw[e] at ht;cases ht
  have hz:=(hall σ).2 (Nat.zero_le _) w (fun e=>inv.rel (hnt e)) (fun e f hfm=>by
   obtain⟨h1,h2⟩:=G_fact hs0 (hc σ) _ (Nat.le_refl _) f hfm;exact (h2 w).2 ((f1 f.1 _ (List.getElem?_eq_getElem h1) (hon f.1 h1)).2 (hnt e))) (f2 _ (Nat.le_refl _) fun k hk _=>⟨fun _=>hk,fun _=>hon k hk⟩)
  have e:put c.a0 (stAt c s0 σ c.ops.length).K=a:=by
   have hp:=put_look c.a0 (stAt c s0 σ c.ops.length).K;have hsz:=(hp 0).1;have hdf:=(hp 0).2.1
   have:(put c.a0 (stAt c s0 σ c.ops.length).K).tmps=a.tmps:=by
    refine Array.ext_getElem? fun t=>?_
    rw[(hp t).2.2];obtain⟨k1,k2⟩:=K_look hs0 (hc σ) hf.one c.ops.length (Nat.le_refl _) t;by_cases hex:∃ k,dstOf c.ops k=some t
    ·obtain⟨k,hk⟩:=hex;have hkl:=dstOf_lt hk;have hko:=List.getElem?_eq_getElem hkl;have hkd:(c.ops[k]).dst=some t:=by simpa [dstOf,hko] using hk
     have ht:=hf.dst k _ t hko hkd;rw[k1 k hkl hk,(f1 k _ hko (hon k hkl)).1 t hkd];simp[ht]
    ·have hno:∀ k,dstOf c.ops k≠some t:=fun k h=>hex ⟨k,h⟩
     rw[k2 fun k _=>hno k,inv.base t (fun k h=>absurd h (hno k))]
   calc put c.a0 (stAt c s0 σ c.ops.length).K=⟨(put c.a0 (stAt c s0 σ c.ops.length).K).tmps,(put c.a0 (stAt c s0 σ c.ops.length).K).defers⟩:=rfl
    _=⟨a.tmps,a.defers⟩:=by rw[this,hdf,inv.def_]
    _=a:=rfl
  rw[← e];exact hz
 intro fuel
 induction fuel with
 | zero=>
  intro lst a w inv hcnt
  have hr:Region.ready .any c.ops.toArray lst=[]:=by
   refine List.eq_nil_iff_forall_not_mem.2 fun k hk=>?_
   have h1:lst.getD k true=false:=by
    have:=mem_ready.1 hk;simp at this
    simpa using this.1
   have hkb:k<lst.size:=by
    rcases Nat.lt_or_ge k lst.size with h|h
    ·exact h
    ·simp[Array.getElem?_eq_none h] at h1
   have:false ∈ lst.toList:=by
    simp[hkb] at h1;rw[← h1];simp
   have:=List.count_pos_iff.2 this;omega
  exact⟨hr,fin lst a w inv hr⟩
 | succ fuel ih=>
  intro lst a w inv hcnt;refine⟨fin lst a w inv,fun i hi=>?_⟩;refine wpOp_mono (fun a' w' h=>?_) (Inv.step hf hs0 hE0 hER hRt hc htk inv hi);refine ih _ _ _ h ?_
  have h1:lst.getD i true=false:=by
   have:=mem_ready.1 hi;simp at this
   simpa using this.1
  have hib:i<lst.size:=by
   rcases Nat.lt_or_ge i lst.size with h|h
   ·exact h
   ·simp[Array.getElem?_eq_none h] at h1
  have h2:lst.toList[i]'(by simpa using hib)=false:=by simpa [hib] using h1
  have h3:0<lst.toList.count false:=List.count_pos_iff.2 (by rw[← h2];exact List.getElem_mem _);have h4:(lst.setIfInBounds i true).toList=lst.toList.set i true:=by simp
  have h5:(lst.toList.set i true).count false=lst.toList.count false - 1:=by
   rw[List.count_set (by simpa using hib),h2];rfl
  rw[h4,h5];omega
theorem regionT {P:Program}{id:Nat}{l:List Oper}{a:Act}{w:World}(R E:World→World→Prop) (kd tl:List Nat) (tbl:Nat→Value→World→Prop) (H:World→Prop)
  (hm:P.follows .mixedOrders=true) (hR:R w.drew w.drew) (hER:∀ w w',E w w'→R w w') (hRt:∀ a b d,R a b→R b d→R a d) (hE0:Stab E H) (h0:H w.drew)
  (hchk:chk a.tmps.size l (mkPr l [])=true) (htk:(tl.all fun t=>kd.getD t 9 == 6 || kd.getD t 9 == 7)=true)
  (h:let c:Cx:=⟨P,R,E,a,w.drew,l,mkPr l [],kd,tl,tbl⟩;RA c (Q .normal) l 0 [] [] [] H):(Code.region id l.toArray true).wp P Q a w:=by
 obtain⟨c,hc0⟩:∃ c:Cx,c=⟨P,R,E,a,w.drew,l,mkPr l [],kd,tl,tbl⟩:=⟨_,rfl⟩;obtain⟨t,ht⟩:RA c (Q .normal) l 0 [] [] [] H:=by rw[hc0];exact h
 refine wp_region_any hm ?_;have e1:c.P=P:=by rw[hc0]
 have e2:c.ops=l:=by rw[hc0]
 have e3:c.a0=a:=by rw[hc0]
 have e4:c.R=R:=by rw[hc0]
 have e5:c.E=E:=by rw[hc0]
 have e6:c.w0=w.drew:=by rw[hc0]
 have hf:Fit c:=Fit.of_chk c (by rw[hc0];exact hchk)
 have htk':∀ t ∈ c.tl,isL (kindOf c t):=by
  intro t htl;have h1:t ∈ tl:=by rw[hc0] at htl;exact htl
  have h2:=List.all_eq_true.1 htk t h1;have hkd:c.kd=kd:=by rw[hc0]
  simp only[Bool.or_eq_true,beq_iff_eq] at h2;unfold kindOf isL;rw[hkd];rw[if_neg (by omega),if_pos h2,if_pos (by simpa using htl)];omega
 have hgood:∀ σ,Good c (Q .normal) σ c.ops 0 ⟨t,[],[],[],H⟩:=fun σ=>by rw[e2];exact ht σ
 have main:=wpAny_inv (c:=c) (s0:=⟨t,[],[],[],H⟩) (Q:=Q) hf ⟨rfl,rfl,rfl⟩ (by rw[e5];exact hE0) (by rw[e4,e5];exact hER) (by rw[e4];exact hRt) htk' hgood;rw[e1,e2] at main
 have hoff:∀ k,¬ On (Array.replicate l.length false) k:=by
  intro k hk;unfold On at hk;by_cases hl:k<l.length<;>simp[hl] at hk
 simp only[List.size_toArray];refine main l.length (Array.replicate l.length false) a w.drew ⟨by simp[e2],by rw[e3],by rw[e3],fun _ _=>by rw[e3],fun _=>by rw[e4,e6];exact hR,fun i hi=>absurd hi (hoff i),fun σ _=>⟨fun k o _ hk=>absurd hk (hoff k),fun m hm' hk=>?_⟩⟩ (by simp)
 have hcσ:∀ m o,c.ops[m]?=some o→Cond c m o (stAt c ⟨t,[],[],[],H⟩ σ m):=
  fun m o ho=>(good_all (c:=c) (s0:=⟨t,[],[],[],H⟩) (Z:=Q .normal) (σ:=σ) c.ops 0 (by simp) (hgood σ)).1 m o (Nat.zero_le _) ho
 rw[H_same hcσ (m:=0) (m':=m) (Nat.zero_le _) hm' fun k _ h2 h3=>hoff k ((hk k (Nat.lt_of_lt_of_le h2 hm') h3).2 h2)];exact h0
theorem region {P:Program}{id:Nat}{l:List Oper}{a:Act}{w:World}(R E:World→World→Prop) (kd:List Nat) (tbl:Nat→Value→World→Prop) (H:World→Prop)
  (hm:P.follows .mixedOrders=true) (hR:R w.drew w.drew) (hER:∀ w w',E w w'→R w w') (hRt:∀ a b d,R a b→R b d→R a d) (hE0:Stab E H) (h0:H w.drew)
  (hchk:chk a.tmps.size l (mkPr l [])=true)
  (h:let c:Cx:=⟨P,R,E,a,w.drew,l,mkPr l [],kd,[],tbl⟩;RA c (Q .normal) l 0 [] [] [] H):(Code.region id l.toArray true).wp P Q a w:=
 regionT R E kd [] tbl H hm hR hER hRt hE0 h0 hchk rfl h
theorem rt {P:Program}{id:Nat}{l:List Oper}{a:Act}{w:World}(R:World→World→Prop) (kd tl:List Nat) (H:World→Prop) (h0:H w.drew) (hR:∀ w,R w w) (hT:∀ a b d,R a b→R b d→R a d)
  (hm:P.follows .mixedOrders=true:=by kernel_rfl) (hchk:chk a.tmps.size l (mkPr l [])=true:=by kernel_rfl) (htk:(tl.all fun t=>kd.getD t 9 == 6 || kd.getD t 9 == 7)=true:=by kernel_rfl)
  (h:let c:Cx:=⟨P,R,(·=·),a,w.drew,l,mkPr l [],kd,tl,fun _ _ _=>True⟩;RA c (Q .normal) l 0 [] [] [] H):(Code.region id l.toArray true).wp P Q a w:=
 regionT R (·=·) kd tl (fun _ _ _=>True) H hm (hR _) (fun _ _ e=>e ▸ hR _) hT (fun _ _ e k=>e ▸ k) h0 hchk htk h
end main
end Go.Proofs.YthmcbgidehjlbaaGreat.RA

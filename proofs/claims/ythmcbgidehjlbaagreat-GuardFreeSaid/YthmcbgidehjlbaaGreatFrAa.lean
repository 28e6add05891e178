/-
 Parts of the proof. No condition beyond what each theorem names.
-/
import Derived.WalkKit
namespace Go.Proofs.YthmcbgidehjlbaaGreat
open Go Go.RowKit
variable {p A B C Z E F G J:Prop}
def Hd (p:Prop):Prop:=p
theorem LH (h:p):Hd p:=h
theorem Hd.out (h:Hd p):p:=h
theorem Hd.o (h:Hd p):p:=h
abbrev IJ:=And.intro @Value.slice.injEq (And.intro @Option.some.injEq.{0} (And.intro @Addr.mk.injEq (And.intro @Obj.cells.injEq (And.intro @Value.pointer.injEq (@Value.int.injEq)))))
abbrev TP:=And.intro @Array.getD_eq_getD_getElem?.{0} (And.intro @List.getElem?_toArray.{0} (And.intro @List.getElem?_cons_zero.{0} (And.intro @List.getElem?_cons_succ.{0} (@Option.getD_some.{0}))))
abbrev NT:=And.intro @List.size_toArray.{0} (And.intro @List.length_cons.{0} (And.intro @List.length_nil.{0} (And.intro @Array.replicate_succ.{0} (And.intro @Array.replicate_zero.{0} (And.intro @List.push_toArray.{0} (And.intro @List.append_toArray.{0} (And.intro @List.nil_append.{0} (@List.cons_append.{0}))))))))
theorem om (h:p:=by omega):p:=h
theorem rf (h:p:=by rfl):p:=h
theorem kr (h:p:=by kernel_rfl):p:=h
theorem de (h:p:=by decide):p:=h
theorem sm (h:p:=by simp):p:=h
theorem mx (h:p:=by unfold maxLen;omega):p:=h
theorem H3 (h:Hd A->Hd B->Hd C->Z):A->B->C->Z:=λa b c=>h a b c
theorem H4 {D:Prop}(h:Hd A->Hd B->Hd C->Hd D->Z):A->B->C->D->Z:=λa b c d=>h a b c d
theorem H5 {D:Prop}(h:Hd A->Hd B->Hd C->Hd D->Hd E->Z):A->B->C->D->E->Z:=λa b c d e=>h a b c d e
theorem H6 {D:Prop}(h:Hd A->Hd B->Hd C->Hd D->Hd E->Hd F->Z):A->B->C->D->E->F->Z:=λa b c d e f=>h a b c d e f
theorem H7 {D:Prop}(h:Hd A->Hd B->Hd C->Hd D->Hd E->Hd F->Hd G->Z):A->B->C->D->E->F->G->Z:=λa b c d e f g=>h a b c d e f g
theorem H8 {D:Prop}(h:Hd A->Hd B->Hd C->Hd D->Hd E->Hd F->Hd G->Hd J->Z):A->B->C->D->E->F->G->J->Z:=λa b c d e f g j=>h a b c d e f g j
theorem H9 {D K:Prop}(h:Hd A->Hd B->Hd C->Hd D->Hd E->Hd F->Hd G->Hd J->Hd K->Z):A->B->C->D->E->F->G->J->K->Z:=λa b c d e f g j k=>h a b c d e f g j k
theorem G4 {D:Prop}(a:A)(b:B)(c:C)(d:D) (h:Hd A->Hd B->Hd C->Hd D->Z):Z:=h a b c d
theorem G5 {D:Prop}(a:A)(b:B)(c:C)(d:D)(e:E) (h:Hd A->Hd B->Hd C->Hd D->Hd E->Z):Z:=h a b c d e
theorem G6 {D:Prop}(a:A)(b:B)(c:C)(d:D)(e:E)(f:F) (h:Hd A->Hd B->Hd C->Hd D->Hd E->Hd F->Z):Z:=h a b c d e f
theorem G7 {D:Prop}(a:A)(b:B)(c:C)(d:D)(e:E)(f:F)(g:G) (h:Hd A->Hd B->Hd C->Hd D->Hd E->Hd F->Hd G->Z):Z:=h a b c d e f g
theorem G8 {D:Prop}(a:A)(b:B)(c:C)(d:D)(e:E)(f:F)(g:G)(j:J) (h:Hd A->Hd B->Hd C->Hd D->Hd E->Hd F->Hd G->Hd J->Z):Z:=h a b c d e f g j
theorem G9 {D K:Prop}(a:A)(b:B)(c:C)(d:D)(e:E)(f:F)(g:G)(j:J)(k:K) (h:Hd A->Hd B->Hd C->Hd D->Hd E->Hd F->Hd G->Hd J->Hd K->Z):Z:=h a b c d e f g j k
theorem Ex {α:Sort _}(a:α):∃ b,b=a:=⟨a,rfl⟩
abbrev ae:=@Nat.le_refl
abbrev ag:=@Go.RowKit.Below.refl
abbrev ah:=@if_neg
abbrev aj:=@Go.heap_alloc_new
abbrev ak:=@if_pos
abbrev am:=@Nat.le_trans
abbrev ao:=@Option.some.injEq
abbrev aq:=@List.set_cons_succ
abbrev ar:=@List.setIfInBounds_toArray
abbrev au:=@List.set_cons_zero
abbrev av:=@List.getElem?_eq_getElem
abbrev aw:=@Nat.zero_add
abbrev az:=@Go.World.cell?_of_block
abbrev aB:=@Go.RowKit.Below.heap_alloc
abbrev aC:=@Go.Value.slice.injEq
abbrev aD:=@List.getElem?_eq_some_iff
abbrev aE:=@List.length_append
abbrev aF:=@Option.some.inj
abbrev aG:=@Go.setRow_other
abbrev aH:=@Nat.lt_of_lt_of_le
abbrev aI:=@Go.bodyPost_ret
abbrev aJ:=@Go.setRow_heap
abbrev aK:=@List.length_replicate
abbrev aL:=@List.getElem?_append_right
abbrev aM:=@Go.Sem.run_bind
abbrev aN:=@Go.World.size_alloc
abbrev aO:=@List.mem_map
abbrev aP:=@UInt8.toNat_lt
abbrev aR:=@List.length_take
abbrev aS:=@Go.World.ownsRow_nil
abbrev aT:=@List.size_toArray
abbrev aU:=@List.getElem?_take
abbrev aV:=@List.getElem?_toArray
abbrev aW:=@Nat.zero_le
abbrev aX:=@List.getElem?_append_left
abbrev aY:=@Nat.mul_one
abbrev aZ:=@List.mem_of_getElem?
abbrev bb:=@Go.run_underlying
abbrev bd:=@Go.results_cell_row
abbrev bf:=@List.getElem?_map
abbrev bg:=@List.length_set
abbrev bh:=@List.take_of_length_le
abbrev bi:=@List.mem_cons
abbrev bj:=@List.length_cons
abbrev bm:=@Array.getElem?_eq_some_iff
abbrev bt:=@List.map_cons
abbrev bu:=@Go.Result.andThen_ok
abbrev bw:=@List.mem_append
abbrev bE:=@List.nil_append
abbrev bF:=@List.getElem?_drop
abbrev bG:=@Go.IntKind.wrap_u32'
abbrev bH:=@Array.getElem?_setIfInBounds_ne
abbrev bI:=@Go.u32_xor_nat
abbrev bJ:=@Go.Addr.add_lit
abbrev bK:=@List.getElem_mem
abbrev bL:=@List.not_mem_nil
abbrev bM:=@List.length_drop
abbrev bO:=@Go.IntKind.wrap_i64
abbrev bP:=@List.take_succ_eq_append_getElem
abbrev bQ:=@List.any_eq_true
abbrev bS:=@or_false
abbrev bT:=@List.map_nil
abbrev bU:=@List.all_eq_true
abbrev bV:=@congrArg
abbrev bX:=@List.getElem?_cons_succ
abbrev bY:=@Ne.symm
abbrev bZ:=@Int.tmod_eq_emod_of_nonneg
abbrev b9:=@List.ext_getElem?
abbrev ch:=@Go.World.ownsRow_lit
abbrev cn:=@Bool.not_true
abbrev cq:=@List.mem_cons_self
abbrev cw:=@Go.info_parts
abbrev cy:=@Nat.add_assoc
abbrev cB:=@List.getElem?_eq_none
abbrev cC:=@List.append_assoc
abbrev cD:=@List.mem_singleton
abbrev cE:=@Nat.le_of_lt
abbrev cF:=@Nat.le_of_ble_eq_true
abbrev cG:=@Bool.not_false
abbrev cH:=@List.eq_nil_of_length_eq_zero
abbrev cI:=@List.map_toArray
abbrev cJ:=@Nat.le_of_eq
abbrev cL:=@decide_eq_true_eq
abbrev cM:=@List.getElem?_of_mem
abbrev cN:=@Go.wpList_plain
abbrev cO:=@List.map_map
abbrev cQ:=@Nat.lt_of_le_of_lt
abbrev cR:=@Go.run_loadVar_row
abbrev cS:=@List.take_length
abbrev cZ:=@Array.getElem?_toList
abbrev df:=@List.length_map
abbrev dh:=@Nat.min_eq_left
abbrev di:=@Go.u32_or_nat
abbrev dj:=@Array.length_toList
abbrev dm:=@List.append_nil
abbrev dq:=@List.getElem?_cons_zero
abbrev dr:=@Option.map_some
abbrev dt:=@decide_eq_false
abbrev du:=@List.mem_range
abbrev dw:=@of_decide_eq_true
abbrev dx:=@Go.u8_xor_nat
abbrev dy:=@Go.nat_join
abbrev dz:=@List.map_append
abbrev dA:=@Nat.sub_self
abbrev dF:=@List.range_succ
abbrev dG:=@Nat.lt_trichotomy
abbrev dH:=@Nat.not_lt_zero
abbrev dI:=@List.getElem_of_mem
abbrev dJ:=@Go.callsIn_wide
abbrev dK:=@Nat.pow_succ
abbrev dL:=@List.foldl_append
abbrev dM:=@Array.getElem?_setIfInBounds_self_of_lt
abbrev dN:=@decide_eq_true
abbrev dO:=@Nat.lt_succ_iff_lt_or_eq
abbrev dP:=@true_and
abbrev dQ:=@Go.RowKit.Below.drew
abbrev dR:=@Go.RowKit.Below.alloc
abbrev dS:=@Go.RowKit.Below.setCell
abbrev dU:=@Go.wpIn_wide
abbrev dV:=@List.getElem?_take_of_lt
abbrev dW:=@Array.getElem?_modify
abbrev dX:=@List.take_zero
abbrev dY:=@Nat.add_zero
abbrev dZ:=@List.map_congr_left
abbrev d9:=@Int.natCast_mul
abbrev ea:=@if_true
abbrev ee:=@Bool.or_eq_true
abbrev ef:=@Bool.and_eq_true
abbrev eh:=@beq_iff_eq
abbrev ei:=@List.map_set
abbrev ej:=@List.getElem?_set
abbrev ek:=@Nat.add_sub_cancel_left
abbrev el:=@Int.tdiv_eq_ediv_of_nonneg
abbrev eo:=@List.any_eq_false
abbrev ep:=@Go.Value.int.injEq
abbrev et:=@UInt8.toNat_inj
abbrev eu:=@Nat.lt_or_ge
abbrev ew:=@Go.growslice_fits
abbrev ey:=@Nat.div_le_self
abbrev ez:=@Go.IntKind.wrap_u8'
abbrev eA:=@List.foldl_cons
abbrev eB:=@Array.toList_setIfInBounds
abbrev eC:=@List.getElem?_replicate
abbrev eD:=@Nat.mul_lt_mul''
abbrev eE:=@Nat.mod_lt
abbrev eF:=@Go.grownCap_ge
abbrev eG:=@List.take_append_of_le_length
abbrev eH:=@List.take_succ_cons
abbrev eI:=@Bool.eq_iff_iff
abbrev eJ:=@List.pairwise_iff_getElem
abbrev eK:=@Go.callsIn_of_wp
abbrev eL:=@List.flatten_cons
abbrev eM:=@Array.getElem?_eq_none
abbrev eN:=@List.take_append
abbrev eO:=@List.map_take
abbrev eP:=@Int.natCast_emod
abbrev eQ:=@Go.mem_ready
abbrev eR:=@Go.wpList_load_row
abbrev eS:=@Go.setRow_size
abbrev eT:=@List.getElem?_set_ne
abbrev eU:=@UInt32.toNat_lt
abbrev eV:=@List.drop_eq_nil_of_le
abbrev eW:=@List.mem_iff_getElem?
abbrev eX:=@Nat.and_le_left
abbrev eY:=@Go.u32_and_nat
abbrev eZ:=@List.drop_succ_cons
abbrev e9:=@Go.run_build
abbrev fc:=@List.mem_cons_of_mem
abbrev fd:=@Go.MapKept.run_getObj_map
abbrev fe:=@List.take_set
abbrev ff:=@Go.World.size_setCell
abbrev fg:=@Go.DataW.trod_int
abbrev fh:=@List.getElem?_range
abbrev fj:=@List.take_take
abbrev fl:=@List.drop_take
abbrev fm:=@List.map_drop
abbrev fo:=@Go.run_sliceAt_slice
abbrev fp:=@Nat.or_lt_two_pow
abbrev fq:=@Eq.trans
abbrev ft:=@Go.IntKind.wrap_u64
abbrev fv:=@List.set_append_right
abbrev fw:=@Go.grownCap_le_maxLen
abbrev fx:=@Array.size_append
abbrev fy:=@Go.size_zeroCells
abbrev fA:=@List.drop_zero
abbrev fB:=@List.drop_drop
abbrev fC:=@Array.ext'
abbrev fD:=@Bool.false_or
abbrev fE:=@Prod.mk.injEq
abbrev fF:=@List.take_add
abbrev fG:=@Go.size_madeCells
abbrev fH:=@List.find?_eq_none
abbrev fI:=@Bool.false_eq_true
abbrev fJ:=@if_false
abbrev fK:=@Go.RowKit.run_makeMap
abbrev fL:=@Go.Value.map.injEq
abbrev fM:=@List.getElem?_zipIdx
abbrev fN:=@List.getD_eq_getElem?_getD
abbrev fO:=@Go.Ending.returned.injEq
abbrev fP:=@Go.DataW.trod_lt
abbrev fQ:=@Go.RowKit.Below.trod
abbrev fR:=@Nat.mul_le_mul_right
abbrev fS:=@Go.run_append_grow
abbrev fT:=@Go.setRow_self
abbrev fU:=@Int.le_refl
abbrev fV:=@Go.u8_and_nat
abbrev fX:=@Go.u64_and_nat
abbrev fY:=@Int.natCast_ediv
abbrev fZ:=@Nat.sub_zero
abbrev f7:=@Classical.axiomOfChoice
abbrev f9:=@Option.bind_eq_some_iff
abbrev ga:=@Array.ext_getElem?
abbrev gg:=@Go.run_part_plain
abbrev gi:=@Go.run_storeVar_row
abbrev gj:=@Go.run_loadCells_list
abbrev gl:=@Nat.pow_le_pow_right
abbrev gm:=@List.drop_append_of_le_length
abbrev gp:=@Go.run_firstCells_some
abbrev gq:=@Nat.min_self
abbrev gr:=@List.toList_toArray
abbrev gt:=@List.nodup_append
abbrev gw:=@Go.results_none
abbrev gx:=@Int.toNat_of_nonneg
abbrev gy:=@Go.setRow_tape
abbrev gz:=@Go.setRow_output
abbrev gB:=@List.length_eq_zero_iff
abbrev gC:=@List.length_pos_of_mem
abbrev gD:=@Go.contains_push
abbrev gE:=@decide_eq_decide
abbrev gF:=@UInt8.toNat.inj
abbrev gG:=@Go.World.cell?_spot
abbrev gI:=@Go.RowKit.Below.heap_setCell
abbrev gJ:=@List.mem_of_mem_take
abbrev gK:=@List.take_append_drop
abbrev gL:=@Nat.xor_lt_two_pow
abbrev gM:=@Int.tmod_lt_of_pos
abbrev gN:=@Int.lt_tmod_of_pos
abbrev gO:=@Array.getElem?_setIfInBounds
abbrev gP:=@Nat.testBit_two_pow
abbrev gQ:=@List.count_pos_iff
abbrev gR:=@List.getElem?_append
abbrev gS:=@Go.toList_madeCells_one
abbrev gT:=@List.replicate_succ
abbrev gU:=@Array.toList_append
abbrev gV:=@List.drop_of_length_le
abbrev gW:=@List.length_singleton
abbrev gX:=@Go.run_callFunc_extern
abbrev gY:=@List.flatMap_append
abbrev gZ:=@Classical.byContradiction
abbrev g7:=@List.getElem?_set_self
abbrev g9:=@Array.getElem_range
abbrev ie:=@List.eq_of_mem_replicate
abbrev ii:=@List.filter_eq_self
abbrev ij:=@List.replicate_append_replicate
abbrev il:=@List.map_replicate
abbrev im:=@List.mem_append_left
abbrev io:=@Bool.or_eq_false_iff
abbrev ip:=@List.mem_of_mem_drop
abbrev iq (g:Nat):Value:=.pointer (some ⟨g,0,none⟩)
abbrev ir (g:Nat):Nat->Nat->Value:=.slice (some ⟨g,0,none⟩)
abbrev iu (g j:Nat):Addr:=⟨g,j,none⟩
abbrev iw:=Value.int .i64
abbrev iy:=Value.int .u8
abbrev iz:=List UInt8
end Go.Proofs.YthmcbgidehjlbaaGreat
namespace Go.Proofs.YthmcbgidehjlbaaGreat.RA
open Go
variable {i:Nat}
def ev (a0:Act) (K:List (Nat×Value)):Operand->Value
 | .tmp t=>match K.lookup t with|some v=>v|none=>a0.eval (.tmp t)
 | .const v=>v
 | .global g=>iq g
 | .func f=>.func (.func f) #[] #[]
def gd (ops:List Oper) (a0:Act) (K:List (Nat×Value)) (o:Oper):Bool:=
 match o.guard with
 | none=>true
 | some (j,want)=>match (ops[j]?).bind (·.dst) with
  | some d=>match ev a0 K (.tmp d) with
   | .bool b=>b == want
   | _=>false
  | none=>false
def add (o:Oper) (v:Value) (K:List (Nat×Value)):List (Nat×Value):=
 match o.dst with
 | some d=>(d,v)::K
 | none=>K
def vd (o:Oper) (v:Value):Value:=match o.dst with|some _=>v|none=>undef
def mK (P:Program) (o:Oper) (ρ:Operand->Value) (w:World) (N:Value->World->Prop):Prop:=
 match (execOp ρ o).run P w with
 | .ok (.value v) w'=>N v w'
 | .ok .skip w'=>N undef w'
 | .ok (.enter f args) w'=>Calls P f args w' λe a=>∃ v,e=.returned v/\N v a
 | _=>False
inductive PT where
 | nil
 | tK (t:PT)
 | val (v:Value) (t:PT)
 | free (t:Value->PT)
 | sq (g h:Value->World->Prop) (t:Value->PT)
 | qx (v:Value) (h:World->Prop) (t:PT)
structure St where
 t:PT
 K:List (Nat×Value)
 G:List (Nat×(World->Prop))
 U:List Nat
 H:World->Prop
structure Cx where
 P:Program
 R:World->World->Prop
 E:World->World->Prop
 a0:Act
 w0:World
 ops:List Oper
 pr:List Nat
 kd:List Nat
 tl:List Nat
 nj:Nat->Value->World->Prop
def kl (c:Cx) (i:Nat):Nat:=
 if c.kd.getD i 9=0\/c.kd.getD i 9=5 then c.kd.getD i 9
 else if c.kd.getD i 9=6\/c.kd.getD i 9=7 then (if c.tl.contains i=true then c.kd.getD i 9 else 9)
 else if (c.tl.all λt=>(c.pr.getD t 0).testBit i)=true then c.kd.getD i 9 else 9
def In (pr:List Nat) (i k:Nat):Prop:=(pr.getD i 0).testBit k=true
variable (c:Cx)
def lJ (i:Nat) (G:List (Nat×(World->Prop))) (w:World):Prop:=c.R c.w0 w/\∀ f ∈ G,In c.pr i f.1->f.2 w
def qy (i:Nat) (G:List (Nat×(World->Prop))) (w:World):Prop:=(∀ t ∈ c.tl,¬ In c.pr i t)->lJ c i G w
def lR (R:World->World->Prop) (F:World->Prop):Prop:=∀ w w',R w w'->F w->F w'
def pM (σ:Nat->Value) (i:Nat) (o:Oper) (s:St):St:=
 match s.t with
 | .nil=>s
 | .tK t=>{ s with t:=t,K:=add o undef s.K }
 | .val v t=>{ s with t:=t,K:=add o v s.K }
 | .free t=>{ s with t:=t (σ i),K:=add o (σ i) s.K,G:=(i,c.nj i (σ i))::s.G,U:=i::s.U }
 | .sq g h t=>{ t:=t (σ i),K:=add o (σ i) s.K,G:=(i,g (σ i))::s.G,U:=i::s.U,H:=h (σ i) }
 | .qx v h t=>{ s with t:=t,K:=add o v s.K,U:=i::s.U,H:=h }
def nR (i:Nat) (o:Oper) (s:St):Prop:=
 match s.t with
 | .nil=>False
 | .tK _=>kl c i=0/\gd c.ops c.a0 s.K o=false
 | .val v _=>gd c.ops c.a0 s.K o=true/\((kl c i=1/\∀ w,lJ c i s.G w->(execOp (ev c.a0 s.K) o).run c.P w=.ok (.value v) w)\/(kl c i=5/\∀ w,(execOp (ev c.a0 s.K) o).run c.P w=.ok (.value v) w))
 | .free _=>kl c i=2/\gd c.ops c.a0 s.K o=true/\(∀ v,lR c.R (c.nj i v))/\
   ∀ w,lJ c i s.G w->mK c.P o (ev c.a0 s.K) w λv w'=>c.E w w'/\c.nj i (vd o v) w'
 | .sq g h _=>gd c.ops c.a0 s.K o=true/\(∀ v,lR c.E (h v))/\(∀ k ∈ s.U,In c.pr i k)/\
   ((kl c i=3/\(∀ v,lR c.R (g v))/\∀ w,lJ c i s.G w->s.H w->mK c.P o (ev c.a0 s.K) w λv w'=>c.R w w'/\g (vd o v) w'/\h (vd o v) w')\/
    (kl c i=6/\(∀ v,lR c.R (g v))/\∀ w,qy c i s.G w->s.H w->mK c.P o (ev c.a0 s.K) w λv w'=>h (vd o v) w'))
 | .qx v h _=>gd c.ops c.a0 s.K o=true/\lR c.E h/\(∀ k ∈ s.U,In c.pr i k)/\
   ((kl c i=4/\∀ w,lJ c i s.G w->s.H w->mK c.P o (ev c.a0 s.K) w λv' w'=>(o.dst.isSome=true->v'=v)/\c.R w w'/\h w')\/
    (kl c i=7/\∀ w,qy c i s.G w->s.H w->mK c.P o (ev c.a0 s.K) w λv' w'=>(o.dst.isSome=true->v'=v)/\h w'))
def mA (n:Nat):Prop:=n=3\/n=4\/n=6\/n=7
def put (a0:Act) (K:List (Nat×Value)):Act:=K.foldr (λp a=>a.put (some p.1) p.2) a0
abbrev RP:=And.intro @put.eq_1 (And.intro @List.foldr_cons.{0,0} (And.intro @List.foldr_nil.{0,0} (And.intro @Act.put.eq_1 (And.intro @ar.{0} (And.intro @aq.{0} @au.{0})))))
def Good (Z:Act->World->Prop) (σ:Nat->Value):List Oper->Nat->St->Prop
 | [],_,s=>∀ w,(c.tl=[]->c.R c.w0 w)->(c.tl=[]->∀ f ∈ s.G,f.2 w)->s.H w->Z (put c.a0 s.K) w
 | o::os,i,s=>nR c i o s/\Good Z σ os (i+1) (pM c σ i o s)
def RA (Z:Act->World->Prop) (os:List Oper) (i:Nat) (K:List (Nat×Value)) (G:List (Nat×(World->Prop))) (U:List Nat) (H:World->Prop):Prop:=∃ t,∀ σ,Good c Z σ os i ⟨t,K,G,U,H⟩
section steps
variable {c}{Z:Act->World->Prop}{os:List Oper}{i:Nat}{K:List (Nat×Value)}{G:List (Nat×(World->Prop))}{U:List Nat}{H:World->Prop}{o:Oper}
theorem RA.done (ht:c.tl=[]) (h:∀ w,c.R c.w0 w->(∀ f ∈ G,f.2 w)->H w->Z (put c.a0 K) w):RA c Z [] i K G U H:=⟨.nil,λ_ w h1 a b=>h w (h1 ht) (a ht) b⟩
theorem RA.kZ (h:∀ w,H w->Z (put c.a0 K) w):RA c Z [] i K G U H:=⟨.nil,λ_ w _ _ a=>h w a⟩
theorem RA.skip (hk:kl c i=0) (hg:gd c.ops c.a0 K o=false) (h:RA c Z os (i+1) (add o undef K) G U H):RA c Z (o::os) i K G U H:=by obtain⟨t,ht⟩:=h;exact⟨.tK t,λσ=>⟨⟨hk,hg⟩,ht σ⟩⟩
theorem RA.val (v:Value) (hk:kl c i=1) (hg:gd c.ops c.a0 K o=true) (hr:∀ w,lJ c i G w->(execOp (ev c.a0 K) o).run c.P w=.ok (.value v) w)
  (h:RA c Z os (i+1) (add o v K) G U H):RA c Z (o::os) i K G U H:=by
 obtain⟨t,ht⟩:=h;exact⟨.val v t,λσ=>⟨⟨hg,.inl ⟨hk,hr⟩⟩,ht σ⟩⟩
theorem RA.Es (v:Value) (hk:kl c i=5) (hg:gd c.ops c.a0 K o=true) (hr:∀ w,(execOp (ev c.a0 K) o).run c.P w=.ok (.value v) w)
  (h:RA c Z os (i+1) (add o v K) G U H):RA c Z (o::os) i K G U H:=by
 obtain⟨t,ht⟩:=h;exact⟨.val v t,λσ=>⟨⟨hg,.inr ⟨hk,hr⟩⟩,ht σ⟩⟩
theorem RA.free (hk:kl c i=2) (hg:gd c.ops c.a0 K o=true) (hs:∀ v,lR c.R (c.nj i v))
  (hr:∀ w,lJ c i G w->mK c.P o (ev c.a0 K) w λv w'=>c.E w w'/\c.nj i (vd o v) w')
  (h:∀ u,RA c Z os (i+1) (add o u K) ((i,c.nj i u)::G) (i::U) H):RA c Z (o::os) i K G U H:=by
 have ⟨t,ht⟩:=f7 h;exact⟨.free t,λσ=>⟨⟨hk,hg,hs,hr⟩,ht (σ i) σ⟩⟩
theorem RA.sq (g h:Value->World->Prop) (hk:kl c i=3) (hg:gd c.ops c.a0 K o=true) (hs:∀ v,lR c.R (g v)) (he:∀ v,lR c.E (h v)) (hu:(U.all λk=>(c.pr.getD i 0).testBit k)=true)
  (hr:∀ w,lJ c i G w->H w->mK c.P o (ev c.a0 K) w λv w'=>c.R w w'/\g (vd o v) w'/\h (vd o v) w')
  (hn:∀ u,RA c Z os (i+1) (add o u K) ((i,g u)::G) (i::U) (h u)):RA c Z (o::os) i K G U H:=by
 have ⟨t,ht⟩:=f7 hn;exact⟨.sq g h t,λσ=>⟨⟨hg,he,(bU.1 hu),.inl ⟨hk,hs,hr⟩⟩,ht (σ i) σ⟩⟩
theorem RA.xZ (h:Value->World->Prop) (hk:kl c i=6) (hg:gd c.ops c.a0 K o=true) (he:∀ v,lR c.E (h v)) (hu:(U.all λk=>(c.pr.getD i 0).testBit k)=true)
  (hr:∀ w,qy c i G w->H w->mK c.P o (ev c.a0 K) w λv w'=>h (vd o v) w')
  (hn:∀ u,RA c Z os (i+1) (add o u K) ((i,λ_=>True)::G) (i::U) (h u)):RA c Z (o::os) i K G U H:=by
 have ⟨t,ht⟩:=f7 hn;exact⟨.sq (λ_ _=>True) h t,λσ=>⟨⟨hg,he,(bU.1 hu),.inr ⟨hk,λ_ _ _ _ h=>h,hr⟩⟩,ht (σ i) σ⟩⟩
theorem RA.qx (v:Value) (h:World->Prop) (hk:kl c i=4) (hg:gd c.ops c.a0 K o=true) (he:lR c.E h) (hu:(U.all λk=>(c.pr.getD i 0).testBit k)=true)
  (hr:∀ w,lJ c i G w->H w->mK c.P o (ev c.a0 K) w λv' w'=>(o.dst.isSome=true->v'=v)/\c.R w w'/\h w')
  (hn:RA c Z os (i+1) (add o v K) G (i::U) h):RA c Z (o::os) i K G U H:=by
 obtain⟨t,ht⟩:=hn;exact⟨.qx v h t,λσ=>⟨⟨hg,he,(bU.1 hu),.inl ⟨hk,hr⟩⟩,ht σ⟩⟩
theorem RA.Et (v:Value) (h:World->Prop) (hk:kl c i=7) (hg:gd c.ops c.a0 K o=true) (he:lR c.E h) (hu:(U.all λk=>(c.pr.getD i 0).testBit k)=true)
  (hr:∀ w,qy c i G w->H w->mK c.P o (ev c.a0 K) w λv' w'=>(o.dst.isSome=true->v'=v)/\h w')
  (hn:RA c Z os (i+1) (add o v K) G (i::U) h):RA c Z (o::os) i K G U H:=by
 obtain⟨t,ht⟩:=hn;exact⟨.qx v h t,λσ=>⟨⟨hg,he,(bU.1 hu),.inr ⟨hk,hr⟩⟩,ht σ⟩⟩
end steps
def mask (acc:List Nat) (es:List Edge):Nat:=es.foldl (λs e=>if Region.binds .any e then s ||| 2 ^ e.on ||| acc.getD e.on 0 else s) 0
def qA:List Oper->List Nat->List Nat
 | [],acc=>acc
 | o::os,acc=>qA os (acc++[mask acc o.after.toList])
def lW (ops:List Oper) (k:Nat):Option Nat:=(ops[k]?).bind (·.dst)
def idx:List (Option Nat)->Nat->Nat->Option Nat
 | [],_,_=>none
 | d::ds,t,i=>match d with
  | some d=>if d == t then some i else idx ds t (i+1)
  | none=>idx ds t (i+1)
def ya (n:Nat) (ds:List (Option Nat)) (pr:List Nat) (i:Nat) (o:Oper):Bool:=
 (match o.op with|.select ..=>false|_=>true) &&
 (match o.dst with|some d=>d<n && idx ds d 0 == some i|none=>true) &&
 (o.after.toList.all λe=>!Region.binds .any e || e.on<i) &&
 (pr.getD i 0 == mask pr o.after.toList) &&
 (o.op.operands.toList.all λx=>match x with
  | .tmp t=>(match idx ds t 0 with|some k=>(pr.getD i 0).testBit k || (pr.getD k 0).testBit i|none=>true)
  | _=>true) &&
 (match o.guard with|some (j,_)=>(pr.getD i 0).testBit j|none=>true)
def vY (n:Nat) (ds:List (Option Nat)) (pr:List Nat):Nat->List Oper->Bool
 | _,[]=>true
 | i,o::os=>ya n ds pr i o && vY n ds pr (i+1) os
def uU (n:Nat) (ops:List Oper) (pr:List Nat):Bool:=vY n (ops.map (·.dst)) pr 0 ops
theorem lJ.fact {c:Cx}{G:List (Nat×(World->Prop))}{w:World}(hp:lJ c i G w) (n:Nat){k:Nat}{F:World->Prop}(h:G[n]?=some (k,F)) (hk:(c.pr.getD i 0).testBit k=true):F w:=hp.2 (k,F) (aZ h) hk
def bs (a0:Act) (t:Nat):Value:=a0.eval (.tmp t)
@[go_sem] theorem L8 (a0:Act) (t:Nat):ev a0 [] (.tmp t)=bs a0 t:=rfl
@[go_sem] theorem L9 (a0:Act) (K:List (Nat×Value)) (d t:Nat) (v:Value):ev a0 ((d,v)::K) (.tmp t)=if t=d then v else ev a0 K (.tmp t):=by
 unfold ev;simp only[List.lookup_cons];by_cases h:t=d
 ·subst h;simp
 ·have:(t == d)=false:=by simpa using h
  simp[this,h]
@[go_sem] theorem Ma (a0:Act) (K:List (Nat×Value)) (v:Value):ev a0 K (.const v)=v:=rfl
@[go_sem] theorem Mb (a0:Act) (K:List (Nat×Value)) (g:Nat):ev a0 K (.global g)=iq g:=rfl
@[go_sem] theorem Mc (a0:Act) (K:List (Nat×Value)) (f:Nat):ev a0 K (.func f)=.func (.func f) #[] #[]:=rfl
attribute [go_sem] add
theorem uV {P:Program}{o:Oper}{ρ:Operand->Value}{w:World}{N:Value->World->Prop}{f:FuncId}{args:Array Value}
  (hr:(execOp ρ o).run P w=.ok (.enter f args) w) (h:Calls P f args w λe w'=>∃ v,e=.returned v/\N v w'):mK P o ρ w N:=by
 unfold mK;rw[hr];exact h
section user
variable {c:Cx}{Z:Act->World->Prop}{os:List Oper}{i:Nat}{K:List (Nat×Value)}{G:List (Nat×(World->Prop))}{U:List Nat}{H:World->Prop}{o:Oper}
theorem n (hk:kl c i=0) (hg:gd c.ops c.a0 K o=false) (h:RA c Z os (i+1) (add o undef K) G U H):RA c Z (o::os) i K G U H:=RA.skip hk hg h
theorem v (P:Program){x:Value}(hk:kl c i=1) (hg:gd c.ops c.a0 K o=true) (hP:c.P=P) (hr:∀ w,lJ c i G w->(execOp (ev c.a0 K) o).run P w=.ok (.value x) w)
  (h:RA c Z os (i+1) (add o x K) G U H):RA c Z (o::os) i K G U H:=RA.val x hk hg (by rw[hP];exact hr) h
theorem k (P:Program) (x:Value) (h':World->Prop) (f:FuncId){args:Array Value}(hk:kl c i=4) (hg:gd c.ops c.a0 K o=true) (he:lR c.E h') (hu:(U.all λk=>(c.pr.getD i 0).testBit k)=true) (hP:c.P=P)
  (hx:∀ w,(execOp (ev c.a0 K) o).run P w=.ok (.enter f args) w)
  (hr:∀ w,lJ c i G w->H w->Calls P f args w λe w'=>e=.returned x/\c.R w w'/\h' w')
  (hn:RA c Z os (i+1) (add o x K) G (i::U) h'):RA c Z (o::os) i K G U H:=
 RA.qx x h' hk hg he hu (λw hp hH=>uV (by rw[hP];exact hx w) (by rw[hP];exact (hr w hp hH).mono λe w' ⟨h1,a,b⟩=>⟨x,h1,λ_=>rfl,a,b⟩)) hn
theorem q (P:Program) (g h':Value->World->Prop) (f:FuncId){args:Array Value}(hk:kl c i=3) (hg:gd c.ops c.a0 K o=true) (hd:o.dst.isSome=true) (hs:∀ v,lR c.R (g v)) (he:∀ v,lR c.E (h' v)) (hu:(U.all λk=>(c.pr.getD i 0).testBit k)=true) (hP:c.P=P)
  (hx:∀ w,(execOp (ev c.a0 K) o).run P w=.ok (.enter f args) w)
  (hr:∀ w,lJ c i G w->H w->Calls P f args w λe w'=>∃ x,e=.returned x/\c.R w w'/\g x w'/\h' x w')
  (hn:∀ u,RA c Z os (i+1) (add o u K) ((i,g u)::G) (i::U) (h' u)):RA c Z (o::os) i K G U H:=
 RA.sq g h' hk hg hs he hu (λw hp hH=>uV (by rw[hP];exact hx w) (by
  rw[hP]
  have e:∀ x,vd o x=x:=λx=>by unfold vd;cases hd':o.dst<;>simp[hd'] at hd ⊢
  exact (hr w hp hH).mono λh w' ⟨x,h1,a,b,d⟩=>⟨x,h1,a,by rw[e];exact b,by rw[e];exact d⟩)) hn
def ky (c:Cx) (K:List (Nat×Value)):Operand->Option Value
 | .tmp t=>match K.lookup t with|some v=>some v|none=>c.a0.tmps.toList[t]?
 | .const v=>some v
 | .global g=>some (iq g)
 | .func f=>some (.func (.func f) #[] #[])
theorem kH {x:Operand}{y:Value}(h:ky c K x=some y):ev c.a0 K x=y:=by
 cases x with
 | tmp t=>
  simp only[ky,ev] at h ⊢;cases hl:K.lookup t with
  | some v=>simp only[hl,ao] at h ⊢;exact h
  | none=>
   simp only[hl] at h ⊢;have h':c.a0.tmps[t]?=some y:=by simpa using h
   simp[Act.eval,h']
 | const v=>exact aF h
 | global g=>exact aF h
 | func f=>exact aF h
theorem pv {d:Nat}{y:Value}(hk:kl c i=1) (hg:gd c.ops c.a0 K o=true) (hd:o.dst=some d) (hr:∀ w,lJ c i G w->(execOp (ev c.a0 K) o).run c.P w=.ok (.value y) w)
  (h:RA c Z os (i+1) ((d,y)::K) G U H):RA c Z (o::os) i K G U H:=
 RA.val y hk hg hr (by simpa [add,hd] using h)
section pures
variable {d:Nat}{x x' x'':Operand}{y y':Value}{ty tx tx':TypeId}{ps:String}{af:Array Edge}{gu:Option (Nat×Bool)}
theorem mv (hk:kl c i=1:=by kernel_rfl) (hg:gd c.ops c.a0 K ⟨some d,.move x,ty,ps,af,gu⟩=true:=by rfl) (hx:ky c K x=some y:=by rfl) (h:RA c Z os (i+1) ((d,y)::K) G U H):RA c Z (⟨some d,.move x,ty,ps,af,gu⟩::os) i K G U H:=pv hk hg rfl (λw _=>by simp[go_sem,execOp,kH hx]) h
theorem as (hk:kl c i=1) (hg:gd c.ops c.a0 K ⟨some d,.assign x,ty,ps,af,gu⟩=true) (hx:ky c K x=some y) (h:RA c Z os (i+1) ((d,y)::K) G U H):RA c Z (⟨some d,.assign x,ty,ps,af,gu⟩::os) i K G U H:=pv hk hg rfl (λw _=>by simp[go_sem,execOp,kH hx]) h
theorem pt (hk:kl c i=1) (hg:gd c.ops c.a0 K ⟨some d,.pick x x' x'',ty,ps,af,gu⟩=true) (hx:ky c K x=some (.bool true)) (hy:ky c K x'=some y) (h:RA c Z os (i+1) ((d,y)::K) G U H):RA c Z (⟨some d,.pick x x' x'',ty,ps,af,gu⟩::os) i K G U H:=pv hk hg rfl (λw _=>by simp[go_sem,execOp,kH hx,kH hy]) h
theorem pf (hk:kl c i=1) (hg:gd c.ops c.a0 K ⟨some d,.pick x x' x'',ty,ps,af,gu⟩=true) (hx:ky c K x=some (.bool false)) (hy:ky c K x''=some y) (h:RA c Z os (i+1) ((d,y)::K) G U H):RA c Z (⟨some d,.pick x x' x'',ty,ps,af,gu⟩::os) i K G U H:=pv hk hg rfl (λw _=>by simp[go_sem,execOp,kH hx,kH hy]) h
theorem eq {k:IntKind}{a b:Int}(r:Bool) (hk:kl c i=1:=by kernel_rfl) (hg:gd c.ops c.a0 K ⟨some d,.binOp .eql tx x x' tx',ty,ps,af,gu⟩=true:=by rfl) (hx:ky c K x=some (.int k a):=by rfl) (hy:ky c K x'=some (.int k b):=by rfl) (hr:(a == b)=r) (h:RA c Z os (i+1) ((d,.bool r)::K) G U H):RA c Z (⟨some d,.binOp .eql tx x x' tx',ty,ps,af,gu⟩::os) i K G U H:=pv hk hg rfl (λw _=>by simp[go_sem,execOp,kH hx,kH hy,<-hr]) h
theorem ne {k:IntKind}{a b:Int}(r:Bool) (hk:kl c i=1) (hg:gd c.ops c.a0 K ⟨some d,.binOp .neq tx x x' tx',ty,ps,af,gu⟩=true) (hx:ky c K x=some (.int k a)) (hy:ky c K x'=some (.int k b)) (hr:(a != b)=r) (h:RA c Z os (i+1) ((d,.bool r)::K) G U H):RA c Z (⟨some d,.binOp .neq tx x x' tx',ty,ps,af,gu⟩::os) i K G U H:=pv hk hg rfl (λw _=>by simp[go_sem,execOp,kH hx,kH hy,<-hr]) h
theorem lt {k:IntKind}{a b:Int}(r:Bool) (hk:kl c i=1) (hg:gd c.ops c.a0 K ⟨some d,.binOp .lss tx x x' tx',ty,ps,af,gu⟩=true) (hx:ky c K x=some (.int k a)) (hy:ky c K x'=some (.int k b)) (hr:decide (a<b)=r) (h:RA c Z os (i+1) ((d,.bool r)::K) G U H):RA c Z (⟨some d,.binOp .lss tx x x' tx',ty,ps,af,gu⟩::os) i K G U H:=pv hk hg rfl (λw _=>by simp[go_sem,execOp,kH hx,kH hy,<-hr]) h
theorem le {k:IntKind}{a b:Int}(r:Bool) (hk:kl c i=1) (hg:gd c.ops c.a0 K ⟨some d,.binOp .leq tx x x' tx',ty,ps,af,gu⟩=true) (hx:ky c K x=some (.int k a)) (hy:ky c K x'=some (.int k b)) (hr:decide (a<=b)=r) (h:RA c Z os (i+1) ((d,.bool r)::K) G U H):RA c Z (⟨some d,.binOp .leq tx x x' tx',ty,ps,af,gu⟩::os) i K G U H:=pv hk hg rfl (λw _=>by simp[go_sem,execOp,kH hx,kH hy,<-hr]) h
theorem ge {k:IntKind}{a b:Int}(r:Bool) (hk:kl c i=1) (hg:gd c.ops c.a0 K ⟨some d,.binOp .geq tx x x' tx',ty,ps,af,gu⟩=true) (hx:ky c K x=some (.int k a)) (hy:ky c K x'=some (.int k b)) (hr:decide (b<=a)=r) (h:RA c Z os (i+1) ((d,.bool r)::K) G U H):RA c Z (⟨some d,.binOp .geq tx x x' tx',ty,ps,af,gu⟩::os) i K G U H:=pv hk hg rfl (λw _=>by simp[go_sem,execOp,kH hx,kH hy,<-hr]) h
theorem es {a b:ByteArray}(r:Bool) (hk:kl c i=1:=by kernel_rfl) (hg:gd c.ops c.a0 K ⟨some d,.binOp .eql tx x x' tx',ty,ps,af,gu⟩=true:=by rfl) (hx:ky c K x=some (.string a):=by rfl) (hy:ky c K x'=some (.string b):=by rfl) (hr:(a.toList == b.toList)=r) (h:RA c Z os (i+1) ((d,.bool r)::K) G U H):RA c Z (⟨some d,.binOp .eql tx x x' tx',ty,ps,af,gu⟩::os) i K G U H:=pv hk hg rfl (λw _=>by simp[go_sem,execOp,kH hx,kH hy,<-hr]) h
theorem nt {b:Bool}(hk:kl c i=1:=by kernel_rfl) (hg:gd c.ops c.a0 K ⟨some d,.unOp .not tx x,ty,ps,af,gu⟩=true:=by rfl) (hx:ky c K x=some (.bool b):=by rfl) (h:RA c Z os (i+1) ((d,.bool (!b))::K) G U H):RA c Z (⟨some d,.unOp .not tx x,ty,ps,af,gu⟩::os) i K G U H:=pv hk hg rfl (λw _=>by simp[go_sem,execOp,kH hx]) h
theorem cv (hk:kl c i=1:=by kernel_rfl) (hg:gd c.ops c.a0 K ⟨some d,.convert tx tx' x,ty,ps,af,gu⟩=true:=by rfl) (hx:ky c K x=some y:=by rfl) (hr:∀ w,lJ c i G w->(convert tx tx' y).run c.P w=.ok y' w) (h:RA c Z os (i+1) ((d,y')::K) G U H):RA c Z (⟨some d,.convert tx tx' x,ty,ps,af,gu⟩::os) i K G U H:=pv hk hg rfl (λw hp=>by simp[go_sem,execOp,kH hx,hr w hp]) h
theorem ld (hk:kl c i=1:=by kernel_rfl) (hg:gd c.ops c.a0 K ⟨some d,.load tx x,ty,ps,af,gu⟩=true:=by rfl) (hx:ky c K x=some y:=by rfl) (hr:∀ w,lJ c i G w->(Instr.loadAt tx y).run c.P w=.ok y' w) (h:RA c Z os (i+1) ((d,y')::K) G U H):RA c Z (⟨some d,.load tx x,ty,ps,af,gu⟩::os) i K G U H:=pv hk hg rfl (λw hp=>by simp[execOp,kH hx,hr w hp]) h
theorem yb {xs:List Operand}{ys:List Value}(h:xs.map (ky c K)=ys.map some):xs.map (ev c.a0 K)=ys:=by
 induction xs generalizing ys with
 | nil=>cases ys with
  | nil=>rfl
  | cons y ys=>cases h
 | cons x xs ih=>cases ys with
  | nil=>cases h
  | cons y ys=>simp only[bt,List.cons.injEq] at h ⊢;exact⟨kH h.1,ih h.2⟩
theorem vZ {f:FuncId}{xs:List Operand}{ats:Array TypeId}{ys:List Value}{ds:Option Nat}(ha:xs.map (ky c K)=ys.map some):
  execOp (ev c.a0 K) ⟨ds,.call ⟨.value (.func f),xs.toArray,ats⟩,ty,ps,af,gu⟩=callFunc f ys.toArray:=by
 have:execOp (ev c.a0 K) ⟨ds,.call ⟨.value (.func f),xs.toArray,ats⟩,ty,ps,af,gu⟩=callFunc f (#[]++xs.toArray.map (ev c.a0 K)++#[]):=rfl;rw[this,cI,yb ha];simp
theorem kc {P:Program}{f:FuncId}{xs:List Operand}{ats:Array TypeId}(ys:List Value) (y:Value) (h':World->Prop:=λ_=>True) (hf:∀ args w,(callFunc f args).run P w=.ok (.enter f args) w:=by intro _ _;go_simp)
  (hk:kl c i=4:=by kernel_rfl) (hg:gd c.ops c.a0 K ⟨some d,.call ⟨.value (.func f),xs.toArray,ats⟩,ty,ps,af,gu⟩=true:=by rfl) (ha:xs.map (ky c K)=ys.map some:=by rfl) (hu:(U.all λk=>(c.pr.getD i 0).testBit k)=true:=by kernel_rfl) (he:lR c.E h':=by first|exact λ_ _ _ h=>h|exact λ_ _ h k=>h ▸ k) (hP:c.P=P:=by rfl)
  (hr:∀ w,lJ c i G w->H w->Calls P f ys.toArray w λe w'=>e=.returned y/\c.R w w'/\h' w')
  (hn:RA c Z os (i+1) ((d,y)::K) G (i::U) h'):RA c Z (⟨some d,.call ⟨.value (.func f),xs.toArray,ats⟩,ty,ps,af,gu⟩::os) i K G U H:=
 k P y h' f (args:=ys.toArray) hk hg he hu hP (λw=>by rw[vZ ha];exact hf _ w) hr hn
theorem qc {P:Program}{f:FuncId}{xs:List Operand}{ats:Array TypeId}(ys:List Value) (g:Value->World->Prop) (h':Value->World->Prop:=λ_ _=>True) (hf:∀ args w,(callFunc f args).run P w=.ok (.enter f args) w:=by intro _ _;go_simp)
  (hk:kl c i=3:=by kernel_rfl) (hg:gd c.ops c.a0 K ⟨some d,.call ⟨.value (.func f),xs.toArray,ats⟩,ty,ps,af,gu⟩=true:=by rfl) (ha:xs.map (ky c K)=ys.map some:=by rfl) (hu:(U.all λk=>(c.pr.getD i 0).testBit k)=true:=by kernel_rfl) (hs:∀ v,lR c.R (g v)) (he:∀ v,lR c.E (h' v):=by first|exact λ_ _ _ _ h=>h|exact λ_ _ _ h k=>h ▸ k) (hP:c.P=P:=by rfl)
  (hr:∀ w,lJ c i G w->H w->Calls P f ys.toArray w λe w'=>∃ x,e=.returned x/\c.R w w'/\g x w'/\h' x w')
  (hn:∀ u,RA c Z os (i+1) ((d,u)::K) ((i,g u)::G) (i::U) (h' u)):RA c Z (⟨some d,.call ⟨.value (.func f),xs.toArray,ats⟩,ty,ps,af,gu⟩::os) i K G U H:=
 q P g h' f (args:=ys.toArray) hk hg rfl hs he hu hP (λw=>by rw[vZ ha];exact hf _ w) hr hn
theorem fa {n:Nat}(hk:kl c i=1) (hg:gd c.ops c.a0 K ⟨some d,.fieldAddr tx x n,ty,ps,af,gu⟩=true) (hx:ky c K x=some y) (hr:∀ w,lJ c i G w->(Instr.fieldAt tx y n).run c.P w=.ok y' w) (h:RA c Z os (i+1) ((d,y')::K) G U H):RA c Z (⟨some d,.fieldAddr tx x n,ty,ps,af,gu⟩::os) i K G U H:=pv hk hg rfl (λw hp=>by simp[execOp,kH hx,hr w hp]) h
theorem ex {n:Nat}(hk:kl c i=1) (hg:gd c.ops c.a0 K ⟨some d,.extract x n,ty,ps,af,gu⟩=true) (hx:ky c K x=some y) (hr:∀ w,lJ c i G w->(Instr.extract y n).run c.P w=.ok y' w) (h:RA c Z os (i+1) ((d,y')::K) G U H):RA c Z (⟨some d,.extract x n,ty,ps,af,gu⟩::os) i K G U H:=pv hk hg rfl (λw hp=>by simp[execOp,kH hx,hr w hp]) h
theorem nc {ad:Addr}(hk:kl c i=1) (hg:gd c.ops c.a0 K ⟨some d,.nilCheck x,ty,ps,af,gu⟩=true) (hx:ky c K x=some (.pointer (some ad))) (h:RA c Z os (i+1) ((d,.pointer (some ad))::K) G U H):RA c Z (⟨some d,.nilCheck x,ty,ps,af,gu⟩::os) i K G U H:=pv hk hg rfl (λw hp=>by simp[execOp,kH hx]) h
theorem ia (hk:kl c i=1) (hg:gd c.ops c.a0 K ⟨some d,.indexAddr tx x x',ty,ps,af,gu⟩=true){z:Value}(hx:ky c K x=some y) (hz:ky c K x'=some z) (hr:∀ w,lJ c i G w->(Instr.indexAt tx y z).run c.P w=.ok y' w) (h:RA c Z os (i+1) ((d,y')::K) G U H):RA c Z (⟨some d,.indexAddr tx x x',ty,ps,af,gu⟩::os) i K G U H:=pv hk hg rfl (λw hp=>by simp[execOp,kH hx,kH hz,hr w hp]) h
theorem ix (hk:kl c i=1) (hg:gd c.ops c.a0 K ⟨some d,.index tx x x',ty,ps,af,gu⟩=true){z:Value}(hx:ky c K x=some y) (hz:ky c K x'=some z) (hr:∀ w,lJ c i G w->(Instr.index tx y z).run c.P w=.ok y' w) (h:RA c Z os (i+1) ((d,y')::K) G U H):RA c Z (⟨some d,.index tx x x',ty,ps,af,gu⟩::os) i K G U H:=pv hk hg rfl (λw hp=>by simp[execOp,kH hx,kH hz,hr w hp]) h
theorem tL (hk:kl c i=1:=by kernel_rfl) (hg:gd c.ops c.a0 K ⟨some d,.slice tx x (some x') none none,ty,ps,af,gu⟩=true:=by rfl){z:Value}(hx:ky c K x=some y:=by rfl) (hz:ky c K x'=some z:=by rfl) (hr:∀ w,lJ c i G w->(Instr.sliceAt tx y (some z) none none).run c.P w=.ok y' w) (h:RA c Z os (i+1) ((d,y')::K) G U H):RA c Z (⟨some d,.slice tx x (some x') none none,ty,ps,af,gu⟩::os) i K G U H:=pv hk hg rfl (λw hp=>by simp[execOp,kH hx,kH hz,hr w hp]) h
theorem yc (hk:kl c i=1:=by kernel_rfl) (hg:gd c.ops c.a0 K ⟨some d,.slice tx x none (some x') none,ty,ps,af,gu⟩=true:=by rfl){z:Value}(hx:ky c K x=some y:=by rfl) (hz:ky c K x'=some z:=by rfl) (hr:∀ w,lJ c i G w->(Instr.sliceAt tx y none (some z) none).run c.P w=.ok y' w) (h:RA c Z os (i+1) ((d,y')::K) G U H):RA c Z (⟨some d,.slice tx x none (some x') none,ty,ps,af,gu⟩::os) i K G U H:=pv hk hg rfl (λw hp=>by simp[execOp,kH hx,kH hz,hr w hp]) h
theorem v7 (hk:kl c i=1:=by kernel_rfl) (hg:gd c.ops c.a0 K ⟨some d,.slice tx x (some x') (some x'') none,ty,ps,af,gu⟩=true:=by rfl){z z':Value}(hx:ky c K x=some y:=by rfl) (hz:ky c K x'=some z:=by rfl) (hz':ky c K x''=some z':=by rfl) (hr:∀ w,lJ c i G w->(Instr.sliceAt tx y (some z) (some z') none).run c.P w=.ok y' w) (h:RA c Z os (i+1) ((d,y')::K) G U H):RA c Z (⟨some d,.slice tx x (some x') (some x'') none,ty,ps,af,gu⟩::os) i K G U H:=pv hk hg rfl (λw hp=>by simp[execOp,kH hx,kH hz,kH hz',hr w hp]) h
theorem qU (hk:kl c i=1:=by kernel_rfl) (hg:gd c.ops c.a0 K ⟨some d,.slice tx x none none none,ty,ps,af,gu⟩=true:=by rfl) (hx:ky c K x=some y:=by rfl) (hr:∀ w,lJ c i G w->(Instr.sliceAt tx y none none none).run c.P w=.ok y' w) (h:RA c Z os (i+1) ((d,y')::K) G U H):RA c Z (⟨some d,.slice tx x none none none,ty,ps,af,gu⟩::os) i K G U H:=pv hk hg rfl (λw hp=>by simp[execOp,kH hx,hr w hp]) h
theorem bo {bop:BinOp}(hk:kl c i=1) (hg:gd c.ops c.a0 K ⟨some d,.binOp bop tx x x' tx',ty,ps,af,gu⟩=true){z:Value}(hx:ky c K x=some y) (hz:ky c K x'=some z) (hr:∀ w,lJ c i G w->((do eqGuard bop tx x x' y z;binOp bop tx y z):Sem Value).run c.P w=.ok y' w) (h:RA c Z os (i+1) ((d,y')::K) G U H):RA c Z (⟨some d,.binOp bop tx x x' tx',ty,ps,af,gu⟩::os) i K G U H:=pv hk hg rfl (λw hp=>by have:=hr w hp;simp only[execOp,kH hx,kH hz];rw[aM,this];rfl) h
theorem ai {a b:Int}(hk:kl c i=1:=by kernel_rfl) (hg:gd c.ops c.a0 K ⟨some d,.binOp .add tx x x' tx',ty,ps,af,gu⟩=true:=by rfl) (hx:ky c K x=some (iw a):=by rfl) (hz:ky c K x'=some (iw b):=by rfl) (r:Int) (he:a+b=r:=by rfl) (hr:-9223372036854775808<=r/\r<=9223372036854775807:=by omega) (h:RA c Z os (i+1) ((d,iw r)::K) G U H):RA c Z (⟨some d,.binOp .add tx x x' tx',ty,ps,af,gu⟩::os) i K G U H:=
 pv hk hg rfl (λw hp=>by
  have e:IntKind.i64.wrap r=r:=by simp[IntKind.wrap,IntKind.signed,IntKind.bits];omega
  simp[go_sem,execOp,kH hx,kH hz,Op.intArith,he,e]) h
theorem si {a b:Int}(hk:kl c i=1:=by kernel_rfl) (hg:gd c.ops c.a0 K ⟨some d,.binOp .sub tx x x' tx',ty,ps,af,gu⟩=true:=by rfl) (hx:ky c K x=some (iw a):=by rfl) (hz:ky c K x'=some (iw b):=by rfl) (r:Int) (he:a - b=r:=by rfl) (hr:-9223372036854775808<=r/\r<=9223372036854775807:=by omega) (h:RA c Z os (i+1) ((d,iw r)::K) G U H):RA c Z (⟨some d,.binOp .sub tx x x' tx',ty,ps,af,gu⟩::os) i K G U H:=
 pv hk hg rfl (λw hp=>by
  have e:IntKind.i64.wrap r=r:=by simp[IntKind.wrap,IntKind.signed,IntKind.bits];omega
  simp[go_sem,execOp,kH hx,kH hz,Op.intArith,he,e]) h
theorem mi {a b:Int}(hk:kl c i=1:=by kernel_rfl) (hg:gd c.ops c.a0 K ⟨some d,.binOp .mul tx x x' tx',ty,ps,af,gu⟩=true:=by rfl) (hx:ky c K x=some (iw a):=by rfl) (hz:ky c K x'=some (iw b):=by rfl) (r:Int) (he:a*b=r:=by rfl) (hr:-9223372036854775808<=r/\r<=9223372036854775807:=by omega) (h:RA c Z os (i+1) ((d,iw r)::K) G U H):RA c Z (⟨some d,.binOp .mul tx x x' tx',ty,ps,af,gu⟩::os) i K G U H:=
 pv hk hg rfl (λw hp=>by
  have e:IntKind.i64.wrap r=r:=by simp[IntKind.wrap,IntKind.signed,IntKind.bits];omega
  simp[go_sem,execOp,kH hx,kH hz,Op.intArith,he,e]) h
theorem ln (hk:kl c i=1) (hg:gd c.ops c.a0 K ⟨some d,.call ⟨.builtin .len,#[x],#[tx]⟩,ty,ps,af,gu⟩=true) (hx:ky c K x=some y) (hr:∀ w,lJ c i G w->(Builtin.len_ #[tx] ty #[y]).run c.P w=.ok y' w) (h:RA c Z os (i+1) ((d,y')::K) G U H):RA c Z (⟨some d,.call ⟨.builtin .len,#[x],#[tx]⟩,ty,ps,af,gu⟩::os) i K G U H:=pv hk hg rfl (λw hp=>by simp[go_sem,kH hx,hr w hp]) h
theorem bc (y:Value) (h':World->Prop){op:Op}(hk:kl c i=4) (hg:gd c.ops c.a0 K ⟨some d,op,ty,ps,af,gu⟩=true) (hu:(U.all λk=>(c.pr.getD i 0).testBit k)=true) (he:lR c.E h')
  (hr:∀ w,lJ c i G w->H w->∃ w',(execOp (ev c.a0 K) ⟨some d,op,ty,ps,af,gu⟩).run c.P w=.ok (.value y) w'/\c.R w w'/\h' w')
  (hn:RA c Z os (i+1) ((d,y)::K) G (i::U) h'):RA c Z (⟨some d,op,ty,ps,af,gu⟩::os) i K G U H:=
 RA.qx y h' hk hg he hu (λw hp hH=>by obtain⟨w',h1,a,b⟩:=hr w hp hH;unfold mK;rw[h1];exact⟨λ_=>rfl,a,b⟩) hn
theorem bq (g:Value->World->Prop) (h':Value->World->Prop:=λ_ _=>True){op:Op}(hk:kl c i=3:=by kernel_rfl) (hg:gd c.ops c.a0 K ⟨some d,op,ty,ps,af,gu⟩=true:=by rfl) (hu:(U.all λk=>(c.pr.getD i 0).testBit k)=true:=by kernel_rfl) (hs:∀ v,lR c.R (g v)) (he:∀ v,lR c.E (h' v))
  (hr:∀ w,lJ c i G w->H w->∃ y w',(execOp (ev c.a0 K) ⟨some d,op,ty,ps,af,gu⟩).run c.P w=.ok (.value y) w'/\c.R w w'/\g y w'/\h' y w')
  (hn:∀ u,RA c Z os (i+1) ((d,u)::K) ((i,g u)::G) (i::U) (h' u)):RA c Z (⟨some d,op,ty,ps,af,gu⟩::os) i K G U H:=
 RA.sq g h' hk hg hs he hu (λw hp hH=>by obtain⟨y,w',h1,a,b,e⟩:=hr w hp hH;unfold mK;rw[h1];exact⟨a,b,e⟩) hn
theorem v8 {z:Operand}{t1 t2:TypeId}{ds:Option Nat}{P:Program}{w w':World}{p q y:Value}(hx:ky c K x=some p) (hz:ky c K z=some q) (hr:(Builtin.copy_ #[t1,t2] ty #[p,q]).run P w=.ok y w'):
  (execOp (ev c.a0 K) ⟨ds,.call ⟨.builtin .copy,#[x,z],#[t1,t2]⟩,ty,ps,af,gu⟩).run P w=.ok (.value y) w':=by
 unfold execOp;simp only[resolve,invoke,builtin,aM,Sem.run_pure,bu,cI,bt,bT,kH hx,kH hz,hr]
theorem nS {z:Operand}{t1 t2:TypeId}{ds:Option Nat}{P:Program}{w w':World}{p q y:Value}(hx:ky c K x=some p) (hz:ky c K z=some q) (hr:(Builtin.append_ #[t1,t2] ty #[p,q]).run P w=.ok y w'):
  (execOp (ev c.a0 K) ⟨ds,.call ⟨.builtin .append,#[x,z],#[t1,t2]⟩,ty,ps,af,gu⟩).run P w=.ok (.value y) w':=by
 unfold execOp;simp only[resolve,invoke,builtin,aM,Sem.run_pure,bu,cI,bt,bT,kH hx,kH hz,hr]
theorem _root_.Go.Proofs.YthmcbgidehjlbaaGreat.RA.qy.first {c:Cx}{i:Nat}{G:List (Nat×(World->Prop))}{w:World}(h:qy c i G w) (hc:(c.tl.all λt=>!(c.pr.getD i 0).testBit t)=true):lJ c i G w:=h λt ht a=>by have:=bU.1 hc t ht;unfold In at a;rw[a] at this;cases this
theorem lr (h':World->Prop){op:Op}(hk:kl c i=7:=by kernel_rfl) (hg:gd c.ops c.a0 K ⟨none,op,ty,ps,af,gu⟩=true:=by rfl) (hu:(U.all λk=>(c.pr.getD i 0).testBit k)=true:=by kernel_rfl) (he:lR c.E h':=by first|exact λ_ _ _ h=>h|exact λ_ _ h k=>h ▸ k)
  (hr:∀ w,qy c i G w->H w->∃ w',(execOp (ev c.a0 K) ⟨none,op,ty,ps,af,gu⟩).run c.P w=.ok .skip w'/\h' w')
  (hn:RA c Z os (i+1) K G (i::U) h'):RA c Z (⟨none,op,ty,ps,af,gu⟩::os) i K G U H:=
 RA.Et undef h' hk hg he hu (λw hp hH=>by obtain⟨w',h1,a⟩:=hr w hp hH;unfold mK;rw[h1];exact⟨λh=>(by cases h),a⟩) hn
theorem oH (h':Value->World->Prop){op:Op}(hk:kl c i=6:=by kernel_rfl) (hg:gd c.ops c.a0 K ⟨some d,op,ty,ps,af,gu⟩=true:=by rfl) (hu:(U.all λk=>(c.pr.getD i 0).testBit k)=true:=by kernel_rfl) (he:∀ v,lR c.E (h' v):=by first|exact λ_ _ _ _ h=>h|exact λ_ _ _ h k=>h ▸ k)
  (hr:∀ w,qy c i G w->H w->∃ y w',(execOp (ev c.a0 K) ⟨some d,op,ty,ps,af,gu⟩).run c.P w=.ok (.value y) w'/\h' y w')
  (hn:∀ u,RA c Z os (i+1) ((d,u)::K) ((i,λ_=>True)::G) (i::U) (h' u)):RA c Z (⟨some d,op,ty,ps,af,gu⟩::os) i K G U H:=
 RA.xZ h' hk hg he hu (λw hp hH=>by obtain⟨y,w',h1,a⟩:=hr w hp hH;unfold mK;rw[h1];exact a) hn
theorem pw {d:Nat}{op:Op}{y:Value}(hk:kl c i=5) (hg:gd c.ops c.a0 K ⟨some d,op,ty,ps,af,gu⟩=true) (hr:∀ w,(execOp (ev c.a0 K) ⟨some d,op,ty,ps,af,gu⟩).run c.P w=.ok (.value y) w)
  (h:RA c Z os (i+1) ((d,y)::K) G U H):RA c Z (⟨some d,op,ty,ps,af,gu⟩::os) i K G U H:=
 RA.Es y hk hg hr h
theorem we {d:Nat}{ad:Addr}(hk:kl c i=5) (hg:gd c.ops c.a0 K ⟨some d,.nilCheck x,ty,ps,af,gu⟩=true) (hx:ky c K x=some (.pointer (some ad))) (h:RA c Z os (i+1) ((d,.pointer (some ad))::K) G U H):RA c Z (⟨some d,.nilCheck x,ty,ps,af,gu⟩::os) i K G U H:=pw hk hg (λw=>by simp[execOp,kH hx]) h
theorem sf {d:Nat}(hk:kl c i=5) (hg:gd c.ops c.a0 K ⟨some d,.move x,ty,ps,af,gu⟩=true) (hx:ky c K x=some y) (h:RA c Z os (i+1) ((d,y)::K) G U H):RA c Z (⟨some d,.move x,ty,ps,af,gu⟩::os) i K G U H:=pw hk hg (λw=>by simp[execOp,kH hx]) h
theorem wg {d n:Nat}(hk:kl c i=5) (hg:gd c.ops c.a0 K ⟨some d,.fieldAddr tx x n,ty,ps,af,gu⟩=true) (hx:ky c K x=some y) (hr:∀ w,(Instr.fieldAt tx y n).run c.P w=.ok y' w) (h:RA c Z os (i+1) ((d,y')::K) G U H):RA c Z (⟨some d,.fieldAddr tx x n,ty,ps,af,gu⟩::os) i K G U H:=pw hk hg (λw=>by simp[execOp,kH hx,hr w]) h
theorem kL {P:Program}{w w':World}{p q:Value}{z:Operand}{ds:Option Nat}(hx:ky c K x=some p) (hz:ky c K z=some q) (hr:(Instr.storeAt tx p q).run P w=.ok () w'):
  (execOp (ev c.a0 K) ⟨ds,.store tx x z,ty,ps,af,gu⟩).run P w=.ok .skip w':=by
 unfold execOp;simp only[kH hx,kH hz,aM,hr];rfl
theorem st (h':World->Prop){op:Op}(hk:kl c i=4:=by kernel_rfl) (hg:gd c.ops c.a0 K ⟨none,op,ty,ps,af,gu⟩=true:=by rfl) (hu:(U.all λk=>(c.pr.getD i 0).testBit k)=true:=by kernel_rfl) (he:lR c.E h':=by first|exact λ_ _ _ h=>h|exact λ_ _ h k=>h ▸ k)
  (hr:∀ w,lJ c i G w->H w->∃ w',(execOp (ev c.a0 K) ⟨none,op,ty,ps,af,gu⟩).run c.P w=.ok .skip w'/\c.R w w'/\h' w')
  (hn:RA c Z os (i+1) K G (i::U) h'):RA c Z (⟨none,op,ty,ps,af,gu⟩::os) i K G U H:=
 RA.qx undef h' hk hg he hu (λw hp hH=>by obtain⟨w',h1,a,b⟩:=hr w hp hH;unfold mK;rw[h1];exact⟨λh=>(by cases h),a,b⟩) hn
def qv (c:Cx) (K:List (Nat×Value)):Op->Option Value
 | .move x=>ky c K x
 | .assign x=>ky c K x
 | .nilCheck x=>match ky c K x with
  | some (.pointer (some a))=>some (.pointer (some a))
  | _=>none
 | _=>none
theorem qq {op:Op}(h:RA c Z os (i+1) ((d,y)::K) G U H) (hk:kl c i=1:=by kernel_rfl) (hg:gd c.ops c.a0 K ⟨some d,op,ty,ps,af,gu⟩=true:=by rfl) (hx:qv c K op=some y:=by rfl):RA c Z (⟨some d,op,ty,ps,af,gu⟩::os) i K G U H:=by
 unfold qv at hx;split at hx
 ·exact mv hk hg hx h
 ·exact as hk hg hx h
 ·split at hx
  ·rename_i a;cases hx
   exact nc hk hg a h
  ·cases hx
 ·cases hx
theorem pq {op:Op}(h:RA c Z os (i+1) ((d,y)::K) G U H) (hk:kl c i=5:=by rfl) (hg:gd c.ops c.a0 K ⟨some d,op,ty,ps,af,gu⟩=true:=by rfl) (hx:qv c K op=some y:=by rfl):RA c Z (⟨some d,op,ty,ps,af,gu⟩::os) i K G U H:=by
 unfold qv at hx;split at hx
 ·exact sf hk hg hx h
 ·exact pw hk hg (λw=>by simp[execOp,kH hx]) h
 ·split at hx
  ·rename_i a;cases hx
   exact we hk hg a h
  ·cases hx
 ·cases hx
theorem fk (P:Program) (b j:Nat){n k:Nat}(hk:kl c i=1:=by kernel_rfl) (hg:gd c.ops c.a0 K ⟨some d,.fieldAddr tx x n,ty,ps,af,gu⟩=true:=by rfl) (hx:ky c K x=some (.pointer (some (iu b k))):=by rfl) (hP:c.P=P:=by rfl)
  (hr:∀ w,(Instr.fieldAt tx (.pointer (some (iu b k))) n).run P w=.ok (.pointer (some (iu b j))) w:=by intro _;go_simp) (h:RA c Z os (i+1) ((d,.pointer (some (iu b j)))::K) G U H):RA c Z (⟨some d,.fieldAddr tx x n,ty,ps,af,gu⟩::os) i K G U H:=
 fa hk hg hx (λw _=>by rw[hP];exact hr w) h
theorem pk (P:Program) (b j:Nat){n k:Nat}(hk:kl c i=5:=by rfl) (hg:gd c.ops c.a0 K ⟨some d,.fieldAddr tx x n,ty,ps,af,gu⟩=true:=by rfl) (hx:ky c K x=some (.pointer (some (iu b k))):=by rfl) (hP:c.P=P:=by rfl)
  (hr:∀ w,(Instr.fieldAt tx (.pointer (some (iu b k))) n).run P w=.ok (.pointer (some (iu b j))) w:=by intro _;go_simp) (h:RA c Z os (i+1) ((d,.pointer (some (iu b j)))::K) G U H):RA c Z (⟨some d,.fieldAddr tx x n,ty,ps,af,gu⟩::os) i K G U H:=
 wg hk hg hx (λw=>by rw[hP];exact hr w) h
theorem lk (P:Program) (v:Value){a:Addr}(hk:kl c i=1:=by kernel_rfl) (hg:gd c.ops c.a0 K ⟨some d,.load tx x,ty,ps,af,gu⟩=true:=by rfl) (hx:ky c K x=some (.pointer (some a)):=by rfl) (hP:c.P=P:=by rfl)
  (hc:∀ w,lJ c i G w->w.cell? a=some v) (hr:∀ w,w.cell? a=some v->(Instr.loadAt tx (.pointer (some a))).run P w=.ok v w:=by intro _ _;go_simp) (h:RA c Z os (i+1) ((d,v)::K) G U H):RA c Z (⟨some d,.load tx x,ty,ps,af,gu⟩::os) i K G U H:=
 ld hk hg hx (λw hp=>by rw[hP];exact hr w (hc w hp)) h
theorem ik (P:Program) (b j:Nat){z:Value}(hk:kl c i=1:=by kernel_rfl) (hg:gd c.ops c.a0 K ⟨some d,.indexAddr tx x x',ty,ps,af,gu⟩=true:=by rfl) (hx:ky c K x=some y:=by rfl) (hz:ky c K x'=some z:=by rfl) (hP:c.P=P:=by rfl)
  (hr:∀ w,(Instr.indexAt tx y z).run P w=.ok (.pointer (some (iu b j))) w:=by intro _;go_simp;all_goals (intro h;omega)) (h:RA c Z os (i+1) ((d,.pointer (some (iu b j)))::K) G U H):RA c Z (⟨some d,.indexAddr tx x x',ty,ps,af,gu⟩::os) i K G U H:=
 ia hk hg hx hz (λw _=>by rw[hP];exact hr w) h
theorem vk (P:Program) (v:Value){op:Op}(hk:kl c i=1:=by kernel_rfl) (hg:gd c.ops c.a0 K ⟨some d,op,ty,ps,af,gu⟩=true:=by rfl) (hP:c.P=P:=by rfl) (hr:∀ w,lJ c i G w->(execOp (ev c.a0 K) ⟨some d,op,ty,ps,af,gu⟩).run P w=.ok (.value v) w:=by intro _ _;go_simp)
  (h:RA c Z os (i+1) ((d,v)::K) G U H):RA c Z (⟨some d,op,ty,ps,af,gu⟩::os) i K G U H:=RA.val v hk hg (by rw[hP];exact hr) h
theorem vw (P:Program) (v:Value){op:Op}(hk:kl c i=1:=by kernel_rfl) (hg:gd c.ops c.a0 K ⟨some d,op,ty,ps,af,gu⟩=true:=by rfl) (hP:c.P=P:=by rfl) (hr:∀ w,lJ c i G w->(execOp (ev c.a0 K) ⟨some d,op,ty,ps,af,gu⟩).run P w=.ok (.value v) w:=by
  intro _ _;(try go_simp);try (first|(rw[bO];omega)|(rw[bG];omega)|(rw[ez];omega)|omega))
  (h:RA c Z os (i+1) ((d,v)::K) G U H):RA c Z (⟨some d,op,ty,ps,af,gu⟩::os) i K G U H:=RA.val v hk hg (by rw[hP];exact hr) h
end pures
end user
def kE (s0:St) (σ:Nat->Value):Nat->St
 | 0=>s0
 | m+1=>match c.ops[m]? with
  | some o=>pM c σ m o (kE s0 σ m)
  | none=>kE s0 σ m
theorem sM {c:Cx}{o:Oper}{s:St}(h:nR c i o s):match s.t with
  | .nil=>False
  | .tK _=>kl c i=0
  | .val _ _=>kl c i=1\/kl c i=5
  | .free _=>kl c i=2
  | .sq _ _ _=>kl c i=3\/kl c i=6
  | .qx _ _ _=>kl c i=4\/kl c i=7:=by
 unfold nR at h;cases ht:s.t<;>simp only[ht] at h ⊢
 ·exact h.1
 ·exact h.2.imp (·.1) (·.1)
 ·exact h.1
 ·exact h.2.2.2.imp (·.1) (·.1)
 ·exact h.2.2.2.imp (·.1) (·.1)
theorem yd {c:Cx}{o:Oper}{s:St}(h:nR c i o s) (hl:mA (kl c i)):∀ k ∈ s.U,In c.pr i k:=by
 have hk:=sM h;unfold nR at h;unfold mA at hl;cases ht:s.t<;>simp only[ht] at h hk
 ·rw[hk] at hl;simp at hl
 ·rcases hk with hk|hk<;>(rw[hk] at hl;simp at hl)
 ·rw[hk] at hl;simp at hl
 ·exact h.2.2.1
 ·exact h.2.2.1
def qd (c:Cx) (lst:Array Bool):Prop:=∃ t ∈ c.tl,lst.getD t false=true
theorem zQ {c:Cx}(h:kl c i=6\/kl c i=7):i ∈ c.tl:=by
 unfold kl at h;split at h
 ·omega
 ·split at h
  ·split at h
   ·rename_i h';simpa using h'
   ·omega
  ·split at h<;>omega
theorem Eu {c:Cx}(h:kl c i=1\/kl c i=2\/kl c i=3\/kl c i=4):∀ t ∈ c.tl,In c.pr t i:=by
 unfold kl at h;split at h
 ·omega
 ·split at h
  ·split at h<;>omega
  ·split at h
   ·rename_i h';exact λt ht=>bU.1 h' t ht
   ·omega
section sound
variable {c}{s0:St}{Z:Act->World->Prop}
theorem qe {σ:Nat->Value}{m:Nat}{o:Oper}(h:c.ops[m]?=some o):kE c s0 σ (m+1)=pM c σ m o (kE c s0 σ m):=by simp[kE,h]
theorem ye {σ:Nat->Value}:∀ (os:List Oper) (i:Nat),os=c.ops.drop i->Good c Z σ os i (kE c s0 σ i)->
  (∀ m o,i<=m->c.ops[m]?=some o->nR c m o (kE c s0 σ m))/\
   (i<=c.ops.length->∀ w,(c.tl=[]->c.R c.w0 w)->(c.tl=[]->∀ f ∈ (kE c s0 σ c.ops.length).G,f.2 w)->(kE c s0 σ c.ops.length).H w->Z (put c.a0 (kE c s0 σ c.ops.length).K) w):=by
 intro os
 induction os with
 | nil=>
  intro i hd hg
  have l:c.ops.length<=i:=by have:=bV List.length hd;simp at this;omega
  refine⟨λm o hm b=>?_,λhi=>?_⟩
  ·have:=(aD.1 b).1;omega
  ·have:i=c.ops.length:=om;subst this;exact hg
 | cons o os ih=>
  intro i hd hg;obtain⟨h1,g⟩:=hg
  have hi:i<c.ops.length:=by have:=bV List.length hd;simp at this;omega
  have d:c.ops.drop i=c.ops[i]::c.ops.drop (i+1):=List.drop_eq_getElem_cons hi;rw[d] at hd;injection hd with e1 e2;have b:c.ops[i]?=some o:=by rw[av hi,e1]
  rw[<-qe b] at g;obtain⟨j,k⟩:=ih (i+1) e2 g;refine⟨λm h hm a=>?_,λ_=>k om⟩;by_cases e:m=i
  ·subst e;rw[b] at a;cases a
   exact h1
  ·exact j m h om a
def pN (c:Cx) (s0:St) (σ:Nat->Value) (k:Nat):Value:=
 match (kE c s0 σ k).t with
 | .tK _=>undef
 | .val v _=>v
 | .qx v _ _=>v
 | _=>σ k
def pO (c:Cx) (s0:St) (σ:Nat->Value) (k:Nat) (w:World):Prop:=
 match (kE c s0 σ k).t with
 | .free _=>c.nj k (σ k) w
 | .sq g _ _=>g (σ k) w
 | _=>True
variable (hs0:s0.K=[]/\s0.G=[]/\s0.U=[])
variable {σ:Nat->Value}(hc:∀ m o,c.ops[m]?=some o->nR c m o (kE c s0 σ m))
include hc in
theorem Ev {m:Nat}{o:Oper}(h:c.ops[m]?=some o):(kE c s0 σ (m+1)).K=add o (pN c s0 σ m) (kE c s0 σ m).K:=by have:=hc m o h;rw[qe h];unfold pM pN nR at*;cases ht:(kE c s0 σ m).t<;>simp_all
include hc in
theorem Ew {m:Nat}{o:Oper}(h:c.ops[m]?=some o):∀ f ∈ (kE c s0 σ (m+1)).G,f ∈ (kE c s0 σ m).G\/(f.1=m/\∀ w,f.2 w↔pO c s0 σ m w):=by
 have:=hc m o h;rw[qe h];unfold pM pO nR at*;intro f;cases ht:(kE c s0 σ m).t<;>simp_all
 ·rintro (rfl|h)<;>simp_all
 ·rintro (rfl|h)<;>simp_all
include hc in
theorem yf {m:Nat}{o:Oper}(h:c.ops[m]?=some o) (k:Nat):k ∈ (kE c s0 σ (m+1)).U↔k ∈ (kE c s0 σ m).U\/(k=m/\(kl c m=2\/mA (kl c m))):=by
 have hk:=sM (hc m o h);rw[qe h];unfold pM mA;cases ht:(kE c s0 σ m).t<;>simp only[ht] at hk ⊢
 ·rw[hk];simp
 ·rcases hk with hk|hk<;>(rw[hk];simp)
 ·rw[hk];simp[or_comm]
 ·rcases hk with hk|hk<;>(rw[hk];simp[or_comm])
 ·rcases hk with hk|hk<;>(rw[hk];simp[or_comm])
include hc in
theorem Ey {m:Nat}{o:Oper}(h:c.ops[m]?=some o) (hl:¬ mA (kl c m)):(kE c s0 σ (m+1)).H=(kE c s0 σ m).H:=by
 have hk:=sM (hc m o h);rw[qe h];unfold pM mA at*;cases ht:(kE c s0 σ m).t<;>simp only[ht] at hk ⊢
 ·rcases hk with hk|hk<;>(rw[hk] at hl;simp at hl)
 ·rcases hk with hk|hk<;>(rw[hk] at hl;simp at hl)
include hc in
theorem yg {m m':Nat}(hm:m<=m') (hl:m'<=c.ops.length) (hk:∀ k,m<=k->k<m'->¬ mA (kl c k)):(kE c s0 σ m').H=(kE c s0 σ m).H:=by
 induction m' with
 | zero=>have:m=0:=om;subst this;rfl
 | succ m' ih=>
  by_cases e:m=m'+1
  ·subst e;rfl
  ·have a:m'<c.ops.length:=om;rw[Ey hc (av a) (hk m' om om),ih om om (λk h1 b=>hk k h1 om)]
include hc in
theorem Ez (h0:lR c.E s0.H):∀ m,m<=c.ops.length->lR c.E (kE c s0 σ m).H:=by
 intro m
 induction m with
 | zero=>intro _;exact h0
 | succ m ih=>intro hm;have a:m<c.ops.length:=om;have b:=av a;have:=hc m _ b;have:=ih om;rw[qe b];unfold pM nR at*;cases ht:(kE c s0 σ m).t<;>simp_all
include hc hs0 in
theorem tM:∀ m,m<=c.ops.length->∀ k,k ∈ (kE c s0 σ m).U↔k<m/\(kl c k=2\/mA (kl c k)):=by
 intro m
 induction m with
 | zero=>intro _ k;simp[kE,hs0.2.2]
 | succ m ih=>
  intro hm k;have b:m<c.ops.length:=om;rw[yf hc (av b),ih om];constructor
  ·rintro (⟨h1,a⟩|⟨rfl,a⟩)
   ·exact⟨by omega,a⟩
   ·exact⟨by omega,a⟩
  ·rintro⟨h1,a⟩;by_cases e:k=m
   ·subst e;exact .inr ⟨rfl,a⟩
   ·exact .inl ⟨by omega,a⟩
include hc hs0 in
theorem zR:∀ m,m<=c.ops.length->∀ f ∈ (kE c s0 σ m).G,f.1<m/\∀ w,f.2 w↔pO c s0 σ f.1 w:=by
 intro m
 induction m with
 | zero=>intro _ f a;simp[kE,hs0.2.1] at a
 | succ m ih=>
  intro hm f a;have b:m<c.ops.length:=om;rcases Ew hc (av b) f a with h|⟨h1,h2⟩
  ·have:=ih om f h;exact⟨by omega,this.2⟩
  ·rw[h1];exact⟨by omega,h2⟩
include hc hs0 in
theorem zS (hd:∀ (i k d:Nat),lW c.ops i=some d->lW c.ops k=some d->i=k):∀ m,m<=c.ops.length->∀ t,
  (∀ k,k<m->lW c.ops k=some t->(kE c s0 σ m).K.lookup t=some (pN c s0 σ k))/\
  ((∀ k,k<m->lW c.ops k≠some t)->(kE c s0 σ m).K.lookup t=none):=by
 intro m
 induction m with
 | zero=>intro _ t;exact⟨λk hk=>by omega,λ_=>by simp[kE,hs0.1]⟩
 | succ m ih=>
  intro hm t;have f:m<c.ops.length:=om;have g:=av f;obtain⟨j,l⟩:=ih om t;rw[Ev hc g];have b:lW c.ops m=(c.ops[m]).dst:=by simp[lW,g]
  unfold add;cases hdst:(c.ops[m]).dst with
  | none=>
   rw[hdst] at b;refine⟨λk hk a=>j k ?_ a,λh=>l λk hk=>h k om⟩;by_cases e:k=m
   ·subst e;rw[b] at a;cases a
   ·omega
  | some d=>
   rw[hdst] at b;simp only[List.lookup_cons];by_cases e:t=d
   ·subst e;simp only[beq_self_eq_true];refine⟨λk hk a=>?_,λh=>absurd b (h m om)⟩;rw[hd k m t a b]
   ·have:(t == d)=false:=by simpa using e
    simp only[this];refine⟨λk hk a=>j k ?_ a,λh=>l λk hk=>h k om⟩;by_cases n:k=m
    ·subst n;rw[b] at a;cases a;exact absurd rfl e
    ·omega
end sound
theorem EA {c:Cx}{s0:St}{σ σ':Nat->Value}(hc:∀ m o,c.ops[m]?=some o->nR c m o (kE c s0 σ m)):∀ m,m<=c.ops.length->
  (∀ k ∈ (kE c s0 σ m).U,σ k=σ' k)->kE c s0 σ m=kE c s0 σ' m:=by
 intro m
 induction m with
 | zero=>intro _ _;rfl
 | succ m ih=>
  intro hm h;have b:m<c.ops.length:=om;have a:=av b;have e:=ih om λk hk=>h k ((yf hc a k).2 (.inl hk))
  have hu:=λhk=>h m ((yf hc a m).2 (.inr ⟨rfl,hk⟩))
  have hk:=sM (hc m _ a);rw[qe a,qe a,<-e];unfold pM;cases ht:(kE c s0 σ m).t<;>simp only[ht] at hk ⊢
  ·rw[hu (.inl hk)]
  ·have:mA (kl c m):=by unfold mA;omega
   rw[hu (.inr this)]
theorem EB (a0:Act):∀ (K:List (Nat×Value)) (t:Nat),(put a0 K).tmps.size=a0.tmps.size/\(put a0 K).defers=a0.defers/\
  (put a0 K).tmps[t]?=match K.lookup t with
   | some v=>if t<a0.tmps.size then some v else none
   | none=>a0.tmps[t]?:=by
 intro K
 induction K with
 | nil=>intro t;simp[put]
 | cons p K ih=>
  intro t;obtain⟨d,v⟩:=p;obtain⟨h1,a,b⟩:=ih t;have e:put a0 ((d,v)::K)=(put a0 K).put (some d) v:=rfl;rw[e];refine⟨by simp[Act.put,h1],by simp[Act.put,a],?_⟩;simp only[Act.put,List.lookup_cons];by_cases ht:t=d
  ·subst ht;simp only[beq_self_eq_true,gO,ea,h1]
  ·have:(t == d)=false:=by simpa using ht
   simp only[this];rw[bH (λh=>ht h.symm),b]
structure Fit (c:Cx):Prop where
 EC:∀ (i:Nat) (o:Oper),c.ops[i]?=some o->∀ cs b,o.op≠.select cs b
 dst:∀ (i:Nat) (o:Oper) (d:Nat),c.ops[i]?=some o->o.dst=some d->d<c.a0.tmps.size
 one:∀ (i k d:Nat),lW c.ops i=some d->lW c.ops k=some d->i=k
 back:∀ (i:Nat) (o:Oper),c.ops[i]?=some o->∀ e ∈ o.after,Region.binds .any e=true->e.on<i
 pre:∀ (i:Nat) (o:Oper),c.ops[i]?=some o->∀ k,In c.pr i k->k<i/\∃ e ∈ o.after,Region.binds .any e=true/\(e.on=k\/In c.pr e.on k)
 use:∀ (i:Nat) (o:Oper),c.ops[i]?=some o->∀ t,Operand.tmp t ∈ o.op.operands->∀ k,lW c.ops k=some t->In c.pr i k\/In c.pr k i
 ED:∀ (i:Nat) (o:Oper),c.ops[i]?=some o->∀ j want,o.guard=some (j,want)->In c.pr i j
theorem zT {ops:List Oper}{k d:Nat}(h:lW ops k=some d):k<ops.length:=by
 rcases eu k ops.length with h'|h'
 ·exact h'
 ·simp[lW,cB h'] at h
theorem EE {k:Nat}:∀ (ds:List (Option Nat)) (t i:Nat),idx ds t i=some k->i<=k/\ds[k - i]?=some (some t)/\∀ j,i<=j->j<k->ds[j - i]?≠some (some t):=by
 intro ds
 induction ds with
 | nil=>intro t i h;cases h
 | cons d ds ih=>
  intro t i h
  have a:idx ds t (i+1)=some k->d≠some t->i<=k/\(d::ds)[k - i]?=some (some t)/\∀ j,i<=j->j<k->(d::ds)[j - i]?≠some (some t):=by
   intro h c;obtain⟨h1,f,g⟩:=ih t (i+1) h;refine⟨by omega,?_,λj l b=>?_⟩
   ·rw[show k - i=(k - (i+1))+1 from by omega,bX];exact f
   ·by_cases e:j=i
    ·subst e
     simpa using c
    ·rw[show j - i=(j - (i+1))+1 from by omega,bX];exact g j om b
  cases d with
  | none=>exact a h sm
  | some d=>
   simp only[idx] at h;by_cases e:d=t
   ·subst e;simp at h;subst h;exact⟨ae _,by simp,λj h1 f=>by omega⟩
   ·rw[ah (by simpa using e)] at h;exact a h (by simpa using e)
theorem EF:∀ (ds:List (Option Nat)) (t i:Nat),idx ds t i=none->∀ j:Nat,ds[j]?≠some (some t):=by
 intro ds
 induction ds with
 | nil=>intro t i _ j;simp
 | cons d ds ih=>
  intro t i h j
  have h':idx ds t (i+1)=none/\d≠some t:=by
   cases d with
   | none=>exact⟨h,by simp⟩
   | some d=>
    simp only[idx] at h;by_cases e:d=t
    ·subst e;simp at h
    ·rw[ah (by simpa using e)] at h;exact⟨h,by simpa using e⟩
  cases j with
  | zero=>simpa using h'.2
  | succ j=>simpa using ih t (i+1) h'.1 j
theorem EG (acc:List Nat) (k:Nat):∀ (es:List Edge) (s:Nat),(es.foldl (λs e=>if Region.binds .any e then s ||| 2 ^ e.on ||| acc.getD e.on 0 else s) s).testBit k=true->
  s.testBit k=true\/∃ e ∈ es,Region.binds .any e=true/\(e.on=k\/In acc e.on k):=by
 intro es
 induction es with
 | nil=>intro s h;exact .inl h
 | cons e es ih=>
  intro s h;simp only[eA] at h;rcases ih _ h with h|⟨e',he,h⟩
  ·by_cases hb:Region.binds .any e=true
   ·rw[ak hb] at h;simp only[Nat.testBit_or,ee,gP] at h;rcases h with (h|h)|h
    ·exact .inl h
    ·exact .inr ⟨e,by simp,hb,.inl (by simpa using h)⟩
    ·exact .inr ⟨e,by simp,hb,.inr h⟩
   ·rw[ah hb] at h;exact .inl h
  ·exact .inr ⟨e',by simp[he],h⟩
theorem EH (n:Nat) (ds:List (Option Nat)) (pr:List Nat):∀ (os:List Oper) (i:Nat),vY n ds pr i os=true->∀ j o,os[j]?=some o->ya n ds pr (i+j) o=true:=by
 intro os
 induction os with
 | nil=>intro i _ j o h;simp at h
 | cons x os ih=>
  intro i h j o a;simp only[vY,ef] at h;cases j with
  | zero=>simp at a;subst a;exact h.1
  | succ j=>have:=ih (i+1) h.2 j o (by simpa using a);rw[show i+(j+1)=i+1+j from by omega];exact this
theorem Fit.zU (c:Cx) (h:uU c.a0.tmps.size c.ops c.pr=true):Fit c:=by
 have key:∀ (i:Nat) (o:Oper),c.ops[i]?=some o->_:=λi o a=>by have:=EH _ _ _ _ _ h i o a;simp only[aw,ya,ef] at this;exact this
 have n:∀ k t,(c.ops.map (·.dst))[k]?=some (some t)↔lW c.ops k=some t:=by intro k t;simp only[bf,lW];cases c.ops[k]?<;>simp
 have g:∀ (i:Nat) (o:Oper),c.ops[i]?=some o->∀ e ∈ o.after,Region.binds .any e=true->e.on<i:=by
  intro i o a e he hb;have:=(key i o a).1.1.1.2;have:=bU.1 this e (by simpa using he)
  simpa [hb] using this
 have bit:∀ (i:Nat) (o:Oper),c.ops[i]?=some o->∀ k,In c.pr i k->∃ e ∈ o.after,Region.binds .any e=true/\(e.on=k\/In c.pr e.on k):=by
  intro i o a k hk;have h1:=(key i o a).1.1.2;unfold In at hk;rw[eh.1 h1] at hk;rcases EG c.pr k _ _ hk with f|⟨e,he,f⟩
  ·simp at f
  ·exact⟨e,by simpa using he,f⟩
 have lt:∀ (i:Nat),i<c.ops.length->∀ k,In c.pr i k->k<i:=by
  intro i
  induction i using Nat.strongRecOn with
  | _ i ih=>
   intro hi k hk;obtain⟨e,he,hb,f⟩:=bit i _ (av hi) k hk;have:=g i _ (av hi) e he hb;rcases f with rfl|f
   ·exact this
   ·have:=ih e.on this om k f;omega
 refine⟨?_,?_,?_,g,λi o a k hk=>⟨lt i (aD.1 a).1 k hk,bit i o a k hk⟩,?_,?_⟩
 ·intro i o a cs b e;have:=(key i o a).1.1.1.1.1;simp[e] at this
 ·intro i o d a hd;have:=(key i o a).1.1.1.1.2;simp[hd] at this;exact this.1
 ·intro i k d hi hk;obtain⟨v,q,p⟩:=f9.1 hi;obtain⟨ok,m,l⟩:=f9.1 hk;have h1:=(key i v q).1.1.1.1.2;have f:=(key k ok m).1.1.1.1.2;simp only[p,l,ef,eh] at h1 f;have:=h1.2.symm.trans f.2;exact aF this
 ·intro i o a t ht k hk;have:=(key i o a).1.2;have:=bU.1 this (.tmp t) (by simpa using ht);simp only at this;cases hix:idx (c.ops.map (·.dst)) t 0 with
  | none=>exact absurd ((n k t).2 hk) (EF _ _ _ hix k)
  | some k'=>
   rw[hix] at this;obtain⟨_,f,w⟩:=EE _ _ _ hix;have u:lW c.ops k'=some t:=(n k' t).1 (by simpa using f);obtain⟨ok,m,l⟩:=f9.1 hk;have r:=(key k ok m).1.1.1.1.2;simp only[l,ef,eh] at r;have s:=r.2;rw[hix] at s;cases s
   simp only[ee] at this;exact this
 ·intro i o a j want hg;have:=(key i o a).2;simp only[hg] at this;exact this
def On (lst:Array Bool) (k:Nat):Prop:=lst.getD k false=true
def pn (c:Cx) (σ:Nat->Value) (lst:Array Bool) (a:Act):Prop:=∀ k o,c.ops[k]?=some o->On lst k->match o.dst with|some d=>a.tmps[d]?=some (σ k)|none=>σ k=undef
structure Inv (c:Cx) (s0:St) (lst:Array Bool) (a:Act) (w:World):Prop where
 tN:lst.size=c.ops.length
 uW:a.tmps.size=c.a0.tmps.size
 zV:a.defers=c.a0.defers
 base:∀ t,(∀ k,lW c.ops k=some t->¬ On lst k)->a.tmps[t]?=c.a0.tmps[t]?
 rel:¬ qd c lst->c.R c.w0 w
 shut:∀ i,On lst i->∀ k,In c.pr i k->On lst k
 fact:∀ σ,pn c σ lst a->(∀ k o,c.ops[k]?=some o->On lst k->(∀ d,o.dst=some d->a.tmps[d]?=some (pN c s0 σ k))/\(¬ qd c lst->pO c s0 σ k w))/\
  (∀ m,m<=c.ops.length->(∀ k,k<c.ops.length->mA (kl c k)->(On lst k↔k<m))->(kE c s0 σ m).H w)
theorem zW (c:Cx) (lst:Array Bool) (a:Act) (hf:Fit c) (ht:a.tmps.size=c.a0.tmps.size):∃ σ,pn c σ lst a:=by
 refine⟨λk=>match lW c.ops k with|some d=>a.tmps.getD d undef|none=>undef,?_⟩;intro k o b _;cases hd:o.dst with
 | none=>simp[lW,b,hd]
 | some d=>have:=hf.dst k o d b hd;simp[lW,b,hd,ht,this]
section step
variable {c:Cx}{s0:St}{lst:Array Bool}{a:Act}{w:World}{i:Nat}{o:Oper}
theorem po {k:Nat}(hi:i<lst.size):On (lst.setIfInBounds i true) k↔On lst k\/k=i:=by
 unfold On;by_cases e:k=i
 ·subst e;simp[hi]
 ·simp[e,bH (λh=>e h.symm)]
theorem Inv.next (hf:Fit c) (hs0:s0.K=[]/\s0.G=[]/\s0.U=[]) (hE0:lR c.E s0.H) (hRt:∀ a b d,c.R a b->c.R b d->c.R a d)
  (hc:∀ σ m o,c.ops[m]?=some o->nR c m o (kE c s0 σ m))
  (inv:Inv c s0 lst a w) (hi:i ∈ Region.ready .any c.ops.toArray lst) (ho:c.ops[i]?=some o){v:Value}{w':World}
  (hR:¬ qd c (lst.setIfInBounds i true)->w'=w\/c.R w w') (hG:∀ σ,pn c σ (lst.setIfInBounds i true) (a.put o.dst v)->(∀ d,o.dst=some d->pN c s0 σ i=v)/\(¬ qd c (lst.setIfInBounds i true)->pO c s0 σ i w'))
  (hH:(¬ mA (kl c i)/\(w'=w\/c.E w w'))\/(mA (kl c i)/\∀ σ,pn c σ (lst.setIfInBounds i true) (a.put o.dst v)->(kE c s0 σ (i+1)).H w')):
  Inv c s0 (lst.setIfInBounds i true) (a.put o.dst v) w':=by
 have D:i<c.ops.length:=(aD.1 ho).1;have f:i<lst.size:=by rw[inv.tN];exact D
 obtain⟨y,n,B,N⟩:lst.getD i true=false/\∃ n,c.ops.toArray[i]?=some n/\∀ e ∈ n.after,Region.binds .any e=true->lst.getD e.on false=true:=by
  have:=eQ.1 hi
  simpa using this
 obtain rfl:n=o:=by simp at B;rw[ho] at B;exact (aF B).symm
 have x:¬ On lst i:=by unfold On;simp[f] at y ⊢;exact y
 have M:∀ k,In c.pr i k->On lst k:=by
  intro k hk;obtain⟨_,e,he,hb,h⟩:=hf.pre i n ho k hk;rcases h with rfl|h
  ·exact N e he hb
  ·exact inv.shut _ (N e he hb) k h
 have r:∀ k ok d,c.ops[k]?=some ok->ok.dst=some d->k≠i->(a.put n.dst v).tmps[d]?=a.tmps[d]?:=by
  intro k ok d hk hd P;cases hd':n.dst with
  | none=>rfl
  | some d'=>
   have:d'≠d:=λe=>P (hf.one k i d (by simp[lW,hk,hd]) (by simp[lW,ho,hd',e]))
   simp[Act.put,bH this]
 have u:∀ σ,pn c σ (lst.setIfInBounds i true) (a.put n.dst v)->pn c σ lst a:=by
  intro σ h k ok hk g;have:=h k ok hk ((po f).2 (.inl g));cases hd:ok.dst with
  | none=>simpa [hd] using this
  | some d=>simp only[hd] at this;show a.tmps[d]?=some (σ k);rw[<-r k ok d hk hd (λe=>x (e ▸ g))];exact this
 have C:¬ qd c (lst.setIfInBounds i true)->¬ qd c lst:=λh ⟨t,ht,g⟩=>h ⟨t,ht,(po f).2 (.inl g)⟩
 have s:¬ qd c (lst.setIfInBounds i true)->∀ (F:World->Prop),lR c.R F->F w->F w':=by
  intro l F X h;rcases hR l with rfl|hR
  ·exact h
  ·exact X _ _ hR h
 refine⟨by simp[inv.tN],?_,?_,?_,?_,?_,?_⟩
 ·cases n.dst<;>simp[Act.put,inv.uW]
 ·cases n.dst<;>simp[Act.put,inv.zV]
 ·intro t ht;rw[<-inv.base t (λk hk g=>ht k hk ((po f).2 (.inl g)))];cases hd':n.dst with
  | none=>rfl
  | some d'=>
   have:d'≠t:=λe=>ht i (by simp[lW,ho,hd',e]) ((po f).2 (.inr rfl))
   simp[Act.put,bH this]
 ·intro l;rcases hR l with rfl|hR
  ·exact inv.rel (C l)
  ·exact hRt _ _ _ (inv.rel (C l)) hR
 ·intro k hk j V;rcases (po f).1 hk with h|rfl
  ·exact (po f).2 (.inl (inv.shut k h j V))
  ·exact (po f).2 (.inl (M j V))
 ·intro σ S;obtain⟨f1,f2⟩:=inv.fact σ (u σ S);have q:=hc σ;refine⟨?_,?_⟩
  ·intro k ok hk g;by_cases e:k=i
   ·subst e;rw[ho] at hk;cases hk;obtain⟨g1,g2⟩:=hG σ S;refine⟨λd hd=>?_,g2⟩;rw[g1 d hd];have:=hf.dst k n d ho hd;simp[Act.put,hd,inv.uW,this]
   ·have L:On lst k:=by
     rcases (po f).1 g with h|h
     ·exact h
     ·exact absurd h e
    obtain⟨g1,g2⟩:=f1 k ok hk L;refine⟨λd hd=>by rw[r k ok d hk hd e];exact g1 d hd,?_⟩;intro l;have z:=g2 (C l);have p:=q k ok hk;unfold pO nR at*;cases ht:(kE c s0 σ k).t<;>simp only[ht] at z p ⊢
    ·exact s l _ (p.2.2.1 (σ k)) z
    ·exact s l _ (p.2.2.2.elim (λh=>h.2.1 (σ k)) (λh=>h.2.1 (σ k))) z
  ·intro m hm A;rcases hH with ⟨hk,hw⟩|⟨hk,hw⟩
   ·have:=f2 m hm λk O I=>by
     rw[<-A k O I,po f];constructor
     ·exact .inl
     ·rintro (h|rfl)
      ·exact h
      ·exact absurd I hk
    rcases hw with rfl|hw
    ·exact this
    ·exact Ez q hE0 m hm _ _ hw this
   ·have Y:i<m:=(A i D hk).1 ((po f).2 (.inr rfl));rw[yg q (m:=i+1) (m':=m) om hm λk h1 W T=>?_]
    ·exact hw σ S
    ·have J:k<c.ops.length:=om
     have g:On lst k:=by
      rcases (po f).1 ((A k J T).2 W) with h|h
      ·exact h
      ·omega
     have p:=q k _ (av J);have Q:i ∈ (kE c s0 σ k).U:=(tM hs0 q k om i).2 ⟨by omega,.inr hk⟩;exact x (inv.shut k g i (yd p T i Q))
end step
section main
variable {c:Cx}{s0:St}{Q:Exit->Act->World->Prop}
theorem uX {P:Program}{o:Oper}{ρ:Operand->Value}{w:World}{N N':Value->World->Prop}(hn:∀ v w',N v w'->N' v w') (h:mK P o ρ w N):mK P o ρ w N':=by
 unfold mK at*;generalize (execOp ρ o).run P w=r at*;cases r with
 | ok n w'=>cases n<;>simp only at h ⊢<;>first|exact hn _ _ h|exact Calls.mono h (λe a ⟨v,he,hv⟩=>⟨v,he,hn _ _ hv⟩)
 | halt x w'=>exact h
theorem uY {P:Program}{o:Oper}{ρ ρ':Operand->Value}{w:World}{N:Value->World->Prop}(he:execOp ρ o=execOp ρ' o) (h:mK P o ρ w N):mK P o ρ' w N:=by unfold mK at*;rw[<-he];exact h
theorem wh {P:Program}{o:Oper}{a:Act}{w:World}{K:Act->World->Prop}(h:mK P o a.eval w λv w'=>K (a.put o.dst v) w'):o.wp P a w K Q:=by
 unfold mK at h;unfold Oper.wp;generalize (execOp a.eval o).run P w=r at*;cases r with
 | ok n w'=>
  cases n<;>simp only[Oper.upon] at h ⊢
  ·exact h
  ·exact h
  ·exact Calls.mono h (λe b ⟨v,he,hv⟩=>by subst he;exact hv)
 | halt x w'=>exact h.elim
theorem Inv.step (hf:Fit c) (hs0:s0.K=[]/\s0.G=[]/\s0.U=[]) (hE0:lR c.E s0.H) (hER:∀ w w',c.E w w'->c.R w w') (hRt:∀ a b d,c.R a b->c.R b d->c.R a d)
  (hc:∀ σ m o,c.ops[m]?=some o->nR c m o (kE c s0 σ m))
  (htk:∀ t ∈ c.tl,mA (kl c t)){lst:Array Bool}{a:Act}{w:World}(inv:Inv c s0 lst a w) (hi:i ∈ Region.ready .any c.ops.toArray lst):
  wpOp c.P c.ops.toArray Q i (λa' w'=>Inv c s0 (lst.setIfInBounds i true) a' w') a w:=by
 obtain⟨F,o,bA,bC⟩:lst.getD i true=false/\∃ o',c.ops.toArray[i]?=some o'/\∀ e ∈ o'.after,Region.binds .any e=true->lst.getD e.on false=true:=by
  have:=eQ.1 hi
  simpa using this
 have C:c.ops[i]?=some o:=by simpa using bA
 have ba:i<c.ops.length:=(aD.1 C).1
 have J:∀ k,In c.pr i k->On lst k:=by
  intro k hk;obtain⟨_,e,he,hb,h⟩:=hf.pre i o C k hk;rcases h with rfl|h
  ·exact bC e he hb
  ·exact inv.shut _ (bC e he hb) k h
 have b8:i<lst.size:=by rw[inv.tN];exact ba
 have ax:¬ On lst i:=by unfold On;simp[b8] at F ⊢;exact F
 have O:∀ σ,pn c σ lst a->∀ t,(∀ k,lW c.ops k=some t->In c.pr i k\/In c.pr k i)->ev c.a0 (kE c s0 σ i).K (.tmp t)=a.eval (.tmp t)/\
   ∀ k,lW c.ops k=some t->a.tmps[t]?=some (ev c.a0 (kE c s0 σ i).K (.tmp t)):=by
  intro σ q t ht;obtain⟨k1,k2⟩:=zS hs0 (hc σ) hf.one i om t;by_cases hex:∃ k,lW c.ops k=some t
  ·obtain⟨k,hk⟩:=hex;have a1:=zT hk;have a6:=av a1;have bz:(c.ops[k]).dst=some t:=by simpa [lW,a6] using hk
   rcases ht k hk with N|N
   ·have an:=(hf.pre i o C k N).1;have hv:=((inv.fact σ q).1 k _ a6 (J k N)).1 t bz;have e:ev c.a0 (kE c s0 σ i).K (.tmp t)=pN c s0 σ k:=by simp[ev,k1 k an hk]
    rw[e];refine⟨by simp[Act.eval,hv],λ_ _=>hv⟩
   ·have c7:=(hf.pre k _ a6 i N).1;have bB:∀ X,lW c.ops X=some t->¬ On lst X:=λX bl r=>ax (inv.shut X r i (by rw[hf.one X k t bl hk];exact N))
    have hb:=inv.base t bB;have n:∀ X,X<i->lW c.ops X≠some t:=λX bl h=>by have:=hf.one X k t h hk;omega
    have b2:t<c.a0.tmps.size:=hf.dst k _ t a6 bz;refine⟨by simp[ev,k2 n,Act.eval,hb],λ_ _=>?_⟩;rw[hb];simp[ev,k2 n,Act.eval,b2]
  ·have n:∀ k,lW c.ops k≠some t:=λk h=>hex ⟨k,h⟩
   refine⟨by simp[ev,k2 λk _=>n k,Act.eval,inv.base t (λk h=>absurd h (n k))],λk hk=>absurd hk (n k)⟩
 have M:∀ σ,pn c σ lst a->execOp (ev c.a0 (kE c s0 σ i).K) o=execOp a.eval o:=by
  intro σ q;refine execOp_congr o (hf.EC i o C) λx hx=>?_
  cases x with
  | tmp t=>exact (O σ q t (hf.use i o C t hx)).1
  | const v=>rfl
  | global g=>rfl
  | func f=>rfl
 have Y:∀ σ,pn c σ lst a->gd c.ops c.a0 (kE c s0 σ i).K o=Region.wanted o (yielded c.ops.toArray a.tmps):=by
  intro σ q;unfold gd Region.wanted yielded;cases hg:o.guard with
  | none=>rfl
  | some p=>
   obtain⟨j,want⟩:=p;simp only;have hj:=hf.ED i o C j want hg;have e:(c.ops.toArray[j]?).bind (·.dst)=(c.ops[j]?).bind (·.dst):=by simp
   rw[e];cases hd:(c.ops[j]?).bind (·.dst) with
   | none=>simp
   | some d=>have b6:lW c.ops j=some d:=hd;have h1:=(O σ q d (λk hk=>.inl (by rw[hf.one k j d hk b6];exact hj))).2 j b6;simp only[Option.bind_some,h1];cases ev c.a0 (kE c s0 σ i).K (.tmp d)<;>first|rfl|(rename_i b;cases b<;>cases want<;>rfl)
 have u:¬ qd c lst->∀ σ,pn c σ lst a->lJ c i (kE c s0 σ i).G w:=by
  intro n σ q;refine⟨inv.rel n,λf bR b7=>?_⟩;obtain⟨_,h2⟩:=zR hs0 (hc σ) i om f bR;have A:f.1<c.ops.length:=by have:=(hf.pre i o C f.1 b7).1;omega
  exact (h2 w).2 (((inv.fact σ q).1 f.1 _ (av A) (J f.1 b7)).2 n)
 have Z:i<lst.size:=by rw[inv.tN];exact ba
 have y:¬ On lst i:=by unfold On;simp[Z] at F ⊢;exact F
 have hold:∀ v σ,pn c σ (lst.setIfInBounds i true) (a.put o.dst v)->pn c σ lst a:=by
  intro v σ h k ok hk r;have an:k≠i:=λe=>y (e ▸ r)
  have:=h k ok hk ((po Z).2 (.inl r));cases hd:ok.dst with
  | none=>simpa [hd] using this
  | some d=>
   simp only[hd] at this;show a.tmps[d]?=some (σ k);rw[<-this];cases hd':o.dst with
   | none=>rfl
   | some d'=>
    have:d'≠d:=λe=>an (hf.one k i d (by simp[lW,hk,hd]) (by simp[lW,C,hd',e]))
    simp[Act.put,bH this]
 have B:∀ v σ,pn c σ (lst.setIfInBounds i true) (a.put o.dst v)->σ i=vd o v:=by
  intro v σ h;have:=h i o C ((po Z).2 (.inr rfl));cases hd:o.dst with
  | none=>simpa [hd,vd] using this
  | some d=>have c6:=hf.dst i o d C hd;simp[hd,Act.put,inv.uW,c6] at this;simp[vd,hd,this]
 obtain⟨σ0,z⟩:=zW c lst a hf inv.uW;have hC:=hc σ0 i o C;have D:=M σ0 z;have L:=Y σ0 z;have s:(kl c i=1\/kl c i=2\/kl c i=3\/kl c i=4)->¬ qd c lst:=λhk ⟨t,ht,r⟩=>y (inv.shut t r i (Eu hk t ht))
 have b4:mA (kl c i)->(∀ k ∈ (kE c s0 σ0 i).U,In c.pr i k)->(kE c s0 σ0 i).H w:=by
  intro A hU;refine (inv.fact σ0 z).2 i om λk bW bp=>⟨λr=>?_,λc5=>?_⟩
  ·rcases dG k i with h1|h1|h1
   ·exact h1
   ·exact absurd (h1 ▸ r) y
   ·have af:=hc σ0 k _ (av bW);have b3:i ∈ (kE c s0 σ0 k).U:=(tM hs0 (hc σ0) k om i).2 ⟨h1,.inr A⟩;exact absurd (inv.shut k r i (yd af bp i b3)) y
  ·exact J k (hU k ((tM hs0 (hc σ0) i om k).2 ⟨c5,.inr bp⟩))
 have ad:mA (kl c i)->(∀ k ∈ (kE c s0 σ0 i).U,In c.pr i k)->(∀ t ∈ c.tl,¬ In c.pr i t)->(∀ t ∈ c.tl,mA (kl c t))->¬ qd c lst:=by
  rintro A hU ay a8 ⟨t,ht,r⟩;have I:On lst t:=r
  have b2:t<c.ops.length:=by
   rcases eu t c.ops.length with h|h
   ·exact h
   ·unfold On at I;rw[<-inv.tN] at h;simp[eM h] at I
  rcases dG t i with h1|h1|h1
  ·exact ay t ht (hU t ((tM hs0 (hc σ0) i om t).2 ⟨h1,.inr (a8 t ht)⟩))
  ·exact absurd (h1 ▸ I) y
  ·have af:=hc σ0 t _ (av b2);have b3:i ∈ (kE c s0 σ0 t).U:=(tM hs0 (hc σ0) t om i).2 ⟨h1,.inr A⟩;exact absurd (inv.shut t I i (yd af (a8 t ht) i b3)) y
 have V:∀ v,(∀ k ∈ (kE c s0 σ0 i).U,In c.pr i k)->∀ σ,pn c σ (lst.setIfInBounds i true) (a.put o.dst v)->kE c s0 σ i=kE c s0 σ0 i:=by
  intro v hU σ q;refine (EA (hc σ0) i om λk hk=>?_).symm;have r:=J k (hU k hk);have a1:k<c.ops.length:=by have:=((tM hs0 (hc σ0) i om k).1 hk).1;omega
  have h1:=z k _ (av a1) r;have h2:=hold v σ q k _ (av a1) r;cases hd:(c.ops[k]).dst with
  | none=>simp only[hd] at h1 h2;rw[h1,h2]
  | some d=>simp only[hd] at h1 h2;rw[h1] at h2;exact aF h2
 have b5:mA (kl c i)->(∀ k ∈ (kE c s0 σ0 i).U,In c.pr i k)->qy c i (kE c s0 σ0 i).G w:=λA hU ay=>u (ad A hU ay htk) σ0 z
 unfold wpOp;simp only[bA];have kinds:∀ σ,nR c i o (kE c s0 σ i):=λσ=>hc σ i o C
 have nx:=@Inv.next c s0 lst a w i o hf hs0 hE0 hRt hc inv hi C;have aa:i ∈ c.tl->qd c (lst.setIfInBounds i true):=λh=>⟨i,h,(po Z).2 (.inr rfl)⟩
 unfold nR at hC;cases ht:(kE c s0 σ0 i).t<;>simp only[ht] at hC
 case tK t=>rw[ah (by rw[<-L,hC.2];simp)];refine nx (λ_=>.inl rfl) (λσ q=>?_) (.inl ⟨by rw[hC.1];unfold mA;decide,.inl rfl⟩);have hk:=sM (kinds σ);unfold pN pO;cases hts:(kE c s0 σ i).t<;>simp only[hts] at hk ⊢<;>first|(rw[hC.1] at hk;simp at hk;done)|exact⟨λ_ _=>rfl,λ_=>trivial⟩|simp
 case val v t=>
  have l:(execOp (ev c.a0 (kE c s0 σ0 i).K) o).run c.P w=.ok (.value v) w:=hC.2.elim (λh=>h.2 w (u (s (.inl h.1)) σ0 z)) (λh=>h.2 w);rw[ak (by rw[<-L,hC.1])];refine .inl (wh ?_);unfold mK;rw[<-D,l];have c8:kl c i=1\/kl c i=5:=hC.2.imp (·.1) (·.1);refine nx (λ_=>.inl rfl) (λσ q=>?_) (.inl ⟨by unfold mA;omega,.inl rfl⟩);have bD:=hold v σ q;have a7:=kinds σ;have hk:=sM a7;unfold nR at a7;unfold pN pO;cases hts:(kE c s0 σ i).t<;>simp only[hts] at hk a7 ⊢
  case val v' t'=>
   have h':(execOp (ev c.a0 (kE c s0 σ i).K) o).run c.P w=.ok (.value v') w:=a7.2.elim (λh=>h.2 w (u (s (.inl h.1)) σ bD)) (λh=>h.2 w);rw[M σ bD,<-D,l] at h';cases h'
   exact⟨λ_ _=>rfl,λ_=>trivial⟩
  all_goals omega
 case free t=>
  rw[ak (by rw[<-L,hC.2.1])];refine .inl (wh ?_);have l:=hC.2.2.2 w (u (s (.inr (.inl hC.1))) σ0 z);refine uY D (uX (λv w' hv=>?_) l);refine nx (λ_=>.inr (hER _ _ hv.1)) (λσ q=>?_) (.inl ⟨by rw[hC.1];unfold mA;decide,.inr hv.1⟩);have S:=B v σ q;have hk:=sM (kinds σ);unfold pN pO;cases hts:(kE c s0 σ i).t<;>simp only[hts] at hk ⊢
  case free t'=>exact⟨λd hd=>by rw[S];simp[vd,hd],λ_=>by rw[S];exact hv.2⟩
  all_goals omega
 case sq g h t=>
  rw[ak (by rw[<-L,hC.1])];refine .inl (wh ?_);have A:mA (kl c i):=by unfold mA;rcases hC.2.2.2 with h|h<;>omega
  have hH:=b4 A hC.2.2.1;have same:=λv=>V v hC.2.2.1
  rcases hC.2.2.2 with T|T
  ·have l:=T.2.2 w (u (s (.inr (.inr (.inl T.1)))) σ0 z) hH;refine uY D (uX (λv w' hv=>?_) l);refine nx (λ_=>.inr hv.1) (λσ q=>?_) (.inr ⟨A,λσ q=>?_⟩)
   ·have S:=B v σ q;unfold pN pO;rw[same v σ q];simp only[ht];exact⟨λd hd=>by rw[S];simp[vd,hd],λ_=>by rw[S];exact hv.2.1⟩
   ·have S:=B v σ q;rw[qe C,same v σ q];unfold pM;simp only[ht];rw[S];exact hv.2.2
  ·have l:=T.2.2 w (b5 A hC.2.2.1) hH;have W:=aa (zQ (.inl T.1));refine uY D (uX (λv w' hv=>?_) l);refine nx (λn=>absurd W n) (λσ q=>?_) (.inr ⟨A,λσ q=>?_⟩)
   ·have S:=B v σ q;unfold pN pO;rw[same v σ q];simp only[ht];exact⟨λd hd=>by rw[S];simp[vd,hd],λn=>absurd W n⟩
   ·have S:=B v σ q;rw[qe C,same v σ q];unfold pM;simp only[ht];rw[S];exact hv
 case qx v0 h t=>
  rw[ak (by rw[<-L,hC.1])];refine .inl (wh ?_);have A:mA (kl c i):=by unfold mA;rcases hC.2.2.2 with h|h<;>omega
  have hH:=b4 A hC.2.2.1;have same:=λv=>V v hC.2.2.1
  rcases hC.2.2.2 with T|T
  ·have l:=T.2 w (u (s (.inr (.inr (.inr T.1)))) σ0 z) hH;refine uY D (uX (λv w' hv=>?_) l);refine nx (λ_=>.inr hv.2.1) (λσ q=>?_) (.inr ⟨A,λσ q=>?_⟩)
   ·unfold pN pO;rw[same v σ q];simp only[ht];exact⟨λd hd=>(hv.1 (by simp[hd])).symm,λ_=>trivial⟩
   ·rw[qe C,same v σ q];unfold pM;simp only[ht];exact hv.2.2
  ·have l:=T.2 w (b5 A hC.2.2.1) hH;have W:=aa (zQ (.inr T.1));refine uY D (uX (λv w' hv=>?_) l);refine nx (λn=>absurd W n) (λσ q=>?_) (.inr ⟨A,λσ q=>?_⟩)
   ·unfold pN pO;rw[same v σ q];simp only[ht];exact⟨λd hd=>(hv.1 (by simp[hd])).symm,λn=>absurd W n⟩
   ·rw[qe C,same v σ q];unfold pM;simp only[ht];exact hv.2
theorem EI (hf:Fit c){lst:Array Bool}(hl:lst.size=c.ops.length) (h:Region.ready .any c.ops.toArray lst=[]):∀ k,k<c.ops.length->On lst k:=by
 intro k
 induction k using Nat.strongRecOn with
 | _ k ih=>
  intro hk;by_cases a:On lst k
  ·exact a
  ·exfalso;have b:=av hk
   have:k ∈ Region.ready .any c.ops.toArray lst:=by
    refine eQ.2 ?_
    have h1:lst.getD k true=false:=by unfold On at a;have d:k<lst.size:=om;simp[d] at a ⊢;exact a
    have f:∀ e ∈ (c.ops[k]).after,Region.binds .any e=true->lst.getD e.on false=true:=λe he hb=>ih e.on (hf.back k _ b e he hb) (by have:=hf.back k _ b e he hb;omega)
    simp[h1,b]
    simpa using f
   rw[h] at this;cases this
theorem zX (hf:Fit c) (hs0:s0.K=[]/\s0.G=[]/\s0.U=[]) (hE0:lR c.E s0.H) (hER:∀ w w',c.E w w'->c.R w w') (hRt:∀ a b d,c.R a b->c.R b d->c.R a d)
  (htk:∀ t ∈ c.tl,mA (kl c t)) (hg:∀ σ,Good c (Q .normal) σ c.ops 0 s0):∀ (fuel:Nat) (lst:Array Bool) (a:Act) (w:World),Inv c s0 lst a w->lst.toList.count false<=fuel->
   wpAny c.P .any c.ops.toArray Q fuel lst a w:=by
 have g:=λσ=>ye (c:=c) (s0:=s0) (Z:=Q .normal) (σ:=σ) c.ops 0 sm (hg σ)
 have hc:∀ σ m o,c.ops[m]?=some o->nR c m o (kE c s0 σ m):=λσ m o C=>(g σ).1 m o (aW _) C
 have fin:∀ (lst:Array Bool) (a:Act) (w:World),Inv c s0 lst a w->Region.ready .any c.ops.toArray lst=[]->Q .normal a w:=by
  intro lst a w inv hr;have p:=EI hf inv.tN hr;obtain⟨σ,I⟩:=zW c lst a hf inv.uW;obtain⟨f1,f2⟩:=inv.fact σ I;have u:c.tl=[]->¬ qd c lst:=λe ⟨t,ht,_⟩=>by rw[e] at ht;cases ht
  have F:=(g σ).2 (aW _) w (λe=>inv.rel (u e)) (λe f y=>by obtain⟨h1,v⟩:=zR hs0 (hc σ) _ (ae _) f y;exact (v w).2 ((f1 f.1 _ (av h1) (p f.1 h1)).2 (u e))) (f2 _ (ae _) λk hk _=>⟨λ_=>hk,λ_=>p k hk⟩)
  have e:put c.a0 (kE c s0 σ c.ops.length).K=a:=by
   have hp:=EB c.a0 (kE c s0 σ c.ops.length).K;have D:=(hp 0).1;have x:=(hp 0).2.1
   have:(put c.a0 (kE c s0 σ c.ops.length).K).tmps=a.tmps:=by
    refine ga λt=>?_
    rw[(hp t).2.2];obtain⟨J,L⟩:=zS hs0 (hc σ) hf.one c.ops.length (ae _) t;by_cases hex:∃ k,lW c.ops k=some t
    ·obtain⟨k,hk⟩:=hex;have l:=zT hk;have n:=av l;have r:(c.ops[k]).dst=some t:=by simpa [lW,n] using hk
     have ht:=hf.dst k _ t n r;rw[J k l hk,(f1 k _ n (p k l)).1 t r];simp[ht]
    ·have s:∀ k,lW c.ops k≠some t:=λk h=>hex ⟨k,h⟩
     rw[L λk _=>s k,inv.base t (λk h=>absurd h (s k))]
   calc put c.a0 (kE c s0 σ c.ops.length).K=⟨(put c.a0 (kE c s0 σ c.ops.length).K).tmps,(put c.a0 (kE c s0 σ c.ops.length).K).defers⟩:=rfl
    _=⟨a.tmps,a.defers⟩:=by rw[this,x,inv.zV]
    _=a:=rfl
  rw[<-e];exact F
 intro fuel
 induction fuel with
 | zero=>
  intro lst a w inv q
  have hr:Region.ready .any c.ops.toArray lst=[]:=by
   refine List.eq_nil_iff_forall_not_mem.2 λk hk=>?_
   have h1:lst.getD k true=false:=by
    have:=eQ.1 hk;simp at this
    simpa using this.1
   have z:k<lst.size:=by
    rcases eu k lst.size with h|h
    ·exact h
    ·simp[eM h] at h1
   have:false ∈ lst.toList:=by simp[z] at h1;rw[<-h1];simp
   have:=gQ.2 this;omega
  exact⟨hr,fin lst a w inv hr⟩
 | succ fuel ih=>
  intro lst a w inv q;refine⟨fin lst a w inv,λi hi=>?_⟩;refine wpOp_mono (λM w' h=>?_) (Inv.step hf hs0 hE0 hER hRt hc htk inv hi);refine ih _ _ _ h ?_
  have h1:lst.getD i true=false:=by
   have:=eQ.1 hi;simp at this
   simpa using this.1
  have j:i<lst.size:=by
   rcases eu i lst.size with h|h
   ·exact h
   ·simp[eM h] at h1
  have v:lst.toList[i]'(by simpa using j)=false:=by simpa [j] using h1
  have N:0<lst.toList.count false:=gQ.2 (by rw[<-v];exact bK _);have A:(lst.setIfInBounds i true).toList=lst.toList.set i true:=by simp
  have B:(lst.toList.set i true).count false=lst.toList.count false - 1:=by rw[List.count_set (by simpa using j),v];rfl
  rw[A,B];omega
theorem oz {P:Program}{id:Nat}{l:List Oper}{a:Act}{w:World}(R E:World->World->Prop) (kd tl:List Nat) (nj:Nat->Value->World->Prop) (H:World->Prop)
  (hm:P.follows .mixedOrders=true) (hR:R w.drew w.drew) (hER:∀ w w',E w w'->R w w') (hRt:∀ a b d,R a b->R b d->R a d) (hE0:lR E H) (h0:H w.drew)
  (hchk:uU a.tmps.size l (qA l [])=true) (htk:(tl.all λt=>kd.getD t 9 == 6 || kd.getD t 9 == 7)=true)
  (h:let c:Cx:=⟨P,R,E,a,w.drew,l,qA l [],kd,tl,nj⟩;RA c (Q .normal) l 0 [] [] [] H):(Code.region id l.toArray true).wp P Q a w:=by
 obtain⟨c,e⟩:=Ex (⟨P,R,E,a,w.drew,l,qA l [],kd,tl,nj⟩:Cx);obtain⟨t,ht⟩:RA c (Q .normal) l 0 [] [] [] H:=by rw[e];exact h
 refine wp_region_any hm ?_;have z:c.P=P:=by rw[e]
 have r:c.ops=l:=by rw[e]
 have s:c.a0=a:=by rw[e]
 have u:c.R=R:=by rw[e]
 have y:c.E=E:=by rw[e]
 have A:c.w0=w.drew:=by rw[e]
 have C:Fit c:=Fit.zU c (by rw[e];exact hchk)
 have q:∀ t ∈ c.tl,mA (kl c t):=by
  intro t j;have h1:t ∈ tl:=by rw[e] at j;exact j
  have n:=bU.1 htk t h1;have x:c.kd=kd:=by rw[e]
  simp only[ee,eh] at n;unfold kl mA;rw[x];rw[ah om,ak n,ak (by simpa using j)];omega
 have f:∀ σ,Good c (Q .normal) σ c.ops 0 ⟨t,[],[],[],H⟩:=λσ=>by rw[r];exact ht σ
 have main:=zX (c:=c) (s0:=⟨t,[],[],[],H⟩) (Q:=Q) C ⟨rfl,rfl,rfl⟩ (by rw[y];exact hE0) (by rw[u,y];exact hER) (by rw[u];exact hRt) q f;rw[z,r] at main
 have g:∀ k,¬ On (Array.replicate l.length false) k:=by intro k hk;unfold On at hk;by_cases D:k<l.length<;>simp[D] at hk
 simp only[aT];refine main l.length (Array.replicate l.length false) a w.drew ⟨by simp[r],by rw[s],by rw[s],λ_ _=>by rw[s],λ_=>by rw[u,A];exact hR,λi hi=>absurd hi (g i),λσ _=>⟨λk o _ hk=>absurd hk (g k),λm p hk=>?_⟩⟩ sm
 have v:∀ m o,c.ops[m]?=some o->nR c m o (kE c ⟨t,[],[],[],H⟩ σ m):=λm o F=>(ye (c:=c) (s0:=⟨t,[],[],[],H⟩) (Z:=Q .normal) (σ:=σ) c.ops 0 sm (f σ)).1 m o (aW _) F
 rw[yg v (m:=0) (m':=m) (aW _) p λk _ n B=>g k ((hk k (aH n p) B).2 n)];exact h0
theorem region {P:Program}{id:Nat}{l:List Oper}{a:Act}{w:World}(R E:World->World->Prop) (kd:List Nat) (nj:Nat->Value->World->Prop) (H:World->Prop)
  (hm:P.follows .mixedOrders=true) (hR:R w.drew w.drew) (hER:∀ w w',E w w'->R w w') (hRt:∀ a b d,R a b->R b d->R a d) (hE0:lR E H) (h0:H w.drew)
  (hchk:uU a.tmps.size l (qA l [])=true)
  (h:let c:Cx:=⟨P,R,E,a,w.drew,l,qA l [],kd,[],nj⟩;RA c (Q .normal) l 0 [] [] [] H):(Code.region id l.toArray true).wp P Q a w:=
 oz R E kd [] nj H hm hR hER hRt hE0 h0 hchk rfl h
theorem rt {P:Program}{id:Nat}{l:List Oper}{a:Act}{w:World}(R:World->World->Prop) (kd tl:List Nat) (H:World->Prop) (h0:H w.drew) (hR:∀ w,R w w) (hT:∀ a b d,R a b->R b d->R a d)
  (hm:P.follows .mixedOrders=true:=by kernel_rfl) (hchk:uU a.tmps.size l (qA l [])=true:=by kernel_rfl) (htk:(tl.all λt=>kd.getD t 9 == 6 || kd.getD t 9 == 7)=true:=by kernel_rfl)
  (h:let c:Cx:=⟨P,R,(·=·),a,w.drew,l,qA l [],kd,tl,λ_ _ _=>True⟩;RA c (Q .normal) l 0 [] [] [] H):(Code.region id l.toArray true).wp P Q a w:=
 oz R (·=·) kd tl (λ_ _ _=>True) H hm (hR _) (λ_ _ e=>e ▸ hR _) hT (λ_ _ e k=>e ▸ k) h0 hchk htk h
end main
variable {op:Op}{xs:List Operand}{ats:Array TypeId}
variable {c:Cx}{Z:Act->World->Prop}{os:List Oper}{K:List (Nat×Value)}{G:List (Nat×(World->Prop))}{U:List Nat}{H:World->Prop}{ty:TypeId}{ps:String}{af:Array Edge}{gu:Option (Nat×Bool)}
theorem fr {d:Nat}(hk:kl c i=2:=by kernel_rfl) (hg:gd c.ops c.a0 K ⟨some d,op,ty,ps,af,gu⟩=true:=by rfl) (hs:∀ v,lR c.R (c.nj i v))
  (hr:∀ w,lJ c i G w->∃ y w',(execOp (ev c.a0 K) ⟨some d,op,ty,ps,af,gu⟩).run c.P w=.ok (.value y) w'/\c.E w w'/\c.nj i y w')
  (h:∀ u,RA c Z os (i+1) ((d,u)::K) ((i,c.nj i u)::G) (i::U) H):RA c Z (⟨some d,op,ty,ps,af,gu⟩::os) i K G U H:=
 RA.free hk hg hs (λw hp=>by obtain⟨y,w',h1,a,b⟩:=hr w hp;unfold mK;rw[h1];exact⟨a,b⟩) h
theorem sg (hk:kl c i=2) (hg:gd c.ops c.a0 K ⟨none,op,ty,ps,af,gu⟩=true) (he:∀ w,c.E w w) (ht:∀ v w,c.nj i v w)
  (hr:∀ w,lJ c i G w->(execOp (ev c.a0 K) ⟨none,op,ty,ps,af,gu⟩).run c.P w=.ok .skip w)
  (h:∀ u,RA c Z os (i+1) K ((i,c.nj i u)::G) (i::U) H):RA c Z (⟨none,op,ty,ps,af,gu⟩::os) i K G U H:=
 RA.free hk hg (λv w w' _ _=>ht v w') (λw hp=>by unfold mK;rw[hr w hp];exact⟨he w,ht _ w⟩) h
theorem EJ {f:FuncId}{z:Operand}{ys:List Value}{ds:Option Nat}(hz:ky c K z=some (.func (.func f) #[] #[])) (ha:xs.map (ky c K)=ys.map some) (w:World){P:Program}
  (hf:(callFunc f ys.toArray).run P w=.ok (.enter f ys.toArray) w):
  (execOp (ev c.a0 K) ⟨ds,.call ⟨.value z,xs.toArray,ats⟩,ty,ps,af,gu⟩).run P w=.ok (.enter f ys.toArray) w:=by
 unfold execOp;simp only[resolve,invoke,kH hz,cI,yb ha]
 simpa [Deferred.ofValue] using hf
theorem EK {d:Nat}{P:Program}{f:FuncId}{z:Operand}(ys:List Value) (y:Value) (h':World->Prop) (hf:∀ args w,(callFunc f args).run P w=.ok (.enter f args) w)
  (hk:kl c i=4) (hg:gd c.ops c.a0 K ⟨some d,.call ⟨.value z,xs.toArray,ats⟩,ty,ps,af,gu⟩=true) (hz:ky c K z=some (.func (.func f) #[] #[])) (ha:xs.map (ky c K)=ys.map some) (hu:(U.all λk=>(c.pr.getD i 0).testBit k)=true) (he:lR c.E h') (hP:c.P=P)
  (hr:∀ w,lJ c i G w->H w->Calls P f ys.toArray w λe w'=>e=.returned y/\c.R w w'/\h' w')
  (hn:RA c Z os (i+1) ((d,y)::K) G (i::U) h'):RA c Z (⟨some d,.call ⟨.value z,xs.toArray,ats⟩,ty,ps,af,gu⟩::os) i K G U H:=
 k P y h' f (args:=ys.toArray) hk hg he hu hP (λw=>EJ hz ha w (hf _ w)) hr hn
end Go.Proofs.YthmcbgidehjlbaaGreat.RA

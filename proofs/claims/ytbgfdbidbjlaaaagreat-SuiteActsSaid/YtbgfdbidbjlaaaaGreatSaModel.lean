/-
  A cipher of chance, as plain lists; blocks compared; pairs in a row. No condition beyond what each theorem names.
-/
import Derived.Test.YtbgfdbidbjlaaaaGreatSaQTake
import Derived.Test.YtbgfdbidbjlaaaaGreatSaOtherG
import Derived.ChangeKeysEq
namespace Go.Proofs.YtbgfdbidbjlaaaaGreat.Fd
open _root_.Go.Proofs.Tryz
open Go Go.RowKit K
abbrev PR:=PKey×List UInt8×List UInt8
def hit (k:PKey) (x:List UInt8) (back:Bool) (q:PR):Option (List UInt8):=
 if q.1=k then (if back then (if q.2.2=x then some q.2.1 else none) else (if q.2.1=x then some q.2.2 else none)) else none
def lookM (prs:List PR) (k:PKey) (x:List UInt8) (back:Bool):Option (List UInt8):=prs.findSome? (hit k x back)
def uses (k:PKey) (back:Bool) (y:List UInt8) (q:PR):Bool:=decide (q.1=k∧(if back then q.2.1=y else q.2.2=y))
def usedM (prs:List PR) (k:PKey) (back:Bool) (y:List UInt8):Bool:=prs.any (uses k back y)
def newPR (k:PKey) (x y:List UInt8) (back:Bool):PR:=(k,if back then (y,x) else (x,y))
def cryptM (b:List UInt8) (a:Nat) (prs:List PR) (k:PKey) (x:List UInt8) (back:Bool):Option (List UInt8)×Nat×List PR:=
 match lookM prs k x back with
 | some y=>(some y,a,prs)
 | none=>match pickB b (usedM prs k back) b.length a with
  | (some y,a')=>(some y,a',prs++[newPR k x y back])
  | (none,a')=>(none,a',prs)
theorem cryptM_had {b:List UInt8}{a:Nat}{prs:List PR}{k:PKey}{x y:List UInt8}{back:Bool}(h:lookM prs k x back=some y):cryptM b a prs k x back=(some y,a,prs):=by rw[cryptM,h]
theorem cryptM_hit {b:List UInt8}{a a':Nat}{prs:List PR}{k:PKey}{x y:List UInt8}{back:Bool}(h:lookM prs k x back=none) (h2:pickB b (usedM prs k back) b.length a=(some y,a')):cryptM b a prs k x back=(some y,a',prs++[newPR k x y back]):=by rw[cryptM,h,h2]
theorem cryptM_miss {b:List UInt8}{a a':Nat}{prs:List PR}{k:PKey}{x:List UInt8}{back:Bool}(h:lookM prs k x back=none) (h2:pickB b (usedM prs k back) b.length a=(none,a')):cryptM b a prs k x back=(none,a',prs):=by rw[cryptM,h,h2]
attribute [irreducible] cryptM
structure PrsOk (prs:List PR):Prop where
 fits:∀ q ∈ prs,q.1.fits∧q.2.1.length=16∧q.2.2.length=16
 one:prs.Pairwise fun q r=>q.1=r.1→q.2.1≠r.2.1∧q.2.2≠r.2.2
theorem PrsOk.nil:PrsOk []:=⟨by simp,List.Pairwise.nil⟩
theorem PrsOk.new {prs:List PR}(h:PrsOk prs){k:PKey}(hk:k.fits){x y:List UInt8}(hx:x.length=16) (hy:y.length=16){back:Bool}(hl:lookM prs k x back=none) (hu:usedM prs k back y=false):PrsOk (prs++[newPR k x y back]):=by
 have hno:∀ q ∈ prs,hit k x back q=none:=List.findSome?_eq_none_iff.1 hl
 have hnu:∀ q ∈ prs,uses k back y q=false:=fun q hq=>by
  have:=List.any_eq_false.1 hu q hq
  simpa using this
 refine⟨fun q hq=>?_,List.pairwise_append.2 ⟨h.one,List.pairwise_singleton _ _,fun q hq r hr=>?_⟩⟩
 ·rcases List.mem_append.1 hq with hq|hq
  ·exact h.fits q hq
  ·simp only[List.mem_singleton] at hq;subst hq;cases back
   ·exact⟨hk,hx,hy⟩
   ·exact⟨hk,hy,hx⟩
 ·simp only[List.mem_singleton] at hr;subst hr;intro e;have h1:=hno q hq;have h2:=hnu q hq;have e':q.1=k:=e;cases back
  ·simp only[hit,uses,e',if_true,true_and,Bool.false_eq_true,if_false,decide_eq_false_iff_not] at h1 h2;refine⟨?_,h2⟩;intro e2;have e3:q.2.1=x:=e2;rw[if_pos e3] at h1;cases h1
  ·simp only[hit,uses,e',if_true,true_and,decide_eq_false_iff_not] at h1 h2;refine⟨h2,?_⟩;intro e2;have e3:q.2.2=x:=e2;rw[if_pos e3] at h1;cases h1
def prCells (q:PR):List Value:=[.string q.1.1,.int .i64 q.1.2.1,.int .i64 q.1.2.2]++u8s (q.2.1++q.2.2)
theorem prCells_length {q:PR}(h:q.2.1.length=16∧q.2.2.length=16):(prCells q).length=35:=by simp[prCells,u8s_length,h.1,h.2]
theorem prCells_one (q:PR):∀ u ∈ prCells q,u.oneCell'=true:=by
 intro u hu;rcases List.mem_append.1 hu with h|h
 ·simp only[List.mem_cons,List.not_mem_nil,or_false] at h;rcases h with rfl|rfl|rfl<;>rfl
 ·exact u8s_one _ u h
theorem prs_one (prs:List PR):∀ u ∈ prs.flatMap prCells,u.oneCell'=true:=by
 intro u hu;obtain⟨q,_,h⟩:=List.mem_flatMap.1 hu;exact prCells_one q u h
theorem prs_get:∀ {prs:List PR},(∀ q ∈ prs,q.2.1.length=16∧q.2.2.length=16)→∀ {j:Nat}{q:PR},prs[j]?=some q→∀ {i:Nat},i<35→(prs.flatMap prCells)[j*35+i]?=(prCells q)[i]?
 | [],_,j,q,h,i,_=>by simp at h
 | r::l,hf,0,q,h,i,hi=>by
  simp only[List.getElem?_cons_zero,Option.some.injEq] at h;subst h;rw[List.flatMap_cons,Nat.zero_mul,Nat.zero_add,List.getElem?_append_left (by rw[prCells_length (hf r (by simp))];exact hi)]
 | r::l,hf,j+1,q,h,i,hi=>by
  rw[List.getElem?_cons_succ] at h;rw[List.flatMap_cons,List.getElem?_append_right (by rw[prCells_length (hf r (by simp))];omega),prCells_length (hf r (by simp)),show (j+1)*35+i - 35=j*35+i by omega];exact prs_get (fun q hq=>hf q (by simp[hq])) h hi
theorem eqItems_u8 {P:Program}{e:TypeId}(he:P.underlying e=some (.int .u8)) (hp:P.plainKey e=true) (d:Nat) (a b:List UInt8) (w:World):∀ (is:List Nat),(∀ i ∈ is,i<a.length∧i<b.length)→
  (Op.eqItems (d+1) e 1 (u8s a).toArray (u8s b).toArray is).run P w=.ok (is.all fun i=>a.getD i 0 == b.getD i 0) w
 | [],_=>by simp[Op.eqItems]
 | i::is,h=>by
  have h1:=h i (by simp);have pa:=run_part_plain (P:=P) (w:=w) hp (u8s_ix a i h1.1);have pb:=run_part_plain (P:=P) (w:=w) hp (u8s_ix b i h1.2);have pe:=run_equalIn_int (P:=P) w d e .u8 .u8 (a.getD i 0).toNat (b.getD i 0).toNat he;have ih:=eqItems_u8 he hp d a b w is (fun j hj=>h j (by simp[hj]))
  have hb:(((a.getD i 0).toNat:Int) == ((b.getD i 0).toNat:Int))=(a.getD i 0 == b.getD i 0):=by
   rw[Bool.eq_iff_iff];simp only[beq_iff_eq,Int.natCast_inj];exact UInt8.toNat_inj
  simp only[Op.eqItems,Nat.mul_one,Sem.run_bind,pa,pb,pe,Result.andThen_ok,hb,List.all_cons];cases h2:(a.getD i 0 == b.getD i 0)
  ·simp
  ·simpa using ih
theorem all_eq {a b:List UInt8}(ha:a.length=16) (hb:b.length=16):((List.range 16).all fun i=>a.getD i 0 == b.getD i 0)=decide (a=b):=by
 rw[Bool.eq_iff_iff];simp only[List.all_eq_true,List.mem_range,beq_iff_eq,decide_eq_true_eq];constructor
 ·intro h;refine List.ext_getElem (by omega) fun i h1 h2=>?_
  have:=h i (by omega)
  simpa [List.getD,h1,h2] using this
 ·rintro rfl i _;rfl
theorem blk_guard (w:World) (x x':Operand) (u v:Array Value) (op:BinOp):(eqGuard op 73 x x' (.agg u) (.agg v)).run prog w=.ok () w:=run_eqGuard_agg _ _ _ _ _ _ _ (by kernel_rfl)
theorem blk_eql (w:World){a b:List UInt8}(ha:a.length=16) (hb:b.length=16):(binOp .eql 73 (.agg (u8s a).toArray) (.agg (u8s b).toArray)).run prog w=.ok (.bool (decide (a=b))) w:=by
 obtain⟨i,hi⟩:=Option.isSome_iff_exists.1 (show (prog.info? 5).isSome=true by kernel_rfl);have h1:=run_equalIn_array (P:=prog) w 9999 (u8s a).toArray (u8s b).toArray underlying73 hi;have hc:prog.cellsOf 5=1:=by kernel_rfl
 rw[hc,eqItems_u8 (d:=9998) underlying5 (by kernel_rfl) a b w (List.range 16) (fun i hi=>by have:=List.mem_range.1 hi;omega),all_eq ha hb] at h1;rw[run_eql_struct,show (10000:Nat)=9999+1 from rfl,h1];rfl
end Go.Proofs.YtbgfdbidbjlaaaaGreat.Fd

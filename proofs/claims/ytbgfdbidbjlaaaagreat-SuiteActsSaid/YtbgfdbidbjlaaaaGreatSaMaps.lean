/-
  Maps by keys that are blocks or places: what a look and a put do. No condition beyond what each theorem names.
-/
import Derived.Test.YtbgfdbidbjlaaaaGreatSaIdealPk
import Derived.Maps.Keyed
import Derived.DeepKeys5
namespace Go.Proofs.YtbgfdbidbjlaaaaGreat.Fd
open _root_.Go.Proofs.Tryz
open Go Go.RowKit K Go.Maps
theorem laid_all:laidOutB prog=true:=by kernel_rfl
theorem keyed_deep {P:Program}(hl:laidOutB P=true) (hs:P.types.size+2≤10000){k:TypeId}(hrow:k<P.types.size) (hk:P.keyType k=true) (hw:(match P.underlying k with|some (.array _ _)|some (.struct _)=>true|_=>false)=true):Keyed P k:=
 Keyed.of_law (deep_law_gate hl hs hrow hk hw)
theorem small_types:prog.types.size+2≤10000:=by decide +kernel
theorem keyed_block:Keyed prog 73:=keyed_deep laid_all small_types (by decide +kernel) (by kernel_rfl) (by kernel_rfl)
theorem keyed_place:Keyed prog 138:=keyed_deep laid_all small_types (by decide +kernel) (by kernel_rfl) (by kernel_rfl)
theorem keyed_asked:Keyed prog 115:=keyed_deep laid_all small_types (by decide +kernel) (by kernel_rfl) (by kernel_rfl)
def blkV (l:List UInt8):Value:=.agg (u8s l).toArray
def placeV (s:ByteArray) (u i:Nat):Value:=.agg #[.string s,.int .i64 u,.int .i64 i]
def askedV (p s:ByteArray) (r:Nat):Value:=.agg #[.string p,.string s,.int .i64 r]
section
variable {P:Program}
theorem mapM_of {α β:Type}{f:α→Option β}:∀ {l:List α},(∀ x ∈ l,∃ y,f x=some y)→∃ ys,l.mapM f=some ys
 | [],_=>⟨[],rfl⟩
 | a::l,h=>by
  obtain⟨y,hy⟩:=h a (by simp);obtain⟨ys,hys⟩:=mapM_of (l:=l) (fun x hx=>h x (by simp[hx]));exact⟨y::ys,by simp[hy,hys]⟩
theorem lits_u8 {t:TypeId}(ht:P.underlying t=some (.int .u8)) (d:Nat) (c:UInt8):P.keyLits (d+1) t [u8 c]=some [.int .u8 c.toNat]:=by
 have h:(Lit.int .u8 (c.toNat:Int)).wf=true:=by
  have:=UInt8.toNat_lt c;have e1:IntKind.u8.min=0:=rfl;have e2:IntKind.u8.max=255:=rfl;simp[Lit.wf,e1,e2];omega
 unfold Program.keyLits;simp[ht,u8,h]
theorem lits_i64 {t:TypeId}(ht:P.underlying t=some (.int .i64)) (d:Nat) (c:Nat) (hc:c≤9223372036854775807):P.keyLits (d+1) t [.int .i64 c]=some [.int .i64 c]:=by
 have h:(Lit.int .i64 (c:Int)).wf=true:=by
  have e1:IntKind.i64.min=-9223372036854775808:=rfl;have e2:IntKind.i64.max=9223372036854775807:=rfl;simp[Lit.wf,e1,e2];omega
 unfold Program.keyLits;simp[ht,h]
theorem lits_string {t:TypeId}(ht:P.underlying t=some .string) (d:Nat) (s:ByteArray) (hc:s.size≤maxLen):P.keyLits (d+1) t [.string s]=some [.string s.data.toList]:=by
 unfold Program.keyLits;simp[ht,hc]
theorem lits_arr {t e:TypeId}{n:Nat}(ht:P.underlying t=some (.array n e)) (he:P.underlying e=some (.int .u8)) (hce:P.cellsOf e=1) (hct:P.cellsOf t=n) (d:Nat){l:List UInt8}(hl:l.length=n):
  ∃ x,P.keyLits (d+2) t (u8s l)=some x:=by
 obtain⟨ys,hys⟩:=mapM_of (f:=fun i=>P.keyLits (d+1) e (((u8s l).drop (i*P.cellsOf e)).take (P.cellsOf e))) (l:=List.range n) (fun i hi=>by
  have hi':i<l.length:=by rw[hl];exact List.mem_range.1 hi
  have hg:=u8s_get l i hi';refine⟨[.int .u8 (l[i]).toNat],?_⟩
  have e1:((u8s l).drop (i*P.cellsOf e)).take (P.cellsOf e)=[u8 l[i]]:=by
   rw[hce,Nat.mul_one,List.drop_eq_getElem_cons (by rw[u8s_length];exact hi')];simp[u8s]
  simp only[e1];exact lits_u8 he d _)
 refine⟨ys.flatten,?_⟩;rw[Program.keyLits.eq_def];simp only[ht,hct,u8s_length,hl,if_true,hys,Option.map_some]
theorem keyOf_wide {k:TypeId}(hk:P.keyType k=true) (hw:(match P.underlying k with|some (.array _ _)|some (.struct _)=>true|_=>false)=true){cs:Array Value}(hc:cs.size=P.cellsOf k){m:Nat}(hm:P.types.size+1=m+2){x:List Lit}(h:P.keyLits (m+2) k cs.toList=some x):
  keyOf P k (.agg cs)=some (.string (keyBytes x)):=by
 rw[← hm] at h;unfold keyOf;cases hu:P.underlying k with
 | none=>simp[hu] at hw
 | some d=>
  cases d
  all_goals first|(simp[hu] at hw;done)|simp[hk,hu,Value.formed,hc,Value.cells,h]
end
theorem size_types:prog.types.size+1=(prog.types.size - 1)+2:=by decide +kernel
theorem key_block {l:List UInt8}(hl:l.length=16):∃ x,keyOf prog 73 (blkV l)=some x:=by
 obtain⟨x,hx⟩:=lits_arr (P:=prog) (n:=16) underlying73 underlying5 (by kernel_rfl) (by kernel_rfl) (prog.types.size - 1) hl;exact⟨_,keyOf_wide (by kernel_rfl) (by kernel_rfl) (by rw[show prog.cellsOf 73=16 by kernel_rfl];simp[u8s_length,hl]) size_types hx⟩
theorem lits_place {s:ByteArray}{u i:Nat}(hs:s.size≤maxLen) (hu:u≤9223372036854775807) (hi:i≤9223372036854775807) (d:Nat):∃ x,prog.keyLits (d+2) 138 [.string s,.int .i64 u,.int .i64 i]=some x:=by
 have h1:=lits_string (P:=prog) underlying9 d s hs;have h2:=lits_i64 (P:=prog) underlying3 d u hu;have h3:=lits_i64 (P:=prog) underlying3 d i hi;have c1:prog.cellsOf 9=1:=by kernel_rfl
 have c2:prog.cellsOf 3=1:=by kernel_rfl
 have c3:prog.cellsOf 138=3:=by kernel_rfl
 refine⟨[.string s.data.toList,.int .i64 u,.int .i64 i],?_⟩;rw[Program.keyLits.eq_def];simp[underlying138,c3,c1,c2,h1,h2,h3]
theorem key_place {s:ByteArray}{u i:Nat}(hs:s.size≤maxLen) (hu:u≤9223372036854775807) (hi:i≤9223372036854775807):∃ x,keyOf prog 138 (placeV s u i)=some x:=by
 obtain⟨x,hx⟩:=lits_place hs hu hi (prog.types.size - 1);exact⟨_,keyOf_wide (by kernel_rfl) (by kernel_rfl) (by rw[show prog.cellsOf 138=3 by kernel_rfl];rfl) size_types hx⟩
section
variable {P:Program}
theorem run_look {k e t:TypeId}(K:Keyed P k) (ht:P.underlying t=some (.map k e)){z:Value}{w:World}(hz:(zeroValue e).run P w=.ok z w){b:Nat}{es:Array MapEntry}{clock:Nat}(hb:w.heap[b]?=some (.map es clock)) (hes:∀ x ∈ es.toList,∃ l,keyOf P k x.key=some l){key:Value}{kl:Lit}(hkey:keyOf P k key=some kl):
  ((Instr.lookup t (.map (some b)) key true).run P w=.ok (.tuple #[z,.bool false]) w∧∀ x ∈ es.toList,x.key≠key)∨
  ∃ (j:Nat) (e0:MapEntry),es.toList[j]?=some e0∧e0.key=key∧(Instr.lookup t (.map (some b)) key true).run P w=.ok (.tuple #[e0.val,.bool true]) w:=by
 rcases K.find w hkey es.toList hes with ⟨h1,h2⟩|⟨j,e0,h1,h2,h3⟩
 ·exact .inl ⟨by simp[Instr.lookup,run_underlying ht,MapKept.run_getObj_map hb,K.check w _ hkey,h1,hz,Result.andThen],h2⟩
 ·exact .inr ⟨j,e0,h2,h3,by simp[Instr.lookup,run_underlying ht,MapKept.run_getObj_map hb,K.check w _ hkey,h1,Result.andThen]⟩
theorem run_put {k e t:TypeId}(K:Keyed P k) (ht:P.underlying t=some (.map k e)){w:World}{b:Nat}{es:Array MapEntry}{clock:Nat}(hb:w.heap[b]?=some (.map es clock)) (hes:∀ x ∈ es.toList,∃ l,keyOf P k x.key=some l){key val:Value}{kl:Lit}(hkey:keyOf P k key=some kl) (hnew:∀ x ∈ es.toList,x.key≠key):
  (Instr.mapUpdate t (.map (some b)) key val).run P w=.ok () { w with heap:=w.heap.setIfInBounds b (.map (es.push { key:=key,val:=val,born:=clock }) (clock+1)) }:=by
 rcases K.find w hkey es.toList hes with ⟨h1,h2⟩|⟨j,e0,h1,h2,h3⟩
 ·simp[Instr.mapUpdate,run_underlying ht,MapKept.run_getObj_map hb,K.check w _ hkey,h1,Result.andThen,MapKept.run_setObj_map _ hb]
 ·exact absurd h3 (hnew e0 (List.mem_of_getElem? h2))
end
end Go.Proofs.YtbgfdbidbjlaaaaGreat.Fd

/-
  ideal.Key: what it tells for a password. No condition beyond what each theorem names.
-/
import Derived.Test.YtbgfdbidbjlaaaaGreatSaIdG
import Derived.Test.YtbgfdbidbjlaaaaGreatSaQIdealPk
import Derived.Test.YtbgfdbidbjlaaaaGreatSaSuCall
namespace Go.Proofs.YtbgfdbidbjlaaaaGreat.Fd
open _root_.Go.Proofs.Tryz
open Go Go.RowKit K Go.Maps
abbrev KT:=KKey×List UInt8×Value
def toldT (l:List KT):List KR:=l.map fun q=>(q.1,q.2.1)
def askV (k:KKey):Value:=askedV k.1 k.2.1 k.2.2
theorem askV_inj {a b:KKey}(h:askV a=askV b):a=b:=by
 obtain⟨s,u,i⟩:=a;obtain⟨s',u',i'⟩:=b;simp[askV,askedV] at h;obtain⟨h1,h2,h3⟩:=h;have e3:i=i':=by omega
 rw[h1,h2,e3]
theorem lits_ask {p s:ByteArray}{r:Nat}(hp:p.size≤maxLen) (hs:s.size≤maxLen) (hr:r≤9223372036854775807) (d:Nat):∃ x,prog.keyLits (d+2) 115 [.string p,.string s,.int .i64 r]=some x:=by
 have h1:=lits_string (P:=prog) underlying9 d p hp;have h2:=lits_string (P:=prog) underlying9 d s hs;have h3:=lits_i64 (P:=prog) underlying3 d r hr;have c1:prog.cellsOf 9=1:=by kernel_rfl
 have c2:prog.cellsOf 3=1:=by kernel_rfl
 have c3:prog.cellsOf 115=3:=by kernel_rfl
 refine⟨[.string p.data.toList,.string s.data.toList,.int .i64 r],?_⟩;rw[Program.keyLits.eq_def];simp[underlying115,c3,c1,c2,h1,h2,h3]
theorem key_ask {k:KKey}(h:k.1.size≤128∧k.2.1.size≤64∧k.2.2≤10000):∃ x,keyOf prog 115 (askV k)=some x:=by
 obtain⟨x,hx⟩:=lits_ask (p:=k.1) (s:=k.2.1) (r:=k.2.2) (by unfold maxLen;omega) (by unfold maxLen;omega) (by omega) (prog.types.size - 1);exact⟨_,keyOf_wide (by kernel_rfl) (by kernel_rfl) (by rw[show prog.cellsOf 115=3 by kernel_rfl];rfl) size_types hx⟩
theorem ba_self (a:ByteArray):(a == a)=true:=by
 cases a with|mk d=>exact beq_self_eq_true d
theorem ask_same (k:KKey):Instr.sameBits 10000 (askV k) (askV k)=true:=by
 rw[askV,askedV,show (10000:Nat)=9998+1+1 from rfl];simp[Instr.sameBits];exact⟨ba_self _,ba_self _⟩
section
variable {P:Program}
theorem run_look1 {k e t:TypeId}(K:Keyed P k) (ht:P.underlying t=some (.map k e)){z:Value}{w:World}(hz:(zeroValue e).run P w=.ok z w){b:Nat}{es:Array MapEntry}{clock:Nat}(hb:w.heap[b]?=some (.map es clock)) (hes:∀ x ∈ es.toList,∃ l,keyOf P k x.key=some l){key:Value}{kl:Lit}(hkey:keyOf P k key=some kl):
  ((Instr.lookup t (.map (some b)) key false).run P w=.ok z w∧∀ x ∈ es.toList,x.key≠key)∨
  ∃ (j:Nat) (e0:MapEntry),es.toList[j]?=some e0∧e0.key=key∧(Instr.lookup t (.map (some b)) key false).run P w=.ok e0.val w:=by
 rcases K.find w hkey es.toList hes with ⟨h1,h2⟩|⟨j,e0,h1,h2,h3⟩
 ·exact .inl ⟨by simp[Instr.lookup,run_underlying ht,MapKept.run_getObj_map hb,K.check w _ hkey,h1,hz,Result.andThen],h2⟩
 ·exact .inr ⟨j,e0,h2,h3,by simp[Instr.lookup,run_underlying ht,MapKept.run_getObj_map hb,K.check w _ hkey,h1,Result.andThen]⟩
theorem run_put_old {k e t:TypeId}(K:Keyed P k) (ht:P.underlying t=some (.map k e)){w:World}{b:Nat}{es:Array MapEntry}{clock:Nat}(hb:w.heap[b]?=some (.map es clock)) (hes:∀ x ∈ es.toList,∃ l,keyOf P k x.key=some l){key val:Value}{kl:Lit}(hkey:keyOf P k key=some kl)
  {j:Nat}{e0:MapEntry}(hj:es.toList[j]?=some e0) (he:e0.key=key) (hone:∀ (i:Nat) (e:MapEntry),es.toList[i]?=some e→e.key=key→i=j) (hsb:Instr.sameBits 10000 key key=true):
  (Instr.mapUpdate t (.map (some b)) key val).run P w=.ok () { w with heap:=w.heap.setIfInBounds b (.map (es.modify j fun e=>{ e with key:=key,val:=val }) clock) }:=by
 rcases K.find w hkey es.toList hes with ⟨h1,h2⟩|⟨j',e1,h1,h2,h3⟩
 ·exact absurd he (h2 e0 (List.mem_of_getElem? hj))
 ·obtain rfl:=hone j' e1 h2 h3;have hj2:es[j']?=some e1:=by simpa using h2
  simp[Instr.mapUpdate,run_underlying ht,MapKept.run_getObj_map hb,K.check w _ hkey,h1,Result.andThen,MapKept.run_setObj_map _ hb,Instr.keyThatStays,hj2,h3,hsb]
end
structure KeysG (w:World) (B k:Nat) (l:List KT):Prop where
 box:∃ es clk,w.heap[k]?=some (.map es clk)∧es.toList.map (fun e=>(e.key,e.val))=l.map (fun q=>(askV q.1,q.2.2))
 each:∀ q ∈ l,w.ownsRow B 5 1 q.2.2 q.2.1.length (u8s q.2.1)
section
variable {w w':World}{B k a:Nat}{l:List KT}
theorem KeysG.keep (h:KeysG w B k l) (hm:∀ (es:Array MapEntry) (c:Nat),w.heap[k]?=some (.map es c)→w'.heap[k]?=w.heap[k]?) (hc:∀ (g:Nat) (cs:Array Value) (m:Nat×Nat),w.heap[g]?=some (.cells cs 5 m)→w'.heap[g]?=w.heap[g]?):KeysG w' B k l:=by
 obtain⟨es,clk,h1,h2⟩:=h.box;refine⟨⟨es,clk,(hm _ _ h1).trans h1,h2⟩,fun q hq=>owns_keep (h.each q hq) (fun g hg=>?_)⟩;obtain⟨cur,h3⟩:=own_cells (h.each q hq) hg;exact hc _ _ _ h3
theorem KeysG.chg {C:Nat→Prop}(h:KeysG w B k l) (hc:Chg C w w') (hk:¬ C k) (hd:∀ (g:Nat) (cs:Array Value) (m:Nat×Nat),w.heap[g]?=some (.cells cs 5 m)→¬ C g):KeysG w' B k l:=
 h.keep (fun _ _ h1=>hc.block _ (heap_lt h1) hk) (fun g cs m h1=>hc.block _ (heap_lt h1) (hd g cs m h1))
theorem zero_bytes (w:World):(zeroValue 22).run prog w=.ok (.slice none 0 0) w:=by
 have h:(prog.info? 22).map (fun i=>i.zero)=some (some (.slice none 0 0)):=by kernel_rfl
 exact zero_of h w
theorem KeysG.keyed (hok:KdOk (toldT l) a){es:Array MapEntry}(he:es.toList.map (fun e=>(e.key,e.val))=l.map (fun q=>(askV q.1,q.2.2))):∀ x ∈ es.toList,∃ y,keyOf prog 115 x.key=some y:=by
 intro x hx;have h1:(x.key,x.val) ∈ es.toList.map (fun e=>(e.key,e.val)):=List.mem_map.2 ⟨x,hx,rfl⟩;rw[he] at h1;obtain⟨q,hq,e⟩:=List.mem_map.1 h1;simp only[Prod.mk.injEq] at e;have h2:=hok.fits (q.1,q.2.1) (List.mem_map.2 ⟨q,hq,rfl⟩);rw[← e.1];exact key_ask ⟨h2.1,h2.2.1,h2.2.2.1⟩
theorem KeysG.look (h:KeysG w B k l) (hok:KdOk (toldT l) a){key:KKey}(hk:key.1.size≤128∧key.2.1.size≤64∧key.2.2≤10000):
  ∃ v,(Instr.lookup 117 (.map (some k)) (askV key) false).run prog w=.ok v w∧w.ownsRow B 5 1 v (toldM (toldT l) key).length (u8s (toldM (toldT l) key)):=by
 obtain⟨es,clk,h1,h2⟩:=h.box;obtain⟨kl,hkl⟩:=key_ask hk;rcases run_look1 keyed_asked underlying117 (zero_bytes w) h1 (KeysG.keyed hok h2) hkl with ⟨h3,h4⟩|⟨j,e0,h3,h4,h5⟩
 ·refine⟨_,h3,?_⟩;rw[toldM_none]
  ·exact World.ownsRow_nil _ _ _ _
  ·intro r hr e;obtain⟨q,hq,rfl⟩:=List.mem_map.1 hr;have h6:(askV q.1,q.2.2) ∈ es.toList.map (fun e=>(e.key,e.val)):=by rw[h2];exact List.mem_map.2 ⟨q,hq,rfl⟩
   obtain⟨x,hx,e1⟩:=List.mem_map.1 h6;simp only[Prod.mk.injEq] at e1;exact h4 x hx (by rw[e1.1];exact congrArg askV e)
 ·have h6:(e0.key,e0.val) ∈ es.toList.map (fun e=>(e.key,e.val)):=List.mem_map.2 ⟨e0,List.mem_of_getElem? h3,rfl⟩;rw[h2] at h6;obtain⟨q,hq,e1⟩:=List.mem_map.1 h6;simp only[Prod.mk.injEq] at e1;have hk2:q.1=key:=askV_inj (e1.1.trans h4);refine⟨_,h5,?_⟩;rw[toldM_some hok (List.mem_map.2 ⟨q,hq,rfl⟩) hk2,← e1.2];exact h.each q hq
theorem KeysG.mem_one (hok:KdOk (toldT l) a){q r:KT}(hq:q ∈ l) (hr:r ∈ l) (e:q.1=r.1):q=r:=by
 obtain⟨i,hi⟩:=List.getElem?_of_mem hq;obtain⟨j,hj⟩:=List.getElem?_of_mem hr;have h1:=hok.one (q:=(q.1,q.2.1)) (r:=(r.1,r.2.1)) (i:=i) (j:=j) (by simp[toldT,hi]) (by simp[toldT,hj]) e;subst h1;rw[hi] at hj;exact Option.some.inj hj
theorem KeysG.lookV (h:KeysG w B k l) (hok:KdOk (toldT l) a){key:KKey}(hk:key.1.size≤128∧key.2.1.size≤64∧key.2.2≤10000):
  ∃ v,w.ownsRow B 5 1 v (toldM (toldT l) key).length (u8s (toldM (toldT l) key))∧∀ w3,KeysG w3 B k l→(Instr.lookup 117 (.map (some k)) (askV key) false).run prog w3=.ok v w3:=by
 obtain⟨kl,hkl⟩:=key_ask hk;by_cases hin:∃ q ∈ l,q.1=key
 ·obtain⟨q,hq,hqk⟩:=hin;refine⟨q.2.2,by rw[toldM_some hok (List.mem_map.2 ⟨q,hq,rfl⟩) hqk];exact h.each q hq,fun w3 h3=>?_⟩;obtain⟨es,clk,h1,h2⟩:=h3.box;rcases run_look1 keyed_asked underlying117 (zero_bytes w3) h1 (KeysG.keyed hok h2) hkl with ⟨_,h5⟩|⟨j,e0,h5,h6,h7⟩
  ·have h6:(askV q.1,q.2.2) ∈ es.toList.map (fun e=>(e.key,e.val)):=by rw[h2];exact List.mem_map.2 ⟨q,hq,rfl⟩
   obtain⟨x,hx,e1⟩:=List.mem_map.1 h6;simp only[Prod.mk.injEq] at e1;exact absurd (by rw[e1.1,hqk]) (h5 x hx)
  ·have h8:(e0.key,e0.val) ∈ es.toList.map (fun e=>(e.key,e.val)):=List.mem_map.2 ⟨e0,List.mem_of_getElem? h5,rfl⟩;rw[h2] at h8;obtain⟨r,hr,e1⟩:=List.mem_map.1 h8;simp only[Prod.mk.injEq] at e1;have h9:=KeysG.mem_one hok hr hq ((askV_inj (e1.1.trans h6)).trans hqk.symm);subst h9;rw[e1.2];exact h7
 ·have hno:∀ q ∈ l,q.1≠key:=fun q hq e=>hin ⟨q,hq,e⟩
  refine⟨.slice none 0 0,?_,fun w3 h3=>?_⟩
  ·rw[toldM_none (fun r hr e=>by
    obtain⟨q,hq,rfl⟩:=List.mem_map.1 hr;exact hno q hq e)]
   exact World.ownsRow_nil _ _ _ _
  ·obtain⟨es,clk,h1,h2⟩:=h3.box;rcases run_look1 keyed_asked underlying117 (zero_bytes w3) h1 (KeysG.keyed hok h2) hkl with ⟨h4,_⟩|⟨j,e0,h5,h6,h7⟩
   ·exact h4
   ·have h8:(e0.key,e0.val) ∈ es.toList.map (fun e=>(e.key,e.val)):=List.mem_map.2 ⟨e0,List.mem_of_getElem? h5,rfl⟩;rw[h2] at h8;obtain⟨r,hr,e1⟩:=List.mem_map.1 h8;simp only[Prod.mk.injEq] at e1;exact absurd (askV_inj (e1.1.trans h6)) (hno r hr)
def putT (l:List KT) (key:KKey) (all:List UInt8) (v:Value):List KT:=if l.any (fun q=>decide (q.1=key)) then l.map (fun q=>if q.1=key then (q.1,all,v) else q) else l++[(key,all,v)]
theorem putT_told {key:KKey}{all:List UInt8}{v:Value}:toldT (putT l key all v)=putM (toldT l) key all:=by
 have he:(toldT l).any (fun q=>decide (q.1=key))=l.any (fun q=>decide (q.1=key)):=by
  unfold toldT;rw[List.any_map];rfl
 unfold putT putM;rw[he];split
 ·unfold toldT;rw[List.map_map,List.map_map];refine List.map_congr_left (fun q _=>?_);simp only[Function.comp];unfold setK;split<;>rfl
 ·simp[toldT]
theorem KeysG.put (h:KeysG w B k l) (hok:KdOk (toldT l) a){key:KKey}(hk:key.1.size≤128∧key.2.1.size≤64∧key.2.2≤10000){all:List UInt8}{v:Value}(hv:w.ownsRow B 5 1 v all.length (u8s all)):
  ∃ o,(Instr.mapUpdate 117 (.map (some k)) (askV key) v).run prog w=.ok () (putObj w k o)∧KeysG (putObj w k o) B k (putT l key all v):=by
 obtain⟨es,clk,h1,h2⟩:=h.box;obtain⟨kl,hkl⟩:=key_ask hk
 have hne:∀ {v':Value}{n:Nat}{xs:List Value},w.ownsRow B 5 1 v' n xs→∀ g,v'.ownBlock=some g→g≠k:=fun h3 g hg e=>by
  subst e;obtain⟨cur,h4⟩:=own_cells h3 hg;rw[h1] at h4;cases h4
 have hsz:es.toList.length=l.length:=by have:=congrArg List.length h2;simpa using this
 by_cases hin:∃ q ∈ l,q.1=key
 ·obtain⟨q,hq,hqk⟩:=hin;obtain⟨j,hj⟩:=List.getElem?_of_mem hq;have hjl:j<l.length:=(List.getElem?_eq_some_iff.1 hj).1;obtain⟨e0,he0⟩:∃ e0,es.toList[j]?=some e0:=⟨_,List.getElem?_eq_getElem (by omega)⟩
  have hat:∀ (i:Nat) (e:MapEntry),es.toList[i]?=some e→∃ r,l[i]?=some r∧e.key=askV r.1∧e.val=r.2.2:=fun i e hi=>by
   have h3:(es.toList.map (fun e=>(e.key,e.val)))[i]?=some (e.key,e.val):=by rw[List.getElem?_map,hi];rfl
   rw[h2,List.getElem?_map] at h3;cases hr:l[i]? with
   | none=>rw[hr] at h3;cases h3
   | some r=>
    rw[hr] at h3;simp only[Option.map_some,Option.some.injEq,Prod.mk.injEq] at h3;exact⟨r,rfl,h3.1.symm,h3.2.symm⟩
  have hone:∀ (i:Nat) (e:MapEntry),es.toList[i]?=some e→e.key=askV key→i=j:=fun i e hi he=>by
   obtain⟨r,hr,h3,_⟩:=hat i e hi;have h4:r.1=key:=askV_inj (h3.symm.trans he);exact hok.one (q:=(r.1,r.2.1)) (r:=(q.1,q.2.1)) (by simp[toldT,hr]) (by simp[toldT,hj]) (h4.trans hqk.symm)
  have hk0:e0.key=askV key:=by
   obtain⟨r,hr,h3,_⟩:=hat j e0 he0;rw[hj] at hr;cases hr
   rw[h3,hqk]
  have hput:=run_put_old keyed_asked underlying117 h1 (KeysG.keyed hok h2) (val:=v) hkl he0 hk0 hone (ask_same key);refine⟨_,hput,⟨_,_,putObj_same (heap_lt h1),?_⟩,?_⟩
  ·have hp:putT l key all v=l.map (fun q=>if q.1=key then (q.1,all,v) else q):=by
    unfold putT;rw[if_pos (List.any_eq_true.2 ⟨q,hq,decide_eq_true hqk⟩)]
   rw[hp];refine List.ext_getElem? fun i=>?_
   rw[List.getElem?_map,List.getElem?_map,List.getElem?_map,Array.getElem?_toList,Array.getElem?_modify];by_cases hij:j=i
   ·subst hij;have he1:es[j]?=some e0:=by simpa using he0
    rw[if_pos rfl,he1,hj];simp[hqk]
   ·rw[if_neg hij];cases he:es.toList[i]? with
    | none=>
     have hl:l[i]?=none:=by
      rw[List.getElem?_eq_none_iff] at he ⊢;omega
     have he':es[i]?=none:=by simpa using he
     rw[he',hl];rfl
    | some e=>
     obtain⟨r,hr,h3,h4⟩:=hat i e he;have he':es[i]?=some e:=by simpa using he
     have hne2:r.1≠key:=fun e5=>hij (hone i e he (by rw[h3,e5])).symm
     rw[he',hr];simp[hne2,h3,h4]
  ·intro r hr
   have hp:putT l key all v=l.map (fun q=>if q.1=key then (q.1,all,v) else q):=by
    unfold putT;rw[if_pos (List.any_eq_true.2 ⟨q,hq,decide_eq_true hqk⟩)]
   rw[hp] at hr;obtain⟨r0,hr0,rfl⟩:=List.mem_map.1 hr;split
   ·exact owns_keep hv (fun g hg=>putObj_other (hne hv g hg))
   ·exact owns_keep (h.each r0 hr0) (fun g hg=>putObj_other (hne (h.each r0 hr0) g hg))
 ·have hno:∀ q ∈ l,q.1≠key:=fun q hq e=>hin ⟨q,hq,e⟩
  have hput:=run_put keyed_asked underlying117 h1 (KeysG.keyed hok h2) (val:=v) hkl (fun x hx e=>by
   have h3:(x.key,x.val) ∈ es.toList.map (fun e=>(e.key,e.val)):=List.mem_map.2 ⟨x,hx,rfl⟩;rw[h2] at h3;obtain⟨q,hq,e1⟩:=List.mem_map.1 h3;simp only[Prod.mk.injEq] at e1;exact hno q hq (askV_inj (e1.1.trans e)))
  have hp:putT l key all v=l++[(key,all,v)]:=by
   unfold putT;rw[if_neg];intro h3;obtain⟨q,hq,he⟩:=List.any_eq_true.1 h3;exact hno q hq (of_decide_eq_true he)
  refine⟨_,hput,⟨_,_,putObj_same (heap_lt h1),?_⟩,?_⟩
  ·rw[hp];simp[h2]
  ·intro r hr;rw[hp] at hr;rcases List.mem_append.1 hr with hr|hr
   ·exact owns_keep (h.each r hr) (fun g hg=>putObj_other (hne (h.each r hr) g hg))
   ·simp only[List.mem_singleton] at hr;subst hr;exact owns_keep hv (fun g hg=>putObj_other (hne hv g hg))
end
end Go.Proofs.YtbgfdbidbjlaaaaGreat.Fd

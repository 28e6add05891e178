/-
  A cipher of chance that knows any pairs, beside plain lists. No condition beyond what each theorem names.
-/
import Derived.Test.YtbgfdbidbjlaaaaGreatSaTakePk
import Derived.Test.YtbgfdbidbjlaaaaGreatSaQIdealPk
namespace Go.Proofs.YtbgfdbidbjlaaaaGreat.Fd
open _root_.Go.Proofs.Tryz
open Go Go.RowKit K
abbrev PlaceG:=PKey×Nat×Nat×List (List UInt8×List UInt8)
def PlaceG.ids (q:PlaceG):PKey×Nat×Nat:=(q.1,q.2.1,q.2.2.1)
def prsAt (prs:List PR) (k:PKey):List (List UInt8×List UInt8):=prs.filterMap fun q=>if q.1=k then some q.2 else none
section
variable {prs:List PR}{k:PKey}{x y:List UInt8}{back:Bool}
theorem prsAt_mem {p:List UInt8×List UInt8}:p ∈ prsAt prs k↔(k,p) ∈ prs:=by
 unfold prsAt;simp only[List.mem_filterMap];constructor
 ·rintro⟨q,hq,he⟩;split at he
  ·rename_i h;simp only[Option.some.injEq] at he;obtain⟨q1,q2⟩:=q;simp only at he;rw[← h,← he];exact hq
  ·cases he
 ·intro h;exact⟨(k,p),h,by simp⟩
def asW (back:Bool) (x y:List UInt8):List UInt8×List UInt8:=if back then (y,x) else (x,y)
theorem newPR_eq:newPR k x y back=(k,asW back x y):=rfl
theorem hit_some {q:PR}(h:hit k x back q=some y):q=(k,asW back x y):=by
 obtain⟨q1,q2,q3⟩:=q;unfold hit at h;cases back
 ·simp only[Bool.false_eq_true,if_false] at h;split at h
  ·rename_i h1;split at h
   ·rename_i h2;simp only[Option.some.injEq] at h
    try simp only at h1 h2
    rw[h1,h2,h];rfl
   ·cases h
  ·cases h
 ·simp only[if_true] at h;split at h
  ·rename_i h1;split at h
   ·rename_i h2;simp only[Option.some.injEq] at h
    try simp only at h1 h2
    rw[h1,h2,h];rfl
   ·cases h
  ·cases h
theorem hit_none {p:List UInt8×List UInt8}(h:hit k x back (k,p)=none):(if back then p.2 else p.1)≠x:=by
 unfold hit at h;cases back
 ·simp only[if_true,Bool.false_eq_true,if_false] at h ⊢;intro e;rw[if_pos e] at h;cases h
 ·simp only[if_true] at h ⊢;intro e;rw[if_pos e] at h;cases h
theorem lookM_some (h:lookM prs k x back=some y):asW back x y ∈ prsAt prs k:=by
 obtain⟨q,hq,he⟩:=List.exists_of_findSome?_eq_some h;rw[hit_some he] at hq;exact prsAt_mem.2 hq
theorem lookM_none (h:lookM prs k x back=none):∀ p ∈ prsAt prs k,(if back then p.2 else p.1)≠x:=fun p hp=>
 hit_none (List.findSome?_eq_none_iff.1 h (k,p) (prsAt_mem.1 hp))
theorem usedM_iff:usedM prs k back y=true↔∃ p ∈ prsAt prs k,(if back then p.1 else p.2)=y:=by
 unfold usedM;rw[List.any_eq_true];constructor
 ·rintro⟨⟨q1,q2⟩,hq,h⟩;simp only[uses,decide_eq_true_eq] at h;obtain⟨h1,h2⟩:=h;subst h1;refine⟨q2,prsAt_mem.2 hq,?_⟩;cases back<;>simpa using h2
 ·rintro⟨p,hp,h⟩;refine⟨(k,p),prsAt_mem.1 hp,?_⟩;simp only[uses,decide_eq_true_eq,true_and];cases back<;>simpa using h
theorem PrsOk.uniq (h:PrsOk prs){p r:List UInt8×List UInt8}(hp:p ∈ prsAt prs k) (hr:r ∈ prsAt prs k):(p.1=r.1→p=r)∧(p.2=r.2→p=r):=by
 have h1:=prsAt_mem.1 hp;have h2:=prsAt_mem.1 hr;by_cases e:p=r
 ·exact⟨fun _=>e,fun _=>e⟩
 ·obtain⟨i,hi,e1⟩:=List.getElem_of_mem h1;obtain⟨j,hj,e2⟩:=List.getElem_of_mem h2;have hp2:=List.pairwise_iff_getElem.1 h.one;rcases Nat.lt_trichotomy i j with h3|h3|h3
  ·have h4:=hp2 i j hi hj h3;rw[e1,e2] at h4;exact⟨fun e5=>absurd e5 (h4 rfl).1,fun e5=>absurd e5 (h4 rfl).2⟩
  ·subst h3;rw[e1] at e2;exact absurd (Prod.mk.inj e2).2 e
  ·have h4:=hp2 j i hj hi h3;rw[e1,e2] at h4;exact⟨fun e5=>absurd e5.symm (h4 rfl).1,fun e5=>absurd e5.symm (h4 rfl).2⟩
theorem prsAt_new {k':PKey}:prsAt (prs++[newPR k x y back]) k'=if k=k' then prsAt prs k'++[asW back x y] else prsAt prs k':=by
 unfold prsAt;rw[List.filterMap_append,newPR_eq];by_cases h:k=k'
 ·simp[h]
 ·simp[h]
end
structure IdG where
 tp:Nat
 c:Nat
 m:Nat
 k:Nat
 bv:Value
 tv:Value
 b:List UInt8
 ts:List (ByteArray×Nat×Nat)
 cn:Nat
 ag:Nat
 pls:List PlaceG
structure IdealG (w:World) (B:Nat) (S:IdG) (a:Nat) (prs:List PR):Prop where
 tape:TapeO w B S.tp S.bv S.tv S.b a S.ts
 room:B≤w.heap.size
 box:w.heap[S.c]?=some (idBox (some ⟨S.tp,0,none⟩) S.m S.k S.cn S.ag)
 baseC:B≤S.c
 baseM:B≤S.m
 mlk:S.m<S.k
 kl:S.k<w.heap.size
 keys:∃ es clk,w.heap[S.k]?=some (.map es clk)
 places:∃ es clk,MapP w S.m (S.pls.map PlaceG.ids) es clk
 pairs:∀ q ∈ S.pls,S.k<q.2.1∧q.2.1<q.2.2.1∧MapG w q.2.1 q.2.2.2∧MapG w q.2.2.1 (q.2.2.2.map Prod.swap)
 apart:S.pls.Pairwise (fun q r=>q.2.2.1<r.2.1∧q.1≠r.1)
 same:∀ q ∈ S.pls,q.2.2.2=prsAt prs q.1
 void:∀ k,(∀ q ∈ S.pls,q.1≠k)→prsAt prs k=[]
 ok:PrsOk prs
 tsn:S.ts.length≤a
 cnn:S.cn≤a
 agn:S.ag≤a
 short:S.b.length≤100000
def OwnG (S:IdG) (g:Nat):Prop:=g=S.tp∨S.tv.ownBlock=some g∨g=S.c∨g=S.m∨∃ q ∈ S.pls,g=q.2.1∨g=q.2.2.1
structure SameG (S S':IdG):Prop where
 tp:S'.tp=S.tp
 c:S'.c=S.c
 m:S'.m=S.m
 k:S'.k=S.k
 bv:S'.bv=S.bv
 b:S'.b=S.b
theorem SameG.refl (S:IdG):SameG S S:=⟨rfl,rfl,rfl,rfl,rfl,rfl⟩
theorem SameG.trans {S T U:IdG}(h:SameG S T) (k:SameG T U):SameG S U:=⟨k.tp.trans h.tp,k.c.trans h.c,k.m.trans h.m,k.k.trans h.k,k.bv.trans h.bv,k.b.trans h.b⟩
structure Goes (B:Nat) (w w':World) (S S':IdG):Prop where
 same:SameG S S'
 chg:Chg (OwnG S) w w'
 own:∀ g,OwnG S' g→OwnG S g∨w.heap.size≤g
 kept:Kept B w w'
section
variable {w w' w2:World}{B a a':Nat}{S S' S2:IdG}{prs prs':List PR}
theorem Goes.trans (h:Goes B w w' S S') (k:Goes B w' w2 S' S2):Goes B w w2 S S2:=
 ⟨h.same.trans k.same,h.chg.then k.chg (fun i hi e=>by rcases h.own i e with h1|h1;exact h1;omega),fun g hg=>by
  rcases k.own g hg with h1|h1
  ·exact h.own g h1
  ·exact .inr (Nat.le_trans h.chg.size h1),h.kept.trans k.kept⟩
theorem Goes.no (hB:B≤w.heap.size) (h:Chg No w w'):Goes B w w' S S:=⟨SameG.refl S,h.mono (fun _ _ e=>e.elim),fun _ h=>.inl h,Kept.chg hB h⟩
theorem IdealG.keep (h:IdealG w B S a prs) (hs:w.heap.size≤w'.heap.size) (hm:∀ (g:Nat) (es:Array MapEntry) (c:Nat),w.heap[g]?=some (.map es c)→w'.heap[g]?=w.heap[g]?)
  (hc:∀ (g:Nat) (cs:Array Value) (t:TypeId) (m:Nat×Nat),w.heap[g]?=some (.cells cs t m)→(t=56∨t=5∨t=159)∨t=119→w'.heap[g]?=w.heap[g]?):IdealG w' B S a prs:=by
 obtain⟨es,clk,hp⟩:=h.places;refine⟨h.tape.keep (fun g hg=>?_),Nat.le_trans h.room hs,(hc _ _ _ _ h.box (.inr rfl)).trans h.box,h.baseC,h.baseM,h.mlk,Nat.lt_of_lt_of_le h.kl hs,(by obtain⟨es,clk,hk⟩:=h.keys;exact⟨es,clk,(hm _ _ _ hk).trans hk⟩),⟨es,clk,(hm _ _ _ hp.box).trans hp.box,hp.row,hp.fit⟩,fun q hq=>?_,h.apart,h.same,h.void,h.ok,h.tsn,h.cnn,h.agn,h.short⟩
 ·obtain⟨cs,t,h1,h2⟩:=h.tape.kind hg;exact hc _ _ _ _ h1 (.inl h2)
 ·obtain⟨h1,h2,h3,h4⟩:=h.pairs q hq;obtain⟨e3,c3,m3⟩:=h3.mapped;obtain⟨e4,c4,m4⟩:=h4.mapped;exact⟨h1,h2,h3.keep (hm _ _ _ m3),h4.keep (hm _ _ _ m4)⟩
theorem IdealG.chg (h:IdealG w B S a prs) (hc:Chg No w w'):IdealG w' B S a prs:=
 h.keep hc.size (fun g _ _ hg=>hc.block g (heap_lt hg) id) (fun g _ _ _ hg _=>hc.block g (heap_lt hg) id)
theorem IdealG.put (h:IdealG w B S a prs){u:Nat}{t:TypeId}{l:List UInt8}(hu:Arr w u t l) (ht:t=73) (cs:Array Value):IdealG (w.setRow u cs) B S a prs:=by
 subst ht;refine h.keep (by simp[World.setRow]) (fun g es c hg=>setRow_other _ _ _ _ ?_) (fun g cs t m hg ht=>setRow_other _ _ _ _ ?_)
 ·rintro rfl;have h1:some (Obj.map es c)=some (Obj.cells _ _ _):=hg.symm.trans hu;cases h1
 ·rintro rfl;have h1:=hg.symm.trans hu;simp only[Option.some.injEq,Obj.cells.injEq] at h1;obtain⟨_,rfl,_⟩:=h1;rcases ht with (h2|h2|h2)|h2<;>exact absurd h2 (by decide)
theorem IdealG.one (h:IdealG w B S a prs){q r:PlaceG}(hq:q ∈ S.pls) (hr:r ∈ S.pls):q=r∨(q.1≠r.1∧(q.2.2.1<r.2.1∨r.2.2.1<q.2.1)):=by
 have hp:=List.pairwise_iff_getElem.1 h.apart;obtain⟨i,hi,rfl⟩:=List.getElem_of_mem hq;obtain⟨j,hj,rfl⟩:=List.getElem_of_mem hr;rcases Nat.lt_trichotomy i j with h1|h1|h1
 ·have:=hp i j hi hj h1;exact .inr ⟨this.2,.inl this.1⟩
 ·subst h1;exact .inl rfl
 ·have:=hp j i hj hi h1;exact .inr ⟨this.2.symm,.inr this.1⟩
theorem IdealG.ids_one (h:IdealG w B S a prs){q:PlaceG}(hq:q ∈ S.pls):∀ r ∈ S.pls.map PlaceG.ids,r.1=q.1→r.2=(q.2.1,q.2.2.1):=by
 intro r hr he;obtain⟨s,hs,rfl⟩:=List.mem_map.1 hr;rcases h.one hs hq with e|e
 ·subst e;rfl
 ·exact absurd he e.1
theorem IdealG.own_lt (h:IdealG w B S a prs){g:Nat}(hg:OwnG S g):g<w.heap.size:=by
 rcases hg with rfl|hg|rfl|rfl|⟨q,hq,rfl|rfl⟩
 ·exact heap_lt h.tape.box
 ·exact (h.tape.takes.lt g hg).2
 ·exact heap_lt h.box
 ·obtain⟨es,clk,hp⟩:=h.places;exact heap_lt hp.box
 ·exact (h.pairs q hq).2.2.1.lt
 ·exact (h.pairs q hq).2.2.2.lt
theorem IdealG.own_base (h:IdealG w B S a prs){g:Nat}(hg:OwnG S g):B≤g:=by
 have h1:=h.baseM;have h2:=h.mlk;rcases hg with rfl|hg|rfl|rfl|⟨q,hq,rfl|rfl⟩
 ·exact h.tape.base
 ·exact (h.tape.takes.lt g hg).1
 ·exact h.baseC
 ·exact h1
 ·have:=(h.pairs q hq).1;omega
 ·have:=(h.pairs q hq).1;have:=(h.pairs q hq).2.1;omega
theorem IdealG.own_kind (h:IdealG w B S a prs){g:Nat}(hg:OwnG S g){cs:Array Value}{t:TypeId}{m:Nat×Nat}(hc:w.heap[g]?=some (.cells cs t m)):t=56∨t=159∨t=119:=by
 rcases hg with rfl|hg|rfl|rfl|⟨q,hq,rfl|rfl⟩
 ·have:=hc.symm.trans h.tape.box;simp only[Option.some.injEq,Obj.cells.injEq] at this;exact .inl this.2.1
 ·obtain⟨cur,h1⟩:=own_cells h.tape.takes hg;have:=hc.symm.trans h1;simp only[Option.some.injEq,Obj.cells.injEq] at this;exact .inr (.inl this.2.1)
 ·have:=hc.symm.trans h.box;simp only[idBox,Option.some.injEq,Obj.cells.injEq] at this;exact .inr (.inr this.2.1)
 ·obtain⟨es,clk,hp⟩:=h.places;have:=hc.symm.trans hp.box;cases this
 ·obtain⟨es,clk,hp⟩:=(h.pairs q hq).2.2.1.mapped;have:=hc.symm.trans hp;cases this
 ·obtain⟨es,clk,hp⟩:=(h.pairs q hq).2.2.2.mapped;have:=hc.symm.trans hp;cases this
theorem IdealG.k_free (h:IdealG w B S a prs):¬ OwnG S S.k:=by
 obtain⟨es,clk,hk⟩:=h.keys;have h1:=h.mlk;rintro (e|e|e|e|⟨q,hq,e⟩)
 ·rw[e] at hk;rw[h.tape.box] at hk;cases hk
 ·exact h.tape.apartM hk (.inr e)
 ·rw[e] at hk;rw[h.box] at hk;cases hk
 ·omega
 ·have h2:=h.pairs q hq;rcases e with e|e<;>omega
theorem IdealG.kept (h:IdealG w B S a prs) (hc:Chg (OwnG S) w w'):Kept B w w':=by
 refine⟨⟨hc.os,hc.tape,hc.output,hc.size,fun g hg=>hc.block g (Nat.lt_of_lt_of_le hg h.room) (fun e=>?_)⟩,fun g cs t m hg h1 h2 h3=>hc.block g (heap_lt hg) (fun e=>?_)⟩
 ·have:=h.own_base e;omega
 ·rcases h.own_kind e hg with h4|h4|h4
  ·exact h1 h4
  ·exact h2 h4
  ·exact h3 h4
end
section
variable {w:World}{B a:Nat}{S:IdG}{prs:List PR}
theorem atG_ok (h:IdealG w B S a prs){key:ByteArray}{u i:Nat}(hk:PKey.fits (key,u,i)):
  Calls prog 40 #[.pointer (some ⟨S.c,0,none⟩),.string key,.int .i64 u,.int .i64 i] w fun e w'=>∃ S' q,e=.returned (.agg #[.map (some q.2.1),.map (some q.2.2.1)])∧q ∈ S'.pls∧q.1=(key,u,i)∧IdealG w' B S' a prs∧Goes B w w' S S':=by
 obtain⟨es,clk,hp⟩:=h.places;by_cases hin:∃ q ∈ S.pls,q.1=(key,u,i)
 ·obtain⟨q,hq,hqk⟩:=hin;refine (at_known h.box hp hk (f:=q.2.1) (g:=q.2.2.1) (List.mem_map.2 ⟨q,hq,by rw[PlaceG.ids,hqk]⟩) (fun r hr he=>h.ids_one hq r hr (he.trans hqk.symm))).mono ?_;rintro e w1 ⟨rfl,hc⟩;exact⟨S,q,rfl,hq,hqk,h.chg hc,Goes.no h.room hc⟩
 ·have hno:∀ q ∈ S.pls,q.1≠(key,u,i):=fun q hq e=>hin ⟨q,hq,e⟩
  refine (at_new h.box hp hk (fun r hr=>by
   obtain⟨q,hq,rfl⟩:=List.mem_map.1 hr;exact hno q hq)).mono ?_
  rintro e w1 ⟨f,g,es',clk',rfl,hf1,hf2,hf,hg,hp',hc⟩
  have nm:∀ (g:Nat) (cs:Array Value) (t:TypeId) (m:Nat×Nat),w.heap[g]?=some (.cells cs t m)→g≠S.m:=fun g cs t m hg e=>by
   subst e;have h1:=hg.symm.trans hp.box;cases h1
  have hml:=heap_lt hp.box;have hmk:=h.mlk;have hcO:Chg (OwnG S) w w1:=hc.mono (fun _ _ e=>.inr (.inr (.inr (.inl e))));refine⟨{ S with pls:=S.pls++[((key,u,i),f,g,[])] },((key,u,i),f,g,[]),rfl,by simp,rfl,⟨?_,Nat.le_trans h.room hc.size,(hc.block _ (heap_lt h.box) (nm _ _ _ _ h.box)).trans h.box,h.baseC,h.baseM,h.mlk,Nat.lt_of_lt_of_le h.kl hc.size,(by obtain⟨es,clk,hk⟩:=h.keys;exact⟨es,clk,(hc.block _ h.kl (by show ¬ S.k=S.m;omega)).trans hk⟩),⟨es',clk',?_⟩,?_,?_,?_,?_,h.ok,h.tsn,h.cnn,h.agn,h.short⟩,⟨⟨rfl,rfl,rfl,rfl,rfl,rfl⟩,hcO,?_,h.kept hcO⟩⟩
  ·exact h.tape.keep fun g hg=>by
    obtain⟨cs,t,h1,_⟩:=h.tape.kind hg;exact hc.block g (heap_lt h1) (nm _ _ _ _ h1)
  ·have e1:(S.pls++[((key,u,i),f,g,[])]).map PlaceG.ids=S.pls.map PlaceG.ids++[((key,u,i),f,g)]:=by simp[PlaceG.ids]
   show MapP w1 S.m ((S.pls++[((key,u,i),f,g,[])]).map PlaceG.ids) es' clk';rw[e1];exact hp'
  ·intro q hq;rcases List.mem_append.1 hq with hq|hq
   ·obtain⟨p1,p2,p3,p4⟩:=h.pairs q hq;exact⟨p1,p2,p3.keep (hc.block _ p3.lt (by omega)),p4.keep (hc.block _ p4.lt (by omega))⟩
   ·simp only[List.mem_singleton] at hq;subst hq;exact⟨by show S.k<f;exact Nat.lt_of_lt_of_le (h.kl) hf1,hf2,MapG.empty hf,MapG.empty hg⟩
  ·refine List.pairwise_append.2 ⟨h.apart,List.pairwise_singleton _ _,fun q hq r hr=>?_⟩;simp only[List.mem_singleton] at hr;subst hr;exact⟨Nat.lt_of_lt_of_le (h.pairs q hq).2.2.2.lt hf1,hno q hq⟩
  ·intro q hq;rcases List.mem_append.1 hq with hq|hq
   ·exact h.same q hq
   ·simp only[List.mem_singleton] at hq;subst hq;exact (h.void _ hno).symm
  ·intro k' hk';exact h.void k' (fun q hq=>hk' q (List.mem_append_left _ hq))
  ·intro x hx;rcases hx with hx|hx|hx|hx|⟨q,hq,hx⟩
   ·exact .inl (.inl hx)
   ·exact .inl (.inr (.inl hx))
   ·exact .inl (.inr (.inr (.inl hx)))
   ·exact .inl (.inr (.inr (.inr (.inl hx))))
   ·rcases List.mem_append.1 hq with hq|hq
    ·exact .inl (.inr (.inr (.inr (.inr ⟨q,hq,hx⟩))))
    ·simp only[List.mem_singleton] at hq;subst hq;right;rcases hx with rfl|rfl
     ·exact hf1
     ·exact Nat.le_trans hf1 (Nat.le_of_lt hf2)
end
section
variable {w:World}{B a:Nat}{S:IdG}{prs:List PR}
def frW (back:Bool) (q:PlaceG):Nat:=if back then q.2.2.1 else q.2.1
def toW (back:Bool) (q:PlaceG):Nat:=if back then q.2.1 else q.2.2.1
def frL (back:Bool) (l:List (List UInt8×List UInt8)):List (List UInt8×List UInt8):=if back then l.map Prod.swap else l
def toL (back:Bool) (l:List (List UInt8×List UInt8)):List (List UInt8×List UInt8):=if back then l else l.map Prod.swap
theorem mem_swap {l:List (List UInt8×List UInt8)}{x y:List UInt8}:(x,y) ∈ l.map Prod.swap↔(y,x) ∈ l:=by
 constructor
 ·intro h;obtain⟨⟨a,b⟩,h1,h2⟩:=List.mem_map.1 h;cases h2
  exact h1
 ·intro h;exact List.mem_map.2 ⟨_,h,rfl⟩
theorem frL_mem {back:Bool}{l:List (List UInt8×List UInt8)}{x y:List UInt8}:(x,y) ∈ frL back l↔asW back x y ∈ l:=by
 cases back
 ·exact Iff.rfl
 ·exact mem_swap
theorem toL_mem {back:Bool}{l:List (List UInt8×List UInt8)}{x y:List UInt8}:(x,y) ∈ toL back l↔asW back y x ∈ l:=by
 cases back
 ·exact mem_swap
 ·exact Iff.rfl
theorem maps_new {w:World}{back:Bool}{q:PlaceG}{l:List (List UInt8×List UInt8)}{x y:List UInt8}(h1:MapG w (frW back q) (frL back l++[(x,y)])) (h2:MapG w (toW back q) (toL back l++[(y,x)])):
  MapG w q.2.1 (l++[asW back x y])∧MapG w q.2.2.1 ((l++[asW back x y]).map Prod.swap):=by
 cases back
 ·exact⟨h1,by rw[List.map_append];exact h2⟩
 ·exact⟨h2,by rw[List.map_append];exact h1⟩
theorem maps_old {w:World}{back:Bool}{q:PlaceG}{l:List (List UInt8×List UInt8)}(h1:MapG w (frW back q) (frL back l)) (h2:MapG w (toW back q) (toL back l)):
  MapG w q.2.1 l∧MapG w q.2.2.1 (l.map Prod.swap):=by
 cases back
 ·exact⟨h1,h2⟩
 ·exact⟨h2,h1⟩
theorem maps_of {w:World}(back:Bool){q:PlaceG}{l:List (List UInt8×List UInt8)}(h1:MapG w q.2.1 l) (h2:MapG w q.2.2.1 (l.map Prod.swap)):
  MapG w (frW back q) (frL back l)∧MapG w (toW back q) (toL back l):=by
 cases back
 ·exact⟨h1,h2⟩
 ·exact⟨h2,h1⟩
def grow (k:PKey) (p:List UInt8×List UInt8) (r:PlaceG):PlaceG:=if r.1=k then (r.1,r.2.1,r.2.2.1,r.2.2.2++[p]) else r
theorem grow_ids {k:PKey}{p:List UInt8×List UInt8}{r:PlaceG}:(grow k p r).ids=r.ids:=by unfold grow;split<;>rfl
theorem grow_1 {k:PKey}{p:List UInt8×List UInt8}{r:PlaceG}:(grow k p r).1=r.1∧(grow k p r).2.1=r.2.1∧(grow k p r).2.2.1=r.2.2.1:=by unfold grow;split<;>exact⟨rfl,rfl,rfl⟩
theorem cryptM_len {b:List UInt8}{k:PKey}{x y:List UInt8}{back:Bool}{r:Nat×List PR}(hp:PrsOk prs) (h:cryptM b a prs k x back=(some y,r)):y.length=16:=by
 cases hl:lookM prs k x back with
 | some z=>
  rw[cryptM_had hl] at h;obtain⟨h1,_⟩:=Prod.mk.inj h;rw[← Option.some.inj h1];have hm:=prsAt_mem.1 (lookM_some hl);have h2:=(hp.fits _ hm).2;cases back
  ·exact h2.2
  ·exact h2.1
 | none=>
  obtain⟨z,a'',hz⟩:∃ z a'',pickB b (usedM prs k back) b.length a=(z,a''):=⟨_,_,rfl⟩;cases z with
  | none=>
   rw[cryptM_miss hl hz] at h;exact absurd (Prod.mk.inj h).1 (by simp)
  | some z=>
   rw[cryptM_hit hl hz] at h;rw[← Option.some.inj (Prod.mk.inj h).1];exact (pickB_some (congrArg Prod.fst hz)).1
theorem otherG_ok (h:IdealG w B S a prs){q:PlaceG}(hq:q ∈ S.pls){x:List UInt8}(hx:x.length=16) (what:ByteArray) (back:Bool){R:Option (List UInt8)×Nat×List PR}(hR:R=cryptM S.b a prs q.1 x back) (hf:q.1.fits):
  Calls prog 41 #[.pointer (some ⟨S.c,0,none⟩),.string what,blkV x,.map (some (frW back q)),.map (some (toW back q))] w fun e w2=>e=ansV R.1∧∃ S',IdealG w2 B S' R.2.1 R.2.2∧Goes B w w2 S S':=by
 obtain⟨p1,p2,p3,p4⟩:=h.pairs q hq;have hsm:=h.same q hq;obtain⟨hf1,hg1⟩:=maps_of back p3 p4;cases hl:lookM prs q.1 x back with
 | some y=>
  rw[cryptM_had hl] at hR;subst hR;have hm:=lookM_some hl;rw[← hsm] at hm;refine (other_had hf1 hx (frL_mem.2 hm) (fun p hp he=>?_) _ (.string what) _).mono ?_
  ·obtain⟨p1,p2⟩:=p;simp only at he;subst he;have h1:=frL_mem.1 hp;rw[hsm] at h1 hm;have h2:=h.ok.uniq h1 hm;cases back
   ·exact congrArg Prod.snd (h2.1 rfl)
   ·exact congrArg Prod.fst (h2.2 rfl)
  ·rintro e w2 ⟨rfl,hc⟩;exact⟨rfl,S,h.chg hc,Goes.no h.room hc⟩
 | none=>
  have hno:=lookM_none hl;rw[← hsm] at hno;have hfg:frW back q≠toW back q:=by cases back<;>simp only[frW,toW,if_true,Bool.false_eq_true,if_false]<;>omega
  have hkl:=h.kl;have hmk:=h.mlk;refine (other_gen h.tape h.room h.box hf1 hg1 hfg hx (fun p hp e=>?_) what h.tsn h.cnn h.agn h.short (usedM prs q.1 back) (fun y=>?_) (R:=pickB S.b (usedM prs q.1 back) S.b.length a) rfl).mono ?_
  ·obtain⟨p1,p2⟩:=p;simp only at e;subst e;have h1:=hno _ (frL_mem.1 hp);cases back<;>exact h1 rfl
  ·rw[usedM_iff,← hsm];constructor
   ·rintro⟨⟨p1,p2⟩,hp,he⟩;cases back
    ·simp only[Bool.false_eq_true,if_false] at he;subst he;exact⟨(p2,p1),toL_mem.2 hp,rfl⟩
    ·simp only[if_true] at he;subst he;exact⟨(p1,p2),toL_mem.2 hp,rfl⟩
   ·rintro⟨⟨p1,p2⟩,hp,he⟩;simp only at he;subst he;refine⟨_,toL_mem.1 hp,?_⟩;cases back<;>rfl
  ·rintro e w2 ⟨tv',ts',ag',hD⟩
   have hsub:∀ g,NwC S.tp S.tv S.c (frW back q) (toW back q) g→OwnG S g:=by
    rintro g (e|e|e|e|e)
    ·exact .inl e
    ·exact .inr (.inl e)
    ·exact .inr (.inr (.inl e))
    ·refine .inr (.inr (.inr (.inr ⟨q,hq,?_⟩)));cases back
     ·exact .inl e
     ·exact .inr e
    ·refine .inr (.inr (.inr (.inr ⟨q,hq,?_⟩)));cases back
     ·exact .inr e
     ·exact .inl e
   have hcO:Chg (OwnG S) w w2:=hD.chg.mono (fun g _ e=>hsub g e)
   have hnm:∀ g es ck,w.heap[g]?=some (.map es ck)→g≠frW back q→g≠toW back q→w2.heap[g]?=w.heap[g]?:=fun g es ck hg h1 h2=>hD.chg.block g (heap_lt hg) (by
    rintro (e|e|e|e|e)
    ·exact h.tape.apartM hg (.inl e)
    ·exact h.tape.apartM hg (.inr e)
    ·subst e;have h3:=hg.symm.trans h.box;cases h3
    ·exact h1 e
    ·exact h2 e)
   obtain⟨es,clk,hp⟩:=h.places;have hfr:S.m<frW back q∧S.m<toW back q:=by cases back<;>simp only[frW,toW,if_true,Bool.false_eq_true,if_false]<;>omega
   have hpm:w2.heap[S.m]?=some (.map es clk):=(hnm _ _ _ hp.box (by omega) (by omega)).trans hp.box
   have hkm:∃ es clk,w2.heap[S.k]?=some (.map es clk):=by
    obtain⟨es,clk,hk⟩:=h.keys;have h1:S.k<frW back q∧S.k<toW back q:=by cases back<;>simp only[frW,toW,if_true,Bool.false_eq_true,if_false]<;>omega
    exact⟨es,clk,(hnm _ _ _ hk (by omega) (by omega)).trans hk⟩
   have hoth:∀ r ∈ S.pls,r.1≠q.1→MapG w2 r.2.1 r.2.2.2∧MapG w2 r.2.2.1 (r.2.2.2.map Prod.swap):=fun r hr hne=>by
    obtain⟨r1,r2,r3,r4⟩:=h.pairs r hr;have hd:=h.one hr hq;rcases hd with e|⟨_,hd⟩
    ·subst e;exact absurd rfl hne
    ·have hd1:r.2.1≠frW back q∧r.2.1≠toW back q∧r.2.2.1≠frW back q∧r.2.2.1≠toW back q:=by
      cases back<;>simp only[frW,toW,if_true,Bool.false_eq_true,if_false]<;>omega
     obtain⟨e3,c3,m3⟩:=r3.mapped;obtain⟨e4,c4,m4⟩:=r4.mapped;exact⟨r3.keep (hnm _ _ _ m3 hd1.1 hd1.2.1),r4.keep (hnm _ _ _ m4 hd1.2.2.1 hd1.2.2.2)⟩
   have htv:∀ g,tv'.ownBlock=some g→S.tv.ownBlock=some g∨w.heap.size≤g:=fun g hg=>by
    rcases hD.own with e|⟨g',e,h1⟩
    ·exact .inl (e ▸ hg)
    ·rw[e] at hg;cases hg
     exact .inr h1
   have hin:∀ r ∈ S.pls,r.1=q.1→r=q:=fun r hr he=>by
    rcases h.one hr hq with e|e
    ·exact e
    ·exact absurd he e.1
   obtain⟨z,a',hz⟩:∃ z a',pickB S.b (usedM prs q.1 back) S.b.length a=(z,a'):=⟨_,_,rfl⟩;rw[hz] at hD;cases z with
   | none=>
    rw[cryptM_miss hl hz] at hR;subst hR;obtain⟨k1,k2,k3,k4⟩:=hD.miss rfl;have hmq:=maps_old k3 k4;refine⟨k1,{ S with tv:=tv',ts:=ts',ag:=ag' },⟨hD.tape,Nat.le_trans h.room hcO.size,k2,h.baseC,h.baseM,h.mlk,Nat.lt_of_lt_of_le hkl hcO.size,hkm,⟨es,clk,hpm,hp.row,hp.fit⟩,fun r hr=>?_,h.apart,h.same,h.void,h.ok,hD.few,?_,hD.again,h.short⟩,⟨⟨rfl,rfl,rfl,rfl,rfl,rfl⟩,hcO,?_,h.kept hcO⟩⟩
    ·by_cases he:r.1=q.1
     ·obtain rfl:=hin r hr he;exact⟨p1,p2,hmq.1,hmq.2⟩
     ·have h5:=h.pairs r hr;exact⟨h5.1,h5.2.1,hoth r hr he⟩
    ·have h1:=pickB_le (used:=usedM prs q.1 back) (f:=S.b.length) h.tape.within;rw[hz] at h1;exact Nat.le_trans h.cnn h1.1
    ·rintro g (e|e|e)
     ·exact .inl (.inl e)
     ·rcases htv g e with e|e
      ·exact .inl (.inr (.inl e))
      ·exact .inr e
     ·exact .inl (.inr (.inr e))
   | some y=>
    rw[cryptM_hit hl hz] at hR;subst hR;obtain⟨k1,k2,k3,k4⟩:=hD.hit y rfl;have hmq:=maps_new k3 k4;obtain⟨hy1,hy2,hy3⟩:=pickB_some (congrArg Prod.fst hz);rw[hz] at hy3;have hy3:a+16≤a':=hy3;refine⟨k1,{ S with tv:=tv',ts:=ts',ag:=ag',cn:=S.cn+1,pls:=S.pls.map (grow q.1 (asW back x y)) },⟨hD.tape,Nat.le_trans h.room hcO.size,k2,h.baseC,h.baseM,h.mlk,Nat.lt_of_lt_of_le hkl hcO.size,hkm,⟨es,clk,hpm,?_,?_⟩,?_,?_,?_,?_,h.ok.new hf hx hy1 hl hy2,hD.few,?_,hD.again,h.short⟩,⟨⟨rfl,rfl,rfl,rfl,rfl,rfl⟩,hcO,?_,h.kept hcO⟩⟩
    ·have e1:(S.pls.map (grow q.1 (asW back x y))).map PlaceG.ids=S.pls.map PlaceG.ids:=by
      rw[List.map_map];exact List.map_congr_left (fun r _=>grow_ids)
     rw[e1];exact hp.row
    ·have e1:(S.pls.map (grow q.1 (asW back x y))).map PlaceG.ids=S.pls.map PlaceG.ids:=by
      rw[List.map_map];exact List.map_congr_left (fun r _=>grow_ids)
     rw[e1];exact hp.fit
    ·intro r' hr';obtain⟨r,hr,rfl⟩:=List.mem_map.1 hr';have h5:=h.pairs r hr;by_cases he:r.1=q.1
     ·obtain rfl:=hin r hr he;have e1:grow r.1 (asW back x y) r=(r.1,r.2.1,r.2.2.1,r.2.2.2++[asW back x y]):=by unfold grow;rw[if_pos rfl]
      rw[e1];exact⟨p1,p2,hmq.1,hmq.2⟩
     ·have e1:grow q.1 (asW back x y) r=r:=by unfold grow;rw[if_neg he]
      rw[e1];exact⟨h5.1,h5.2.1,hoth r hr he⟩
    ·refine List.pairwise_map.2 (h.apart.imp fun {r t} hrt=>?_);rw[grow_1.2.2,grow_1.2.1,grow_1.1,grow_1.1];exact hrt
    ·intro r' hr';obtain⟨r,hr,rfl⟩:=List.mem_map.1 hr';have h5:=h.same r hr;by_cases he:r.1=q.1
     ·have e1:grow q.1 (asW back x y) r=(r.1,r.2.1,r.2.2.1,r.2.2.2++[asW back x y]):=by unfold grow;rw[if_pos he]
      rw[e1,prsAt_new,if_pos he.symm,h5]
     ·have e1:grow q.1 (asW back x y) r=r:=by unfold grow;rw[if_neg he]
      rw[e1,prsAt_new,if_neg (fun e=>he e.symm),h5]
    ·intro k' hk'
     have h6:∀ r ∈ S.pls,r.1≠k':=fun r hr=>by
      have h7:=hk' _ (List.mem_map.2 ⟨r,hr,rfl⟩)
      rwa [grow_1.1] at h7
     rw[prsAt_new,if_neg (h6 q hq)];exact h.void k' h6
    ·have:=h.cnn;show S.cn+1≤a';omega
    ·rintro g (e|e|e|e|⟨r',hr',e⟩)
     ·exact .inl (.inl e)
     ·rcases htv g e with e|e
      ·exact .inl (.inr (.inl e))
      ·exact .inr e
     ·exact .inl (.inr (.inr (.inl e)))
     ·exact .inl (.inr (.inr (.inr (.inl e))))
     ·obtain⟨r,hr,rfl⟩:=List.mem_map.1 hr';rw[grow_1.2.2,grow_1.2.1] at e;exact .inl (.inr (.inr (.inr (.inr ⟨r,hr,e⟩))))
theorem walkG (back:Bool){w:World}{c:Nat}{what:Value}{key:ByteArray}{u i:Nat}{x:List UInt8}(hx:x.length=16) (P:PlaceG→World→Prop) (Q:List UInt8→Int→World→Prop)
  (hat:∀ wB,wB=(w.alloc (.cells (u8s x).toArray 73)).alloc (.cells (u8s (List.replicate 16 0)).toArray 73)→Calls prog 40 #[.pointer (some ⟨c,0,none⟩),.string key,.int .i64 u,.int .i64 i] wB fun e w1=>∃ q:PlaceG,e=.returned (.agg #[.map (some q.2.1),.map (some q.2.2.1)])∧P q w1∧Arr w1 w.heap.size 73 x)
  (hot:∀ q w1,P q w1→Calls prog 41 #[.pointer (some ⟨c,0,none⟩),what,blkV x,.map (some (frW back q)),.map (some (toW back q))] (w1.alloc (.cells #[.map (some q.2.1),.map (some q.2.2.1)] 98)) fun e w2=>∃ r er,e=.returned (.tuple #[blkV r,.int .i64 er])∧r.length=16∧Arr w2 (w.heap.size+1) 73 (List.replicate 16 0)∧Q r er w2):
  Calls prog (if back then 28 else 23) #[.pointer (some ⟨c,0,none⟩),what,.string key,.int .i64 u,.int .i64 i,blkV x] w fun e w'=>∃ r er w2,e=.returned (.tuple #[blkV r,.int .i64 er])∧Q r er w2∧Chg No w2 w2∧w'=w2.setRow (w.heap.size+1) (u8s r).toArray:=by
 cases back
 ·exact enc_walk hx (fun f g w1=>∃ q:PlaceG,q.2.1=f∧q.2.2.1=g∧P q w1) Q (fun wB h=>(hat wB h).mono (by rintro e w1 ⟨q,rfl,h1,h2⟩;exact⟨_,_,rfl,⟨q,rfl,rfl,h1⟩,h2⟩)) (by rintro f g w1 ⟨q,rfl,rfl,h1⟩;exact hot q w1 h1)
 ·exact dec_walk hx (fun f g w1=>∃ q:PlaceG,q.2.1=f∧q.2.2.1=g∧P q w1) Q (fun wB h=>(hat wB h).mono (by rintro e w1 ⟨q,rfl,h1,h2⟩;exact⟨_,_,rfl,⟨q,rfl,rfl,h1⟩,h2⟩)) (by rintro f g w1 ⟨q,rfl,rfl,h1⟩;exact hot q w1 h1)
theorem cryptG_ok (h:IdealG w B S a prs){key:ByteArray}{u i:Nat}(hk:PKey.fits (key,u,i)){x:List UInt8}(hx:x.length=16) (what:ByteArray) (back:Bool){R:Option (List UInt8)×Nat×List PR}(hR:R=cryptM S.b a prs (key,u,i) x back):
  Calls prog (if back then 28 else 23) #[.pointer (some ⟨S.c,0,none⟩),.string what,.string key,.int .i64 u,.int .i64 i,blkV x] w fun e w'=>e=ansV R.1∧∃ S',IdealG w' B S' R.2.1 R.2.2∧Goes B w w' S S':=by
 refine (walkG back hx (fun q w1=>∃ S1,q ∈ S1.pls∧q.1=(key,u,i)∧IdealG w1 B S1 a prs∧Goes B w w1 S S1∧Arr w1 (w.heap.size+1) 73 (List.replicate 16 0)) (fun r er w2=>Ending.returned (.tuple #[blkV r,.int .i64 er])=ansV R.1∧Arr w2 (w.heap.size+1) 73 (List.replicate 16 0)∧∃ S',IdealG w2 B S' R.2.1 R.2.2∧Goes B w w2 S S') (fun wB hwB=>?_) (fun q w1 hP=>?_)).mono ?_
 ·obtain⟨b1,b2,b3,b4⟩:=box2B hwB;have hB:=h.chg b3;refine (atG_ok hB hk).mono ?_;rintro e w1 ⟨S1,q,rfl,h1,h2,h3,h4⟩;exact⟨q,rfl,⟨S1,h1,h2,h3,(Goes.no h.room b3).trans h4,b2.keep (h4.kept.keep _ _ _ _ b2 (by decide) (by decide) (by decide))⟩,b1.keep (h4.kept.keep _ _ _ _ b1 (by decide) (by decide) (by decide))⟩
 ·obtain⟨S1,h1,h2,h3,h4,h5⟩:=hP;have hcA:Chg No w1 (w1.alloc (.cells #[.map (some q.2.1),.map (some q.2.2.1)] 98)):=(Chg.refl _ _).alloc _;have h6:=h3.chg hcA;have h7:=h5.keep (hcA.block _ (heap_lt h5) id);rw[← h4.same.b,← h2] at hR;have hc:=otherG_ok h6 h1 hx what back hR (h2 ▸ hk);rw[h4.same.c] at hc;refine hc.mono ?_;rintro e w2 ⟨rfl,S',h8,h9⟩
  obtain⟨r,er,hrl,hre⟩:∃ (r:List UInt8) (er:Int),r.length=16∧ansV R.1=.returned (.tuple #[blkV r,.int .i64 er]):=by
   cases hc1:R.1 with
   | none=>exact⟨List.replicate 16 0,9,rfl,rfl⟩
   | some y=>exact⟨y,0,cryptM_len h3.ok (hR.symm.trans (Prod.ext hc1 rfl)),rfl⟩
  exact⟨r,er,hre,hrl,h7.keep (h9.kept.keep _ _ _ _ h7 (by decide) (by decide) (by decide)),hre.symm,h7.keep (h9.kept.keep _ _ _ _ h7 (by decide) (by decide) (by decide)),S',h8,h4.trans ((Goes.no h3.room hcA).trans h9)⟩
 ·rintro e w' ⟨r,er,w2,rfl,⟨h1,h2,S',h3,h4⟩,_,rfl⟩;have h5:Chg No w (w.setRow (w.heap.size+1) (u8s r).toArray):=(Chg.refl _ _).setRow (fun h=>absurd h (by omega)) _;refine⟨h1,S',h3.put h2 rfl _,⟨h4.same,h4.chg.setRow (fun h=>absurd h (by omega)) _,h4.own,h4.kept.put (by omega) h.room _⟩⟩
end
end Go.Proofs.YtbgfdbidbjlaaaaGreat.Fd

/-
  Words of this family: what a slice holds, and which blocks a call may turn. No condition: a tool for the other texts.
-/
import Derived.WalkKit
import Derived.WalkSpells
import Derived.WalkLawsBesides
import Derived.Laws.CopyOwn
import Derived.Lib.Hide
namespace Go.Proofs.YthmcbgidehjlbaaGreat
theorem LH {p:Prop}(h:p):Go.RowKit.Hid p:=Go.Lib.hid h
end Go.Proofs.YthmcbgidehjlbaaGreat
namespace Go.Proofs.YthmcbgidehjlbaaGreat.K
open Go Go.RowKit
def u8 (b:UInt8):Value:=.int .u8 b.toNat
def u8s (l:List UInt8):List Value:=l.map u8
theorem u8s_length (l:List UInt8):(u8s l).length=l.length:=by simp[u8s]
theorem u8s_append (l m:List UInt8):u8s (l++m)=u8s l++u8s m:=by simp[u8s]
theorem u8s_one (l:List UInt8):∀ u ∈ u8s l,u.oneCell'=true:=by
 intro u hu;obtain⟨b,_,rfl⟩:=List.mem_map.1 hu;rfl
theorem u8s_get (l:List UInt8) (j:Nat) (h:j<l.length):(u8s l)[j]?=some (.int .u8 (l[j]).toNat):=by simp[u8s,u8,h]
theorem ret_int {k:IntKind}{a b:Int}(h:a=b):Ending.returned (.int k a)=.returned (.int k b):=by rw[h]
theorem ret_bool {a b:Bool}(h:a=b):Ending.returned (.bool a)=.returned (.bool b):=by rw[h]
structure Chg (C:Nat→Prop) (w w':World):Prop where
 os:w'.os=w.os
 tape:w'.tape=w.tape
 output:w'.output=w.output
 size:w.heap.size≤w'.heap.size
 block:∀ k,k<w.heap.size→¬ C k→w'.heap[k]?=w.heap[k]?
def No:Nat→Prop:=fun _=>False
theorem Chg.refl (C:Nat→Prop) (w:World):Chg C w w:=⟨rfl,rfl,rfl,Nat.le_refl _,fun _ _ _=>rfl⟩
theorem Chg.trans {C:Nat→Prop}{a b c:World}(h:Chg C a b) (k:Chg C b c):Chg C a c:=
 ⟨k.os.trans h.os,k.tape.trans h.tape,k.output.trans h.output,Nat.le_trans h.size k.size,fun i hi hc=>(k.block i (Nat.lt_of_lt_of_le hi h.size) hc).trans (h.block i hi hc)⟩
theorem Chg.then {C D:Nat→Prop}{a b c:World}(h:Chg C a b) (k:Chg D b c) (hd:∀ i,i<a.heap.size→D i→C i):Chg C a c:=
 ⟨k.os.trans h.os,k.tape.trans h.tape,k.output.trans h.output,Nat.le_trans h.size k.size,fun i hi hc=>(k.block i (Nat.lt_of_lt_of_le hi h.size) (fun e=>hc (hd i hi e))).trans (h.block i hi hc)⟩
theorem Chg.mono {C D:Nat→Prop}{a b:World}(h:Chg C a b) (hd:∀ i,i<a.heap.size→C i→D i):Chg D a b:=
 ⟨h.os,h.tape,h.output,h.size,fun i hi hc=>h.block i hi (fun e=>hc (hd i hi e))⟩
theorem Chg.drew {C:Nat→Prop}{a b:World}(h:Chg C a b):Chg C a b.drew:=⟨h.os,h.tape,h.output,h.size,h.block⟩
theorem Chg.alloc {C:Nat→Prop}{a b:World}(h:Chg C a b) (o:Obj):Chg C a (b.alloc o):=
 h.trans ⟨rfl,rfl,rfl,by simp,fun k hk _=>Below.heap_alloc _ _ _ hk⟩
theorem Chg.setCell {C:Nat→Prop}{a b:World}(h:Chg C a b){p:Addr}(hp:p.block<a.heap.size→C p.block) (u:Value):Chg C a (b.setCell p u):=
 ⟨h.os,h.tape,h.output,by simpa [World.setCell] using h.size,fun k hk hc=>by
  have hne:k≠p.block:=by
   intro e;subst e;exact hc (hp hk)
  rw[Below.heap_setCell _ _ _ _ hne];exact h.block k hk hc⟩
theorem Chg.setRow {C:Nat→Prop}{a b:World}(h:Chg C a b){g:Nat}(hp:g<a.heap.size→C g) (cs:Array Value):Chg C a (b.setRow g cs):=
 ⟨h.os,h.tape,h.output,by simpa using h.size,fun k hk hc=>by
  have hne:k≠g:=by
   intro e;subst e;exact hc (hp hk)
  rw[setRow_other _ _ _ _ hne];exact h.block k hk hc⟩
theorem Chg.grown {C:Nat→Prop}{a b c:World}{row:Option Nat}(h:Chg C a b) (hg:b.grownBy c row) (hr:∀ k,row=some k→k<a.heap.size→C k):Chg C a c:=
 ⟨hg.os.trans h.os,hg.tape.trans h.tape,hg.output.trans h.output,Nat.le_trans h.size hg.size,fun k hk hc=>
  (hg.block k (Nat.lt_of_lt_of_le hk h.size) (fun e=>hc (hr k e.symm hk))).trans (h.block k hk hc)⟩
theorem Chg.below {C:Nat→Prop}{a b:World}(h:Chg C a b){B:Nat}(hB:B≤a.heap.size) (hC:∀ k,k<B→¬ C k):Below B a b:=
 ⟨h.os,h.tape,h.output,h.size,fun k hk=>h.block k (by omega) (hC k hk)⟩
theorem Chg.of_below {a b:World}(h:Below a.heap.size a b) (C:Nat→Prop):Chg C a b:=⟨h.os,h.tape,h.output,h.size,fun k hk _=>h.block k hk⟩
theorem Chg.no {a b:World}(h:Chg No a b):Below a.heap.size a b:=h.below (Nat.le_refl _) (fun _ _=>id)
theorem Chg.cell {C:Nat→Prop}{a b:World}(h:Chg C a b){p:Addr}(hp:p.block<a.heap.size) (hc:¬ C p.block):b.cell? p=a.cell? p:=World.cell?_of_block (w:=a) (h.block p.block hp hc)
theorem Chg.frozen {C:Nat→Prop}{a b:World}(h:Chg C a b){p:Addr}(hp:p.block<a.heap.size) (hc:¬ C p.block):b.frozen? p=a.frozen? p:=World.frozen?_of_block (w:=a) (h.block p.block hp hc)
theorem cell_lt {w:World}{b o:Nat}{v:Value}(h:w.cell? ⟨b,o,none⟩=some v):b<w.heap.size:=by
 rcases Nat.lt_or_ge b w.heap.size with h'|h'
 ·exact h'
 ·simp[World.cell?,Array.getElem?_eq_none h'] at h
theorem heap_lt {w:World}{b:Nat}{o:Obj}(h:w.heap[b]?=some o):b<w.heap.size:=(Array.getElem?_eq_some_iff.1 h).1
theorem cell_of {w:World}{g:Nat}{cs:Array Value}{t:TypeId}{fr:Nat×Nat}(h:w.heap[g]?=some (.cells cs t fr)) (j:Nat):w.cell? ⟨g,j,none⟩=cs[j]?:=by simp[World.cell?,h]
theorem frozen_of {w:World}{g:Nat}{cs:Array Value}{t:TypeId}(h:w.heap[g]?=some (.cells cs t (0,0))) (j:Nat):w.frozen? ⟨g,j,none⟩=false:=by simp[World.frozen?,h]
theorem setCell_block {w:World}{g:Nat}{cs:Array Value}{t:TypeId}{fr:Nat×Nat}(h:w.heap[g]?=some (.cells cs t fr)) (j:Nat) (v:Value):(w.setCell ⟨g,j,none⟩ v).heap[g]?=some (.cells (cs.setIfInBounds j v) t fr):=by
 simp[World.setCell,Array.getElem?_modify,h]
theorem setCell_heap_ne (w:World) (a:Addr) (u:Value){k:Nat}(h:k≠a.block):(w.setCell a u).heap[k]?=w.heap[k]?:=Below.heap_setCell w a u k h
def Cells (w:World) (S:Nat→Prop) (v:Value) (n sz:Nat) (xs:List Value):Prop:=
 xs.length=n*sz∧∃ a cap,v=.slice a n cap∧n≤cap∧cap≤maxLen∧(a=none→cap=0)∧(n=0∨∃ b off,a=some ⟨b,off,none⟩∧S b∧b<w.heap.size∧∀ j u,xs[j]?=some u→w.cell? ⟨b,off+j,none⟩=some u)
def Bytes (w:World) (S:Nat→Prop) (v:Value) (l:List UInt8):Prop:=Cells w S v l.length 1 (u8s l)
theorem Cells.keep {w w':World}{S:Nat→Prop}{v:Value}{n sz:Nat}{xs:List Value}(h:Cells w S v n sz xs) (hs:w.heap.size≤w'.heap.size) (hk:∀ b,S b→b<w.heap.size→w'.heap[b]?=w.heap[b]?):Cells w' S v n sz xs:=by
 obtain⟨hl,a,cap,hv,h1,h2,h0,h3⟩:=h;refine⟨hl,a,cap,hv,h1,h2,h0,?_⟩;rcases h3 with h3|⟨b,off,ha,hS,hb,hc⟩
 ·exact .inl h3
 ·exact .inr ⟨b,off,ha,hS,Nat.lt_of_lt_of_le hb hs,fun j u hu=>(World.cell?_of_block (w:=w) (a:=⟨b,off+j,none⟩) (hk b hS hb)).trans (hc j u hu)⟩
theorem Cells.chg {C:Nat→Prop}{w w':World}{S:Nat→Prop}{v:Value}{n sz:Nat}{xs:List Value}(h:Cells w S v n sz xs) (hc:Chg C w w') (hd:∀ b,b<w.heap.size→S b→¬ C b):Cells w' S v n sz xs:=
 h.keep hc.size fun b hS hb=>hc.block b hb (hd b hb hS)
theorem Cells.mono {w:World}{S S':Nat→Prop}{v:Value}{n sz:Nat}{xs:List Value}(h:Cells w S v n sz xs) (hs:∀ b,b<w.heap.size→S b→S' b):Cells w S' v n sz xs:=by
 obtain⟨hl,a,cap,hv,h1,h2,h0,h3⟩:=h;exact⟨hl,a,cap,hv,h1,h2,h0,h3.imp id fun ⟨b,off,ha,hS,hb,hc⟩=>⟨b,off,ha,hs b hb hS,hb,hc⟩⟩
theorem Bytes.chg {C:Nat→Prop}{w w':World}{S:Nat→Prop}{v:Value}{l:List UInt8}(h:Bytes w S v l) (hc:Chg C w w') (hd:∀ b,b<w.heap.size→S b→¬ C b):Bytes w' S v l:=Cells.chg h hc hd
theorem Bytes.mono {w:World}{S S':Nat→Prop}{v:Value}{l:List UInt8}(h:Bytes w S v l) (hs:∀ b,b<w.heap.size→S b→S' b):Bytes w S' v l:=Cells.mono h hs
theorem Cells.nil (w:World) (S:Nat→Prop) (sz:Nat):Cells w S (.slice none 0 0) 0 sz []:=⟨by simp,none,0,rfl,Nat.le_refl _,by unfold maxLen;omega,fun _=>rfl,.inl rfl⟩
theorem Bytes.nil (w:World) (S:Nat→Prop):Bytes w S (.slice none 0 0) []:=Cells.nil w S 1
theorem Cells.own {w:World}{base:Nat}{e:TypeId}{sz:Nat}{v:Value}{n:Nat}{xs:List Value}(h:w.ownsRow base e sz v n xs):Cells w (fun b=>v.ownBlock=some b∧base≤b) v n sz xs:=by
 obtain⟨hl,h⟩:=h;refine⟨hl,?_⟩;rcases h with ⟨rfl,rfl⟩|⟨g,cap,cur,rfl,hb,hg,h1,h2,h3,h4⟩
 ·exact⟨none,0,rfl,Nat.le_refl _,by unfold maxLen;omega,fun _=>rfl,.inl rfl⟩
 ·refine⟨_,cap,rfl,h1,h2,fun h=>(by cases h),.inr ⟨g,0,rfl,⟨rfl,hb⟩,heap_lt hg,fun j u hu=>?_⟩⟩;rw[Nat.zero_add,cell_of hg,← hu,← h4,List.getElem?_take];rw[← h4,List.getElem?_take] at hu;split at hu
  ·rename_i hj;simp[hj]
  ·cases hu
theorem owns_keep {w w':World}{base:Nat}{e:TypeId}{sz:Nat}{v:Value}{n:Nat}{xs:List Value}(h:w.ownsRow base e sz v n xs) (hk:∀ g,v.ownBlock=some g→w'.heap[g]?=w.heap[g]?):w'.ownsRow base e sz v n xs:=by
 refine⟨h.1,h.2.imp id ?_⟩;rintro⟨g,cap,cur,rfl,hb,hg,r⟩;exact⟨g,cap,cur,rfl,hb,(hk g rfl).trans hg,r⟩
theorem Cells.shape {w:World}{S:Nat→Prop}{v:Value}{n sz:Nat}{xs:List Value}(h:Cells w S v n sz xs):∃ a cap,v=.slice a n cap∧n≤cap∧cap≤maxLen:=by
 obtain⟨_,a,cap,hv,h1,h2,_,_⟩:=h;exact⟨a,cap,hv,h1,h2⟩
theorem Cells.at {w:World}{S:Nat→Prop}{v:Value}{n sz:Nat}{xs:List Value}(h:Cells w S v n sz xs) (hn:0<n):
  ∃ b off cap,v=.slice (some ⟨b,off,none⟩) n cap∧n≤cap∧cap≤maxLen∧S b∧b<w.heap.size∧∀ j u,xs[j]?=some u→w.cell? ⟨b,off+j,none⟩=some u:=by
 obtain⟨_,a,cap,hv,h1,h2,_,h3⟩:=h;rcases h3 with h3|⟨b,off,rfl,hS,hb,hc⟩
 ·omega
 ·exact⟨b,off,cap,hv,h1,h2,hS,hb,hc⟩
theorem splice_take {α:Type}(L:List α) (off:Nat) (cs:List α) (n:Nat) (h:off+cs.length≤n) (hn:n≤L.length):(splice L off cs).take n=splice (L.take n) off cs:=by
 have h1:(L.take off).length=off:=by simp;omega
 simp only[splice];rw[List.take_append,List.take_append,h1,List.take_of_length_le (by omega:(L.take off).length≤n),List.take_of_length_le (by omega:cs.length≤n - off),List.take_take,Nat.min_eq_left (by omega:off≤n),List.drop_take];congr 3;omega
theorem u8s_splice (l:List UInt8) (off:Nat) (b:List UInt8):u8s (splice l off b)=splice (u8s l) off (u8s b):=by simp[splice,u8s,List.map_take,List.map_drop]
section laws
variable {P:Program}
theorem run_append_cells (w:World) (base:Nat) (t ty e:TypeId) (i:TypeInfo) (z:Value) (size bytes:Nat) (ht:P.underlying t=some (.slice e)) (hi:P.info? e=some i) (hz:i.zero=some z)
  (hsize:i.size=size) (hby:i.bytes=bytes) (hzs:z.cells.size=size) (hsz:0<size)
  (v:Value) (n:Nat) (xs:List Value) (hown:w.ownsRow base e size v n xs) (S:Nat→Prop) (y:Value) (m:Nat) (news:List Value) (hy:Cells w S y m size news) (h1:∀ u ∈ news,u.oneCell'=true)
  (h63:n+m≤maxLen) (hbytes:(n+m)*bytes≤140737488355328) (hbase:base≤w.heap.size):
  ∃ v' w',(Builtin.append_ #[t,t] ty #[v,y]).run P w=.ok v' w'∧w'.ownsRow base e size v' (n+m) (xs++news)∧w.grownBy w' v.ownBlock∧(v'=.slice none 0 0↔v=.slice none 0 0∧m=0)∧
   (v'.ownBlock=v.ownBlock∨∃ g,v'.ownBlock=some g∧w.heap.size≤g):=by
 subst hsize;subst hby;obtain⟨hl,a,cap,rfl,_,_,h0,h3⟩:=hy
 have key:∀ ad,(∀ j u,news[j]?=some u→w.cell? (Addr.add ad j)=some u)→
   ∃ v' w',(Builtin.append_ #[t,t] ty #[v,.slice (some ad) m cap]).run P w=.ok v' w'∧w'.ownsRow base e i.size v' (n+m) (xs++news)∧w.grownBy w' v.ownBlock∧(v'=.slice none 0 0↔v=.slice none 0 0∧m=0)∧(v'.ownBlock=v.ownBlock∨∃ g,v'.ownBlock=some g∧w.heap.size≤g):=by
  intro ad hc;obtain⟨v',w',hr,r1,r2,r3⟩:=run_append_own (P:=P) w base t ty e i z i.size i.bytes ht hi hz rfl rfl hzs hsz v n xs hown ad m cap news hl hc h1 h63 hbytes hbase;refine⟨v',w',hr,r1,r2,r3,?_⟩;rcases hown.2 with ⟨rfl,rfl⟩|⟨g,cp,cur,rfl,hb,hg,hn1,hn2,hn3,hn4⟩
  ·obtain⟨v2,w2,hr2,q1,_,_⟩:=run_append_own (P:=P) w w.heap.size t ty e i z i.size i.bytes ht hi hz rfl rfl hzs hsz (.slice none 0 0) 0 xs (by
    have:xs=[]:=List.eq_nil_of_length_eq_zero (by simpa using hown.1);subst this;exact World.ownsRow_nil w _ e i.size) ad m cap news hl hc h1 h63 hbytes (Nat.le_refl _)
   rw[hr] at hr2;cases hr2
   cases hq:v'.ownBlock with
   | none=>exact .inl rfl
   | some g=>exact .inr ⟨g,rfl,(q1.lt g hq).1⟩
  ·by_cases hroom:n+m≤cp
   ·have hr2:=run_append_room (P:=P) w t ty e i ht hi g n cp cur hg ad m cap news hl hc h1 hroom (by rw[hl,hn3,← Nat.add_mul];exact Nat.mul_le_mul_right _ hroom);rw[hr] at hr2;cases hr2
    exact .inl rfl
   ·have h63':((n+m:Nat):Int)≤9223372036854775807:=by simp only[maxLen] at h63;omega
    have hr2:=run_append_grow (P:=P) w t ty e i z ht hi hz ⟨g,0,none⟩ n cp xs hown.1 (hown.cells (g:=g) rfl) ad m cap news hl hc (by omega) h63' (growslice_fits (by omega) hbytes);rw[hr] at hr2;cases hr2
    exact .inr ⟨_,rfl,Nat.le_refl _⟩
 rcases h3 with rfl|⟨b,off,rfl,_,_,hc⟩
 ·have hnil:news=[]:=List.eq_nil_of_length_eq_zero (by simpa using hl);subst hnil;cases a with
  | some ad=>exact key ad (by intro j u hu;simp at hu)
  | none=>
   obtain rfl:=h0 rfl;refine⟨v,w,run_append_owned_none (P:=P) (w:=w) base t ty e i i.size ht hi v n xs hown,by simpa using hown,⟨rfl,rfl,rfl,Nat.le_refl _,fun _ _ _=>rfl⟩,by simp,.inl rfl⟩
 ·exact key ⟨b,off,none⟩ (fun j u hu=>by rw[Addr.add_lit];exact hc j u hu)
theorem append {w:World}{ops:Array Oper}{rest:List Oper}{o:Oper}{a:Act}{Q:Exit→Act→World→Prop}(hgd:o.guard=none) (s x:Operand) (t:TypeId)
  (ho:o.op=.call { callee:=.builtin .append,args:=#[s,x],argTypes:=#[t,t] })
  (base:Nat) (e:TypeId) (z:Value) (size bytes:Nat) (ht:P.underlying t=some (.slice e)) (hi:(P.info? e).map (fun i=>(i.zero,i.size,i.bytes))=some (some z,size,bytes)) (hzs:z.cells.size=size) (hsz:0<size)
  (v:Value) (n:Nat) (xs:List Value) (hs:a.eval s=v) (hown:w.ownsRow base e size v n xs) (S:Nat→Prop) (y:Value) (m:Nat) (news:List Value) (hx:a.eval x=y) (hy:Cells w S y m size news) (h1:∀ u ∈ news,u.oneCell'=true)
  (h63:n+m≤maxLen) (hbytes:(n+m)*bytes≤140737488355328) (hbase:base≤w.heap.size)
  (h:∀ v' w',w'.ownsRow base e size v' (n+m) (xs++news)→w.grownBy w' v.ownBlock→(v'=.slice none 0 0↔v=.slice none 0 0∧m=0)→(v'.ownBlock=v.ownBlock∨∃ g,v'.ownBlock=some g∧w.heap.size≤g)→wpList P ops Q rest (a.put o.dst v') w'):wpList P ops Q (o::rest) a w:=by
 refine wpList_plain hgd fun K hK=>?_
 obtain⟨i,hi1,hi2,hi3,hi4⟩:=info_parts hi;obtain⟨v',w',hr,h2,h3,h4,h5⟩:=run_append_cells (P:=P) w base t o.type e i z size bytes ht hi1 hi2 hi3 hi4 hzs hsz v n xs hown S y m news hy h1 h63 hbytes hbase;unfold Oper.wp execOp;simp only[ho,resolve,invoke,builtin,Sem.run_bind,Sem.run_pure,Result.andThen_ok,List.map_toArray,List.map_cons,List.map_nil,hs,hx,hr];exact hK _ _ (h v' w' h2 h3 h4 h5)
theorem run_copy_cells' (w:World) (dT sT ty elem:TypeId) (g o dLen dCap:Nat) (cur:Array Value) (t:TypeId) (hu:P.underlying dT=some (.slice elem)) (hs:(P.info? elem).map (·.size)=some 1)
  (hg:w.heap[g]?=some (.cells cur t (0,0))) (S:Nat→Prop) (y:Value) (m:Nat) (news:List Value) (hy:Cells w S y m 1 news) (h1:∀ u ∈ news,u.oneCell'=true) (hfit:o+Nat.min m dLen≤cur.size):
  (Builtin.copy_ #[dT,sT] ty #[.slice (some ⟨g,o,none⟩) dLen dCap,y]).run P w=
   .ok (goInt (Nat.min m dLen)) (w.setRow g (splice cur.toList o (news.take (Nat.min m dLen))).toArray):=by
 obtain⟨hl,a,cap,rfl,_,_,h0,h3⟩:=hy
 have hlen:(news.take (Nat.min m dLen)).length=Nat.min m dLen:=by
  rw[List.length_take,hl,Nat.mul_one];exact Nat.min_eq_left (Nat.min_le_left _ _)
 have key:∀ ad,(∀ j u,news[j]?=some u→w.cell? (Addr.add ad j)=some u)→
   (Builtin.copy_ #[dT,sT] ty #[.slice (some ⟨g,o,none⟩) dLen dCap,.slice (some ad) m cap]).run P w=
   .ok (goInt (Nat.min m dLen)) (w.setRow g (splice cur.toList o (news.take (Nat.min m dLen))).toArray):=by
  intro ad hc
  have:=run_copy_row (P:=P) w dT sT ty elem g o dLen dCap ad m cap cur t (news.take (Nat.min m dLen)) hu hs hg hlen (fun j u hj=>hc j u (by
   rw[List.getElem?_take] at hj;split at hj
   ·exact hj
   ·cases hj)) (by rw[hlen];exact hfit) (fun u hu=>h1 u (List.mem_of_mem_take hu))
  rw[this,hlen];simp[splice,hlen]
 rcases h3 with rfl|⟨b,off,rfl,_,_,hc⟩
 ·cases a with
  | some ad=>
   have hnil:news=[]:=List.eq_nil_of_length_eq_zero (by simpa using hl);subst hnil;exact key ad (by intro j u hu;simp at hu)
  | none=>
   obtain rfl:=h0 rfl;have:=run_copy_none (P:=P) w dT sT ty elem (some ⟨g,o,none⟩) none dLen dCap 0 0 hu hs (Nat.zero_min _);rw[this];have e:Nat.min 0 dLen=0:=Nat.zero_min _;rw[e];simp only[List.take_zero,splice,List.length_nil,Nat.add_zero,List.nil_append,List.take_append_drop,Array.toArray_toList];rw[setRow_self w g cur t (0,0) hg];rfl
 ·exact key ⟨b,off,none⟩ (fun j u hu=>by rw[Addr.add_lit];exact hc j u hu)
theorem copy {w:World}{ops:Array Oper}{rest:List Oper}{o:Oper}{a:Act}{Q:Exit→Act→World→Prop}(hgd:o.guard=none) (x y:Operand) (dT sT:TypeId)
  (ho:o.op=.call { callee:=.builtin .copy,args:=#[x,y],argTypes:=#[dT,sT] }) (elem:TypeId) (hu:P.underlying dT=some (.slice elem)) (hs:(P.info? elem).map (·.size)=some 1)
  (g off dLen dCap:Nat) (cur:Array Value) (t:TypeId) (hx:a.eval x=.slice (some ⟨g,off,none⟩) dLen dCap) (hg:w.heap[g]?=some (.cells cur t (0,0))) (S:Nat→Prop) (v:Value) (m:Nat) (news:List Value) (hy:a.eval y=v) (hv:Cells w S v m 1 news)
  (h1:∀ u ∈ news,u.oneCell'=true) (k:Nat) (hk:Nat.min m dLen=k) (hfit:off+k≤cur.size)
  (h:wpList P ops Q rest (a.put o.dst (goInt k)) (w.setRow g (splice cur.toList off (news.take k)).toArray)):wpList P ops Q (o::rest) a w:=by
 refine wpList_plain hgd fun K hK=>?_
 subst hk;have hrun:=run_copy_cells' (P:=P) w dT sT o.type elem g off dLen dCap cur t hu hs hg S v m news hv h1 hfit;unfold Oper.wp execOp;simp only[ho,resolve,invoke,builtin,Sem.run_bind,Sem.run_pure,Result.andThen_ok,List.map_toArray,List.map_cons,List.map_nil,hx,hy,hrun];exact hK _ _ h
theorem run_string (w:World) (src dst e:TypeId) (hs:P.underlying src=some (.slice e)) (he:P.underlying e=some (.int .u8)) (hd:P.underlying dst=some .string) (S:Nat→Prop) (v:Value) (l:List UInt8) (h:Bytes w S v l):
  (convert src dst v).run P w=.ok (.string ⟨l.toArray⟩) w:=by
 obtain⟨hl,a,cap,rfl,_,_,h0,h3⟩:=h
 have hnum:strOfNums (l.map fun b=>(b.toNat:Int))=⟨l.toArray⟩:=by
  simp only[strOfNums,List.map_map];congr 2
  conv=>rhs;rw[← List.map_id l]
  refine List.map_congr_left fun b _=>?_
  simp
 rcases h3 with h3|⟨b,off,rfl,_,_,hc⟩
 ·have hnil:l=[]:=List.eq_nil_of_length_eq_zero h3;subst hnil;cases a with
  | none=>obtain rfl:=h0 rfl;exact run_convert_bytes_nil (P:=P) w src e hs he 0 0 dst hd
  | some ad=>
   rw[run_convert_bytes_string (P:=P) w src dst e _ _ cap hs he hd];simp[Conv.bytesToString,loadCells,loadCellsFrom];rfl
 ·have:=run_convert_bytes_arg (P:=P) (w:=w) src e hs he b off l.length cap (l.map fun b=>(b.toNat:Int)) (by simp) (fun i hi=>by
   rw[hc i _ (u8s_get l i hi)];simp[List.getD,hi]) dst hd
  rw[this,hnum]
theorem make_full (w:World){T e:TypeId}{z:Value}{bytes:Nat}(hT:P.underlying T=some (.slice e)) (hi:(P.info? e).map (fun i=>(i.zero,i.size,i.bytes))=some (some z,1,bytes)) (hz:z.cells=#[z]) (n:Nat) (m:Int) (hm:m=n) (hb:bytes*n≤281474976710656) (h63:n≤9223372036854775807):
  (Instr.makeSlice T (.int .i64 m) (.int .i64 m)).run P w=.ok (.slice (some ⟨w.heap.size,0,none⟩) n n) (w.alloc (.cells (madeCells #[z] n) e)):=by
 obtain⟨i,hi1,hi2,hi3,hi4⟩:=info_parts hi;subst hm;have h:=run_make (P:=P) w T e i z hT hi1 hi2 .i64 .i64 (n:Int) (n:Int) (by omega) (Int.le_refl _) (by rw[hi4,← Int.natCast_mul];exact Int.ofNat_le.2 hb) (by omega)
 simpa [hi3,hz] using h
theorem run_size (w:World){e:TypeId}{s:Nat}(h:(P.info? e).map (·.size)=some s):(sizeOf e).run P w=.ok s w:=by
 cases hq:P.info? e with
 | none=>simp[hq] at h
 | some i=>
  have hi:i.size=s:=by simpa [hq] using h
  simp[sizeOf,typeInfo,hq,hi]
theorem cut_at (w:World){T e:TypeId}{s:Nat}(hT:P.underlying T=some (.slice e)) (hs:(P.info? e).map (·.size)=some s) (a:Option Addr) (n cap lo hi:Nat) (h1:lo≤hi) (h2:hi≤cap):
  (Instr.sliceAt T (.slice a n cap) (some (.int .i64 lo)) (some (.int .i64 hi)) none).run P w=.ok (sliced a lo hi cap s) w:=by
 have he:P.elem T=e:=by simp[Program.elem,hT]
 have hT':P.underlying T=some (.slice (P.elem T)):=by rw[he];exact hT
 rw[run_sliceAt_slice w _ _ _ _ _ hT',run_slice_lh w T a n cap hT' .i64 .i64 lo hi (by omega) (by omega) (by omega),he,run_size w hs];simp[Result.andThen]
theorem cut_lo (w:World){T e:TypeId}{s:Nat}(hT:P.underlying T=some (.slice e)) (hs:(P.info? e).map (·.size)=some s) (a:Option Addr) (n cap lo:Nat) (h1:lo≤n):
  (Instr.sliceAt T (.slice a n cap) (some (.int .i64 lo)) none none).run P w=.ok (sliced a lo n cap s) w:=by
 have he:P.elem T=e:=by simp[Program.elem,hT]
 have hT':P.underlying T=some (.slice (P.elem T)):=by rw[he];exact hT
 rw[run_sliceAt_slice w _ _ _ _ _ hT',run_slice_l w T a n cap hT' .i64 lo (by omega) (by omega),he,run_size w hs];simp[Result.andThen]
theorem cut_hi (w:World){T e:TypeId}{s:Nat}(hT:P.underlying T=some (.slice e)) (hs:(P.info? e).map (·.size)=some s) (a:Option Addr) (n cap hi:Nat) (h1:hi≤cap):
  (Instr.sliceAt T (.slice a n cap) none (some (.int .i64 hi)) none).run P w=.ok (sliced a 0 hi cap s) w:=by
 have he:P.elem T=e:=by simp[Program.elem,hT]
 have hT':P.underlying T=some (.slice (P.elem T)):=by rw[he];exact hT
 rw[run_sliceAt_slice w _ _ _ _ _ hT',run_slice_h w T a n cap hT' .i64 hi (by omega) (by omega),he,run_size w hs];simp[Result.andThen]
theorem sliced_in (g o lo hi cap s:Nat) (h:lo<cap):sliced (some ⟨g,o,none⟩) lo hi cap s=.slice (some ⟨g,o+lo*s,none⟩) (hi - lo) (cap - lo):=by
 have hne:¬ cap - lo=0:=by omega
 simp only[sliced];split
 ·omega
 ·simp[Addr.add_lit]
end laws
theorem Cells.sliced {w:World}{S:Nat→Prop}{a:Option Addr}{n cap sz:Nat}{xs:List Value}(h:Cells w S (.slice a n cap) n sz xs) (lo hi:Nat) (h1:lo≤hi) (h2:hi≤n):
  Cells w S (sliced a lo hi cap sz) (hi - lo) sz ((xs.drop (lo*sz)).take ((hi - lo)*sz)):=by
 obtain⟨hl,a',cap',hv,h3,h4,h0,h5⟩:=h;cases hv
 refine⟨?_,?_⟩
 ·rw[List.length_take,List.length_drop,hl];rw[← Nat.sub_mul];exact Nat.min_eq_left (Nat.mul_le_mul_right _ (by omega))
 ·by_cases he:lo=cap
  ·subst he;have:hi=lo:=by omega
   subst this;refine⟨a,0,?_,by omega,by omega,fun _=>rfl,.inl (by omega)⟩;simp[Go.sliced]
  ·rcases h5 with h5|⟨b,off,rfl,hS,hb,hc⟩
   ·subst h5;have:hi=0∧lo=0:=by omega
    obtain⟨rfl,rfl⟩:=this;cases a with
    | none=>have:=h0 rfl;omega
    | some ad=>refine⟨some (ad.add 0),cap,?_,by omega,h4,fun h=>(by cases h),.inl rfl⟩;simp[Go.sliced,Addr.add]
   ·rw[sliced_in _ _ _ _ _ _ (by omega)];refine⟨_,_,rfl,by omega,by omega,fun h=>(by cases h),.inr ⟨b,off+lo*sz,rfl,hS,hb,fun j u hu=>?_⟩⟩;rw[List.getElem?_take] at hu;split at hu
    ·rw[List.getElem?_drop] at hu;rw[Nat.add_assoc];exact hc _ u hu
    ·cases hu
end Go.Proofs.YthmcbgidehjlbaaGreat.K

/-
 Parts of the proof. No condition beyond what each theorem names.
-/
import Derived.Laws.CopyOwn
import Derived.Lib.Hide
import Derived.WalkLawsBesides
import Derived.WalkSpells
import Derived.Test.YthmcbgidehjlbaaGreatFrAa
namespace Go.Proofs.YthmcbgidehjlbaaGreat.K
open Go Go.RowKit
variable {a b w:World}{C S S':Nat->Prop}{g sz:Nat}{cs:Array Value}{t:TypeId}{xs:List Value}
def u8 (b:UInt8):Value:=iy b.toNat
def aQ (l:iz):List Value:=l.map u8
theorem km (l:iz):(aQ l).length=l.length:=by simp[aQ]
theorem nI (l m:iz):aQ (l++m)=aQ l++aQ m:=by simp[aQ]
theorem nJ (l:iz):∀ u ∈ aQ l,u.oneCell'=true:=by intro u hu;obtain⟨b,_,rfl⟩:=aO.1 hu;rfl
theorem pI (l:iz) (j:Nat) (h:j<l.length):(aQ l)[j]?=some (iy (l[j]).toNat):=by simp[aQ,u8,h]
theorem mI {k:IntKind}{a b:Int}(h:a=b):Ending.returned (.int k a)=.returned (.int k b):=by rw[h]
theorem pJ {a b:Bool}(h:a=b):Ending.returned (.bool a)=.returned (.bool b):=by rw[h]
structure aA (C:Nat->Prop) (w w':World):Prop where
 os:w'.os=w.os
 tape:w'.tape=w.tape
 output:w'.output=w.output
 size:w.heap.size<=w'.heap.size
 block:∀ k,k<w.heap.size->¬ C k->w'.heap[k]?=w.heap[k]?
def No:Nat->Prop:=λ_=>False
theorem Dr (U:World):∀ w,aA No U.drew w->aA No U w:=λ_ h=>⟨h.os,h.tape,h.output,h.size,h.block⟩
theorem aA.refl (C:Nat->Prop) (w:World):aA C w w:=⟨rfl,rfl,rfl,ae _,λ_ _ _=>rfl⟩
theorem aA.trans {C:Nat->Prop}{a b c:World}(h:aA C a b) (k:aA C b c):aA C a c:=⟨k.os.trans h.os,k.tape.trans h.tape,k.output.trans h.output,am h.size k.size,λi hi hc=>(k.block i (aH hi h.size) hc).trans (h.block i hi hc)⟩
theorem aA.then {D:Nat->Prop}{c:World}(h:aA C a b) (k:aA D b c) (hd:∀ i,i<a.heap.size->D i->C i):aA C a c:=⟨k.os.trans h.os,k.tape.trans h.tape,k.output.trans h.output,am h.size k.size,λi hi hc=>(k.block i (aH hi h.size) (λe=>hc (hd i hi e))).trans (h.block i hi hc)⟩
theorem aA.mono {D:Nat->Prop}(h:aA C a b) (hd:∀ i,i<a.heap.size->C i->D i):aA D a b:=⟨h.os,h.tape,h.output,h.size,λi hi hc=>h.block i hi (λe=>hc (hd i hi e))⟩
theorem aA.drew {C:Nat->Prop}{a b:World}(h:aA C a b):aA C a b.drew:=⟨h.os,h.tape,h.output,h.size,h.block⟩
theorem aA.alloc {C:Nat->Prop}{a b:World}(h:aA C a b) (o:Obj):aA C a (b.alloc o):=h.trans ⟨rfl,rfl,rfl,by simp,λk hk _=>aB _ _ _ hk⟩
theorem aA.setCell {C:Nat->Prop}{a b:World}(h:aA C a b){p:Addr}(hp:p.block<a.heap.size->C p.block) (u:Value):aA C a (b.setCell p u):=
 ⟨h.os,h.tape,h.output,by simpa [World.setCell] using h.size,λk hk hc=>by
  have c:k≠p.block:=by intro e;subst e;exact hc (hp hk)
  rw[gI _ _ _ _ c];exact h.block k hk hc⟩
theorem aA.setRow (h:aA C a b)(hp:g<a.heap.size->C g) (cs:Array Value):aA C a (b.setRow g cs):=
 ⟨h.os,h.tape,h.output,by simpa using h.size,λk hk hc=>by
  have c:k≠g:=by intro e;subst e;exact hc (hp hk)
  rw[aG _ _ _ _ c];exact h.block k hk hc⟩
theorem aA.grown {c:World}{row:Option Nat}(h:aA C a b) (hg:b.grownBy c row) (hr:∀ k,row=some k->k<a.heap.size->C k):aA C a c:=⟨hg.os.trans h.os,hg.tape.trans h.tape,hg.output.trans h.output,am h.size hg.size,λk hk hc=>(hg.block k (aH hk h.size) (λe=>hc (hr k e.symm hk))).trans (h.block k hk hc)⟩
theorem aA.below (h:aA C a b){B:Nat}(hB:B<=a.heap.size) (hC:∀ k,k<B->¬ C k):Below B a b:=⟨h.os,h.tape,h.output,h.size,λk hk=>h.block k om (hC k hk)⟩
theorem aA.dD (h:Below a.heap.size a b) (C:Nat->Prop):aA C a b:=⟨h.os,h.tape,h.output,h.size,λk hk _=>h.block k hk⟩
theorem aA.no (h:aA No a b):Below a.heap.size a b:=h.below (ae _) (λ_ _=>id)
theorem aA.cell (h:aA C a b){p:Addr}(hp:p.block<a.heap.size) (hc:¬ C p.block):b.cell? p=a.cell? p:=az (w:=a) (h.block p.block hp hc)
theorem aA.frozen (h:aA C a b){p:Addr}(hp:p.block<a.heap.size) (hc:¬ C p.block):b.frozen? p=a.frozen? p:=World.frozen?_of_block (w:=a) (h.block p.block hp hc)
theorem lq {b o:Nat}{v:Value}(h:w.cell? (iu b o)=some v):b<w.heap.size:=by
 rcases eu b w.heap.size with h'|h'
 ·exact h'
 ·simp[World.cell?,eM h'] at h
theorem dC {b:Nat}{o:Obj}(h:w.heap[b]?=some o):b<w.heap.size:=(bm.1 h).1
theorem cell_of {fr:Nat×Nat}(h:w.heap[g]?=some (.cells cs t fr)) (j:Nat):w.cell? (iu g j)=cs[j]?:=by simp[World.cell?,h]
theorem kY (h:w.heap[g]?=some (.cells cs t (0,0))) (j:Nat):w.frozen? (iu g j)=false:=by simp[World.frozen?,h]
theorem lz {fr:Nat×Nat}(h:w.heap[g]?=some (.cells cs t fr)) (j:Nat) (v:Value):(w.setCell (iu g j) v).heap[g]?=some (.cells (cs.setIfInBounds j v) t fr):=by simp[World.setCell,dW,h]
theorem kD (w:World) (a:Addr) (u:Value){k:Nat}(h:k≠a.block):(w.setCell a u).heap[k]?=w.heap[k]?:=gI w a u k h
def Cells (w:World) (S:Nat->Prop) (v:Value) (n sz:Nat) (xs:List Value):Prop:=xs.length=n*sz/\∃ a cap,v=.slice a n cap/\n<=cap/\cap<=maxLen/\(a=none->cap=0)/\(n=0\/∃ b off,a=some (iu b off)/\S b/\b<w.heap.size/\∀ j u,xs[j]?=some u->w.cell? (iu b (off+j))=some u)
def Bytes (w:World) (S:Nat->Prop) (v:Value) (l:iz):Prop:=Cells w S v l.length 1 (aQ l)
theorem Cells.dB {w':World}{v:Value}{n:Nat}(h:Cells w S v n sz xs) (hs:w.heap.size<=w'.heap.size) (hk:∀ b,S b->b<w.heap.size->w'.heap[b]?=w.heap[b]?):Cells w' S v n sz xs:=by
 obtain⟨f,a,cap,hv,h1,e,d,c⟩:=h;refine⟨f,a,cap,hv,h1,e,d,?_⟩;rcases c with c|⟨b,off,ha,hS,hb,hc⟩
 ·exact .inl c
 ·exact .inr ⟨b,off,ha,hS,aH hb hs,λj u hu=>(az (w:=w) (a:=iu b (off+j)) (hk b hS hb)).trans (hc j u hu)⟩
theorem Cells.ki {w':World}{v:Value}{n:Nat}(h:Cells w S v n sz xs) (hc:aA C w w') (hd:∀ b,b<w.heap.size->S b->¬ C b):Cells w' S v n sz xs:=h.dB hc.size λb a hb=>hc.block b hb (hd b hb a)
theorem Cells.mono {v:Value}{n:Nat}(h:Cells w S v n sz xs) (hs:∀ b,b<w.heap.size->S b->S' b):Cells w S' v n sz xs:=by obtain⟨i,a,cap,hv,h1,d,c,e⟩:=h;exact⟨i,a,cap,hv,h1,d,c,e.imp id λ⟨b,off,g,f,hb,hc⟩=>⟨b,off,g,hs b hb f,hb,hc⟩⟩
theorem Bytes.ki {w':World}{v:Value}{l:iz}(h:Bytes w S v l) (hc:aA C w w') (hd:∀ b,b<w.heap.size->S b->¬ C b):Bytes w' S v l:=Cells.ki h hc hd
theorem Bytes.mono {v:Value}{l:iz}(h:Bytes w S v l) (hs:∀ b,b<w.heap.size->S b->S' b):Bytes w S' v l:=Cells.mono h hs
theorem Cells.nil (w:World) (S:Nat->Prop) (sz:Nat):Cells w S (.slice none 0 0) 0 sz []:=⟨by simp,none,0,rfl,ae _,by unfold maxLen;omega,λ_=>rfl,.inl rfl⟩
theorem Bytes.nil (w:World) (S:Nat->Prop):Bytes w S (.slice none 0 0) []:=Cells.nil w S 1
theorem Cells.own {base:Nat}{e:TypeId}{v:Value}{n:Nat}(h:w.ownsRow base e sz v n xs):Cells w (λb=>v.ownBlock=some b/\base<=b) v n sz xs:=by
 obtain⟨f,h⟩:=h;refine⟨f,?_⟩;rcases h with ⟨rfl,rfl⟩|⟨g,cap,cur,rfl,hb,hg,h1,c,i,a⟩
 ·exact⟨none,0,rfl,ae _,by unfold maxLen;omega,λ_=>rfl,.inl rfl⟩
 ·refine⟨_,cap,rfl,h1,c,λh=>(by cases h),.inr ⟨g,0,rfl,⟨rfl,hb⟩,dC hg,λj u hu=>?_⟩⟩;rw[aw,cell_of hg,<-hu,<-a,aU];rw[<-a,aU] at hu;split at hu
  ·rename_i d;simp[d]
  ·cases hu
theorem dE {w':World}{base:Nat}{e:TypeId}{v:Value}{n:Nat}(h:w.ownsRow base e sz v n xs) (hk:∀ g,v.ownBlock=some g->w'.heap[g]?=w.heap[g]?):w'.ownsRow base e sz v n xs:=by refine⟨h.1,h.2.imp id ?_⟩;rintro⟨g,cap,cur,rfl,hb,hg,r⟩;exact⟨g,cap,cur,rfl,hb,(hk g rfl).trans hg,r⟩
theorem Cells.shape {v:Value}{n:Nat}(h:Cells w S v n sz xs):∃ a cap,v=.slice a n cap/\n<=cap/\cap<=maxLen:=by obtain⟨_,a,cap,hv,h1,b,_,_⟩:=h;exact⟨a,cap,hv,h1,b⟩
theorem Cells.at {v:Value}{n:Nat}(h:Cells w S v n sz xs) (hn:0<n):
  ∃ b off cap,v=.slice (some (iu b off)) n cap/\n<=cap/\cap<=maxLen/\S b/\b<w.heap.size/\∀ j u,xs[j]?=some u->w.cell? (iu b (off+j))=some u:=by
 obtain⟨_,a,cap,hv,h1,d,_,c⟩:=h;rcases c with c|⟨b,off,rfl,hS,hb,hc⟩
 ·omega
 ·exact⟨b,off,cap,hv,h1,d,hS,hb,hc⟩
theorem D7 {α:Type}(L:List α) (off:Nat) (cs:List α) (n:Nat) (h:off+cs.length<=n) (hn:n<=L.length):(splice L off cs).take n=splice (L.take n) off cs:=by
 have h1:(L.take off).length=off:=by simp;omega
 simp only[splice];rw[eN,eN,h1,bh (by omega:(L.take off).length<=n),bh (by omega:cs.length<=n - off),fj,dh (by omega:off<=n),fl];congr 3;omega
theorem zK (l:iz) (off:Nat) (b:iz):aQ (splice l off b)=splice (aQ l) off (aQ b):=by simp[splice,aQ]
section laws
variable {P:Program}
theorem tH (w:World) (base:Nat) (t ty e:TypeId) (i:TypeInfo) (z:Value) (size bytes:Nat) (ht:P.underlying t=some (.slice e)) (hi:P.info? e=some i) (hz:i.zero=some z)
  (hsize:i.size=size) (hby:i.bytes=bytes) (hzs:z.cells.size=size) (hsz:0<size)
  (v:Value) (n:Nat) (xs:List Value) (hown:w.ownsRow base e size v n xs) (S:Nat->Prop) (y:Value) (m:Nat) (news:List Value) (hy:Cells w S y m size news) (h1:∀ u ∈ news,u.oneCell'=true)
  (h63:n+m<=maxLen) (hbytes:(n+m)*bytes<=140737488355328) (hbase:base<=w.heap.size):
  ∃ v' w',(Builtin.append_ #[t,t] ty #[v,y]).run P w=.ok v' w'/\w'.ownsRow base e size v' (n+m) (xs++news)/\w.grownBy w' v.ownBlock/\(v'=.slice none 0 0↔v=.slice none 0 0/\m=0)/\
   (v'.ownBlock=v.ownBlock\/∃ g,v'.ownBlock=some g/\w.heap.size<=g):=by
 subst hsize;subst hby;obtain⟨h,a,cap,rfl,_,_,p,q⟩:=hy
 have key:∀ f,(∀ j u,news[j]?=some u->w.cell? (Addr.add f j)=some u)->
   ∃ v' w',(Builtin.append_ #[t,t] ty #[v,.slice (some f) m cap]).run P w=.ok v' w'/\w'.ownsRow base e i.size v' (n+m) (xs++news)/\w.grownBy w' v.ownBlock/\(v'=.slice none 0 0↔v=.slice none 0 0/\m=0)/\(v'.ownBlock=v.ownBlock\/∃ g,v'.ownBlock=some g/\w.heap.size<=g):=by
  intro f hc;obtain⟨v',w',hr,B,C,D⟩:=run_append_own (P:=P) w base t ty e i z i.size i.bytes ht hi hz rfl rfl hzs hsz v n xs hown f m cap news h hc h1 h63 hbytes hbase;refine⟨v',w',hr,B,C,D,?_⟩;rcases hown.2 with ⟨rfl,rfl⟩|⟨g,cp,cur,rfl,hb,hg,r,s,o,x⟩
  ·obtain⟨v2,w2,c,A,_,_⟩:=run_append_own (P:=P) w w.heap.size t ty e i z i.size i.bytes ht hi hz rfl rfl hzs hsz (.slice none 0 0) 0 xs (by have:xs=[]:=cH (by simpa using hown.1);subst this;exact aS w _ e i.size) f m cap news h hc h1 h63 hbytes (ae _)
   rw[hr] at c;cases c
   cases hq:v'.ownBlock with
   | none=>exact .inl rfl
   | some g=>exact .inr ⟨g,rfl,(A.lt g hq).1⟩
  ·by_cases d:n+m<=cp
   ·have c:=run_append_room (P:=P) w t ty e i ht hi g n cp cur hg f m cap news h hc h1 d (by rw[h,o,<-Nat.add_mul];exact fR _ d);rw[hr] at c;cases c
    exact .inl rfl
   ·have k:((n+m:Nat):Int)<=9223372036854775807:=by simp only[maxLen] at h63;omega
    have c:=fS (P:=P) w t ty e i z ht hi hz (iu g 0) n cp xs hown.1 (hown.cells (g:=g) rfl) f m cap news h hc om k (ew om hbytes);rw[hr] at c;cases c
    exact .inr ⟨_,rfl,ae _⟩
 rcases q with rfl|⟨b,off,rfl,_,_,hc⟩
 ·have l:news=[]:=cH (by simpa using h);subst l;cases a with
  | some f=>exact key f (by intro j u hu;simp at hu)
  | none=>obtain rfl:=p rfl;refine⟨v,w,run_append_owned_none (P:=P) (w:=w) base t ty e i i.size ht hi v n xs hown,by simpa using hown,⟨rfl,rfl,rfl,ae _,λ_ _ _=>rfl⟩,by simp,.inl rfl⟩
 ·exact key (iu b off) (λj u hu=>by rw[bJ];exact hc j u hu)
theorem append {ops:Array Oper}{rest:List Oper}{o:Oper}{a:Act}{Q:Exit->Act->World->Prop}(hgd:o.guard=none) (s x:Operand) (t:TypeId)
  (ho:o.op=.call { callee:=.builtin .append,args:=#[s,x],argTypes:=#[t,t] })
  (base:Nat) (e:TypeId) (z:Value) (size bytes:Nat) (ht:P.underlying t=some (.slice e)) (hi:(P.info? e).map (λi=>(i.zero,i.size,i.bytes))=some (some z,size,bytes)) (hzs:z.cells.size=size) (hsz:0<size)
  (v:Value) (n:Nat) (xs:List Value) (hs:a.eval s=v) (hown:w.ownsRow base e size v n xs) (S:Nat->Prop) (y:Value) (m:Nat) (news:List Value) (hx:a.eval x=y) (hy:Cells w S y m size news) (h1:∀ u ∈ news,u.oneCell'=true)
  (h63:n+m<=maxLen) (hbytes:(n+m)*bytes<=140737488355328) (hbase:base<=w.heap.size)
  (h:∀ v' w',w'.ownsRow base e size v' (n+m) (xs++news)->w.grownBy w' v.ownBlock->(v'=.slice none 0 0↔v=.slice none 0 0/\m=0)->(v'.ownBlock=v.ownBlock\/∃ g,v'.ownBlock=some g/\w.heap.size<=g)->wpList P ops Q rest (a.put o.dst v') w'):wpList P ops Q (o::rest) a w:=by
 refine cN hgd λK q=>?_
 obtain⟨i,b,c,d,f⟩:=cw hi;obtain⟨v',w',hr,j,k,l,p⟩:=tH (P:=P) w base t o.type e i z size bytes ht b c d f hzs hsz v n xs hown S y m news hy h1 h63 hbytes hbase;unfold Oper.wp execOp;simp only[ho,resolve,invoke,builtin,aM,Sem.run_pure,bu,cI,bt,bT,hs,hx,hr];exact q _ _ (h v' w' j k l p)
theorem tI (w:World) (dT sT ty elem:TypeId) (g o dLen dCap:Nat) (cur:Array Value) (t:TypeId) (hu:P.underlying dT=some (.slice elem)) (hs:(P.info? elem).map (·.size)=some 1)
  (hg:w.heap[g]?=some (.cells cur t (0,0))) (S:Nat->Prop) (y:Value) (m:Nat) (news:List Value) (hy:Cells w S y m 1 news) (h1:∀ u ∈ news,u.oneCell'=true) (hfit:o+Nat.min m dLen<=cur.size):
  (Builtin.copy_ #[dT,sT] ty #[.slice (some (iu g o)) dLen dCap,y]).run P w=
   .ok (goInt (Nat.min m dLen)) (w.setRow g (splice cur.toList o (news.take (Nat.min m dLen))).toArray):=by
 obtain⟨h,a,cap,rfl,_,_,i,k⟩:=hy
 have hlen:(news.take (Nat.min m dLen)).length=Nat.min m dLen:=by rw[aR,h,aY];exact dh (Nat.min_le_left _ _)
 have key:∀ c,(∀ j u,news[j]?=some u->w.cell? (Addr.add c j)=some u)->
   (Builtin.copy_ #[dT,sT] ty #[.slice (some (iu g o)) dLen dCap,.slice (some c) m cap]).run P w=
   .ok (goInt (Nat.min m dLen)) (w.setRow g (splice cur.toList o (news.take (Nat.min m dLen))).toArray):=by
  intro c hc
  have:=run_copy_row (P:=P) w dT sT ty elem g o dLen dCap c m cap cur t (news.take (Nat.min m dLen)) hu hs hg hlen (λj u f=>hc j u (by
   rw[aU] at f;split at f
   ·exact f
   ·cases f)) (by rw[hlen];exact hfit) (λu hu=>h1 u (gJ hu))
  rw[this,hlen];simp[splice,hlen]
 rcases k with rfl|⟨b,off,rfl,_,_,hc⟩
 ·cases a with
  | some c=>have d:news=[]:=cH (by simpa using h);subst d;exact key c (by intro j u hu;simp at hu)
  | none=>obtain rfl:=i rfl;have:=run_copy_none (P:=P) w dT sT ty elem (some (iu g o)) none dLen dCap 0 0 hu hs (Nat.zero_min _);rw[this];have e:Nat.min 0 dLen=0:=Nat.zero_min _;rw[e];simp only[dX,splice,List.length_nil,dY,bE,gK,Array.toArray_toList];rw[fT w g cur t (0,0) hg];rfl
 ·exact key (iu b off) (λj u hu=>by rw[bJ];exact hc j u hu)
theorem copy {ops:Array Oper}{rest:List Oper}{o:Oper}{a:Act}{Q:Exit->Act->World->Prop}(hgd:o.guard=none) (x y:Operand) (dT sT:TypeId)
  (ho:o.op=.call { callee:=.builtin .copy,args:=#[x,y],argTypes:=#[dT,sT] }) (elem:TypeId) (hu:P.underlying dT=some (.slice elem)) (hs:(P.info? elem).map (·.size)=some 1)
  (g off dLen dCap:Nat) (cur:Array Value) (t:TypeId) (hx:a.eval x=.slice (some (iu g off)) dLen dCap) (hg:w.heap[g]?=some (.cells cur t (0,0))) (S:Nat->Prop) (v:Value) (m:Nat) (news:List Value) (hy:a.eval y=v) (hv:Cells w S v m 1 news)
  (h1:∀ u ∈ news,u.oneCell'=true) (k:Nat) (hk:Nat.min m dLen=k) (hfit:off+k<=cur.size)
  (h:wpList P ops Q rest (a.put o.dst (goInt k)) (w.setRow g (splice cur.toList off (news.take k)).toArray)):wpList P ops Q (o::rest) a w:=by
 refine cN hgd λK c=>?_
 subst hk;have b:=tI (P:=P) w dT sT o.type elem g off dLen dCap cur t hu hs hg S v m news hv h1 hfit;unfold Oper.wp execOp;simp only[ho,resolve,invoke,builtin,aM,Sem.run_pure,bu,cI,bt,bT,hx,hy,b];exact c _ _ h
theorem sK (w:World) (src dst e:TypeId) (hs:P.underlying src=some (.slice e)) (he:P.underlying e=some (.int .u8)) (hd:P.underlying dst=some .string) (S:Nat->Prop) (v:Value) (l:iz) (h:Bytes w S v l):
  (convert src dst v).run P w=.ok (.string ⟨l.toArray⟩) w:=by
 obtain⟨j,a,cap,rfl,_,_,g,f⟩:=h
 have d:strOfNums (l.map λb=>(b.toNat:Int))=⟨l.toArray⟩:=by
  simp only[strOfNums,cO];congr 2
  conv=>rhs;rw[<-List.map_id l]
  refine dZ λb _=>?_
  simp
 rcases f with f|⟨b,off,rfl,_,_,hc⟩
 ·have c:l=[]:=cH f;subst c;cases a with
  | none=>obtain rfl:=g rfl;exact run_convert_bytes_nil (P:=P) w src e hs he 0 0 dst hd
  | some ad=>rw[run_convert_bytes_string (P:=P) w src dst e _ _ cap hs he hd];simp[Conv.bytesToString,loadCells,loadCellsFrom];rfl
 ·have:=run_convert_bytes_arg (P:=P) (w:=w) src e hs he b off l.length cap (l.map λb=>(b.toNat:Int)) sm (λi hi=>by rw[hc i _ (pI l i hi)];simp[List.getD,hi]) dst hd
  rw[this,d]
theorem xS (w:World){T e:TypeId}{z:Value}{bytes:Nat}(hT:P.underlying T=some (.slice e)) (hi:(P.info? e).map (λi=>(i.zero,i.size,i.bytes))=some (some z,1,bytes)) (hz:z.cells=#[z]) (n:Nat) (m:Int) (hm:m=n) (hb:bytes*n<=281474976710656) (h63:n<=9223372036854775807):
  (Instr.makeSlice T (iw m) (iw m)).run P w=.ok (ir w.heap.size n n) (w.alloc (.cells (madeCells #[z] n) e)):=by
 obtain⟨i,a,b,c,d⟩:=cw hi;subst hm;have h:=run_make (P:=P) w T e i z hT a b .i64 .i64 (n:Int) (n:Int) om (fU _) (by rw[d,<-d9];exact Int.ofNat_le.2 hb) om
 simpa [c,hz] using h
theorem tJ (w:World){e:TypeId}{s:Nat}(h:(P.info? e).map (·.size)=some s):(sizeOf e).run P w=.ok s w:=by
 cases hq:P.info? e with
 | none=>simp[hq] at h
 | some i=>
  have hi:i.size=s:=by simpa [hq] using h
  simp[sizeOf,typeInfo,hq,hi]
theorem vU (w:World){T e:TypeId}{s:Nat}(hT:P.underlying T=some (.slice e)) (hs:(P.info? e).map (·.size)=some s) (a:Option Addr) (n cap lo hi:Nat) (h1:lo<=hi) (h2:hi<=cap):
  (Instr.sliceAt T (.slice a n cap) (some (iw lo)) (some (iw hi)) none).run P w=.ok (sliced a lo hi cap s) w:=by
 have he:P.elem T=e:=by simp[Program.elem,hT]
 have b:P.underlying T=some (.slice (P.elem T)):=by rw[he];exact hT
 rw[fo w _ _ _ _ _ b,run_slice_lh w T a n cap b .i64 .i64 lo hi om om om,he,tJ w hs];simp[Result.andThen]
theorem rH (w:World){T e:TypeId}{s:Nat}(hT:P.underlying T=some (.slice e)) (hs:(P.info? e).map (·.size)=some s) (a:Option Addr) (n cap lo:Nat) (h1:lo<=n):
  (Instr.sliceAt T (.slice a n cap) (some (iw lo)) none none).run P w=.ok (sliced a lo n cap s) w:=by
 have he:P.elem T=e:=by simp[Program.elem,hT]
 have b:P.underlying T=some (.slice (P.elem T)):=by rw[he];exact hT
 rw[fo w _ _ _ _ _ b,run_slice_l w T a n cap b .i64 lo om om,he,tJ w hs];simp[Result.andThen]
theorem vV (w:World){T e:TypeId}{s:Nat}(hT:P.underlying T=some (.slice e)) (hs:(P.info? e).map (·.size)=some s) (a:Option Addr) (n cap hi:Nat) (h1:hi<=cap):
  (Instr.sliceAt T (.slice a n cap) none (some (iw hi)) none).run P w=.ok (sliced a 0 hi cap s) w:=by
 have he:P.elem T=e:=by simp[Program.elem,hT]
 have b:P.underlying T=some (.slice (P.elem T)):=by rw[he];exact hT
 rw[fo w _ _ _ _ _ b,run_slice_h w T a n cap b .i64 hi om om,he,tJ w hs];simp[Result.andThen]
theorem pK (g o lo hi cap s:Nat) (h:lo<cap):sliced (some (iu g o)) lo hi cap s=.slice (some (iu g (o+lo*s))) (hi - lo) (cap - lo):=by
 have a:¬ cap - lo=0:=om;simp only[sliced];split
 ·omega
 ·simp[bJ]
end laws
theorem Cells.sliced {a:Option Addr}{n cap:Nat}(h:Cells w S (.slice a n cap) n sz xs) (lo hi:Nat) (h1:lo<=hi) (h2:hi<=n):
  Cells w S (sliced a lo hi cap sz) (hi - lo) sz ((xs.drop (lo*sz)).take ((hi - lo)*sz)):=by
 obtain⟨g,i,d,hv,k,f,e,c⟩:=h;cases hv
 refine⟨?_,?_⟩
 ·rw[aR,bM,g];rw[<-Nat.sub_mul];exact dh (fR _ om)
 ·by_cases he:lo=cap
  ·subst he;have:hi=lo:=om;subst this;refine⟨a,0,?_,by omega,by omega,λ_=>rfl,.inl om⟩;simp[Go.sliced]
  ·rcases c with c|⟨b,off,rfl,hS,hb,hc⟩
   ·subst c;have:hi=0/\lo=0:=om;obtain⟨rfl,rfl⟩:=this;cases a with
    | none=>have:=e rfl;omega
    | some ad=>refine⟨some (ad.add 0),cap,?_,by omega,f,λh=>(by cases h),.inl rfl⟩;simp[Go.sliced,Addr.add]
   ·rw[pK _ _ _ _ _ _ om];refine⟨_,_,rfl,by omega,by omega,λh=>(by cases h),.inr ⟨b,off+lo*sz,rfl,hS,hb,λj u hu=>?_⟩⟩;rw[aU] at hu;split at hu
    ·rw[bF] at hu;rw[cy];exact hc _ u hu
    ·cases hu
def zJ (k:IntKind) (w:World) (a:Option Addr) (len cap:Nat) (zs:List Int):Prop:=
 (a=none/\len=0/\cap=0/\zs=[])\/
 ∃ x,a=some x/\len<=cap/\cap<=maxLen/\zs.length=cap/\(∀ i,i<zs.length->w.cell? (x.add i)=some (.int k (zs.getD i 0)))/\∀ n ∈ zs,(Lit.int k n).wf=true
theorem zJ.bytes {w:World}{a:Option Addr}{len cap:Nat}{zs:List Int}(h:zJ .u8 w a len cap zs):∃ l:iz,Bytes w (λ_=>True) (.slice a len cap) l:=by
 rcases h with ⟨rfl,rfl,rfl,rfl⟩|⟨x,rfl,q,hm,s,c,k⟩
 ·exact⟨[],rfl,none,0,rfl,ae _,by unfold maxLen;omega,λ_=>rfl,.inl rfl⟩
 ·obtain⟨l,hlen⟩:=Ex ((zs.take len).map (λn=>UInt8.ofNat n.toNat):iz);have d:l.length=len:=by rw[hlen];simp;omega
  refine⟨l,by simp[aQ],some x,cap,by rw[d],by rw[d];exact q,hm,λh=>(by cases h),?_⟩;by_cases m:len=0
  ·exact .inl (d.trans m)
  ·obtain⟨b,off,spot⟩:=x;have hc:=c 0 om;have f:spot=none:=by simpa [Addr.add] using gG hc
   subst f;have i:w.cell? (iu b off)=some (iy (zs.getD 0 0)):=by simpa [Addr.add] using hc
   refine .inr ⟨b,off,rfl,trivial,lq i,λj u hu=>?_⟩
   have p:j<len:=by have:=(aD.1 hu).1;simp[aQ,d] at this;exact this
   have h1:=c j om;have e:j<zs.length:=om;have hw:=k _ (bK e);have r:0<=zs[j]/\zs[j]<=255:=by simpa [Lit.wf,IntKind.min,IntKind.max,IntKind.signed,IntKind.bits] using hw
   have o:w.cell? (iu b (off+j))=some (iy zs[j]):=by
    rw[fN,av e] at h1;by_cases g:j=0
    ·subst g
     simpa [Addr.add] using h1
    ·simpa [Addr.add,g] using h1
   rw[o,<-hu,hlen];simp only[aQ,cO,bf,aU,ak p,av e,dr,Function.comp];simp[u8];omega
end Go.Proofs.YthmcbgidehjlbaaGreat.K

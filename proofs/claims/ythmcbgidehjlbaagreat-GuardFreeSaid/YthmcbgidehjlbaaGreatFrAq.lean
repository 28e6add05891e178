/-
 Parts of the proof. No condition beyond what each theorem names.
-/
import Derived.Lib.AppendZerosOnto
import Derived.Lib.Overlaps
import Derived.Test.YthmcbgidehjlbaaGreatFrAm
import Derived.Test.YthmcbgidehjlbaaGreatFrAp
set_option maxHeartbeats 4000000
set_option maxRecDepth 100000
namespace Go.Proofs.YthmcbgidehjlbaaGreat.Fd
open _root_.Go.Proofs.Tryz
open Go Go.RowKit K
variable {w:World}{vs:List Value}{B cap vb:Nat}{x:Value}
theorem yB:(prog.info? 42).map (λi=>(i.zero,i.size,i.bytes))=some (some (.slice none 0 0),1,24):=kr
theorem Gq (w:World):Calls prog 188 #[.slice none 0 0] w λe w'=>e=.returned (.slice none 0 0)/\w=w':=by have he:=Lib.run_eql_slice_nil (P:=prog) w 200 42 none 0 0 0 0 underlying200;go_enter func188,ntmps188;go_wp2;go_ret;exact⟨rfl,rfl⟩
theorem Gr {S:Nat->Prop}{v:Value}{m:Nat}(hb:Cells w S v m 1 vs) (h1:∀ u ∈ vs,u.oneCell'=true) (hl:m<=1000000):
  Calls prog 188 #[v] w λe w'=>∃ v',e=.returned v'/\w'.ownsRow w.heap.size 42 1 v' m vs/\Below w.heap.size w w':=by
 obtain⟨hlen,a,cap,hv,h,c,g,j⟩:=hb;cases a with
 | none=>obtain rfl:=g rfl;have hm:m=0:=om;subst hm;have i:vs=[]:=cH om;subst i;subst hv;exact (Gq w).mono λe w' ⟨h1,l⟩=>⟨_,h1,aS _ _ _ _,by subst l;exact ag _ _⟩
 | some ad=>
  have f:=ch (base:=w.heap.size) (e:=42) (size:=1) w #[] 0 (ae _) mx rfl;have d:Cells (w.alloc (.cells #[] 42)) S v m 1 vs:=Cells.dB ⟨hlen,some ad,cap,hv,h,c,g,j⟩ sm (λb _ hb=>aB w _ b hb);subst hv;have he:=Lib.run_eql_slice_nil (P:=prog) w 200 42 (some ad) m cap 0 0 underlying200;have H:=LH d;have H1:=LH h1;clear d j g h1 c;go_enter func188,ntmps188
  go_wp2_with (at_builtin;(refine K.append rfl _ _ 200 rfl w.heap.size 42 (.slice none 0 0) 1 24 underlying200 yB rfl de _ 0 [] rfl f S _ m vs rfl H.o H1.o ?m ?b sm ?k))
  case m=>unfold maxLen;omega
  case b=>omega
  case k=>intro v' w' n hg p _;go_wp2;go_ret;exact⟨_,rfl,by simpa using n,(((ag _ _).alloc (ae _) _).grown hg sm (λk hk=>by simp[Value.ownBlock] at hk;omega))⟩
theorem Gs {α:Type}(l:List α) (x:α) (n:Nat) (h:n+1<=l.length):(splice (splice l 1 (l.take n)) 0 [x]).take (n+1)=x::l.take n:=by
 have h1:(l.take n).length=n:=by simp;omega
 have b:(l.take 1).length=1:=by simp;omega
 have e:(splice l 1 (l.take n)).drop 1=l.take n++l.drop (1+n):=by simp only[splice,h1];rw[gm om,gV om,bE]
 have a:splice (splice l 1 (l.take n)) 0 [x]=x::(l.take n++l.drop (1+n)):=by rw[splice,dX,bE,gW,aw,e];rfl
 rw[a,eH,eG om,bh om]
theorem Bh {P:Program}{w':World}{ops:Array Oper}{rest:List Oper}{o:Oper}{a:Act}{Q:Exit->Act->World->Prop}(hgd:o.guard=none) (d s:Operand) (t t':TypeId)
  (ho:o.op=.call { callee:=.builtin .copy,args:=#[d,s],argTypes:=#[t,t'] }) (v u:Value){v':Value}(hd:a.eval d=v) (hs:a.eval s=u)
  (hr:(Builtin.copy_ #[t,t'] o.type #[v,u]).run P w=.ok v' w') (h:wpList P ops Q rest (a.put o.dst v') w'):wpList P ops Q (o::rest) a w:=by
 refine cN hgd λK b=>?_
 unfold Oper.wp execOp;simp only[ho,resolve,invoke,builtin,aM,Sem.run_pure,bu,cI,bt,bT,hd,hs,hr];exact b _ _ h
structure vn (w:World) (B:Nat) (x:Value) (vs:List Value) (e:Ending) (w':World):Prop where
 ret:∃ v,e=.returned v/\Cells w' (λg=>B<=g) v (vs.length+1) 1 (x::vs)
 below:Below B w w'
 dB:∀ (g:Nat) (c:Array Value) (t:TypeId) (m:Nat×Nat),w.heap[g]?=some (.cells c t m)->(t≠42\/c.size=1)->w'.heap[g]?=w.heap[g]?
theorem Gt {g n:Nat}{cur:Array Value}(hB:B<=g) (hg:w.heap[g]?=some (.cells cur 42 (0,0))) (hcur:cur.size=cap) (hn:0<n) (hroom:n+1<=cap) (hmax:cap<=maxLen) (hvb:vb≠g) (hv:w.heap[vb]?=some (.cells #[x] 42 (0,0)))
  (h1:∀ u ∈ cur.toList.take n,u.oneCell'=true) (hx1:x.oneCell'=true):
  Calls prog 187 #[ir g n cap,iw 0,ir vb 1 1] w (vn w B x (cur.toList.take n)):=by
 have J:cur.toList.length=cap:=by rw[dj,hcur]
 have a:∀ (w':World) (cs:Array Value) (m o:Nat),w'.heap[g]?=some (.cells cs 42 (0,0))->cs.size=cap->o+m<=cap->Cells w' (λE=>E=g) (.slice (some (iu g o)) m (cap - o)) m 1 ((cs.toList.drop o).take m):=by
  intro w' cs m o h hs hm;refine⟨by simp;omega,_,_,rfl,by omega,by omega,λh=>(by cases h),.inr ⟨g,o,rfl,rfl,dC h,λj u hu=>?_⟩⟩;rw[cell_of h,<-hu];rw[aU] at hu ⊢;split at hu
  ·rename_i D;simp[D]
  ·cases hu
 have O:∀ lb N,(callFunc 195 #[ir vb 1 1,.slice (some (iu g 1)) lb N]).run prog w=.ok (.value (.bool false)) w:=λlb N=>by
  rw[gX func195 kr kr kr (e:=Extern.SlicesOverlaps.overlaps #[200,200] #[4]) kr,
   Lib.run_overlaps_apart w 200 4 42 underlying200 1 (λw=>tJ (P:=prog) w kr) (iu vb 0) (iu g 1) 1 1 lb N hvb 42 42 1 cap (by simp[World.shape?,hv]) (by simp[World.shape?,hg,hcur]) om (kY hv 0) (kY hv 1)]
  rfl
 have L:(prog.info? 42).map (·.size)=some 1:=kr;obtain⟨i,p⟩:=Ex (splice cur.toList 1 (cur.toList.take n));have A:i.length=cap:=by rw[p,length_splice _ _ _ (by simp;omega),J]
 have v:∀ (W:World) ty dc,W.heap[g]?=w.heap[g]?->(Builtin.copy_ #[200,200] ty #[.slice (some (iu g 1)) n dc,ir g (n+1) cap]).run prog W=.ok (iw n) (W.setRow g i.toArray):=by
  intro W ty dc M;have d:Nat.min (n+1) n=n:=Nat.min_eq_right om;have hlen:(cur.toList.take n).length=Nat.min (n+1) n:=by rw[d];simp;omega
  have h:=run_copy_row (P:=prog) W 200 200 ty 42 g 1 n dc (iu g 0) (n+1) cap cur 42 (cur.toList.take n) underlying200 L (M.trans hg) hlen (λj u D=>by
   rw[bJ,aw,cell_of (M.trans hg)];rw[aU] at D;split at D
   ·simpa using D
   ·cases D) (by rw[hlen,d];omega) h1
  rw[h,p,hlen,d];simp[splice,show (cur.toList.take n).length=n by rw[hlen,d],goInt]
 have y:∀ (W:World) ty,W.heap[g]?=some (.cells i.toArray 42 (0,0))->W.heap[vb]?=w.heap[vb]?->(Builtin.copy_ #[200,200] ty #[ir g (n+1) cap,ir vb 1 1]).run prog W=.ok (iw 1) (W.setRow g (splice i 0 [x]).toArray):=by
  intro W ty M H
  have Y:Cells W (λ_=>True) (ir vb 1 1) 1 1 [x]:=by refine⟨rfl,_,1,rfl,ae _,by unfold maxLen;omega,λh=>(by cases h),.inr ⟨vb,0,rfl,trivial,dC (H.trans hv),λj u hu=>?_⟩⟩;rw[cell_of (H.trans hv),<-hu,aw];simp
  have h:=tI (P:=prog) W 200 200 ty 42 g 0 (n+1) cap i.toArray 42 underlying200 L M _ _ 1 _ Y (λu hu=>by simp at hu;rw[hu];exact hx1) (by rw[show Nat.min 1 (n+1)=1 from dh om];simp;omega);rw[show Nat.min 1 (n+1)=1 from dh om] at h;exact h
 obtain⟨s,f⟩:=Ex (w.drew.setRow g i.toArray);have C:s.heap[g]?=some (.cells i.toArray 42 (0,0)):=by rw[f];exact aJ w.drew g cur _ _ _ hg
 have F:s.heap[vb]?=w.heap[vb]?:=by rw[f];exact aG w.drew _ _ _ hvb
 have G:Below B w s:=by rw[f];have T:Below B w w.drew:=⟨rfl,rfl,rfl,ae _,λ_ _=>rfl⟩;exact below_setRow T hB _
 have l:vn w B x (cur.toList.take n) (.returned (ir g (n+1) cap)) (s.setRow g (splice i 0 [x]).toArray):=by
  have U:=aJ s g _ (splice i 0 [x]).toArray _ _ C;have Q:=a _ _ (n+1) 0 U (by rw[aT,length_splice _ _ _ (by simp;omega),A]) om;have R:(splice i 0 [x]).toArray.toList=splice i 0 [x]:=rfl
  have S:(splice i 0 [x]).take (n+1)=x::cur.toList.take n:=by rw[p];exact Gs _ _ _ om
  rw[R,fA,S,fZ] at Q;refine⟨⟨_,rfl,?_⟩,below_setRow G hB _,λb c t m hb hc=>?_⟩
  rotate_left
  ·have K:b≠g:=by
    rintro rfl;rw[hg] at hb;injection hb with hb;injection hb with e1 e2;rcases hc with hc|hc
    ·exact hc e2.symm
    ·rw[<-e1] at hc;omega
   rw[aG s _ _ _ K,f];exact aG w.drew _ _ _ K
  rw[show (cur.toList.take n).length=n by simp;omega];exact Q.mono (S':=λE=>B<=E) (λE _ e=>by have e:E=g:=e;omega)
 have z:=LH (λty dc=>v w.drew ty dc rfl);rw[<-f] at z;have I:=LH (λty=>y s ty C F);replace l:=LH l;have Z:((0:Int) == (n:Int))=false:=by simp;omega
 unfold maxLen at hmax;clear a v y f C F G p A hg hv h1 hx1 J;go_enter func187,ntmps187
 go_wp2_with (simp only[O])
 refine RA.region (λ_ _=>True) (·=·) [1,1,1,1,1,1,1,1,4] (λ_ _ _=>True) (λq=>q=w.drew) kr trivial (λ_ _ _=>trivial) (λ_ _ _ _ _=>trivial) (λ_ _ h k=>h ▸ k) rfl kr ?_;intro cx
 repeat refine RA.qq ?_
 refine RA.ai (r:=1) (h:=?_);refine RA.tL (y':=.slice (some (iu g 1)) n (cap - 1)) (hr:=λq hp=>by show (Instr.sliceAt _ _ _ _ _).run prog q=_;go_simp;rw[ak om,ah om]) (h:=?_)
 repeat refine RA.qq ?_
 refine RA.tL (y':=ir g (n+1) cap) (hr:=λq hp=>by show (Instr.sliceAt _ _ _ _ _).run prog q=_;go_simp;intro h;omega) (h:=?_);refine RA.bc (iw n) (λq=>q=s) kr rf kr (λ_ _ h k=>h ▸ k) (λq hp hH=>⟨s,by rw[hH];exact RA.v8 rf rf (z.o _ _),trivial,rfl⟩) ?_;refine RA.RA.done rfl (λq X V hH=>?_);clear X V;simp only[RA.RP,cx];rw[hH]
 go_wp2_with (refine Bh rfl (.tmp 80) (.tmp 81) 200 200 rfl _ _ rfl rfl (I.o _) ?_)
 go_ret;exact l.o
theorem Gu {α:Type}(l:List α) (x:α) (vs:List α):(splice (splice l 0 [x]) 1 vs).take (vs.length+1)=x::vs:=by
 have a:splice l 0 [x]=x::l.drop 1:=by rw[splice,dX,bE,gW,aw];rfl
 have b:splice (splice l 0 [x]) 1 vs=x::(vs++(l.drop 1).drop vs.length):=by rw[a,splice,eH,dX,Nat.add_comm 1,eZ];rfl
 rw[b,eH,eG (ae _),bh (ae _)]
theorem Gv {g n:Nat}(hB:B<=w.heap.size) (hs:Cells w (λg'=>g'=g) (ir g n cap) n 1 vs) (hn:0<n) (hn2:n<=1000) (hroom:cap<n+1) (hv:w.heap[vb]?=some (.cells #[x] 42 (0,0)))
  (h1:∀ u ∈ vs,u.oneCell'=true) (hx1:x.oneCell'=true):
  Calls prog 187 #[ir g n cap,iw 0,ir vb 1 1] w (vn w B x vs):=by
 have D:vs.length=n:=by have:=hs.1;omega
 have O:(prog.info? 42).map (·.size)=some 1:=kr;obtain⟨i0,X,Y,Z,L⟩:=cw yB;obtain⟨N,hN⟩:=Ex w.heap.size
 have aa:g<N:=by
  obtain⟨_,a,c,hv,_,_,_,h⟩:=hs;rcases h with h|⟨b,o,e,rfl,hb,_⟩
  ·omega
  ·omega
 have a1:vb<N:=by have:=dC hv;omega
 obtain⟨G,hG⟩:=Ex (grownCap w (n+1) cap 42);have a7:n+1<=G:=hG ▸ eF w (n+1) cap 42;have U:G<=maxLen:=hG ▸ fw w (n+1) cap 42 mx;obtain⟨f,i⟩:=Ex (#[]++Builtin.zeroCells (Value.slice none 0 0).cells (n+1)++Builtin.zeroCells (Value.slice none 0 0).cells (G - (n+1)):Array Value)
 have V:f.size=G:=by rw[i];have e:(Value.slice none 0 0).cells.size=1:=rfl;simp only[fx,fy,e];simp;omega
 obtain⟨F,v⟩:=Ex (w.drew.alloc (.cells f 42))
 have M:∀ ty,(Builtin.append_ #[200,3] ty #[ir g 0 cap,iw ((n:Int)+1)]).run prog w=.ok (ir N (n+1) G) F:=by
  intro ty
  have h:=Lib.run_append_grow_zeros (P:=prog) w 200 3 ty 42 i0 _ .i64 .i64 underlying200 underlying3 X Y (some (iu g 0)) 0 cap [] (by rw[Z];exact gp (P:=prog) w.drew 1 0 (iu g 0) 0 cap [] rfl (by intro j u hu;simp at hu)) (n+1) om om om om (by rw[L];omega) (by rw[L,aw];exact ew om om)
  rw[aw,<-hG,<-i,<-v,<-hN] at h;exact h
 have I:F.heap[N]?=some (.cells f 42 (0,0)):=by rw[v,hN];exact aj w.drew _
 have K:Below N w F:=by rw[v];exact⟨rfl,rfl,rfl,by simp,λk hk=>aB w.drew _ k (by show k<w.heap.size;omega)⟩
 have Q:=(K.block vb a1).trans hv
 have a6:Cells F (λ_=>True) (ir vb 1 1) 1 1 [x]:=by refine⟨rfl,_,1,rfl,ae _,by unfold maxLen;omega,λh=>(by cases h),.inr ⟨vb,0,rfl,trivial,dC Q,λj u hu=>?_⟩⟩;rw[cell_of Q,<-hu,aw];simp
 have W:f.toList.length=G:=by rw[dj,V]
 obtain⟨R,A⟩:=Ex (splice f.toList 0 [x]);have H:R.length=G:=by rw[A,length_splice _ _ _ (by simp;omega),W]
 obtain⟨s,y⟩:=Ex (F.setRow N R.toArray)
 have l:∀ ty dc,(Builtin.copy_ #[200,200] ty #[ir N (n+1) dc,ir vb 1 1]).run prog F=.ok (iw 1) s:=by intro ty dc;have h:=tI (P:=prog) F 200 200 ty 42 N 0 (n+1) dc f 42 underlying200 O I _ _ 1 _ a6 (λu hu=>by simp at hu;rw[hu];exact hx1) (by rw[show Nat.min 1 (n+1)=1 from dh om];omega);rw[show Nat.min 1 (n+1)=1 from dh om,show [x].take 1=[x] from rfl,<-A,<-y] at h;exact h
 have J:s.heap[N]?=some (.cells R.toArray 42 (0,0)):=by rw[y];exact aJ F N f _ _ _ I
 have d:Below N w s:=y ▸ below_setRow K (ae _) _;obtain⟨l2,C⟩:=Ex (splice R 1 vs);obtain⟨S,z⟩:=Ex (s.drew.setRow N l2.toArray)
 have p:∀ ty dc,(Builtin.copy_ #[200,200] ty #[.slice (some (iu N 1)) n dc,ir g n cap]).run prog s.drew=.ok (iw n) S:=by intro ty dc;have h:=tI (P:=prog) s.drew 200 200 ty 42 N 1 n dc R.toArray 42 underlying200 O J _ _ n _ (hs.dB (w':=s.drew) (by have:=d.size;exact this) (λb hb _=>d.block b (by have hb:b=g:=hb;omega))) h1 (by rw[show Nat.min n n=n from gq n];simp;omega);rw[show Nat.min n n=n from gq n,bh om,show R.toArray.toList=R from rfl,<-C,<-z] at h;exact h
 have q:vn w B x vs (.returned (ir N (n+1) G)) S:=by
  have h3:S.heap[N]?=some (.cells l2.toArray 42 (0,0)):=by rw[z];exact aJ s.drew N _ _ _ _ J
  have a8:l2.length=G:=by rw[C,length_splice _ _ _ om,H]
  have e6:l2.take (n+1)=x::vs:=by rw[C,A,<-D];exact Gu _ _ _
  have T:Below N w S:=by rw[z];have h0:Below N w s.drew:=⟨d.os,d.tape,d.output,d.size,d.block⟩;exact below_setRow h0 (ae _) _
  refine⟨⟨_,rfl,?_⟩,T.mono om,λb c t m hb _=>T.block b (by have:=dC hb;omega)⟩
  ·rw[D];refine⟨by simp[D],_,G,rfl,a7,U,λh=>(by cases h),.inr ⟨N,0,rfl,by omega,dC h3,λj u hu=>?_⟩⟩;rw[aw,cell_of h3,<-hu,<-e6,aU];rw[<-e6,aU] at hu;split at hu
   ·rename_i hj;simp[hj]
   ·cases hu
 revert M l p q;refine H4 ?_;intro M l p q;have ad:((0:Int) == (n:Int))=false:=by simp;omega
 have af:(cap:Int)<(n:Int)+1:=om;unfold maxLen at U;clear v y z A C H W a6 Q I J K d i V hG hN X Y Z L O hs hv h1 hx1 D;go_enter func187,ntmps187
 go_wp2_with (first
  | (at_builtin;refine Lib.wpList_append_run _ rfl (.tmp 34) (.tmp 39) 200 3 rfl _ _ rfl rfl _ _ (M.o _) ?_)
  | (refine Bh rfl (.tmp 43) (.tmp 44) 200 200 rfl _ _ rfl rfl (l.o _ _) ?_))
 refine RA.region (λ_ _=>True) (·=·) [1,1,1,1,1,1,1,1,4] (λ_ _ _=>True) (λE=>E=s.drew) kr trivial (λ_ _ _=>trivial) (λ_ _ _ _ _=>trivial) (λ_ _ h k=>h ▸ k) rfl kr ?_;intro cx
 repeat refine RA.qq ?_
 refine RA.ai (r:=1) (h:=?_);refine RA.tL (y':=.slice (some (iu N 1)) n (G - 1)) (hr:=λE hp=>by show (Instr.sliceAt _ _ _ _ _).run prog E=_;go_simp;rw[ak om,ah om]) (h:=?_)
 repeat refine RA.qq ?_
 refine RA.tL (y':=ir g n cap) (hr:=λE hp=>by show (Instr.sliceAt _ _ _ _ _).run prog E=_;go_simp) (h:=?_);refine RA.bc (iw n) (λE=>E=S) kr rf kr (λ_ _ h k=>h ▸ k) (λE hp hH=>⟨S,by rw[hH];exact RA.v8 rf rf (p.o _ _),trivial,rfl⟩) ?_;refine RA.RA.done rfl (λE hR hF hH=>?_);clear hR hF;simp only[RA.RP,cx];rw[hH];go_wp2;go_ret;exact q.o
theorem Gw {sv:Value}{n:Nat}(hB:B<=w.heap.size) (hs:w.ownsRow B 42 1 sv n vs) (hn:0<n) (hn2:n<=1000) (hv:w.heap[vb]?=some (.cells #[x] 42 (0,0)))
  (h1v:∀ u ∈ vs,u.oneCell'=true) (hx1:x.oneCell'=true):
  Calls prog 187 #[sv,iw 0,ir vb 1 1] w (vn w B x vs):=by
 have e:=Cells.own hs;rcases hs.2 with ⟨_,j⟩|⟨g,cap,cur,rfl,hb,hg,f,d,c,a⟩
 ·omega
 ·by_cases b:n+1<=cap
  ·have h:=Gt hb hg om hn b d (by rintro rfl;rw[hg] at hv;injection hv with hv;injection hv with e1 _;rw[e1] at c;simp at c;omega) hv (by rw[aY] at a;rw[a];exact h1v) hx1
   rw[aY] at a;rw[a] at h;exact h
  ·exact Gv hB (e.mono (λi _ h=>by have:=h.1;simp[Value.ownBlock] at this;omega)) hn hn2 om hv h1v hx1
variable {key:iz}{S:Nat->Prop}
def oM (key:iz) (parts:List iz):iz:=qi [np key 92 64,qi (np key 54 64::parts)]
theorem rk {parts:List iz}:(oM key parts).length=32:=wS
theorem GD {parts:List iz}:oM key parts=qi [np key 92 64,qi (np key 54 64::parts)]:=rfl
attribute [irreducible] oM
structure Kp (n:Nat) (a b:World):Prop where
 below:Below n a b
 dB:∀ (g:Nat) (c:Array Value) (t:TypeId) (m:Nat×Nat),a.heap[g]?=some (.cells c t m)->(t≠42\/c.size=1)->b.heap[g]?=a.heap[g]?
theorem Kp.refl (n:Nat) (a:World):Kp n a a:=⟨ag _ _,λ_ _ _ _ _ _=>rfl⟩
theorem Kp.trans {n:Nat}{a b c:World}(h:Kp n a b) (k:Kp n b c):Kp n a c:=⟨h.below.trans k.below,λg cs t m hg hc=>(k.dB g cs t m ((h.dB g cs t m hg hc).trans hg) hc).trans (h.dB g cs t m hg hc)⟩
theorem Kp.ki {n:Nat}{a b:World}(hn:n<=a.heap.size) (h:aA No a b):Kp n a b:=⟨(aA.no h).mono hn,λg _ _ _ hg _=>h.block g (dC hg) id⟩
theorem GG:(prog.info? 209).map (·.size)=some 32:=kr
theorem th {b:Nat}{l:iz}(h:ke w b 209 (List.replicate 32 0)) (hl:l.length=32):
  (Instr.storeAt 209 (iq b) (.agg (aQ l).toArray)).run prog w=.ok () (w.setRow b (aQ l).toArray):=by
 simp only[Instr.storeAt,Instr.sureAddr,aM,Sem.run_pure,Result.andThen];rw[gi w b 209 209 _ _ h (by rw[GG];simp[km,hl]) (by simp[km,hl]) (zZ l)]
theorem kU {base base':Nat}{e:TypeId}{size:Nat}{v:Value}{k:Nat}{xs:List Value}(h:w.ownsRow base e size v k xs) (hb:base'<=base):w.ownsRow base' e size v k xs:=by
 refine⟨h.1,?_⟩;rcases h.2 with h|⟨g,cap,cur,h1,h2,h3⟩
 ·exact .inl h
 ·exact .inr ⟨g,cap,cur,h1,am hb h2,h3⟩
theorem GH {parts:List iz}(h:∀ j v,vs[j]?=some v->Bytes w S v (parts.getD j [])):∀ u ∈ vs,u.oneCell'=true:=by intro u hu;obtain⟨j,b⟩:=cM hu;obtain⟨a,c,rfl,_⟩:=(h j u b).shape;rfl
theorem kP.cons {pv x:Value}{part:iz}{parts:List iz}(hc:Cells w S pv (vs.length+1) 1 (x::vs)) (hl:vs.length=parts.length) (hx:Bytes w S x part) (h:∀ j v,vs[j]?=some v->Bytes w S v (parts.getD j [])):kP w S pv (part::parts):=by
 refine⟨x::vs,by rw[bj,<-hl];exact hc,λj v hv=>?_⟩;cases j with
 | zero=>simp at hv;subst hv;simpa using hx
 | succ j=>simp at hv;simpa using h j v hv
theorem GJ {F:Nat->Prop}{p s:Nat}{iv ov:Value}(hk:td w F p s iv ov key){pv:Value}{parts:List iz}(hp:kP w S pv parts) (h0:0<parts.length) (hfew:parts.length<=7) (hlen:∀ x ∈ parts,x.length<=100000):
  Calls prog 176 #[iq p,pv] w λe w'=>e=.returned (.agg (aQ (oM key parts)).toArray)/\Below w.heap.size w w':=by
 obtain⟨n,hn⟩:=Ex w.heap.size;have D:=LH hn;obtain⟨E,O⟩:=Ex (np key 54 64);obtain⟨f,t⟩:=Ex (np key 92 64);have a7:E.length=64:=by rw[O,wU]
 have H:f.length=64:=by rw[t,wU]
 obtain⟨h,hh⟩:=Ex (qi (E::parts));have af:h.length=32:=hh ▸ wS;obtain⟨T,hT⟩:=Ex (qi [f,h]);have b3:T.length=32:=hT ▸ wS;have K:T=oM key parts:=by rw[hT,hh,O,t,GD]
 have X:=hk.Bg;have z:=hk.o;rw[<-O] at X;rw[<-t] at z;have c8:=dC hk.box;have A:=hk.sum;have c9:=dC A;obtain⟨ia,ic,rfl,ba,bl⟩:=X.shape;obtain⟨oa,oc,rfl,bz,bB⟩:=z.shape;have g0:=cell_of hk.box 0;have g1:=cell_of hk.box 1;have g2:=cell_of hk.box 2;have c0:w.cell? (iu p 0)=some (iq s):=g0;have c1:w.cell? (iu p 1)=some (.slice ia E.length ic):=g1;have c2:w.cell? (iu p 2)=some (.slice oa f.length oc):=g2;clear g0 g1 g2;rw[a7] at c1 ba;rw[H] at c2 bz;unfold maxLen at bl bB;obtain⟨vs,M,b2⟩:=hp.row;have b6:vs.length=parts.length:=by have:=M.1;omega
 have y:=GH b2;rw[<-b6] at M hfew h0;obtain⟨pa,pc,rfl,bC,bR⟩:=M.shape;unfold maxLen at bR;obtain⟨m,hm⟩:=Ex vs.length
 have I:∀ x ∈ E::parts,x.length<=100000:=by
  intro x hx;rcases bi.1 hx with rfl|hx
  ·omega
  ·exact hlen x hx
 have J:∀ x ∈ [f,h],x.length<=100000:=by intro x hx;simp at hx;rcases hx with rfl|rfl<;>omega
 have W:∀ c,Below n w c->n<=c.heap.size->Calls prog 188 #[.slice pa m pc] c λe w'=>∃ v',e=.returned v'/\w'.ownsRow c.heap.size 42 1 v' m vs/\Below c.heap.size c w':=λc d hs=>by have h:=M.dB (w':=c) (D.o ▸ hs) (λb _ hb=>d.block b (by have:=D.o;omega));rw[hm];exact Gr h y om
 have Z:∀ c,Below n w c->n<=c.heap.size->∀ (S':Nat->Prop) v,kP c S' v (E::parts)->Calls prog 186 #[iq s,v] c λe w'=>e=.returned (.agg (aQ h).toArray)/\Below c.heap.size c w':=λc d _ S' v hv=>by rw[hh];exact Bb (A.dB (d.block s (by have:=D.o;omega))) hv (by simp;omega) I
 have ax:∀ c,Below n w c->n<=c.heap.size->∀ (S':Nat->Prop) v,kP c S' v [f,h]->Calls prog 186 #[iq s,v] c λe w'=>e=.returned (.agg (aQ T).toArray)/\Below c.heap.size c w':=λc d _ S' v hv=>by rw[hT];exact Bb (A.dB (d.block s (by have:=D.o;omega))) hv sm J
 have U:∀ c,Below n w c->n<=c.heap.size->Bytes c (λ_=>True) (.slice ia 64 ic) E:=λc d hs=>by have h:=(X.dB (w':=c) (D.o ▸ hs) (λb _ hb=>d.block b (by have:=D.o;omega))).mono (S':=λ_=>True) (λ_ _ _=>trivial);show Cells _ _ _ E.length 1 _;have e:Cells c (λ_=>True) (.slice ia E.length ic) E.length 1 (aQ E):=h;rw[a7] at e ⊢;exact e
 have aa:∀ c,Below n w c->n<=c.heap.size->Bytes c (λ_=>True) (.slice oa 64 oc) f:=λc d hs=>by have h:=(z.dB (w':=c) (D.o ▸ hs) (λb _ hb=>d.block b (by have:=D.o;omega))).mono (S':=λ_=>True) (λ_ _ _=>trivial);show Cells _ _ _ f.length 1 _;have e:Cells c (λ_=>True) (.slice oa f.length oc) f.length 1 (aQ f):=h;rw[H] at e ⊢;exact e
 have V:∀ c,Below n w c->n<=c.heap.size->∀ j v,vs[j]?=some v->Bytes c (λ_=>True) v (parts.getD j []):=λc d hs j v hv=>(Cells.dB (b2 j v hv) (D.o ▸ hs) (λb _ hb=>d.block b (by have:=D.o;omega))).mono (S':=λ_=>True) (λ_ _ _=>trivial)
 have C:∀ (c:World) j x,Below n w c->w.cell? (iu p j)=some x->c.cell? (iu p j)=some x:=λc j x d hc=>by rw[az (w:=w) (d.block p (by have:=D.o;omega))];exact hc
 have c7:(prog.info? 209).map (·.size)=some 32:=kr;revert K c0 c1 c2 y W Z ax U;refine H9 ?_;intro K c0 c1 c2 y W Z ax U;revert aa V C;refine H3 ?_;intro aa V C;clear A X z hk hp M b2 hlen I J hT hh O t;rw[<-hm] at hfew h0 bC ⊢;replace hm:=LH hm;obtain⟨wA,a1⟩:=Ex (w.alloc (.cells (aQ (List.replicate 32 0)).toArray 209));have sA:wA.heap.size=n+1:=by rw[a1,hn];simp
 have bA:Below n w wA:=by rw[a1,hn];exact (ag _ _).alloc (ae _) _
 have xA:ke wA n 209 (List.replicate 32 0):=by rw[a1,hn];exact aj w _
 obtain⟨wD,a6⟩:=Ex wA.drew;have sD:wD.heap.size=n+1:=by rw[a6];exact sA
 have bD:Below n w wD:=by rw[a6];exact⟨bA.os,bA.tape,bA.output,bA.size,bA.block⟩
 have xD:ke wD n 209 (List.replicate 32 0):=by rw[a6];exact xA
 have q:∀ c,Kp n wD c->Below n w c/\n<=c.heap.size:=λc d=>⟨bD.trans d.below,by have:=d.below.size;omega⟩
 have Q:∀ c,Kp n wD c->n<c.heap.size:=λc d=>by have:=d.below.size;omega
 have u:∀ c,Kp n wD c->ke c n 209 (List.replicate 32 0):=λc d=>xD.dB (d.dB n _ _ _ xD (.inl de))
 subst a6;subst a1;revert xA q Q u;refine H4 ?_;intro xA q Q u;clear xD bA;go_enter func176,ntmps176
 go_wp2_with fail
 rw[<-hn];refine RA.oz (Kp n) (λa b=>n<=a.heap.size/\aA No a b) [1,1,1,1,1,3,1,1,1,1,2,3,4,2,7] [14] (λi v c=>if i=10 then ∃ b,v=ir b 1 1/\n<=b/\c.heap[b]?=some (.cells #[.slice ia 64 ic] 42 (0,0)) else ∃ b,v=iq b/\n<b/\ke c b 209 (List.replicate 32 0)) (λ_=>True) kr (Kp.refl _ _) (λ_ _ h=>Kp.ki h.1 h.2) (λ_ _ _ h k=>h.trans k) (λ_ _ _ k=>k) trivial kr kr ?_;intro cx
 repeat refine RA.qq ?_
 refine RA.fk prog p 0 (h:=?_);refine RA.lk prog (iq s) (hc:=λc hp=>by exact C.o _ 0 _ (q.o _ hp.1).1 c0.o) (h:=?_)
 repeat refine RA.qq ?_
 refine RA.qc (P:=prog) [.slice pa m pc] (λ_ _=>True) (λv c=>c.ownsRow n 42 1 v m vs) (hs:=λ_ _ _ _ _=>trivial) (he:=λv a b h l=>dE l (λg hg=>h.2.block g (l.lt g hg).2 id)) (hr:=λc hp _=>(W.o c (q.o _ hp.1).1 (q.o _ hp.1).2).mono (by rintro e N ⟨v',rfl,h1,l⟩;exact⟨v',rfl,Kp.ki (q.o _ hp.1).2 (aA.dD l _),trivial,kU h1 (q.o _ hp.1).2⟩)) (hn:=λu5=>?_)
 repeat refine RA.qq ?_
 refine RA.fk prog p 1 (h:=?_);refine RA.lk prog (.slice ia 64 ic) (hc:=λc hp=>by exact C.o _ 1 _ (q.o _ hp.1).1 c1.o) (h:=?_)
 refine RA.fr (hs:=λv a b h l=>by
  obtain⟨b1,d,h4,G⟩:=l
  exact⟨b1,d,h4,(h.dB b1 _ _ _ G (.inr rfl)).trans G⟩) (hr:=λc hp=>⟨ir c.heap.size 1 1,c.alloc (.cells #[.slice ia 64 ic] 42),by show (execOp _ _).run prog c=_;go_simp,⟨(q.o _ hp.1).2,(aA.refl _ _).alloc _⟩,c.heap.size,rfl,(q.o _ hp.1).2,aj c _⟩) (h:=λbW=>?_)
 refine RA.qc (P:=prog) [u5,iw 0,bW] (λ_ _=>True) (λv c=>kP c (λ_=>True) v (E::parts)) (hs:=λ_ _ _ _ _=>trivial) (he:=λv a b h l=>l.dB h.2.size (λg _ hg=>h.2.block g hg id)) (hr:=λc hp hH=>by obtain⟨b,rfl,b7,B⟩:=hp.fact 0 rfl kr;refine (Gw (q.o _ hp.1).2 hH h0 om B y.o rfl).mono ?_;rintro e N ⟨⟨v,rfl,h1⟩,l,d⟩;have Y:=q.o _ (hp.1.trans ⟨l,d⟩);exact⟨v,rfl,⟨l,d⟩,trivial,kP.cons (h1.mono (λ_ _ _=>trivial)) b6 (U.o _ Y.1 Y.2) (V.o _ Y.1 Y.2)⟩) (hn:=λc5=>?_)
 refine RA.kc (P:=prog) [iq s,c5] (.agg (aQ h).toArray) (hr:=λc hp hH=>(Z.o c (q.o _ hp.1).1 (q.o _ hp.1).2 _ _ hH).mono (by rintro e N ⟨rfl,l⟩;exact⟨rfl,Kp.ki (q.o _ hp.1).2 (aA.dD l _),trivial⟩)) (hn:=?_)
 refine RA.fr (hs:=λv a b h l=>by
  obtain⟨b1,d,h4,G⟩:=l
  exact⟨b1,d,h4,(h.dB b1 _ _ _ G (.inl de)).trans G⟩) (hr:=λc hp=>⟨iq c.heap.size,c.alloc (.cells (aQ (List.replicate 32 0)).toArray 209),by show (execOp _ _).run prog c=_;go_simp;rfl,⟨(q.o _ hp.1).2,(aA.refl _ _).alloc _⟩,c.heap.size,rfl,Q.o _ hp.1,aj c _⟩) (h:=λc6=>?_)
 refine RA.lr (λN=>∃ b,c6=iq b/\n<b/\ke N b 209 h/\Below n w N/\n<=N.heap.size/\ke N n 209 (List.replicate 32 0)) (he:=λa b h k=>by
  obtain⟨b1,h1,l,d,h4,G,h6⟩:=k;exact⟨b1,h1,l,d.dB (h.2.block b1 (dC d) id),h4.trans ((aA.no h.2).mono G),am G h.2.size,h6.dB (h.2.block n (dC h6) id)⟩) (hr:=λc an _=>by
  have hp:=an.first kr;obtain⟨b1,rfl,h4,G⟩:=hp.fact 0 rfl kr;have b5:=q.o _ hp.1;have ay:=th G af;refine⟨c.setRow b1 (aQ h).toArray,RA.kL rf rf ay,b1,rfl,h4,G.setRow _,below_setRow b5.1 om _,by simpa [World.setRow] using b5.2,(u.o _ hp.1).dB (aG _ _ _ _ om)⟩) (hn:=?_)
 refine RA.RA.kZ (λN hH=>?_);simp only[RA.RP,cx];obtain⟨b,rfl,b7,B,a8,b4,R⟩:=hH;have b8:=dC B;revert B a8 R;refine H3 ?_;intro B a8 R;clear Q u q Z W U V;go_wp2
 have r:∀ c,aA No N.drew c->Below n w c/\n<=c.heap.size/\ke c b 209 h/\ke c n 209 (List.replicate 32 0):=λc k=>by have k':aA No N c:=⟨k.os,k.tape,k.output,k.size,k.block⟩;exact⟨a8.o.trans ((aA.no k').mono b4),am b4 k.size,B.o.dB (k'.block b b8 id),R.o.dB (k'.block n (dC R.o) id)⟩
 replace r:=LH r;refine RA.rt (aA No) [1,1,1,1,1,1,1,1,1,3,4,7] [11] (λ_=>True) trivial (λ_=>aA.refl _ _) (λ_ _ _ h k=>h.trans k) (h:=?_);intro cx
 repeat refine RA.qq ?_
 refine RA.fk prog p 0 (h:=?_);refine RA.lk prog (iq s) (hc:=λc hp=>by exact C.o _ 0 _ (r.o _ hp.1).1 c0.o) (h:=?_)
 repeat refine RA.qq ?_
 refine RA.fk prog p 2 (h:=?_);refine RA.lk prog (.slice oa 64 oc) (hc:=λc hp=>by exact C.o _ 2 _ (r.o _ hp.1).1 c2.o) (h:=?_);refine RA.qU (y':=ir b 32 32) (hr:=λc hp=>by show (Instr.sliceAt _ _ _ _ _).run prog c=_;go_simp) (h:=?_)
 refine RA.bq (λv c=>kP c (λ_=>True) v [f,h]) (hs:=λv a b h l=>l.dB h.size (λg _ hg=>h.block g hg id)) (he:=λ_ _ _ _ _=>trivial) (hr:=(λc hp _=>by
  obtain⟨k1,k2,k3,k4⟩:=r.o _ hp.1;have hc:=mC c #[.slice oa 64 oc,ir b 32 32] 42 2 1 rfl mx;have k5:aA No c (c.alloc (.cells #[.slice oa 64 oc,ir b 32 32] 42)):=(aA.refl _ _).alloc _;have o1:=aa.o _ (k1.trans ((aA.no k5).mono k2)) (am k2 k5.size);have o2:=Bl (k3.dB (k5.block b (dC k3) id)) (by rw[af];unfold maxLen;omega);rw[af] at o2;refine⟨ir c.heap.size 2 2,_,?_,k5,kP.cons (vs:=[ir b 32 32]) hc rfl o1 (λj v hv=>?_),trivial⟩
  ·clear hc k5 o1 o2;show (execOp _ _).run prog c=_;go_simp
  ·cases j with
   | zero=>simp at hv;subst hv;exact o2
   | succ j=>simp at hv)) (hn:=λu9=>?_)
 refine RA.kc (P:=prog) [iq s,u9] (.agg (aQ T).toArray) (hr:=λc hp hH=>(ax.o c (r.o _ hp.1).1 (r.o _ hp.1).2.1 _ _ (hp.fact 0 rfl kr)).mono (by rintro e w5 ⟨rfl,l⟩;exact⟨rfl,aA.dD l _,trivial⟩)) (hn:=?_)
 refine RA.lr (λw5=>ke w5 n 209 T/\Below n w w5) (hr:=λc an _=>by obtain⟨k1,k2,k3,k4⟩:=r.o _ (an.first kr).1;exact⟨_,RA.kL rf rf (th k4 b3),k4.setRow _,below_setRow k1 (ae _) _⟩) (hn:=?_)
 refine RA.RA.kZ (λw5 hH=>?_);simp only[RA.RP,cx];obtain⟨HA,ad⟩:=hH;replace ad:=LH ad;have L:(prog.info? 209).map (·.size)=some T.length:=by rw[b3];kernel_rfl
 have bp:=LH (mY (P:=prog) HA underlying209 L);have ay:=LH (sj (P:=prog) HA L);replace L:=LH L;replace HA:=LH HA
 go_wp2_with (first|(refine kQ rfl 209 _ rfl _ _ rfl bp.o ?_)|(refine kI rfl 209 _ _ rfl _ _ rfl rfl ay.o ?_))
 refine aI (bd results176 _ _ n 209 _ (0,0) _ rfl HA.o underlying209 rfl (by rw[L.o];simp[km])) rfl ⟨by rw[K.o],D.o ▸ ad.o⟩
end Go.Proofs.YthmcbgidehjlbaaGreat.Fd

/-
 Parts of the proof. No condition beyond what each theorem names.
-/
import Derived.Lib.Agree
import Derived.Test.YthmcbgidehjlbaaGreatFrAc
import Derived.Test.YthmcbgidehjlbaaGreatFrAg
import Derived.Test.YthmcbgidehjlbaaGreatFrAl
set_option maxHeartbeats 8000000
set_option maxRecDepth 1000000
namespace Go.Proofs.YthmcbgidehjlbaaGreat.Fd
open _root_.Go.Proofs.Tryz
open Go Go.RowKit K
theorem yp (w:World):Calls prog 56 #[.slice none 0 0] w λe w'=>e=.returned (.slice none 0 0)/\w=w':=by have he:=Lib.run_eql_slice_nil (P:=prog) w 42 5 none 0 0 0 0 underlying42;go_enter func56,ntmps56;go_wp2;go_ret;exact⟨rfl,rfl⟩
def yq (w:World) (v:Value) (n:Nat) (T:TypeId) (sz:Nat) (xs:List Value) (e:Ending) (w':World):Prop:=∃ v',e=.returned v'/\w'.ownsRow w.heap.size T sz v' n xs/\Below w.heap.size w w'/\(v'=.slice none 0 0->v=.slice none 0 0)
theorem q0 {w:World}{S:Nat->Prop}{v:Value}{l:iz}(hb:Bytes w S v l) (hl:l.length<=140737488355328):
  Calls prog 56 #[v] w (yq w v l.length 5 1 (aQ l)):=by
 obtain⟨a,cap,hv,h1,f,g⟩:∃ a cap,v=.slice a l.length cap/\l.length<=cap/\cap<=maxLen/\(a=none->cap=0):=by obtain⟨_,a,cap,hv,h1,f,g,_⟩:=hb;exact⟨a,cap,hv,h1,f,g⟩
 cases a with
 | none=>obtain rfl:=g rfl;have i:l=[]:=cH om;subst i;obtain rfl:v=.slice none 0 0:=hv;exact (yp w).mono λe w' ⟨h1,f⟩=>⟨_,h1,aS _ _ _ _,by subst f;exact ag _ _,λ_=>rfl⟩
 | some ad=>
  have d:=ch (base:=w.heap.size) (e:=5) (size:=1) w #[] 0 (ae _) mx rfl;have c:Cells (w.alloc (.cells #[] 5)) S v l.length 1 (aQ l):=hb.dB sm (λb _ hb=>aB w _ b hb);subst hv;have he:=Lib.run_eql_slice_nil (P:=prog) w 42 5 (some ad) l.length cap 0 0 underlying42;have H:=LH c;clear c hb;have j:=LH hl;clear hl;go_enter func56,ntmps56
  go_wp2_with (at_builtin;(refine K.append rfl _ _ 42 rfl w.heap.size 5 (iy 0) 1 1 underlying42 nu rfl de _ 0 [] rfl d S _ l.length (aQ l) rfl H.o (nJ l) ?m ?b sm ?k))
  case m=>have:=j.o;unfold maxLen;omega
  case b=>have:=j.o;omega
  case k=>intro v' w' p hg n _;go_wp2;go_ret;refine⟨_,rfl,by simpa using p,(((ag _ _).alloc (ae _) _).grown hg sm (λk hk=>by simp[Value.ownBlock] at hk;omega)),λh=>absurd h n⟩
theorem Az {w:World}{S:Nat->Prop}{v:Value}{b:iz}(hb:Bytes w S v b) (hl:b.length<=1000000):
  Calls prog 37 #[v] w λe w'=>∃ p bv,e=.returned (iq p)/\w.heap.size<=p/\Fo w' (λg=>w.heap.size<=g) p bv (.slice none 0 0) b 0 []/\Below w.heap.size w w':=by
 have hc:=LH (q0 hb om);go_enter func37,ntmps37
 go_wp2_with fail
 refine hc.o.mono ?_;rintro e f ⟨bv,rfl,d,c,_⟩;have i:=LH (show Bytes f (λg=>w.heap.size<=g) bv b from (Cells.own d).mono (λ_ _ h=>h.2));have l:=LH d;have a:=LH c;obtain⟨m,cap,rfl,j,k⟩:=i.o.shape;clear d c;go_wp2;go_ret;refine⟨f.heap.size,_,rfl,a.o.size,⟨aj f _,a.o.size,Cells.dB i.o sm (λg _ hg=>aB _ _ _ hg),hl,by omega,Cells.nil _ _ 3,by simp⟩,a.o.alloc a.o.size _⟩
theorem wI (n:Nat):(madeCells #[iy 0] n).toList=aQ (List.replicate n 0):=by rw[gS];simp[aQ,u8]
def kR (w:World) (p:Nat) (c t:Option Addr):Prop:=w.heap[p]?=some (.cells #[.pointer c,.pointer t] 127 (0,0))
theorem AA (t:Option Addr) (w:World):Calls prog 36 #[.pointer t] w λe w'=>∃ p,e=.returned (iq p)/\w.heap.size<=p/\kR w' p none t/\Below w.heap.size w w':=by go_enter func36,ntmps36;go_wp2;go_ret;exact⟨w.heap.size,rfl,ae _,aj w _,(ag _ _).alloc (ae _) _⟩
theorem AD {w:World}{p:Nat}{c t:Option Addr}(h:kR w p c t):Calls prog 137 #[iq p] w λe w'=>e=.returned (.bool c.isSome)/\w=w':=by
 have b:=cell_of h 0;have h1:w.cell? (iu p 0)=some (.pointer c):=b;clear b;replace h:=LH h;cases c with
 | none=>go_enter func137,ntmps137;go_wp2;go_ret;exact⟨rfl,rfl⟩
 | some a=>go_enter func137,ntmps137;go_wp2;go_ret;exact⟨rfl,rfl⟩
end Go.Proofs.YthmcbgidehjlbaaGreat.Fd
namespace Go.Proofs.YthmcbgidehjlbaaGreat.Fd
open Go Go.RowKit K
structure Mf (w:World) (p:Nat) (t:Option Addr) (m k:Nat):Prop where
 box:w.heap[p]?=some (.cells #[.pointer t,.map (some m),.map (some k),iw 0,iw 0] 281 (0,0))
 places:w.heap[m]?=some (.map #[] 0)
 keys:w.heap[k]?=some (.map #[] 0)
end Go.Proofs.YthmcbgidehjlbaaGreat.Fd
namespace Go.Proofs.YthmcbgidehjlbaaGreat.Fd
open _root_.Go.Proofs.Tryz
open Go Go.RowKit K
variable {w:World}{S F:Nat->Prop}{key:iz}{p1 p2:Nat}{k1 k2:List UInt32}
theorem tU {kv:Value}(hb:Bytes w S kv key) (hl:key.length=16\/key.length=32):
  Calls prog 189 #[kv] w λe w'=>∃ p tb kv',e=.returned (.tuple #[iq p,iw 0])/\nB w' (λg=>w.heap.size<=g) p tb kv' (sched key)/\Below w.heap.size w w':=by
 rcases hl with h|h
 ·exact Fk hb h
 ·exact Fl hb h
theorem vj {a:Option Addr}{cap:Nat}{l:iz}(h:Bytes w S (.slice a l.length cap) l) (lo hi:Nat) (h1:lo<=hi) (h2:hi<=l.length):Bytes w S (sliced a lo hi cap 1) ((l.drop lo).take (hi - lo)):=by
 have b:=Cells.sliced h lo hi h1 h2;have e:((l.drop lo).take (hi - lo)).length=hi - lo:=by simp;omega
 unfold Bytes;rw[e]
 simpa [aQ,eO,fm] using b
theorem AE {P:Program}{fn:Func}{p q:Tmp}{ty:TypeId}(h:fn.results=#[.cell p ty,.tmp q]) (tmps:Array Value) (w:World){a:Addr}{u v:Value}
  (hp:tmps.getD p undef=.pointer (some a)) (hq:tmps.getD q undef=v) (h0:(loadVar ty a).run P w=.ok u w):(results fn tmps).run P w=.ok (.tuple #[u,v]) w:=by
 have b:tmps[p]?.getD undef=.pointer (some a):=by simpa using hp
 have c:tmps[q]?.getD undef=v:=by simpa using hq
 simp[results,h,b,c,asAddr,h0]
def mR (w:World) (F:Nat->Prop) (p1 p2:Nat) (k1 k2:List UInt32):Prop:=(∃ t v,nB w F p1 t v k1)/\∃ t v,nB w F p2 t v k2
theorem mR.dB {w':World}(h:mR w F p1 p2 k1 k2) (hs:w.heap.size<=w'.heap.size) (hk:∀ g,F g->g<w.heap.size->w'.heap[g]?=w.heap[g]?):mR w' F p1 p2 k1 k2:=by obtain⟨⟨t,v,h1⟩,b,v',a⟩:=h;exact⟨⟨t,v,h1.dB hs hk⟩,b,v',a.dB hs hk⟩
theorem nB.mono {G:Nat->Prop}{p b:Nat}{kv:Value}{ks:List UInt32}(h:nB w F p b kv ks) (hs:∀ g,F g->G g):nB w G p b kv ks:=⟨h.box,hs _ h.own,h.rM,hs _ h.yk,h.mL,h.keys.mono (λ_ _=>hs _)⟩
theorem mR.mono {G:Nat->Prop}(h:mR w F p1 p2 k1 k2) (hs:∀ g,F g->G g):mR w G p1 p2 k1 k2:=by obtain⟨⟨t,v,h1⟩,b,v',a⟩:=h;exact⟨⟨t,v,h1.mono hs⟩,b,v',a.mono hs⟩
def nY (key:iz):List UInt32:=sched (key.take (key.length / 2))
def nZ (key:iz):List UInt32:=sched (key.drop (key.length / 2))
theorem Fp {kv:Value}(hb:Bytes w S kv key) (hl:key.length=32) (z:Nat) (hz:z<=1099511627776):
  Calls prog 177 #[kv,iw z] w λe w'=>∃ p1 p2,e=.returned (.tuple #[.agg #[iq p1,iq p2],iw 0])/\mR w' (λg=>w.heap.size<=g) p1 p2 (nY key) (nZ key)/\Below w.heap.size w w':=by
 obtain⟨a,cap,rfl,a1,a6⟩:=Cells.shape hb;unfold maxLen at a6;have l:=vj hb 0 16 om om;have m:=vj hb 16 32 om om;rw[hl] at a1 ⊢;have e1:(key.drop 0).take (16 - 0)=key.take (key.length / 2):=by simp[hl]
 have e2:(key.drop 16).take (32 - 16)=key.drop (key.length / 2):=by rw[bh (by simp;omega),hl]
 rw[e1] at l;rw[e2] at m;have I:(key.take (key.length / 2)).length=16:=by simp;omega
 have J:(key.drop (key.length / 2)).length=16:=by simp;omega
 have E:∀ c,(Instr.sliceAt 42 (.slice a 32 cap) none (some (iw 16)) none).run prog c=.ok (sliced a 0 16 cap 1) c:=λc=>vV (P:=prog) (s:=1) c underlying42 kr a 32 cap 16 om
 have H:∀ c,(Instr.sliceAt 42 (.slice a 32 cap) (some (iw 16)) none none).run prog c=.ok (sliced a 16 32 cap 1) c:=λc=>rH (P:=prog) (s:=1) c underlying42 kr a 32 cap 16 om
 obtain⟨v1,R⟩:=Ex (sliced a 0 16 cap 1);obtain⟨v2,T⟩:=Ex (sliced a 16 32 cap 1);rw[<-R] at E l;rw[<-T] at H m;clear R T e1 e2 hb;have n1:=λ(c:World) (h:Bytes c S v1 (key.take (key.length / 2)))=>tU h om
 have n2:=λ(c:World) (h:Bytes c S v2 (key.drop (key.length / 2)))=>tU h om
 obtain⟨N,B⟩:=Ex (nY key);obtain⟨K2,C⟩:=Ex (nZ key);rw[<-B,<-C];rw[show sched (key.take (key.length / 2))=N from B.symm] at n1;rw[show sched (key.drop (key.length / 2))=K2 from C.symm] at n2;clear B C;refine G7 l m n1 n2 hl I J ?_;clear l m n1 n2 hl I J;intro l m n1 n2 hl I J;obtain⟨n,hn⟩:=Ex w.heap.size;have x:=LH hn;rw[<-hn];clear hn;go_enter func177,ntmps177
 go_wp2_with fail
 refine (n1.o _ (l.o.dB sm (λg _ hg=>aB _ _ _ hg))).mono ?_;rintro e K ⟨p1,t1,u1,rfl,hc,D⟩
 have d:K.heap[n]?=some (.cells #[.pointer none,.pointer none] 261 (0,0)):=by rw[D.block n (by simp[x.o]),x.o];exact aj w _
 have V:Below n w K:=(((ag _ _).alloc (ae _) _).trans (D.mono sm):Below w.heap.size w K) |> λh=>x.o ▸ h
 have a7:n<K.heap.size:=dC d;have af:n<p1:=by have:=hc.own;simp at this;have:=x.o;omega
 have q:=cell_of d 0;have U:=kY d 0;have O:K.cell? (iu n 0)=some (.pointer none):=q;clear q;rw[<-x.o];have hC:=LH hc;have L:=LH V;have M:=LH d;clear hc D V d
 go_wp2_with fail
 have f:=Ex (K.setCell (iu n 0) (iq p1));obtain⟨w2,f⟩:=f;rw[<-f];have y:Below n w w2:=f ▸ L.o.setCell (p:=iu n 0) (ae n) _
 have i:w2.heap[n]?=some (.cells #[iq p1,.pointer none] 261 (0,0)):=by rw[f,lz M.o];rfl
 have X:nB w2 (λg=>n<g) p1 t1 u1 N:=(hC.o.mono (G:=λg=>n<g) (λg hg=>by simp at hg;have:=x.o;omega)).dB (by rw[f];simp) (λg hg _=>by rw[f];exact kD _ _ _ (by simp;omega));have a8:n<w2.heap.size:=dC i;clear f O U a7;refine (n2.o w2 (m.o.dB (by have:=x.o;omega) (λg _ hg=>y.block g (by have:=x.o;omega)))).mono ?_;rintro e c ⟨p2,t2,u2,rfl,hc,r⟩;have b:=(r.block n a8).trans i;have Y:=X.dB r.size (λg _ hg=>r.block g hg);have Z:=hc.mono (G:=λg=>n<g) (λg hg=>by omega);have W:Below n w c:=y.trans (r.mono om);have an:n<c.heap.size:=dC b;have q:=cell_of b 0;have Q:=cell_of b 1;have ad:=kY b 1;have U:=kY b 0;have O:c.cell? (iu n 0)=some (iq p1):=q;have aa:c.cell? (iu n 1)=some (.pointer none):=Q;clear q Q;have t:=lz b 1 (iq p2);have k:(c.setCell (iu n 1) (iq p2)).heap[n]?=some (.cells #[iq p1,iq p2] 261 (0,0)):=t
 have hP:mR (c.setCell (iu n 1) (iq p2)) (λg=>n<g) p1 p2 N K2:=mR.dB ⟨⟨_,_,Y⟩,_,_,Z⟩ sm (λg hg _=>kD _ _ _ (by simp;omega))
 have A:Below n w (c.setCell (iu n 1) (iq p2)):=W.setCell (p:=iu n 1) (ae n) _;replace k:=LH k;replace hP:=LH hP;replace A:=LH A;clear t b Y Z W X i y r hc hC L M;go_wp2;have u:∀ wx,mR wx (λg=>n<g) p1 p2 N K2->∀ j v,mR (wx.setCell (iu n j) v) (λg=>n<g) p1 p2 N K2:=λwx h j v=>h.dB sm (λg hg _=>kD _ _ _ (by simp;omega))
 refine aI (v:=.tuple #[.agg #[iq p1,iq p2],iw 0]) (AE results177 _ _ rfl rfl (cR _ n 261 261 _ (0,0) _ (lz (lz k.o 0 (iq p1)) 1 (iq p2)) underlying261 rfl kr)) rfl ⟨p1,p2,rfl,mR.mono (F:=λg=>n<g) ?_ (λg hg=>by omega),?_⟩
 ·exact u _ (u _ hP.o _ _) _ _
 ·exact (A.o.setCell (p:=iu n 0) (ae n) _).setCell (p:=iu n 1) (ae n) _
theorem Fq {kv:Value}(hb:Bytes w S kv key) (hl:key.length=64) (z:Nat) (hz:z<=1099511627776):
  Calls prog 177 #[kv,iw z] w λe w'=>∃ p1 p2,e=.returned (.tuple #[.agg #[iq p1,iq p2],iw 0])/\mR w' (λg=>w.heap.size<=g) p1 p2 (nY key) (nZ key)/\Below w.heap.size w w':=by
 obtain⟨a,cap,rfl,a1,a6⟩:=Cells.shape hb;unfold maxLen at a6;have l:=vj hb 0 32 om om;have m:=vj hb 32 64 om om;rw[hl] at a1 ⊢;have e1:(key.drop 0).take (32 - 0)=key.take (key.length / 2):=by simp[hl]
 have e2:(key.drop 32).take (64 - 32)=key.drop (key.length / 2):=by rw[bh (by simp;omega),hl]
 rw[e1] at l;rw[e2] at m;have I:(key.take (key.length / 2)).length=32:=by simp;omega
 have J:(key.drop (key.length / 2)).length=32:=by simp;omega
 have E:∀ c,(Instr.sliceAt 42 (.slice a 64 cap) none (some (iw 32)) none).run prog c=.ok (sliced a 0 32 cap 1) c:=λc=>vV (P:=prog) (s:=1) c underlying42 kr a 64 cap 32 om
 have H:∀ c,(Instr.sliceAt 42 (.slice a 64 cap) (some (iw 32)) none none).run prog c=.ok (sliced a 32 64 cap 1) c:=λc=>rH (P:=prog) (s:=1) c underlying42 kr a 64 cap 32 om
 obtain⟨v1,R⟩:=Ex (sliced a 0 32 cap 1);obtain⟨v2,T⟩:=Ex (sliced a 32 64 cap 1);rw[<-R] at E l;rw[<-T] at H m;clear R T e1 e2 hb;have n1:=λ(c:World) (h:Bytes c S v1 (key.take (key.length / 2)))=>tU h om
 have n2:=λ(c:World) (h:Bytes c S v2 (key.drop (key.length / 2)))=>tU h om
 obtain⟨N,B⟩:=Ex (nY key);obtain⟨K2,C⟩:=Ex (nZ key);rw[<-B,<-C];rw[show sched (key.take (key.length / 2))=N from B.symm] at n1;rw[show sched (key.drop (key.length / 2))=K2 from C.symm] at n2;clear B C;refine G7 l m n1 n2 hl I J ?_;clear l m n1 n2 hl I J;intro l m n1 n2 hl I J;obtain⟨n,hn⟩:=Ex w.heap.size;have x:=LH hn;rw[<-hn];clear hn;go_enter func177,ntmps177
 go_wp2_with fail
 refine (n1.o _ (l.o.dB sm (λg _ hg=>aB _ _ _ hg))).mono ?_;rintro e K ⟨p1,t1,u1,rfl,hc,D⟩
 have d:K.heap[n]?=some (.cells #[.pointer none,.pointer none] 261 (0,0)):=by rw[D.block n (by simp[x.o]),x.o];exact aj w _
 have V:Below n w K:=(((ag _ _).alloc (ae _) _).trans (D.mono sm):Below w.heap.size w K) |> λh=>x.o ▸ h
 have a7:n<K.heap.size:=dC d;have af:n<p1:=by have:=hc.own;simp at this;have:=x.o;omega
 have q:=cell_of d 0;have U:=kY d 0;have O:K.cell? (iu n 0)=some (.pointer none):=q;clear q;rw[<-x.o];have hC:=LH hc;have L:=LH V;have M:=LH d;clear hc D V d
 go_wp2_with fail
 have f:=Ex (K.setCell (iu n 0) (iq p1));obtain⟨w2,f⟩:=f;rw[<-f];have y:Below n w w2:=f ▸ L.o.setCell (p:=iu n 0) (ae n) _
 have i:w2.heap[n]?=some (.cells #[iq p1,.pointer none] 261 (0,0)):=by rw[f,lz M.o];rfl
 have X:nB w2 (λg=>n<g) p1 t1 u1 N:=(hC.o.mono (G:=λg=>n<g) (λg hg=>by simp at hg;have:=x.o;omega)).dB (by rw[f];simp) (λg hg _=>by rw[f];exact kD _ _ _ (by simp;omega));have a8:n<w2.heap.size:=dC i;clear f O U a7;refine (n2.o w2 (m.o.dB (by have:=x.o;omega) (λg _ hg=>y.block g (by have:=x.o;omega)))).mono ?_;rintro e c ⟨p2,t2,u2,rfl,hc,r⟩;have b:=(r.block n a8).trans i;have Y:=X.dB r.size (λg _ hg=>r.block g hg);have Z:=hc.mono (G:=λg=>n<g) (λg hg=>by omega);have W:Below n w c:=y.trans (r.mono om);have an:n<c.heap.size:=dC b;have q:=cell_of b 0;have Q:=cell_of b 1;have ad:=kY b 1;have U:=kY b 0;have O:c.cell? (iu n 0)=some (iq p1):=q;have aa:c.cell? (iu n 1)=some (.pointer none):=Q;clear q Q;have t:=lz b 1 (iq p2);have k:(c.setCell (iu n 1) (iq p2)).heap[n]?=some (.cells #[iq p1,iq p2] 261 (0,0)):=t
 have hP:mR (c.setCell (iu n 1) (iq p2)) (λg=>n<g) p1 p2 N K2:=mR.dB ⟨⟨_,_,Y⟩,_,_,Z⟩ sm (λg hg _=>kD _ _ _ (by simp;omega))
 have A:Below n w (c.setCell (iu n 1) (iq p2)):=W.setCell (p:=iu n 1) (ae n) _;replace k:=LH k;replace hP:=LH hP;replace A:=LH A;clear t b Y Z W X i y r hc hC L M;go_wp2;have u:∀ wx,mR wx (λg=>n<g) p1 p2 N K2->∀ j v,mR (wx.setCell (iu n j) v) (λg=>n<g) p1 p2 N K2:=λwx h j v=>h.dB sm (λg hg _=>kD _ _ _ (by simp;omega))
 refine aI (v:=.tuple #[.agg #[iq p1,iq p2],iw 0]) (AE results177 _ _ rfl rfl (cR _ n 261 261 _ (0,0) _ (lz (lz k.o 0 (iq p1)) 1 (iq p2)) underlying261 rfl kr)) rfl ⟨p1,p2,rfl,mR.mono (F:=λg=>n<g) ?_ (λg hg=>by omega),?_⟩
 ·exact u _ (u _ hP.o _ _) _ _
 ·exact (A.o.setCell (p:=iu n 0) (ae n) _).setCell (p:=iu n 1) (ae n) _
theorem AF {kv:Value}(hb:Bytes w S kv key) (hl:key.length=32\/key.length=64) (z:Nat) (hz:z<=1099511627776):
  Calls prog 177 #[kv,iw z] w λe w'=>∃ p1 p2,e=.returned (.tuple #[.agg #[iq p1,iq p2],iw 0])/\mR w' (λg=>w.heap.size<=g) p1 p2 (nY key) (nZ key)/\Below w.heap.size w w':=by
 rcases hl with h|h
 ·exact Fp hb h z hz
 ·exact Fq hb h z hz
variable {b:iz}{ds:Option Tmp}{ty:TypeId}{ps:String}{af:Array Edge}{gu:Option (Nat×Bool)}
theorem Fs (hb:b.length=16) (w:World):(Instr.buildSlice 190 1 #[(0,.agg (aQ b).toArray)]).run prog w=.ok (ir w.heap.size 1 1) (w.alloc (.cells (aQ b).toArray 179)):=by
 match b,hb with
 | [a0,a1,a2,a3,a4,a5,a6,a7,a8,a9,a10,a11,a12,a13,a14,a15],_=>simp only[aQ,bt,bT];go_simp
theorem Ft {c:iz}(hb:b.length=16) (hc:c.length=16) (w:World):(Instr.buildSlice 190 2 #[(0,.agg (aQ b).toArray),(1,.agg (aQ c).toArray)]).run prog w=.ok (ir w.heap.size 2 2) (w.alloc (.cells (aQ (b++c)).toArray 179)):=by
 match b,hb with
 | [a0,a1,a2,a3,a4,a5,a6,a7,a8,a9,a10,a11,a12,a13,a14,a15],_=>
  match c,hc with
  | [c0,c1,c2,c3,c4,c5,c6,c7,c8,c9,c10,c11,c12,c13,c14,c15],_=>simp only[aQ,bt,bT];go_simp
theorem run_arrayAt (w:World) (a:Addr) (cap:Nat):(Instr.arrayAt 179 (.slice (some a) 16 cap)).run prog w=.ok (.pointer (some a)) w:=by simp only[Instr.arrayAt,bb underlying179,aM,Result.andThen];rfl
theorem Fu {ρ:Operand->Value}{x:Operand}(hb:b.length=16) (hx:ρ x=.agg (aQ b).toArray) (w:World):
  (execOp ρ ⟨ds,.buildSlice 190 1 #[(0,x)],ty,ps,af,gu⟩).run prog w=.ok (.value (ir w.heap.size 1 1)) (w.alloc (.cells (aQ b).toArray 179)):=by
 have h:=Fs hb w;unfold execOp;simp[hx,h,Result.andThen]
theorem AG {ρ:Operand->Value}{x y:Operand}{c:iz}(hb:b.length=16) (hc:c.length=16) (hx:ρ x=.agg (aQ b).toArray) (hy:ρ y=.agg (aQ c).toArray) (w:World):
  (execOp ρ ⟨ds,.buildSlice 190 2 #[(0,x),(1,y)],ty,ps,af,gu⟩).run prog w=.ok (.value (ir w.heap.size 2 2)) (w.alloc (.cells (aQ (b++c)).toArray 179)):=by
 have h:=Ft hb hc w;unfold execOp;simp[hx,hy,h,Result.andThen]
theorem Fv {P:Program}{w w':World}{ops:Array Oper}{rest:List Oper}{o:Oper}{a:Act}{Q:Exit->Act->World->Prop}(hgd:o.guard=none) (v:Value) (hr:(execOp a.eval o).run P w=.ok (.value v) w')
  (h:wpList P ops Q rest (a.put o.dst v) w'):wpList P ops Q (o::rest) a w:=
 cN hgd λK b=>by unfold Oper.wp;rw[hr];exact b _ _ h
variable {L:Nat->iz}
theorem vo:(prog.info? 179).map (λi=>(i.zero,i.size,i.bytes))=some (some (.agg #[iy 0,iy 0,iy 0,iy 0,iy 0,iy 0,iy 0,iy 0,iy 0,iy 0,iy 0,iy 0,iy 0,iy 0,iy 0,iy 0]),16,16):=kr
def rh (L:Nat->iz) (k:Nat):List Value:=(List.range k).flatMap λj=>aQ (L j)
theorem yC {k:Nat}:rh L (k+1)=rh L k++aQ (L k):=by simp[rh,dF]
theorem yD (hL:∀ m,(L m).length=16){k:Nat}:(rh L k).length=k*16:=by
 induction k with
 | zero=>rfl
 | succ k ih=>rw[yC,aE,ih,km,hL];omega
theorem Gx (hL:∀ m,(L m).length=16){k:Nat}:∀ {j i:Nat},j<k->i<16->(rh L k)[j*16+i]?=some (iy ((L j).getD i 0).toNat):=by
 induction k with
 | zero=>intro j i h;omega
 | succ k ih=>
  intro j i a hi;rw[yC];by_cases h:j<k
  ·rw[aX (by rw[yD hL];omega)];exact ih h hi
  ·obtain rfl:j=k:=om;rw[aL (by rw[yD hL];omega),yD hL,ek];simp[aQ,u8,List.getD,hL,hi]
def o7 (t:iz):Nat->iz
 | 0=>t
 | k+1=>double (o7 t k)
theorem wV {t:iz}(h:t.length=16) (k:Nat):(o7 t k).length=16:=by
 cases k with
 | zero=>exact h
 | succ k=>exact Af
theorem ue {ks:List UInt32}{b:iz}(hb:b.length=16):(nL ks b).length=16:=vf hb
theorem Gy {w:World}{F:Nat->Prop}{p1 p2:Nat}{k1 k2:List UInt32}(h:mR w F p1 p2 k1 k2) (h4:8<=k2.length) (hk4:k2.length % 4=0) (unit m:Nat) (hu:unit<=9223372036854775807) (hm:m<=1000):
  Calls prog 179 #[.agg #[iq p1,iq p2],iw unit,iw m] w λe w'=>∃ v,e=.returned v/\
   w'.ownsRow w.heap.size 179 16 v m (rh (o7 (nL k2 (number unit))) m)/\Below w.heap.size w w':=by
 obtain⟨n,hn⟩:=Ex w.heap.size;have HN:=LH hn;obtain⟨_,bl,v2,a8⟩:=h
 have c:(w.alloc (.cells #[iq p1,iq p2] 261)).heap[n]?=some (.cells #[iq p1,iq p2] 261 (0,0)):=by rw[hn];exact aj w _
 have z:nB (w.alloc (.cells #[iq p1,iq p2] 261)) F p2 bl v2 k2:=a8.dB sm (λg _ hl=>aB _ _ _ hl)
 have y:Below n w (w.alloc (.cells #[iq p1,iq p2] 261)):=by rw[hn];exact (ag _ _).alloc (ae _) _
 revert c z y;refine H3 ?_;intro c z y;obtain⟨T,hT⟩:=Ex (nL k2 (number unit));have a7:T.length=16:=hT ▸ ue wv;rw[<-hn,<-hT];replace hT:=LH hT;clear hn a8;go_enter func179,ntmps179;go_wp2;rw[<-HN.o];obtain⟨w1,ax⟩:=Ex (w.alloc (.cells #[iq p1,iq p2] 261));rw[<-ax] at c z y ⊢;clear ax;have j:=Dr w1
 replace j:=LH j;have b4:=dC c.o;have aa:=cell_of c.o 1;have r:w1.cell? (iu n 1)=some (iq p2):=aa;clear aa;replace r:=LH r;refine RA.oz (aA No) (aA No) [1,1,1,4,4,2,7] [6] (λ_ v d=>∃ b,v=iq b/\w1.heap.size<=b/\ke d b 179 (List.replicate 16 0)) (λ_=>True) kr (aA.refl _ _) (λ_ _ h=>h) (λ_ _ _ h k=>h.trans k) (λ_ _ h k=>k) (trivial) kr kr ?_;intro cx;refine RA.fk prog n 1 (h:=?_);refine RA.lk prog (iq p2) (hc:=λd hp=>by exact ((j.o _ hp.1).cell (p:=iu n 1) b4 id).trans r.o) (h:=?_)
 repeat refine RA.qq ?_
 refine RA.kc (P:=prog) [_] (.agg (aQ (number unit)).toArray) (hr:=λd hp hH=>(E1 unit hu d).mono (by rintro e w4 ⟨rfl,V⟩;exact⟨rfl,aA.dD V _,trivial⟩)) (hn:=?_);refine RA.kc (P:=prog) [_,_] (.agg (aQ T).toArray) (hr:=λd hp hH=>(Ao (z.o.dB (j.o _ hp.1).size (λg _ hl=>(j.o _ hp.1).block g hl id)) h4 hk4 (number unit) wv).mono (by rintro e w4 ⟨rfl,V⟩;exact⟨by rw[hT.o],aA.dD V _,trivial⟩)) (hn:=?_)
 refine RA.fr (hs:=λv a b h V=>by obtain⟨b1,h3,h4,G⟩:=V;exact⟨b1,h3,h4,G.dB (h.block b1 (dC G) id)⟩) (hr:=λd hp=>⟨iq d.heap.size,d.alloc (.cells #[iy 0,iy 0,iy 0,iy 0,iy 0,iy 0,iy 0,iy 0,iy 0,iy 0,iy 0,iy 0,iy 0,iy 0,iy 0,iy 0] 179),by show (execOp _ _).run prog d=_;go_simp,(aA.refl _ _).alloc _,d.heap.size,rfl,hp.1.size,aj d _⟩) (h:=λu=>?_)
 refine RA.lr (λw4=>∃ b,u=iq b/\w1.heap.size<=b/\ke w4 b 179 (T)/\aA No w1 w4) (he:=λ_ _ h k=>by obtain⟨b1,h3,h4,G,h6⟩:=k;exact⟨b1,h3,h4,G.dB (h.block b1 (dC G) id),h6.trans h⟩) (hr:=λd b5 _=>by have hp:=b5.first kr;obtain⟨b1,rfl,h4,G⟩:=hp.fact 0 rfl kr;refine⟨d.setRow b1 (aQ (T)).toArray,RA.kL rf rf (nn G aK _ a7),b1,rfl,h4,G.setRow _,((j.o _ hp.1).setRow (g:=b1) (λh=>absurd h4 om) _)⟩) (hn:=?_)
 refine RA.RA.kZ (λw5 hH=>?_);simp only[RA.RP,cx];obtain⟨b,rfl,b2,W,hC⟩:=hH;have B:Below n w w5:=y.o.trans ((aA.no hC).mono om);have b3:n<=b:=om;have an:b<w5.heap.size:=dC W;replace W:=LH W;replace B:=LH B;clear hC r z y c j b2;have ba:(Value.agg #[iy 0,iy 0,iy 0,iy 0,iy 0,iy 0,iy 0,iy 0,iy 0,iy 0,iy 0,iy 0,iy 0,iy 0,iy 0,iy 0]).cells.size=16:=rfl;go_wp2
 go_loopw [6,14] (λo i wr=>∃ k:Nat,k<=m/\i=iw k/\Below n w wr/\b<wr.heap.size/\o.ownBlock≠some b/\Hd (ke wr b 179 (o7 T k))/\Hd (wr.ownsRow n 179 16 o k (rh (o7 T) k)))
  (λ_ i _=>m - (intOf i).toNat)
 case atStart=>exact⟨0,by omega,rfl,B.o,an,by simp[Value.ownBlock],W.o,aS _ _ _ _⟩
 case round=>
  clear W B an;obtain⟨k,hk,rfl,f,hs,l,R,O⟩:=hrel;by_cases bp:k<m
  ·obtain⟨X,Q⟩:=Ex (o7 T k);have t:X.length=16:=Q ▸ wV a7 k;rw[<-Q] at R;have ad:=LH (mY (P:=prog) R.o underlying179 (kV t));have L:o7 T (k+1)=double X:=by rw[o7,Q]
   have D:rh (o7 T) (k+1)=rh (o7 T) k++aQ X:=by rw[yC,Q]
   obtain⟨C,hC⟩:=Ex (rh (o7 T) k);rw[<-hC] at O D;have A:=LH (show (wr.alloc (.cells (aQ X).toArray 179)).ownsRow _ _ _ _ _ _ from dE O.o (λg hg=>aB _ _ _ (kt O.o g hg)));have U:=LH (mC wr (aQ X).toArray 179 1 16 (by simp[km,t]) mx);have S:=LH (λg=>kJ O.o g);have H:=LH f.size;revert f l Q L D hC;refine H6 ?_;intro f l Q L D hC;clear O
   go_wp2_with (first
    | (refine kQ rfl 179 _ rfl _ _ rfl ad.o ?_)
    | (refine Fv rfl _ (Fu t rfl wr) ?_)
    | (at_builtin;refine K.append ?_ (.tmp 16) (.tmp 18) 190 ?_ n 179 (.agg #[iy 0,iy 0,iy 0,iy 0,iy 0,iy 0,iy 0,iy 0,iy 0,iy 0,iy 0,iy 0,iy 0,iy 0,iy 0,iy 0]) 16 16 underlying190 vo ba om _ k _ ?_ A.o (λ_=>True) _ 1 (aQ X).toArray.toList ?_ U.o (nJ X) mx om ?_ ?_))
   ·rfl
   ·rfl
   ·have:=H.o;have:=HN.o;omega
   intro v' w2 x1 N x3 x4;have x:ke w2 b 179 X:=R.o.dB ((N.block b (by simp;omega) (λh=>l.o (by rw[<-h]))).trans (aB _ _ _ hs))
   have M:Below n w w2:=by have Z:=f.o.alloc (by have:=H.o;have:=HN.o;omega) (.cells (aQ X).toArray 179);refine⟨N.os.trans Z.os,N.tape.trans Z.tape,N.output.trans Z.output,am Z.size N.size,λq hq=>?_⟩;exact (N.block q (by have:=H.o;have:=HN.o;simp;omega) (λh=>by have:=S.o q h.symm;omega)).trans (Z.block q hq)
   have b6:b<w2.heap.size:=dC x
   have s:v'.ownBlock≠some b:=by
    rcases x4 with e|⟨g,e,hg⟩
    ·rw[e];exact l.o
    ·rw[e];simp at hg ⊢;omega
   have af:=LH (mY (P:=prog) x underlying179 (kV t));revert x1 x M s;refine H4 ?_;intro x1 x M s;clear N x3 x4 A U R ad S l
   go_wp2_with (refine kQ rfl 179 _ rfl _ _ rfl af.o ?_)
   refine (EY X t _).mono ?_;rintro e d ⟨rfl,E⟩;have I:=x.o.dB (E.block b b6);have b8:=LH (nn I t (double X) Af);have a6:=dE x1.o (λg hg=>E.block g (kt x1.o g hg));have J:(d.setRow b (aQ (double X)).toArray).ownsRow n 179 16 v' (k+1) (C++aQ X):=dE a6 (λg hg=>aG _ _ _ _ (λe=>s.o (by rw[<-e];exact hg)));have a1:Below n w d:=M.o.trans (E.mono om);have Y:=LH (I.setRow (double X));have ay:=LH (below_setRow a1 b3 (aQ (double X)).toArray);have b7:b<(d.setRow b (aQ (double X)).toArray).heap.size:=dC Y.o;replace J:=LH J;clear I a6 a1 E
   go_wp2_with (refine kI rfl 179 _ _ rfl _ _ rfl rfl b8.o ?_)
   go_roundw
   case rel=>
    refine⟨k+1,by omega,by go_num,ay.o,b7,s.o,?_,?_⟩
    ·show ke _ _ _ _;rw[L.o];exact Y.o
    ·show World.ownsRow _ _ _ _ _ _ _;rw[D.o];exact J.o
   case measure=>simp[intOf];omega
  ·obtain rfl:k=m:=om;have A:=O;replace f:=LH f;replace l:=LH l;clear R;go_wp2;go_ret;exact⟨_,rfl,A.o,f.o⟩
def vp (n:Nat) (z:Int):Prop:=(n=32\/n=64)/\0<=z/\z<=1099511627776
theorem ss {z:Nat}(h:vp key.length z):(key.length=32\/key.length=64)/\z<=1099511627776:=⟨h.1,by have:=h.2.2;omega⟩
theorem Gz {w:World}{S:Nat->Prop}{kv:Value}(hb:Bytes w S kv key) (z:Nat) (hk:vp key.length z) (a:Option Addr) (n cap:Nat) (hn:n<=1000000):
  Calls prog 160 #[kv,iw z,.slice a n cap] w λe w'=>e=.returned (.bool (decide (n % 16=0/\n<=4096)))/\Below w.heap.size w w':=by
 have hc:=LH (AF hb (ss hk).1 z (ss hk).2);obtain⟨q,f⟩:=Ex (n % 16);have g:(n:Int) % 16=q:=om;have j:(n:Int).tmod 16=q:=by rw[bZ om];exact g
 rw[<-f];replace f:=LH f;have c:∀ d p1 p2,Below w.heap.size w d->Below w.heap.size w (d.alloc (.cells #[iq p1,iq p2] 261)):=λd p1 p2 h=>h.alloc h.size _
 replace c:=LH c;by_cases i:q=0
 ·subst i;by_cases h1:n<=4096
  all_goals go_enter func160,ntmps160
  all_goals go_wp2_with fail
  all_goals refine hc.o.mono ?_
  all_goals rintro e d ⟨p1,p2,rfl,_,b⟩
  all_goals replace b:=LH b
  all_goals go_wp2
  all_goals go_ret
  all_goals exact⟨pJ (by simp;omega),c.o _ _ _ b.o⟩
 ·have k:((q:Int) == 0)=false:=by simp;omega
  go_enter func160,ntmps160
  go_wp2_with fail
  refine hc.o.mono ?_;rintro e d ⟨p1,p2,rfl,_,b⟩;replace b:=LH b;go_wp2;go_ret;exact⟨pJ (by simp;omega),c.o _ _ _ b.o⟩
variable {i:Nat}
def qH (a b:iz):iz:=qY (λm=>if m=0 then a else b) 2
theorem uf {a b:iz}:(qH a b).length=16:=yl
theorem Bi {g:Nat}{a b:iz}(ha:a.length=16) (hb:b.length=16) (h:ke w g 179 (a++b)):
  Calls prog 180 #[ir g 2 2] w λe w'=>e=.returned (.agg (aQ (qH a b)).toArray)/\Below w.heap.size w w':=by
 refine E4 (λm=>if m=0 then a else b) (λm=>by split<;>assumption) g 0 2 2 om w (dC h) (λm hm j d=>?_);rw[h.cell _ (by rw[aE];omega)];congr 3;by_cases c:m=0
 ·subst c;rw[ak rfl];simp[List.getD,aX (show j<a.length by omega)]
 ·have:m=1:=om;subst this;rw[ah om];simp only[List.getD];rw[aL om,show 0+1*16+j - a.length=j by omega]
def ri (data:iz) (i:Nat):iz:=(data.drop (16*i)).take 16
theorem Bj {data:iz}(h:16*i+16<=data.length):(ri data i).length=16:=by simp[ri];omega
theorem GA {data:iz}{j:Nat}(hj:j<16):(ri data i).getD j 0=data.getD (16*i+j) 0:=by simp[ri,List.getD,hj]
theorem Bl {b:Nat}{t:TypeId}{l:iz}(h:ke w b t l) (hl:l.length<=maxLen):Bytes w (λ_=>True) (ir b l.length l.length) l:=⟨by simp[km],_,_,rfl,ae _,hl,λh=>(by cases h),.inr ⟨b,0,rfl,trivial,dC h,λj u hu=>by rw[aw,cell_of h,<-hu];simp⟩⟩
def tf (D:iz->iz) (T data:iz) (i:Nat):iz:=qH (D (qH (ri data i) (o7 T i))) (o7 T i)
def nN (D:iz->iz) (T data:iz):Nat->iz
 | 0=>[]
 | i+1=>nN D T data i++tf D T data i
theorem Bm {D:iz->iz}{T data:iz}:(nN D T data i).length=16*i:=by
 induction i with
 | zero=>rfl
 | succ i ih=>rw[nN,aE,ih,tf,uf];omega
theorem yE (h:key.length=32\/key.length=64):8<=(nZ key).length/\(nZ key).length % 4=0/\8<=(nY key).length/\(nY key).length % 4=0:=by
 have h1:(key.drop (key.length / 2)).length=key.length / 2:=by simp;omega
 have a:(key.take (key.length / 2)).length=key.length / 2:=by simp;omega
 rw[nZ,nY,sched,sched,tT,tT,h1,a];rcases h with h|h<;>rw[h]<;>decide
theorem Bo {S S':Nat->Prop}{kv dv:Value}{data:iz}{f:Nat}(D:iz->iz) (hD:∀ b,b.length=16->(D b).length=16) (hb:Bytes w S kv key) (unit:Nat) (hk:vp key.length unit)
  (hd:Bytes w S' dv data) (h16:data.length % 16=0) (hmost:data.length<=4096)
  (hf:∀ args w,(callFunc f args).run prog w=.ok (.enter f args) w)
  (hdo:∀ (w3:World) (F:Nat->Prop) p1 p2 b,mR w3 F p1 p2 (nY key) (nZ key)->b.length=16->Calls prog f #[.agg #[iq p1,iq p2],.agg (aQ b).toArray] w3 λe w'=>e=.returned (.agg (aQ (D b)).toArray)/\Below w3.heap.size w3 w'):
  Calls prog 163 #[kv,iw unit,dv,.func (.func f) #[] #[]] w λe w'=>∃ v,e=.returned (.tuple #[v,iw 0])/\
   w'.ownsRow w.heap.size 5 1 v data.length (aQ (nN D (nL (nZ key) (number unit)) data (data.length / 16)))/\Below w.heap.size w w':=by
 obtain⟨n,hn⟩:=Ex w.heap.size;have HN:=LH hn;obtain⟨da,z,rfl,cX,cY⟩:=hd.shape;have E:=Gz hb unit hk da data.length z om;rw[dN (show data.length % 16=0/\data.length<=4096 from ⟨h16,hmost⟩)] at E;have t:=λ(w1:World) (h:Bytes w1 S kv key)=>AF h (ss hk).1 unit (ss hk).2
 have cr:=yE (ss hk).1;have gA:=(ss hk).2;obtain⟨L,hL⟩:=Ex data.length;obtain⟨m,hm⟩:=Ex (L / 16);have fi:(L:Int) / 16=m:=om;have gk:(L:Int).tdiv 16=m:=by rw[el om];exact fi
 have I:L=16*m:=om;have gv:m<=256:=om;obtain⟨T,hT⟩:=Ex (nL (nZ key) (number unit));have cA:T.length=16:=hT ▸ ue wv;have b5:=λ(w1:World) (p1 p2:Nat) (F:Nat->Prop) (h:mR w1 F p1 p2 (nY key) (nZ key))=>Gy h cr.1 cr.2.1 unit m om om
 rw[<-hT] at b5 ⊢;rw[<-hL] at E cX ⊢;rw[<-hm,<-hn];obtain⟨K1,cf⟩:=Ex (nY key);obtain⟨K2,cg⟩:=Ex (nZ key);rw[<-cf,<-cg] at t;rw[<-cf,<-cg] at b5 hdo;have cW:Cells w S' (.slice da L z) L 1 (aQ data):=by rw[hL];exact hd
 rw[<-hL] at hd;unfold maxLen at cY;refine G7 hD hf hdo E t b5 hb ?_;clear hD hf hdo E t b5 hb;intro hD hf hdo E t b5 hb;replace hd:=LH cW;replace hL:=LH hL;replace hm:=LH hm;replace I:=LH I;clear cf cg hT hn cr h16 hmost hk cW;go_enter func163,ntmps163
 go_wp2_with fail
 refine E.o.mono ?_;rintro e w1 ⟨rfl,cK⟩;have M:=LH cK;clear cK
 go_wp2_with fail
 refine (t.o w1 (hb.o.dB M.o.size (λg _ hg=>M.o.block g hg))).mono ?_;rintro e w2 ⟨p1,p2,rfl,e4,bB⟩;have cd:Below n w w2:=HN.o ▸ M.o.trans (bB.mono M.o.size);obtain⟨bp,cl⟩:=Ex w2.heap.size
 have A:(w2.alloc (.cells #[iq p1,iq p2] 261)).heap[bp]?=some (.cells #[iq p1,iq p2] 261 (0,0)):=by rw[cl];exact aj w2 _
 have G:mR (w2.alloc (.cells #[iq p1,iq p2] 261)) (λ_=>True) p1 p2 K1 K2:=(e4.dB sm (λg _ hl=>aB _ _ _ hl)).mono (λ_ _=>trivial);have e1:n<=w2.heap.size:=by have:=cd.size;have:=HN.o;omega
 have ad:Below n w (w2.alloc (.cells #[iq p1,iq p2] 261)):=cd.alloc e1 _;replace A:=LH A;replace G:=LH G;replace ad:=LH ad;have c8:=LH cl;clear e4 bB cd cl
 go_wp2_with fail
 obtain⟨w3,eb⟩:=Ex (w2.alloc (.cells #[iq p1,iq p2] 261));rw[<-eb] at A G ad ⊢;refine (b5.o w3 p1 p2 _ G.o).mono ?_;rintro e w4 ⟨tv,rfl,e7,b3⟩;obtain⟨B,H⟩:=Ex w4.heap.size;have p:=(b3.block bp (dC A.o)).trans A.o;have a7:=G.o.dB b3.size (λg _ hl=>b3.block g hl);have e2:n<=w3.heap.size:=by have:=ad.o.size;have:=HN.o;omega
 have af:Below n w w4:=ad.o.trans (b3.mono e2);have bz:=Cells.own e7;obtain⟨ta,gh,c5,gf,e5⟩:=bz.shape;subst c5;unfold maxLen at e5;have e3:n<=B:=by have:=b3.size;omega
 have bC:Cells w4 S' (.slice da L z) L 1 (aQ data):=hd.o.dB (by have:=af.size;exact this) (λg _ hg=>af.block g (by have:=HN.o;omega));rw[<-c8.o];clear eb;refine G6 p a7 af bz bC H ?_;clear p a7 af bz bC H;intro p a7 af bz bC H;clear e7 b3 A G ad M c8 e1 e2;go_wp2
 go_loopw [12,34] (λo i wr=>∃ k:Nat,k<=m/\i=iw k/\Below B w4 wr/\Hd (wr.ownsRow B 5 1 o (16*k) (aQ (nN D T data k))))
  (λ_ i _=>m - (intOf i).toNat)
 case atStart=>exact⟨0,by omega,rfl,H.o ▸ ag _ _,aS _ _ _ _⟩
 case round=>
  obtain⟨k,hk,rfl,d,HO⟩:=hrel;have cu:B<=wr.heap.size:=by have:=d.size;have:=H.o;omega
  by_cases fb:k<m
  ·have b6:=LH ((d.block bp (by rw[H.o];exact dC p.o)).trans p.o);have cb:=LH (a7.o.dB d.size (λg _ hl=>d.block g (by rw[H.o];exact hl)));have e8:=bz.o.dB d.size (λg _ hl=>d.block g (by rw[H.o];exact hl));have ca:=bC.o.dB d.size (λg _ hl=>d.block g (by rw[H.o];exact hl));obtain⟨tg,ec,tc,c5,_,_,_,e6,a8⟩:=Cells.at e8 om;simp only[IJ] at c5;obtain⟨rfl,_,rfl⟩:=c5;obtain⟨dg,J,dc,dn,_,_,_,dd,a6⟩:=Cells.at ca (by have:=I.o;omega);simp only[IJ] at dn;obtain⟨rfl,_,rfl⟩:=dn;obtain⟨X,hX⟩:=Ex (o7 T k);have V:X.length=16:=hX ▸ wV cA k;obtain⟨Y,hY⟩:=Ex (ri data k);have cj:Y.length=16:=by rw[hY];exact Bj (by have:=hL.o;have:=I.o;omega)
   have O:∀ c,Below wr.heap.size wr c->(Instr.loadAt 179 (.pointer (some (iu tg (ec+k*16))))).run prog c=.ok (.agg (aQ X).toArray) c:=by intro c h5;refine wj underlying179 (kV V) (λj hj=>?_);rw[az (w:=wr) (h5.block tg e6),cy,a8 _ _ (Gx (wV cA) fb om),<-hX]
   have C:∀ c,Below wr.heap.size wr c->(Instr.loadAt 179 (.pointer (some (iu dg (J+16*k))))).run prog c=.ok (.agg (aQ Y).toArray) c:=by
    intro c h5;refine wj underlying179 (kV cj) (λj hj=>?_);have ds:16*k+j<data.length:=by have:=hL.o;have:=I.o;omega
    rw[az (w:=wr) (h5.block dg dd),cy,a6 _ _ (pI data _ ds),hY,GA om];simp[List.getD,ds]
   have c9:∀ (c:World) (lo hi:Nat),lo=16*k->hi=16*k+16->(Instr.sliceAt 42 (.slice (some (iu dg J)) L z) (some (iw lo)) (some (iw hi)) none).run prog c=.ok (.slice (some (iu dg (J+16*k))) 16 (z - 16*k)) c:=by intro c lo hi h1 R;rw[vU (P:=prog) (s:=1) c underlying42 kr _ _ _ _ _ om (by have:=I.o;omega),pK _ _ _ _ _ _ (by have:=I.o;omega),aY,h1,show hi - 16*k=16 by omega]
   obtain⟨lo,b8⟩:=Ex (16*k);obtain⟨hi,bD⟩:=Ex (16*k+16);have Z:=LH (λc=>c9 c lo hi b8 bD);rw[<-b8] at C Z;have e0:(k:Int)*16=lo:=om;have dp:((k:Int)+1)*16=hi:=om;have gb:hi<=L:=by have:=I.o;omega
   have Q:nN D T data (k+1)=nN D T data k++qH (D (qH Y X)) X:=by rw[nN,tf,hX,hY]
   clear c9 e8 ca a8 a6;refine G8 Q hX hY O C b8 bD d ?_;clear Q hX hY O C b8 bD d;intro Q hX hY O C b8 bD d;have dT:=LH (O.o wr (ag _ _));obtain⟨w6,bl,U,W,bR⟩:=Ak wr X V;refine G4 bl U W bR ?_;clear bl U W bR;intro bl U W bR
   go_wp2_with (first
    | (refine kQ rfl 179 _ rfl _ _ rfl dT.o ?_)
    | (refine kI rfl 179 _ _ rfl _ _ rfl rfl bl.o ?_))
   obtain⟨tb,bW⟩:=Ex wr.heap.size;rw[<-bW] at U ⊢;have cc:=dC U.o;have cU:=cell_of b6.o 0;have cV:=cell_of b6.o 1;have cP:=dC b6.o;have y:=Dr w6
   have b7:=LH ((W.o.block bp cP).trans b6.o)
   have ba:∀ c,aA No w6 c->(Instr.loadAt 261 (iq bp)).run prog c=.ok (.agg #[iq p1,iq p2]) c:=by intro c h5;simp only[Instr.loadAt,Instr.sureAddr,aM,Sem.run_pure,Result.andThen];exact cR c bp 261 261 _ (0,0) _ ((h5.block bp (dC b7.o) id).trans b7.o) underlying261 rfl kr
   have l:∀ c,aA No w6 c->Below wr.heap.size wr c:=λc h=>W.o.trans ((aA.no h).mono (by have:=W.o.size;exact this))
   have N:∀ c,aA No w6 c->mR c (λ_=>True) p1 p2 K1 K2:=λc h=>cb.o.dB (l c h).size (λg _ hl=>(l c h).block g hl)
   have b4:∀ c,aA No w6 c->(Instr.loadAt 179 (iq tb)).run prog c=.ok (.agg (aQ X).toArray) c:=λc h=>mY (P:=prog) (U.o.dB (h.block tb cc id)) underlying179 (kV V)
   obtain⟨Z1,an⟩:=Ex (qH Y X);have c6:Z1.length=16:=an ▸ uf;obtain⟨Z2,ax⟩:=Ex (D Z1);have c7:Z2.length=16:=ax ▸ hD.o Z1 c6;obtain⟨Z3,ay⟩:=Ex (qH Z2 X);have a1:Z3.length=16:=ay ▸ uf;have aa:nN D T data (k+1)=nN D T data k++Z3:=by rw[Q.o,ay,ax,an]
   refine G6 y ba l N b4 an ?_;clear y ba l N b4 an;intro y ba l N b4 an;refine G4 ax ay aa bW ?_;clear ax ay aa bW;intro ax ay aa bW;clear cU cV bl dT Q;refine RA.oz (aA No) (aA No) [1,1,1,1,1,1,1,1,1,1,1,1,3,4,4,1,3,4,2,7] [19] (λ_ v w3=>∃ b,v=iq b/\w6.heap.size<=b/\ke w3 b 179 (List.replicate 16 0)) (λ_=>True) kr (aA.refl _ _) (λ_ _ h=>h) (λ_ _ _ h k=>h.trans k) (λ_ _ h k=>k) (trivial) kr kr ?_;intro cx
   repeat refine RA.qq ?_
   refine RA.ld (y':=.agg #[iq p1,iq p2]) (hr:=λw3 hp=>ba.o w3 (y.o _ hp.1)) (h:=?_)
   repeat refine RA.qq ?_
   refine RA.mi (r:=(lo:Int)) (he:=e0) (h:=?_)
   repeat refine RA.qq ?_
   refine RA.ai (r:=(k:Int)+1) (h:=?_);refine RA.mi (r:=(hi:Int)) (he:=dp) (h:=?_);refine RA.v7 (y':=.slice (some (iu dg (J+lo))) 16 (z - lo)) (hr:=λw3 hp=>Z.o w3) (h:=?_);refine RA.vk prog (.pointer (some (iu dg (J+lo)))) (hr:=λw hp=>by (try go_simp);rw[run_arrayAt];rfl) (h:=?_);refine RA.ld (y':=.agg (aQ Y).toArray) (hr:=λw3 hp=>C.o w3 (l.o w3 (y.o _ hp.1))) (h:=?_);refine RA.ld (y':=.agg (aQ X).toArray) (hr:=λw3 hp=>b4.o w3 (y.o _ hp.1)) (h:=?_);refine RA.bq (λx w3=>∃ g,x=ir g 2 2/\ke w3 g 179 (Y++X)) (hs:=λ_ _ _ h k=>by obtain⟨g,h1,R⟩:=k;exact⟨g,h1,R.dB (h.block g (dC R) id)⟩) (he:=λ_ _ _ _ _=>trivial) (hr:=λw3 hp _=>⟨_,_,AG cj V (RA.kH rf) (RA.kH rf) w3,(aA.refl _ _).alloc _,⟨w3.heap.size,rfl,aj w3 _⟩,trivial⟩) (hn:=λx=>?_)
   refine RA.kc (P:=prog) [x] (.agg (aQ Z1).toArray) (hr:=λw3 hp hH=>by obtain⟨g,rfl,hA⟩:=hp.fact 0 rfl kr;refine (Bi cj V hA).mono ?_;rintro e w4 ⟨rfl,R⟩;exact⟨by rw[an.o],aA.dD R _,trivial⟩) (hn:=?_)
   refine RA.EK (P:=prog) (f:=f) [_,_] (.agg (aQ Z2).toArray) (λ_=>True) hf.o kr rf rf rf kr (λ_ _ _ h=>h) rfl (λw3 hp hH=>by refine (hdo.o w3 _ p1 p2 Z1 (N.o w3 (y.o _ hp.1)) c6).mono ?_;rintro e w4 ⟨rfl,R⟩;exact⟨by rw[ax.o],aA.dD R _,trivial⟩) ?_
   refine RA.ld (y':=.agg (aQ X).toArray) (hr:=λw3 hp=>b4.o w3 (y.o _ hp.1)) (h:=?_);refine RA.bq (λx w3=>∃ g,x=ir g 2 2/\ke w3 g 179 (Z2++X)) (hs:=λ_ _ _ h k=>by obtain⟨g,h1,R⟩:=k;exact⟨g,h1,R.dB (h.block g (dC R) id)⟩) (he:=λ_ _ _ _ _=>trivial) (hr:=λw3 hp _=>⟨_,_,AG c7 V (RA.kH rf) (RA.kH rf) w3,(aA.refl _ _).alloc _,⟨w3.heap.size,rfl,aj w3 _⟩,trivial⟩) (hn:=λx=>?_)
   refine RA.kc (P:=prog) [x] (.agg (aQ Z3).toArray) (hr:=λw3 hp hH=>by obtain⟨g,rfl,hA⟩:=hp.fact 0 rfl kr;refine (Bi c7 V hA).mono ?_;rintro e w4 ⟨rfl,R⟩;exact⟨by rw[ay.o],aA.dD R _,trivial⟩) (hn:=?_)
   refine RA.fr (hs:=λv a b h R=>by obtain⟨b1,h3,h4,h5⟩:=R;exact⟨b1,h3,h4,h5.dB (h.block b1 (dC h5) id)⟩) (hr:=λw3 hp=>⟨iq w3.heap.size,w3.alloc (.cells #[iy 0,iy 0,iy 0,iy 0,iy 0,iy 0,iy 0,iy 0,iy 0,iy 0,iy 0,iy 0,iy 0,iy 0,iy 0,iy 0] 179),by show (execOp _ _).run prog w3=_;go_simp,(aA.refl _ _).alloc _,w3.heap.size,rfl,hp.1.size,aj w3 _⟩) (h:=λu=>?_)
   refine RA.lr (λw4=>∃ b,u=iq b/\w6.heap.size<=b/\ke w4 b 179 (Z3)/\aA No w6 w4) (he:=λ_ _ h k=>by obtain⟨b1,h3,h4,h5,h6⟩:=k;exact⟨b1,h3,h4,h5.dB (h.block b1 (dC h5) id),h6.trans h⟩) (hr:=λw3 fs _=>by have hp:=fs.first kr;obtain⟨b1,rfl,h4,h5⟩:=hp.fact 0 rfl kr;refine⟨w3.setRow b1 (aQ (Z3)).toArray,RA.kL rf rf (nn h5 aK _ a1),b1,rfl,h4,h5.setRow _,((y.o _ hp.1).setRow (g:=b1) (λh=>absurd h4 om) _)⟩) (hn:=?_)
   refine RA.RA.kZ (λw7 hH=>?_);simp only[RA.RP,cx];obtain⟨b2,rfl,bB,ct,cz⟩:=hH;have bA:=l.o w7 cz
   have cm:Cells w7 (λ_=>True) (ir b2 16 16) 16 1 (aQ Z3):=by have h:=Bl ct (by rw[a1];unfold maxLen;omega);rw[a1] at h;unfold Bytes at h;rw[a1] at h;exact h
   have er:=LH (dE HO.o (λg hg=>bA.block g (kt HO.o g hg)));have ed:=LH (λg=>kJ HO.o g);have en:=LH (d.o.trans (bA.mono cu));have fu:B<=w7.heap.size:=am cu bA.size;have fz:(iy 0).cells.size=1:=rfl;replace cm:=LH cm;clear ct cz bB bA HO l N b4 ba O C Z y b7 b6 cb W U cc bR
   go_wp2_with (at_builtin;refine K.append ?_ (.tmp 57) (.tmp 58) 42 ?_ B 5 (iy 0) 1 1 underlying42 nu fz om _ (16*k) _ ?_ er.o (λ_=>True) _ 16 (aQ Z3) ?_ cm.o (nJ Z3) mx om ?_ ?_)
   ·rfl
   ·rfl
   ·rfl
   ·rfl
   ·exact fu
   intro v' w8 x1 x2 x3 x4
   have ck:Below B w4 w8:=by have h8:=en.o;refine⟨x2.os.trans h8.os,x2.tape.trans h8.tape,x2.output.trans h8.output,am h8.size x2.size,λq hq=>?_⟩;exact (x2.block q om (λh=>by have:=ed.o q h.symm;omega)).trans (h8.block q hq)
   replace x1:=LH x1;replace ck:=LH ck;clear x2 x3 x4;go_wp2;go_roundw
   case rel=>refine⟨k+1,by omega,by go_num,ck.o,?_⟩;show World.ownsRow _ _ _ _ _ _ _;rw[aa.o,nI,show 16*(k+1)=16*k+16 by omega];exact x1.o
   case measure=>simp[intOf];omega
  ·obtain rfl:k=m:=om;have cT:=LH d;clear d;go_wp2;go_ret2;refine⟨_,rfl,?_,af.o.trans (cT.o.mono e3)⟩;rw[I.o];exact⟨HO.o.1,HO.o.2.imp id (λ⟨g,cp,cur,h1,R,h3⟩=>⟨g,cp,cur,h1,am e3 R,h3⟩)⟩
theorem GB {w:World}{F:Nat->Prop}{p1 p2:Nat}{k1 k2:List UInt32}(h:mR w F p1 p2 k1 k2) (h8:8<=k1.length) (h4:k1.length % 4=0) (b:iz) (hb:b.length=16):
  Calls prog 166 #[.agg #[iq p1,iq p2],.agg (aQ b).toArray] w λe w'=>e=.returned (.agg (aQ (nL k1 b)).toArray)/\Below w.heap.size w w':=by
 obtain⟨n,t⟩:=Ex w.heap.size;have K:=LH t;obtain⟨⟨tb,kv,hc⟩,_⟩:=h;obtain⟨l,d⟩:=Ex (w.alloc (.cells #[iq p1,iq p2] 261));obtain⟨wB,a⟩:=Ex (l.alloc (.cells (aQ b).toArray 179));obtain⟨j,f⟩:=Ex (wB.alloc (.cells #[iy 0,iy 0,iy 0,iy 0,iy 0,iy 0,iy 0,iy 0,iy 0,iy 0,iy 0,iy 0,iy 0,iy 0,iy 0,iy 0] 179));have v:l.heap.size=n+1:=by rw[d,t];simp
 have sB:wB.heap.size=n+2:=by rw[a];simp[v]
 have L:j.heap.size=n+3:=by rw[f];simp[sB]
 have D:Below n w l:=by rw[d,t];exact (ag _ _).alloc (ae _) _
 have y:Below (n+1) l wB:=by rw[a,<-v];exact (ag _ _).alloc (ae _) _
 have u:Below (n+2) wB j:=by rw[f,<-sB];exact (ag _ _).alloc (ae _) _
 have G:l.heap[n]?=some (.cells #[iq p1,iq p2] 261 (0,0)):=by rw[d,t];exact aj w _
 have H:ke wB (n+1) 179 b:=by rw[a,<-v];exact aj l _
 have x:ke j (n+2) 179 (List.replicate 16 0):=by rw[f,<-sB];exact aj wB _
 have I:=(u.block n om).trans ((y.block n om).trans G);have J:ke j (n+1) 179 b:=H.dB (u.block (n+1) om);have k:Below n w j:=D.trans ((y.mono om).trans (u.mono om));have r:nB j F p1 tb kv k1:=hc.dB k.size (λg _ M=>k.block g om);have c0:=cell_of I 0;have m:j.cell? (iu n 0)=some (iq p1):=c0;have c:=mY (P:=prog) J underlying179 (kV hb);have p:=Ao r h8 h4 b hb;obtain⟨Z,A⟩:=Ex (nL k1 b);have q:Z.length=16:=A ▸ ue hb;rw[<-A] at p ⊢;obtain⟨V,E⟩:=Ex ((aQ b).toArray);rw[<-E] at c p a ⊢;subst d;subst a;subst f;subst t;replace m:=LH m;replace c:=LH c;replace p:=LH p;replace x:=LH (show ke _ (w.heap.size+1+1) 179 _ from x);replace k:=LH k;clear A hc r I J G H D y u c0 E v sB L K;go_enter func166,ntmps166
 go_wp2_with (refine kQ rfl 179 _ rfl _ _ rfl c.o ?_)
 refine p.o.mono ?_;rintro e N ⟨rfl,i⟩;have C:=x.o.dB (i.block _ (dC x.o));have B:=LH (nn C aK Z q);have s:=LH (C.setRow Z);have hi:=LH (kV q);have z:=LH (below_setRow (k.o.trans (i.mono k.o.size)) (show w.heap.size<=w.heap.size+1+1 by omega) (aQ Z).toArray);clear C i
 go_wp2_with (refine kI rfl 179 _ _ rfl _ _ rfl rfl B.o ?_)
 refine aI (bd results166 _ _ (w.heap.size+1+1) 179 _ (0,0) _ rfl s.o underlying179 rfl (by rw[hi.o];simp[km])) rfl ⟨rfl,z.o⟩
def nw (key:iz) (unit:Nat) (data:iz):iz:=nN (nL (nY key)) (nL (nZ key) (number unit)) data (data.length / 16)
theorem rj {data:iz}{unit:Nat}(h:data.length % 16=0):(nw key unit data).length=data.length:=by rw[nw,Bm];omega
theorem GC {w:World}{S S':Nat->Prop}{kv dv:Value}{data:iz}(hb:Bytes w S kv key) (unit:Nat) (hk:vp key.length unit)
  (hd:Bytes w S' dv data) (h16:data.length % 16=0) (hmost:data.length<=4096):
  Calls prog 144 #[kv,iw unit,dv] w λe w'=>∃ v,e=.returned (.tuple #[v,iw 0])/\w'.ownsRow w.heap.size 5 1 v data.length (aQ (nw key unit data))/\Below w.heap.size w w':=by
 have a:=yE (ss hk).1;have ht:=Bo (f:=166) (nL (nY key)) (λb hb=>ue hb) hb unit hk hd h16 hmost (λ_ _=>by go_simp) (λi F p1 p2 b h hb=>GB h a.2.2.1 a.2.2.2 b hb);replace ht:=LH ht;obtain⟨R,d⟩:=Ex (nw key unit data);rw[show nN (nL (nY key)) (nL (nZ key) (number unit)) data (data.length / 16)=R from d.symm] at ht;rw[<-d];clear d a hk;go_enter func144,ntmps144
 go_wp2_with fail
 refine ht.o.mono ?_;rintro e g ⟨v,rfl,h1,c⟩;replace h1:=LH h1;replace c:=LH c;go_wp2;go_ret2;exact⟨v,rfl,h1.o,c.o⟩
theorem K6 {w:World}{F:Nat->Prop}{p1 p2:Nat}{k1 k2:List UInt32}(h:mR w F p1 p2 k1 k2) (h8:8<=k1.length) (h4:k1.length % 4=0) (b:iz) (hb:b.length=16):
  Calls prog 164 #[.agg #[iq p1,iq p2],.agg (aQ b).toArray] w λe w'=>e=.returned (.agg (aQ (qN k1 b)).toArray)/\Below w.heap.size w w':=by
 obtain⟨n,t⟩:=Ex w.heap.size;have K:=LH t;obtain⟨⟨tb,kv,hc⟩,_⟩:=h;obtain⟨l,d⟩:=Ex (w.alloc (.cells #[iq p1,iq p2] 261));obtain⟨wB,a⟩:=Ex (l.alloc (.cells (aQ b).toArray 179));obtain⟨j,f⟩:=Ex (wB.alloc (.cells #[iy 0,iy 0,iy 0,iy 0,iy 0,iy 0,iy 0,iy 0,iy 0,iy 0,iy 0,iy 0,iy 0,iy 0,iy 0,iy 0] 179));have v:l.heap.size=n+1:=by rw[d,t];simp
 have sB:wB.heap.size=n+2:=by rw[a];simp[v]
 have L:j.heap.size=n+3:=by rw[f];simp[sB]
 have D:Below n w l:=by rw[d,t];exact (ag _ _).alloc (ae _) _
 have y:Below (n+1) l wB:=by rw[a,<-v];exact (ag _ _).alloc (ae _) _
 have u:Below (n+2) wB j:=by rw[f,<-sB];exact (ag _ _).alloc (ae _) _
 have G:l.heap[n]?=some (.cells #[iq p1,iq p2] 261 (0,0)):=by rw[d,t];exact aj w _
 have H:ke wB (n+1) 179 b:=by rw[a,<-v];exact aj l _
 have x:ke j (n+2) 179 (List.replicate 16 0):=by rw[f,<-sB];exact aj wB _
 have I:=(u.block n om).trans ((y.block n om).trans G);have J:ke j (n+1) 179 b:=H.dB (u.block (n+1) om);have k:Below n w j:=D.trans ((y.mono om).trans (u.mono om));have r:nB j F p1 tb kv k1:=hc.dB k.size (λg _ M=>k.block g om);have c0:=cell_of I 0;have m:j.cell? (iu n 0)=some (iq p1):=c0;have c:=mY (P:=prog) J underlying179 (kV hb);have p:=KI r h8 h4 b hb;obtain⟨Z,A⟩:=Ex (qN k1 b);have q:Z.length=16:=A ▸ Du hb;rw[<-A] at p ⊢;obtain⟨V,E⟩:=Ex ((aQ b).toArray);rw[<-E] at c p a ⊢;subst d;subst a;subst f;subst t;replace m:=LH m;replace c:=LH c;replace p:=LH p;replace x:=LH (show ke _ (w.heap.size+1+1) 179 _ from x);replace k:=LH k;clear A hc r I J G H D y u c0 E v sB L K;go_enter func164,ntmps164
 go_wp2_with (refine kQ rfl 179 _ rfl _ _ rfl c.o ?_)
 refine p.o.mono ?_;rintro e N ⟨rfl,i⟩;have C:=x.o.dB (i.block _ (dC x.o));have B:=LH (nn C aK Z q);have s:=LH (C.setRow Z);have hi:=LH (kV q);have z:=LH (below_setRow (k.o.trans (i.mono k.o.size)) (show w.heap.size<=w.heap.size+1+1 by omega) (aQ Z).toArray);clear C i
 go_wp2_with (refine kI rfl 179 _ _ rfl _ _ rfl rfl B.o ?_)
 refine aI (bd results164 _ _ (w.heap.size+1+1) 179 _ (0,0) _ rfl s.o underlying179 rfl (by rw[hi.o];simp[km])) rfl ⟨rfl,z.o⟩
def sc (key:iz) (unit:Nat) (data:iz):iz:=nN (qN (nY key)) (nL (nZ key) (number unit)) data (data.length / 16)
theorem K7 {w:World}{S S':Nat->Prop}{kv dv:Value}{key data:iz}(hb:Bytes w S kv key) (unit:Nat) (hk:vp key.length unit)
  (hd:Bytes w S' dv data) (h16:data.length % 16=0) (hmost:data.length<=4096):
  Calls prog 140 #[kv,iw unit,dv] w λe w'=>∃ v,e=.returned (.tuple #[v,iw 0])/\w'.ownsRow w.heap.size 5 1 v data.length (aQ (sc key unit data))/\Below w.heap.size w w':=by
 have a:=yE (ss hk).1;have ht:=Bo (f:=164) (qN (nY key)) (λb hb=>Du hb) hb unit hk hd h16 hmost (λ_ _=>by go_simp) (λi F p1 p2 b h hb=>K6 h a.2.2.1 a.2.2.2 b hb);replace ht:=LH ht;obtain⟨R,d⟩:=Ex (sc key unit data);rw[show nN (qN (nY key)) (nL (nZ key) (number unit)) data (data.length / 16)=R from d.symm] at ht;rw[<-d];clear d a hk;go_enter func140,ntmps140
 go_wp2_with fail
 refine ht.o.mono ?_;rintro e g ⟨v,rfl,h1,c⟩;replace h1:=LH h1;replace c:=LH c;go_wp2;go_ret2;exact⟨v,rfl,h1.o,c.o⟩
end Go.Proofs.YthmcbgidehjlbaaGreat.Fd
namespace Go.Proofs.YthmcbgidehjlbaaGreat.Fd
open Go Go.RowKit K
theorem La (x:UInt8):byte ((0:UInt8).toNat ^^^ x.toNat)=x:=by
 refine et.1 ?_;have a:(0:UInt8).toNat ^^^ x.toNat=x.toNat:=by simp
 rw[a,lM (aP x)]
theorem DF (x0 x1 x2 x3 x4 x5 x6 x7 x8 x9 x10 x11 x12 x13 x14 x15 y0 y1 y2 y3 y4 y5 y6 y7 y8 y9 y10 y11 y12 y13 y14 y15:UInt8):qH [x0,x1,x2,x3,x4,x5,x6,x7,x8,x9,x10,x11,x12,x13,x14,x15] [y0,y1,y2,y3,y4,y5,y6,y7,y8,y9,y10,y11,y12,y13,y14,y15]=[byte ((byte ((0:UInt8).toNat ^^^ x0.toNat)).toNat ^^^ y0.toNat),byte ((byte ((0:UInt8).toNat ^^^ x1.toNat)).toNat ^^^ y1.toNat),byte ((byte ((0:UInt8).toNat ^^^ x2.toNat)).toNat ^^^ y2.toNat),byte ((byte ((0:UInt8).toNat ^^^ x3.toNat)).toNat ^^^ y3.toNat),byte ((byte ((0:UInt8).toNat ^^^ x4.toNat)).toNat ^^^ y4.toNat),byte ((byte ((0:UInt8).toNat ^^^ x5.toNat)).toNat ^^^ y5.toNat),byte ((byte ((0:UInt8).toNat ^^^ x6.toNat)).toNat ^^^ y6.toNat),byte ((byte ((0:UInt8).toNat ^^^ x7.toNat)).toNat ^^^ y7.toNat),byte ((byte ((0:UInt8).toNat ^^^ x8.toNat)).toNat ^^^ y8.toNat),byte ((byte ((0:UInt8).toNat ^^^ x9.toNat)).toNat ^^^ y9.toNat),byte ((byte ((0:UInt8).toNat ^^^ x10.toNat)).toNat ^^^ y10.toNat),byte ((byte ((0:UInt8).toNat ^^^ x11.toNat)).toNat ^^^ y11.toNat),byte ((byte ((0:UInt8).toNat ^^^ x12.toNat)).toNat ^^^ y12.toNat),byte ((byte ((0:UInt8).toNat ^^^ x13.toNat)).toNat ^^^ y13.toNat),byte ((byte ((0:UInt8).toNat ^^^ x14.toNat)).toNat ^^^ y14.toNat),byte ((byte ((0:UInt8).toNat ^^^ x15.toNat)).toNat ^^^ y15.toNat)]:=kr
theorem DG {l t:iz}(h:l.length=16) (ht:t.length=16):qH (qH l t) t=l:=by obtain⟨o,p,q,r,s,u,v,w,x,y,a,b,c,d,e,f,rfl⟩:=vP h;obtain⟨z,y1,y2,A,B,C,D,E,F,G,g,i,j,k,m,n,rfl⟩:=vP ht;rw[DF,DF];simp only[La,DC _ (aP _)]
theorem DH {D:iz->iz}{T data:iz}:∀ {n i:Nat},i<n->ri (nN D T data n) i=tf D T data i
 | 0,i,h=>absurd h (dH i)
 | n+1,i,h=>by
  have a:(nN D T data n).length=16*n:=Bm;have hb:(tf D T data n).length=16:=uf;rw[nN];by_cases hi:i<n
  ·rw[<-DH (D:=D) (T:=T) (data:=data) hi];simp only[ri];rw[gm om,eG (by rw[bM];omega)]
  ·have e:i=n:=om;subst e;simp only[ri];rw[<-a,List.drop_left,bh om]
theorem DI {D E:iz->iz}{T data:iz}{n:Nat}(hE:∀ b,b.length=16->(E b).length=16) (hDE:∀ b,b.length=16->D (E b)=b) (hT:∀ i,(o7 T i).length=16) (hd:data.length=16*n):
  ∀ m,m<=n->nN D T (nN E T data n) m=data.take (16*m)
 | 0,_=>by simp[nN]
 | m+1,hm=>by have hb:(ri data m).length=16:=Bj om;rw[nN,DI hE hDE hT hd m om,tf,DH om,tf,DG (hE _ uf) (hT m),hDE _ uf,DG hb (hT m),show 16*(m+1)=16*m+16 by omega,fF];rfl
theorem Lb {key data:iz}{unit:Nat}(h16:data.length % 16=0):sc key unit (nw key unit data)=data:=by have c:=rj (key:=key) (unit:=unit) h16;have a:(nL (nZ key) (number unit)).length=16:=ue wv;have h:=DI (D:=qN (nY key)) (E:=nL (nY key)) (T:=nL (nZ key) (number unit)) (data:=data) (n:=data.length / 16) (λb hb=>ue hb) (λb hb=>K5 hb) (λi=>wV a i) om (data.length / 16) (ae _);rw[sc,c];rw[nw,h,show 16*(data.length / 16)=data.length by omega,bh (ae _)]
end Go.Proofs.YthmcbgidehjlbaaGreat.Fd

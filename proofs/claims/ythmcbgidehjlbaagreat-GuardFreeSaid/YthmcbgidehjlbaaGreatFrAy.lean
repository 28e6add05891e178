/-
 Parts of the proof. No condition beyond what each theorem names.
-/
import Derived.Test.YthmcbgidehjlbaaGreatFrAo
import Derived.Test.YthmcbgidehjlbaaGreatFrAt
import Derived.Test.YthmcbgidehjlbaaGreatFrAu
import Derived.Test.YthmcbgidehjlbaaGreatFrAv
import Derived.Test.YthmcbgidehjlbaaGreatFrAx
set_option maxRecDepth 100000
set_option maxHeartbeats 8000000
namespace Go.Proofs.YthmcbgidehjlbaaGreat.Fd
open Go Go.RowKit K
theorem uI {w:World}{B:Nat}{e:TypeId}{sz n:Nat}{v:Value}{xs:List Value}(h:w.ownsRow B e sz v n xs){g:Nat}(hg:v.ownBlock=some g):∃ c,v=ir g n c:=by
 rcases h.2 with ⟨rfl,_⟩|⟨a,cap,cur,rfl,_⟩
 ·cases hg
 ·cases hg
  exact⟨cap,rfl⟩
def C1 (w:World) (t g:Nat):Prop:=g=t\/(∃ n c,w.cell? (iu t 1)=some (ir g n c))\/(∃ n c,w.cell? (iu t 2)=some (ir g n c))\/
 (∃ l n c j n' a,w.cell? (iu t 2)=some (ir l n c)/\j<n/\w.cell? (iu l j)=some (ir g n' a))\/w.cell? (iu t 3)=some (.map (some g))
section
variable {w w':World}{t b N:Nat}{gs:Nat->Nat}{key:iz}{Ls:List iz}{Tx:List (Int×Value)}
theorem lx.exact (h:lx w t b N gs key Ls Tx) (hk:∀ g,C1 w t g->w'.heap[g]?=w.heap[g]?):lx w' t b N gs key Ls Tx:=by
 obtain⟨⟨kv,lv,mv,cs,h1,m,f,n,p⟩,tn,gn,mb,l,d,hm⟩:=h;have ht:=(hk t (.inl rfl)).trans h1;refine⟨⟨kv,lv,mv,cs,ht,dE m (λg hg=>?_),dE f (λg hg=>?_),λk L i=>⟨(n k L i).1.dB ?_,(n k L i).2⟩,p⟩,tn,gn,mb,l,?_,hm.dB ?_⟩
 ·obtain⟨c,e⟩:=uI m hg;exact hk g (.inr (.inl ⟨_,_,by rw[cell_of h1,e];rfl⟩))
 ·obtain⟨c,e⟩:=uI f hg;exact hk g (.inr (.inr (.inl ⟨_,_,by rw[cell_of h1,e];rfl⟩)))
 ·have a:k<Ls.length:=(aD.1 i).1;obtain⟨q,lc,rfl,_⟩:=kz f om;obtain⟨s,off,r,hv,_,_,_,_,j⟩:=Cells.at (Cells.own f) om;simp only[IJ] at hv;obtain⟨⟨rfl,rfl,_⟩,_,_⟩:=hv;have o:=j k _ (uk a);rw[aw] at o;exact hk _ (.inr (.inr (.inr (.inl ⟨q,_,_,k,_,_,cell_of h1 2,a,o⟩))))
 ·exact (az (ht.trans h1.symm)).trans d
 ·exact hk mb (.inr (.inr (.inr (.inr d))))
theorem lx.dep (h:lx w t b N gs key Ls Tx){g:Nat}(hg:C1 w t g):(∃ cs,w.heap[g]?=some (.cells cs 189 (0,0)))\/((∃ n c,w.cell? (iu t 1)=some (ir g n c))/\∃ cs,w.heap[g]?=some (.cells cs 5 (0,0)))\/
  (∃ cs,w.heap[g]?=some (.cells cs 190 (0,0)))\/(∃ k,k<Ls.length/\g=gs k/\∃ L,ke w g 179 L)\/(w.cell? (iu t 3)=some (.map (some g))/\∃ es c,w.heap[g]?=some (.map es c)):=by
 obtain⟨⟨kv,lv,mv,cs,h1,q,d,r,y⟩,tn,gn,mb,u,m,hm⟩:=h;rcases hg with rfl|⟨n,c,e⟩|⟨n,c,e⟩|⟨l,n,c,j,n',p,e,hj,e2⟩|e
 ·exact .inl ⟨_,h1⟩
 ·refine .inr (.inl ⟨⟨n,c,e⟩,?_⟩);rw[cell_of h1] at e;simp at e;exact kA q (by rw[e];rfl)
 ·refine .inr (.inr (.inl ?_));rw[cell_of h1] at e;simp at e;exact kA d (by rw[e];rfl)
 ·refine .inr (.inr (.inr (.inl ?_)));rw[cell_of h1] at e;simp at e;subst e
  have v:n=Ls.length:=by obtain⟨a,c2,o,_⟩:=(Cells.own d).shape;simp only[IJ] at o;exact o.2.1
  subst v;obtain⟨x,off,p,hv,_,_,_,_,i⟩:=Cells.at (Cells.own d) om;simp only[IJ] at hv;obtain⟨⟨rfl,rfl,_⟩,_,_⟩:=hv;have f:=i j _ (uk hj);rw[aw,e2] at f;simp only[IJ] at f;obtain⟨⟨rfl,_⟩,_⟩:=f;exact⟨j,hj,rfl,_,(r j _ (av hj)).1⟩
 ·refine .inr (.inr (.inr (.inr ⟨e,?_⟩)));rw[m] at e;simp only[ao,fL] at e;subst e;obtain⟨⟨es,c,s,_⟩,_⟩:=hm;exact⟨_,_,s⟩
theorem lx.box (h:lx w t b N gs key Ls Tx):∃ cs,w.heap[t]?=some (.cells cs 189 (0,0)):=by obtain⟨⟨kv,lv,mv,cs,h1,_⟩,_⟩:=h;exact⟨_,h1⟩
end
def C2 (w:World) (m g:Nat):Prop:=g=m\/∃ n c,w.cell? (iu m 1)=some (ir g n c)
section
variable {w w':World}{m B:Nat}{L:iz}
theorem lI.exact (h:lI w m L B) (hk:∀ g,C2 w m g->w'.heap[g]?=w.heap[g]?):lI w' m L B:=by obtain⟨b,sv,h1,a⟩:=h;refine⟨b,sv,(hk m (.inl rfl)).trans h1,dE a (λg hg=>?_)⟩;obtain⟨c,e⟩:=uI a hg;exact hk g (.inr ⟨_,_,by rw[cell_of h1,e];rfl⟩)
theorem lI.box (h:lI w m L B):∃ cs,w.heap[m]?=some (.cells cs 195 (0,0)):=by obtain⟨_,_,h1,_⟩:=h;exact⟨_,h1⟩
theorem lI.dep (h:lI w m L B){g:Nat}(hg:C2 w m g):(∃ cs,w.heap[g]?=some (.cells cs 195 (0,0)))\/(B<=g/\(∃ n c,w.cell? (iu m 1)=some (ir g n c))/\∃ cs,w.heap[g]?=some (.cells cs 5 (0,0))):=by
 obtain⟨b,sv,h1,a⟩:=h;rcases hg with rfl|⟨n,c,e⟩
 ·exact .inl ⟨_,h1⟩
 ·refine .inr ⟨?_,⟨n,c,e⟩,?_⟩
  ·rw[cell_of h1] at e;simp at e;exact kJ a g (by rw[e];rfl)
  ·rw[cell_of h1] at e;simp at e;exact kA a (by rw[e];rfl)
end
end Go.Proofs.YthmcbgidehjlbaaGreat.Fd
namespace Go.Proofs.YthmcbgidehjlbaaGreat.Fd
open _root_.Go.Proofs.Tryz
open Go Go.RowKit K
variable {w:World}{mg eg mb B:Nat}
abbrev mG:=Nat×Value×iz
def mO (Cs:List mG):List (Int×Value):=Cs.map λq=>((q.1:Int),.agg #[iw q.1,q.2.1])
def pE (Cs:List mG) (q:mG):List mG:=if Cs.any (λp=>p.1 == q.1) then Cs.map (λp=>if p.1=q.1 then q else p) else Cs++[q]
theorem JB (Cs:List mG) (q:mG):lZ (mO Cs) q.1 (.agg #[iw q.1,q.2.1])=mO (pE Cs q):=by
 unfold lZ pE
 have e:(mO Cs).any (λp=>p.1 == (q.1:Int))=Cs.any (λp=>p.1 == q.1):=by
  rw[mO,List.any_map];congr 1
  funext p
  rw[eI];simp[Function.comp];omega
 rw[e];by_cases h:Cs.any (λp=>p.1 == q.1)=true
 ·rw[ak h,ak h,mO,mO,cO,cO];refine dZ λp _=>?_
  simp only[Function.comp];by_cases a:p.1=q.1
  ·rw[ak a,ak (by rw[a])]
  ·rw[ah a,ah om]
 ·rw[ah h,ah h];simp[mO]
theorem vN {Cs:List mG}{q p:mG}(h:p ∈ pE Cs q):p=q\/(p ∈ Cs/\p.1≠q.1):=by
 unfold pE at h;by_cases h1:Cs.any (λp=>p.1 == q.1)=true
 ·rw[ak h1] at h;obtain⟨x,b,e⟩:=aO.1 h;by_cases a:x.1=q.1
  ·rw[ak a] at e;exact .inl e.symm
  ·rw[ah a] at e;subst e;exact .inr ⟨b,a⟩
 ·rw[ah h1] at h;rcases bw.1 h with h|h
  ·exact .inr ⟨h,λe=>h1 (bQ.2 ⟨p,h,by simpa using e⟩)⟩
  ·exact .inl (by simpa using h)
theorem C8 (Cs:List mG) (q:mG):q ∈ pE Cs q:=by
 unfold pE;by_cases h1:Cs.any (λp=>p.1 == q.1)=true
 ·rw[ak h1];obtain⟨x,a,e⟩:=bQ.1 h1;exact aO.2 ⟨x,a,by rw[ak (by simpa using e)]⟩
 ·rw[ah h1];simp
theorem C9 {Cs:List mG}{q p:mG}(h:p ∈ Cs) (hne:p.1≠q.1):p ∈ pE Cs q:=by
 unfold pE;by_cases h1:Cs.any (λp=>p.1 == q.1)=true
 ·rw[ak h1];exact aO.2 ⟨p,h,by rw[ah hne]⟩
 ·rw[ah h1];exact im _ h
structure pF (w:World) (mg eg mb B:Nat) (Cs:List mG):Prop where
 box:w.heap[mg]?=some (.cells #[.map (some mb)] 155 (0,0))
 err:w.heap[eg]?=some (.cells #[iw 0] 47 (0,0))
 mp:k9 w mb (mO Cs)
 qm:∀ q ∈ Cs,q.1<120/\q.2.2.length=64/\w.ownsRow B 5 1 q.2.1 64 (aQ q.2.2)
 ge:B<=mg/\B<=mb
def JC (o:Obj):Prop:=(∃ cs ty,(ty=155\/ty=47\/ty=5)/\o=.cells cs ty (0,0))\/∃ es c,o=.map es c
theorem pF.dB {w':World}{Cs:List mG}(h:pF w mg eg mb B Cs) (hk:∀ (g:Nat) (o:Obj),w.heap[g]?=some o->JC o->w'.heap[g]?=w.heap[g]?):pF w' mg eg mb B Cs:=by
 refine⟨(hk _ _ h.box (.inl ⟨_,_,.inl rfl,rfl⟩)).trans h.box,(hk _ _ h.err (.inl ⟨_,_,.inr (.inl rfl),rfl⟩)).trans h.err,h.mp.dB ?_,λq e=>?_,h.ge⟩
 ·obtain⟨⟨es,c,d,_⟩,_⟩:=h.mp;exact hk mb _ d (.inr ⟨_,_,rfl⟩)
 ·obtain⟨h1,b,a⟩:=h.qm q e;refine⟨h1,b,dE a (λg hg=>?_)⟩;obtain⟨cur,hc⟩:=kA a hg;exact hk g _ hc (.inl ⟨_,_,.inr (.inr rfl),rfl⟩)
theorem pF.after {w':World}{Cs:List mG}(h:pF w mg eg mb B Cs) (hb:Below w.heap.size w w'):pF w' mg eg mb B Cs:=h.dB (λ_ _ hg _=>hb.block _ (bm.1 hg).1)
theorem xH {Cs:List mG}(h:pF w mg eg mb B Cs) (at':Nat) (hat:at'<120){v:Value}{Z:iz}(hZ:Z.length=64) (hv:w.ownsRow B 5 1 v 64 (aQ Z)):
  Calls prog 79 #[.agg #[iw at',v],iw 0,iq mg,iq eg] w λe w'=>e=.returned (.tuple #[])/\pF w' mg eg mb B (pE Cs (at',v,Z))/\aA (λg=>g=mb) w w':=by
 obtain⟨f,d,rfl,C,D⟩:=kz hv om;obtain⟨q,A⟩:=Ex w.heap.size;obtain⟨s,n⟩:=Ex (w.alloc (.cells #[iw at',ir f 64 d] 142));have b1:Below w.heap.size w s:=by rw[n];exact (ag _ _).alloc (ae _) _
 have z:s.heap[q]?=some (.cells #[iw at',ir f 64 d] 142 (0,0)):=by rw[n,A];exact aj w _
 have h1:=h.after b1;obtain⟨w2,c,l,a,y⟩:=h1.mp.put (t:=155) underlying155 (k:=at') (rp om) (.agg #[iw at',ir f 64 d]);rw[show lZ (mO Cs) (at':Int) (.agg #[iw at',ir f 64 d])=mO (pE Cs (at',ir f 64 d,Z)) from JB Cs (at',ir f 64 d,Z)] at l;have i:=mE (P:=prog) (w:=s) (g:=q) (off:=0) (ty:=142) (x:=[iw at',ir f 64 d]) underlying142 kr (λj v hv=>by rw[aw,cell_of z];simpa using hv);obtain⟨⟨es,H,r,_⟩,_⟩:=h1.mp;have b:∀ {g:Nat}{cs:Array Value}{ty:TypeId}{m:Nat×Nat},s.heap[g]?=some (.cells cs ty m)->¬ g=mb:=λ{g cs ty m} hg e=>by rw[e,r] at hg;cases hg
 have y1:=(a.block mg (dC h1.box) (b h1.box)).trans h1.box;have y2:=(a.block eg (dC h1.err) (b h1.err)).trans h1.err
 have u:pF w2 mg eg mb B (pE Cs (at',ir f 64 d,Z)):=by
  refine⟨y1,y2,l,λp hp=>?_,h.ge⟩;rcases vN hp with rfl|⟨hp,_⟩
  ·exact⟨hat,hZ,dE (dE hv (λg hg=>b1.block g (kt hv g hg))) (λg hg=>by obtain⟨cur,hc⟩:=kA (dE hv (λg hg=>b1.block g (kt hv g hg))) hg;exact a.block g (dC hc) (b hc))⟩
  ·obtain⟨F,G,E⟩:=h1.qm p hp
   exact⟨F,G,dE E (λg hg=>by obtain⟨cur,hc⟩:=kA E hg;exact a.block g (dC hc) (b hc))⟩
 have hC:aA (λg=>g=mb) w w2:=(aA.dD b1 _).trans a;have c1:=cell_of z 0;have d1:s.cell? (iu mg 0)=some (.map (some mb)):=cell_of h1.box 0;have d2:w2.cell? (iu eg 0)=some (iw 0):=cell_of y2 0;have f2:w2.frozen? (iu eg 0)=false:=kY y2 0;have I:w2.setCell (iu eg 0) (iw 0)=w2:=xw y2 rfl;revert c i u hC;refine H4 ?_;intro c i u hC;clear h h1 b1 z l a y r b y1 y2 hv;go_enter func79,ntmps79;subst n A
 go_wp2_with (first|(refine kQ rfl 142 _ rfl _ _ rfl i.o ?_)|(refine C6 rfl 155 _ _ _ rfl _ _ _ rfl rfl rfl c.o ?_)|fail)
 go_end0;exact⟨rfl,u.o,hC.o⟩
end Go.Proofs.YthmcbgidehjlbaaGreat.Fd
namespace Go.Proofs.YthmcbgidehjlbaaGreat.Fd
open Go Go.RowKit K
theorem pF.exact {w w':World}{mg eg mb B:Nat}{Cs:List mG}(h:pF w mg eg mb B Cs) (hk:∀ g,(g=mg\/g=eg\/g=mb\/∃ q ∈ Cs,q.2.1.ownBlock=some g)->w'.heap[g]?=w.heap[g]?):pF w' mg eg mb B Cs:=⟨(hk _ (.inl rfl)).trans h.box,(hk _ (.inr (.inl rfl))).trans h.err,h.mp.dB (hk _ (.inr (.inr (.inl rfl)))),λq a=>by obtain⟨h1,b,c⟩:=h.qm q a;exact⟨h1,b,dE c (λg hg=>hk g (.inr (.inr (.inr ⟨q,a,hg⟩))))⟩,h.ge⟩
structure lS (w0 wr:World) (p t m num mg eg mb b n N2:Nat) (gs:Nat->Nat) (key:iz) (Ls:List iz) (Tx:List (Int×Value)) (L:iz) (Cs:List mG):Prop where
 st:wr.heap[p]?=some (.cells #[iq t,iq m,iw num] 100 (0,0))
 tr:lx wr t b w0.heap.size gs key Ls Tx
 l4:Ls.length=4
 mr:lI wr m L w0.heap.size
 la:pF wr mg eg mb N2 Cs
 bk:Bk wr b n
 fr:kf (λg=>w0.heap.size<=g) b w0 wr
 n2:w0.heap.size<=N2/\N2<=wr.heap.size
 bn:b<w0.heap.size
 ko:∀ g k c,wr.cell? (iu t 1)=some (ir g k c)->g<w0.heap.size
 mo:∀ g k c,wr.cell? (iu m 1)=some (ir g k c)->g<N2
 sp:wr.cell? (iu t 3)≠some (.map (some mb))
section
variable {w0 wr w':World}{p t m num mg eg mb b n n' N2:Nat}{gs:Nat->Nat}{key:iz}{Ls Ls':List iz}{Tx Tx':List (Int×Value)}{L L':iz}{Cs Cs':List mG}
theorem sJ {w:World}{g:Nat}{o:Obj}(h:w.heap[g]?=some o):g<w.heap.size:=(bm.1 h).1
theorem lS.below (h:lS w0 wr p t m num mg eg mb b n N2 gs key Ls Tx L Cs) (hb:Below wr.heap.size wr w'):lS w0 w' p t m num mg eg mb b n N2 gs key Ls Tx L Cs:=by
 obtain⟨f,ht⟩:=h.tr.box;obtain⟨d,hm⟩:=h.mr.box;refine⟨(hb.block p (dC h.st)).trans h.st,h.tr.after (cE h.bn) hb,h.l4,h.mr.dB (λg _ _ _ _ hg=>hb.block g (dC hg)),h.la.after hb,h.bk.after hb,h.fr.trans (kf.dD hb),⟨h.n2.1,am h.n2.2 hb.size⟩,h.bn,λg k c e=>?_,λg k c e=>?_,?_⟩
 ·rw[az (w:=wr) (a:=iu t 1) (hb.block t (dC ht))] at e;exact h.ko g k c e
 ·rw[az (w:=wr) (a:=iu m 1) (hb.block m (dC hm))] at e;exact h.mo g k c e
 ·rw[az (w:=wr) (a:=iu t 3) (hb.block t (dC ht))];exact h.sp
theorem lS.pb (h:lS w0 wr p t m num mg eg mb b n N2 gs key Ls Tx L Cs) (hg:kf No b wr w') (hB:Bk w' b n'):lS w0 w' p t m num mg eg mb b n' N2 gs key Ls Tx L Cs:=by
 obtain⟨v,ht⟩:=h.tr.box;obtain⟨u,hm⟩:=h.mr.box;have i:=hg.at h.bk ht id de de;have l:=hg.at h.bk hm id de de;refine⟨hg.at h.bk h.st id de de,h.tr.qk (cE h.bn) h.bk hg.toaA (λ_ _ _ _ _ e=>e),h.l4,h.mr.dB (λg cs ty _ d hc=>by rw[hc];exact hg.at h.bk hc id (by rcases d with rfl|rfl<;>decide) (by rcases d with rfl|rfl<;>decide)),h.la.dB (λg o f r=>?_),hB,h.fr.trans (hg.mono (λ_ _ e=>e.elim)),⟨h.n2.1,am h.n2.2 hg.size⟩,h.bn,λg k c e=>?_,λg k c e=>?_,?_⟩
 ·refine hg.block g (sJ f) (λe=>e.elim id (λe=>?_));obtain⟨cs,ty,x,hc,d⟩:=kn.obj h.bk e;rw[f] at hc;obtain rfl:=aF hc;rcases r with ⟨q,s,h1,j⟩|⟨es,c,j⟩
  ·simp only[IJ] at j;obtain⟨_,rfl,_⟩:=j;rcases h1 with rfl|rfl|rfl<;>rcases d with e|e<;>exact absurd e de
  ·cases j
 ·rw[az (w:=wr) (a:=iu t 1) (i.trans ht.symm)] at e;exact h.ko g k c e
 ·rw[az (w:=wr) (a:=iu m 1) (l.trans hm.symm)] at e;exact h.mo g k c e
 ·rw[az (w:=wr) (a:=iu t 3) (i.trans ht.symm)];exact h.sp
theorem lS.put (h:lS w0 wr p t m num mg eg mb b n N2 gs key Ls Tx L Cs) (hL:pF w' mg eg mb N2 Cs') (hc:aA (λg=>g=mb) wr w'):lS w0 w' p t m num mg eg mb b n N2 gs key Ls Tx L Cs':=by
 obtain⟨⟨es,q,f,_⟩,_⟩:=h.la.mp;have d:∀ {g:Nat}{cs:Array Value}{ty:TypeId}{m:Nat×Nat},wr.heap[g]?=some (.cells cs ty m)->¬ g=mb:=λ{g cs ty m} hg e=>by rw[e,f] at hg;cases hg
 have hk:∀ {g:Nat}{cs:Array Value}{ty:TypeId}{m:Nat×Nat},wr.heap[g]?=some (.cells cs ty m)->w'.heap[g]?=wr.heap[g]?:=λ{g cs ty m} hg=>hc.block g (dC hg) (d hg)
 obtain⟨s,ht⟩:=h.tr.box;obtain⟨r,hm⟩:=h.mr.box;refine⟨(hk h.st).trans h.st,h.tr.exact (λg hg=>?_),h.l4,h.mr.exact (λg hg=>?_),hL,h.bk.dB (λg hg _=>?_),h.fr.then hc (λg hg e=>by rw[e];exact am h.n2.1 h.la.ge.2) (λ_ e=>?_),⟨h.n2.1,am h.n2.2 hc.size⟩,h.bn,λg k c e=>?_,λg k c e=>?_,?_⟩
 ·rcases h.tr.dep hg with ⟨_,e⟩|⟨_,_,e⟩|⟨_,e⟩|⟨_,_,_,_,e⟩|⟨i,j,o,e⟩
  ·exact hk e
  ·exact hk e
  ·exact hk e
  ·exact hk e
  ·refine hc.block g (sJ e) ?_;rintro rfl;exact h.sp i
 ·rcases h.mr.dep hg with ⟨_,e⟩|⟨_,_,_,e⟩
  ·exact hk e
  ·exact hk e
 ·obtain⟨cs,ty,u,e,_⟩:=kn.obj h.bk hg;exact hk e
 ·obtain⟨lv,l⟩:=h.bk.box;exact d l e
 ·rw[az (w:=wr) (a:=iu t 1) (hk ht)] at e;exact h.ko g k c e
 ·rw[az (w:=wr) (a:=iu m 1) (hk hm)] at e;exact h.mo g k c e
 ·rw[az (w:=wr) (a:=iu t 3) (hk ht)];exact h.sp
theorem lS.set (h:lS w0 wr p t m num mg eg mb b n N2 gs key Ls Tx L Cs) (hT:lx w' t b w0.heap.size gs key Ls' Tx') (h4:Ls'.length=4) (hB:Bk w' b n') (hg:kf (uJ wr t gs) b wr w'):lS w0 w' p t m num mg eg mb b n' N2 gs key Ls' Tx' L Cs:=by
 obtain⟨D,ht⟩:=h.tr.box;obtain⟨C,hm⟩:=h.mr.box;have l:∀ k,k<4->∃ M,ke wr (gs k) 179 M:=λk hk=>by obtain⟨M,_,o,_⟩:=h.tr.tree.level (k:=k) (by rw[h.l4];omega);exact⟨M,o⟩
 have s:∀ g,wr.cell? (iu t 3)=some (.map (some g))->w0.heap.size<=g/\∃ es c,wr.heap[g]?=some (.map es c):=λg e=>by obtain⟨A,h1,x,⟨es,c,y,_⟩,_⟩:=h.tr.qI;rw[x] at e;simp only[ao,fL] at e;subst e;exact⟨h1,_,_,y⟩
 have d:∀ {g:Nat}{cs:Array Value}{ty:TypeId}{m:Nat×Nat},wr.heap[g]?=some (.cells cs ty m)->ty≠179->¬ uJ wr t gs g:=λ{g cs ty m} i f=>by
  rintro (⟨k,hk,rfl⟩|e)
  ·obtain⟨M,o⟩:=l k hk;rw[o] at i;simp only[IJ] at i;exact f i.2.1.symm
  ·obtain⟨_,es,c,e⟩:=s g e;rw[i] at e;cases e
 have r:=hg.at h.bk ht (d ht de) de de;have v:=hg.at h.bk hm (d hm de) de de;refine⟨hg.at h.bk h.st (d h.st de) de de,hT,h4,h.mr.dB (λg cs ty _ f hc=>by rw[hc];exact hg.at h.bk hc (d hc (by rcases f with rfl|rfl<;>decide)) (by rcases f with rfl|rfl<;>decide) (by rcases f with rfl|rfl<;>decide)),h.la.exact (λg u=>?_),hB,h.fr.trans (hg.mono (λg z e=>?_)),⟨h.n2.1,am h.n2.2 hg.size⟩,h.bn,λg k c e=>?_,λg k c e=>?_,?_⟩
 ·rcases u with rfl|rfl|rfl|⟨q,hq,e⟩
  ·exact (hg.at h.bk h.la.box (d h.la.box de) de de).trans h.la.box.symm
  ·exact (hg.at h.bk h.la.err (d h.la.err de) de de).trans h.la.err.symm
  ·obtain⟨⟨es,B,j,_⟩,_⟩:=h.la.mp;refine hg.block g (sJ j) ?_;rintro ((⟨k,hk,e⟩|e)|e)
   ·obtain⟨M,o⟩:=l k hk;rw[e,o] at j;cases j
   ·exact h.sp e
   ·obtain⟨cs,ty,E,e,_⟩:=kn.obj h.bk e;rw[j] at e;cases e
  ·obtain⟨cur,hc⟩:=kA (h.la.qm q hq).2.2 e;exact (hg.at h.bk hc (d hc de) de de).trans hc.symm
 ·rcases e with ⟨k,hk,rfl⟩|e
  ·exact h.tr.gn k (by rw[h.l4];exact hk)
  ·exact (s g e).1
 ·rw[az (w:=wr) (a:=iu t 1) (r.trans ht.symm)] at e;exact h.ko g k c e
 ·rw[az (w:=wr) (a:=iu m 1) (v.trans hm.symm)] at e;exact h.mo g k c e
 ·rw[az (w:=wr) (a:=iu t 3) (r.trans ht.symm)];exact h.sp
theorem lS.mark (h:lS w0 wr p t m num mg eg mb b n N2 gs key Ls Tx L Cs) (hM:lI w' m L' w0.heap.size){x:Nat}(hc:aA (λy=>y=x) wr w') (hx:w0.heap.size<=x) (hxb:∃ cs,wr.heap[x]?=some (.cells cs 5 (0,0))) (hxm:∃ k c,wr.cell? (iu m 1)=some (ir x k c)):
  lS w0 w' p t m num mg eg mb b n N2 gs key Ls Tx L' Cs:=by
 obtain⟨cx,i⟩:=hxb;obtain⟨C,r,hxm⟩:=hxm;obtain⟨B,ht⟩:=h.tr.box;obtain⟨A,hm⟩:=h.mr.box
 have hk:∀ {g:Nat}{cs:Array Value}{ty:TypeId}{m:Nat×Nat},wr.heap[g]?=some (.cells cs ty m)->ty≠5->w'.heap[g]?=wr.heap[g]?:=λ{g cs ty m} hg f=>hc.block g (dC hg) (by rintro rfl;rw[i] at hg;simp only[IJ] at hg;exact f hg.2.1.symm)
 have u:=h.mo _ _ _ hxm;refine⟨(hk h.st de).trans h.st,h.tr.exact (λg hg=>?_),h.l4,hM,h.la.exact (λg j=>?_),h.bk.dB (λg hg _=>?_),h.fr.then hc (λg hg e=>by rw[e];exact hx) (λ_ e=>by have:=h.bn;omega),⟨h.n2.1,am h.n2.2 hc.size⟩,h.bn,λg k c e=>?_,λg k c e=>?_,?_⟩
 ·rcases h.tr.dep hg with ⟨_,e⟩|⟨⟨_,_,l⟩,_,e⟩|⟨_,e⟩|⟨_,_,_,_,e⟩|⟨l,s,v,e⟩
  ·exact hk e de
  ·exact hc.block g (dC e) (by rintro rfl;have:=h.ko _ _ _ l;omega)
  ·exact hk e de
  ·exact hk e de
  ·refine hc.block g (sJ e) ?_;rintro rfl;rw[i] at e;cases e
 ·rcases j with rfl|rfl|rfl|⟨q,hq,e⟩
  ·exact hk h.la.box de
  ·exact hk h.la.err de
  ·obtain⟨⟨es,z,d,_⟩,_⟩:=h.la.mp;refine hc.block g (sJ d) ?_;rintro rfl;rw[i] at d;cases d
  ·have o:=(h.la.qm q hq).2.2;exact hc.block g (kt o g e) (by rintro rfl;have:=kJ o g e;omega)
 ·obtain⟨cs,ty,D,e,f⟩:=kn.obj h.bk hg;exact hk e (by rcases f with rfl|rfl<;>decide)
 ·rw[az (w:=wr) (a:=iu t 1) (hk ht de)] at e;exact h.ko g k c e
 ·rw[az (w:=wr) (a:=iu m 1) (hk hm de)] at e;exact h.mo g k c e
 ·rw[az (w:=wr) (a:=iu t 3) (hk ht de)];exact h.sp
theorem lS.lU (h:lS w0 wr p t m num mg eg mb b n N2 gs key Ls Tx L Cs){n0:Nat}(hB:Bk w0 b n0){g:Nat}{cs:Array Value}{ty:TypeId}{k:Nat×Nat}(hg:w0.heap[g]?=some (.cells cs ty k)) (h1:ty≠223) (h2:ty≠145):wr.heap[g]?=some (.cells cs ty k):=h.fr.at hB hg (by have:=dC hg;omega) h1 h2
end
variable {Ls:List iz}
theorem zp {α:Type} [DecidableEq α]:∀ {l m:List α},l.Nodup->(∀ x ∈ l,x ∈ m)->l.length<=m.length:=by
 intro l
 induction l with
 | nil=>intro m _ _;simp
 | cons a l ih=>
  intro m h hs;have c:=hs a sm;obtain⟨h1,f⟩:=List.nodup_cons.1 h
  have g:=ih (m:=m.erase a) f (λx d=>by
   have b:x≠a:=λe=>h1 (e ▸ d)
   exact (List.mem_erase_of_ne b).2 (hs x (by simp[d])))
  rw[List.length_erase_of_mem c] at g;have:=gC c;simp;omega
theorem JH (L:List (Int×Value)) (k:Int) (v:Value) (x:Int) (z:Value):pW (lZ L k v) x z=if x=k then v else pW L x z:=by
 unfold pW lZ;by_cases h:L.any (λp=>p.1 == k)=true
 ·rw[ak h]
  induction L with
  | nil=>simp at h
  | cons p L ih=>
   simp only[bt,List.find?_cons];by_cases hp:p.1=k
   ·rw[ak hp];by_cases a:x=k
    ·subst a;simp
    ·have d:(k == x)=false:=by simpa using bY a
     have b:(p.1 == x)=false:=by rw[hp];exact d
     simp only[d,b,ah a];by_cases f:L.any (λp=>p.1 == k)=true
     ·have:=ih f;rw[ah a] at this;exact this
     ·have c:L.map (λp=>if p.1=k then (k,v) else p)=L:=by
       conv=>rhs;rw[<-List.map_id L]
       refine dZ λq g=>?_
       rw[ah (λe=>f (bQ.2 ⟨q,g,by simpa using e⟩))];rfl
      rw[c]
   ·rw[ah hp]
    have f:L.any (λp=>p.1 == k)=true:=by
     simp only[List.any_cons,ee,eh] at h;rcases h with h|h
     ·exact absurd h hp
     ·exact h
    by_cases a:p.1=x
    ·have b:(p.1 == x)=true:=by simpa using a
     simp only[b];rw[ah (by rw[<-a];exact hp)]
    ·have b:(p.1 == x)=false:=by simpa using a
     simp only[b];exact ih f
 ·rw[ah h,List.find?_append];by_cases a:x=k
  ·subst a;have:L.find? (λp=>p.1 == x)=none:=fH.2 (λq g e=>h (bQ.2 ⟨q,g,e⟩));simp[this]
  ·have d:(k == x)=false:=by simpa using bY a
   rw[ah a];simp[d]
def qp (Ls:List iz) (p:Nat):iz:=((Ls.getD 0 []).drop (p*16)).take 16
theorem JI {i:Nat}{T:iz}{Ls':List iz}(h:tC i T Ls Ls') (hT:T.length=16) (hL:∀ L,Ls[0]?=some L->800<=L.length) (hi:i<50) (p:Nat) (_:p<50):qp Ls' p=if p=i then T else qp Ls p:=by
 obtain⟨_,L,h1,c⟩:=h;have f:=hL L h1;unfold qp;simp only[fN,h1,c,Option.getD_some];have d:i*16+T.length<=L.length:=om;apply b9;intro j;rw[aU,bF,vm d];by_cases b:j<16
 ·rw[ak b];by_cases a:p=i
  ·subst a;rw[ak rfl,ah om,ak om];congr 1;omega
  ·rw[ah a,aU,bF,ak b];by_cases e:p<i
   ·rw[ak om]
   ·rw[ah om,ah om]
 ·rw[ah b];by_cases a:p=i
  ·rw[ak a];exact (cB om).symm
  ·rw[ah a,aU,ah b]
theorem JJ {Ks:List iz}(h:Alike Ks Ls) (h0:0<Ks.length) (p:Nat) (hp:p<50):qp Ks p=qp Ls p:=by
 obtain⟨L,h1,b⟩:=h 0 _ (av h0);unfold qp;simp only[fN,h1,av h0,Option.getD_some];have hw:kp (0:Nat)=50:=rfl;rw[hw] at b
 have key:∀ X:iz,(X.drop (p*16)).take 16=((X.take (50*16)).drop (p*16)).take 16:=λX=>by
  apply b9;intro j;rw[aU,aU,bF,bF,aU];by_cases a:j<16
  ·rw[ak a,ak a,ak om]
  ·rw[ah a,ah a]
 rw[key,key L,b]
structure nX (A M:iz) (Ls0:List iz) (Tx0:List (Int×Value)) (all:List Nat) (pk:List (Nat×iz)) (Ls:List iz) (Tx:List (Int×Value)) (Cs:List mG):Prop where
 tag:∀ p,p<50->qp Ls p=if p ∈ pk.map Prod.fst then qo M p (nw A (60+p) (kX pk p nA)) else qp Ls0 p
 qI:∀ p:Nat,p<50->pW Tx p (.bool false)=if p ∈ pk.map Prod.fst then .bool true else pW Tx0 p (.bool false)
 has:∀ p,p ∈ pk.map Prod.fst->∃ v,(60+p,v,nw A (60+p) (kX pk p nA)) ∈ Cs
 only:∀ q ∈ Cs,(q.1<25\/60<=q.1)/\(60<=q.1->q.1 - 60 ∈ pk.map Prod.fst)
 keys:∀ q ∈ Cs,(q.1:Int) ∈ nG (ni all)
section
variable {A M:iz}{Ls0 Ls Ls':List iz}{Tx0 Tx:List (Int×Value)}{all:List Nat}{pk:List (Nat×iz)}{Cs:List mG}
theorem nX.start (h:Alike Ls Ls0) (h0:0<Ls.length):nX A M Ls0 Tx0 all [] Ls Tx0 []:=⟨λp hp=>by rw[ah sm];exact JJ h h0 p hp,λp _=>by rw[ah sm],λp hp=>by simp at hp,λq a=>by simp at a,λq a=>by simp at a⟩
theorem zq:∀ (l:List Nat) (x:Int),x=24\/(∃ k ∈ l,x=(60+k:Nat)\/x=(10+k / 4:Nat)\/x=23)->x ∈ nG (ni l):=by
 unfold ni
 suffices h:∀ (l:List Nat) (S:List (Int×Value)) (x:Int),(x ∈ nG S\/∃ k ∈ l,x=(60+k:Nat)\/x=(10+k / 4:Nat)\/x=23)->x ∈ nG (l.foldl pG S) by intro l x a;exact h l _ x (a.imp (λe=>by simp[nG,e]) id)
 intro l
 induction l with
 | nil=>
  rintro S x (h|⟨k,hk,_⟩)
  ·exact h
  ·simp at hk
 | cons k l ih=>
  rintro S x h;refine ih _ x ?_;rcases h with h|⟨j,hj,h⟩
  ·refine .inl ?_;unfold pG;rw[rq,rq,rq];exact .inl (.inl (.inl h))
  ·rcases bi.1 hj with rfl|hj
   ·refine .inl ?_;unfold pG;rw[rq,rq,rq];rcases h with h|h|h
    ·exact .inl (.inl (.inr h))
    ·exact .inl (.inr h)
    ·exact .inr h
   ·exact .inr ⟨j,hj,h⟩
theorem nX.step (h:nX A M Ls0 Tx0 all pk Ls Tx Cs) (hL:∀ L,Ls[0]?=some L->800<=L.length){k:Nat×iz}(hk:k.1<50) (hka:k.1 ∈ all){v:Value}(hl:tC k.1 (qo M k.1 (nw A (60+k.1) k.2)) Ls Ls'):
  nX A M Ls0 Tx0 all (pk++[k]) Ls' (lZ Tx k.1 (.bool true)) (pE Cs (60+k.1,v,nw A (60+k.1) k.2)):=by
 have hm:∀ p,p ∈ (pk++[k]).map Prod.fst↔p ∈ pk.map Prod.fst\/p=k.1:=λp=>by simp
 refine⟨λp hp=>?_,λp hp=>?_,λp hp=>?_,λq b=>?_,λq b=>?_⟩
 ·rw[JI hl C7 hL hk p hp,CA];by_cases e:p=k.1
  ·subst e;rw[ak rfl,ak ((hm _).2 (.inr rfl)),ak rfl]
  ·rw[ah e,h.tag p hp,ah (bY e)];by_cases a:p ∈ pk.map Prod.fst
   ·rw[ak a,ak ((hm _).2 (.inl a))]
   ·rw[ah a,ah (λc=>((hm _).1 c).elim a e)]
 ·rw[JH];by_cases e:p=k.1
  ·subst e;rw[ak rfl,ak ((hm _).2 (.inr rfl))]
  ·rw[ah om,h.qI p hp];by_cases a:p ∈ pk.map Prod.fst
   ·rw[ak a,ak ((hm _).2 (.inl a))]
   ·rw[ah a,ah (λc=>((hm _).1 c).elim a e)]
 ·rw[CA];by_cases e:p=k.1
  ·subst e;rw[ak rfl];exact⟨v,C8 _ _⟩
  ·rw[ah (bY e)];obtain⟨u,hu⟩:=h.has p (((hm _).1 hp).resolve_right e);exact⟨u,C9 hu (by simp;omega)⟩
 ·rcases vN b with rfl|⟨b,_⟩
  ·exact⟨.inr sm,λ_=>(hm _).2 (.inr sm)⟩
  ·exact⟨(h.only q b).1,λe=>(hm _).2 (.inl ((h.only q b).2 e))⟩
 ·rcases vN b with rfl|⟨b,_⟩
  ·exact zq _ _ (.inr ⟨k.1,hka,.inl rfl⟩)
  ·exact h.keys q b
theorem nX.low (h:nX A M Ls0 Tx0 all pk Ls Tx Cs){q:mG}(hq:q.1<25) (hk:(q.1:Int) ∈ nG (ni all)):nX A M Ls0 Tx0 all pk Ls Tx (pE Cs q):=by
 refine⟨h.tag,h.qI,λp hp=>?_,λx a=>?_,λx a=>?_⟩
 ·obtain⟨u,hu⟩:=h.has p hp;exact⟨u,C9 hu (by simp;omega)⟩
 ·rcases vN a with rfl|⟨a,_⟩
  ·exact⟨.inl hq,λe=>by omega⟩
  ·exact h.only x a
 ·rcases vN a with rfl|⟨a,_⟩
  ·exact hk
  ·exact h.keys x a
theorem nX.mL (h:nX A M Ls0 Tx0 all pk Ls Tx Cs) (hn:(Cs.map λq=>(q.1:Int)).Nodup):Cs.length<=(ni all).length:=by
 have h1:=zp (m:=nG (ni all)) hn (λx b=>by obtain⟨q,a,rfl⟩:=aO.1 b;exact h.keys q a)
 rw[df] at h1;rw[show (ni all).length=(nG (ni all)).length by simp[nG]];exact h1
end
theorem JK (L:iz) (pk:List (Nat×iz)) (k:Nat×iz):lh L (pk++[k])=qj (lh L pk) k.1:=by simp[lh]
end Go.Proofs.YthmcbgidehjlbaaGreat.Fd

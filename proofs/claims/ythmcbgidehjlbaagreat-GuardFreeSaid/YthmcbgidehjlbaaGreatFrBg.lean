/-
 Parts of the proof. No condition beyond what each theorem names.
-/
import Derived.Test.YthmcbgidehjlbaaGreatFrBa
import Derived.Test.YthmcbgidehjlbaaGreatFrBc
import Derived.Test.YthmcbgidehjlbaaGreatFrBd
import Derived.Test.YthmcbgidehjlbaaGreatFrBf
set_option maxRecDepth 100000
set_option maxHeartbeats 4000000
namespace Go.Proofs.YthmcbgidehjlbaaGreat.Fd
open _root_.Go.Proofs.Tryz
open Go Go.RowKit K
variable {w:World}{S:Nat->Prop}{ad:Option Addr}{cap:Nat}
theorem CK (w:World):Calls prog 41 #[.slice none 0 0] w λe w'=>e=.returned (.slice none 0 0)/\w=w':=by have he:=Lib.run_eql_slice_nil (P:=prog) w 23 27 none 0 0 0 0 underlying23;go_enter func41,ntmps41;go_wp2;go_ret;exact⟨rfl,rfl⟩
theorem DV {n:Nat}{l:List P.Ar}(hb:Cells w S (.slice ad n cap) n 2 (P.lV l)) (hl:n<=1000000):
  Calls prog 41 #[.slice ad n cap] w λe w'=>∃ a c,e=.returned (.slice a n c)/\Cells w' (λg=>w.heap.size<=g/\∃ cs,w'.heap[g]?=some (.cells cs 27 (0,0))) (.slice a n c) n 2 (P.lV l)/\(a=none\/∃ g,a=some (iu g 0)/\P.nh w' g c l/\w.heap.size<=g)/\Below w.heap.size w w':=by
 have d:n=l.length:=by have:=hb.1;rw[P.sG] at this;omega
 cases ad with
 | none=>obtain⟨h1,a,c,e,k,i,j,_⟩:=hb;simp only[IJ] at e;obtain⟨rfl,-,rfl⟩:=e;obtain rfl:cap=0:=j rfl;obtain rfl:n=0:=om;refine (CK w).mono ?_;rintro e w' ⟨rfl,rfl⟩;obtain rfl:l=[]:=gB.1 d.symm;exact⟨none,0,rfl,Cells.nil _ _ 2,.inl rfl,ag _ _⟩
 | some ad=>refine (P.zj hb hl).mono ?_;rintro e w' ⟨g,c,rfl,hr,hg,f⟩;refine⟨some (iu g 0),c,rfl,?_,.inr ⟨g,rfl,hr,hg⟩,f⟩;have h:=hr.cells;rw[<-d] at h;refine Cells.mono h (λb _ e=>?_);obtain⟨cur,i,_⟩:=hr;exact⟨by omega,cur,e ▸ i⟩
theorem LI {a:Option Addr}{n c:Nat}{l:List P.Ar}(hb:Cells w S (.slice a n c) n 2 (P.lV l)){B:Nat}(h:a=none\/∃ g,a=some (iu g 0)/\P.nh w g c l/\B<=g) (hl:n<=1000):
  Calls prog 40 #[.slice a n c,.func (.func 42) #[] #[]] w λe w'=>e=.returned (.slice a (l.filter P.lj).length c)/\Cells w' (λg=>∃ cs,w'.heap[g]?=some (.cells cs 27 (0,0))) (.slice a (l.filter P.lj).length c) (l.filter P.lj).length 2 (P.lV (l.filter P.lj))/\aA (λg=>B<=g) w w':=by
 have d:n=l.length:=by have:=hb.1;rw[P.sG] at this;omega
 rcases h with rfl|⟨g,rfl,hr,hBg⟩
 ·obtain⟨h1,a,p,e,q,m,o,_⟩:=hb;simp only[IJ] at e;obtain⟨rfl,-,rfl⟩:=e;obtain rfl:c=0:=o rfl;obtain rfl:n=0:=om;obtain rfl:l=[]:=gB.1 d.symm;refine (P.CN (S:=S) (l:=[]) (Cells.nil _ _ 2) (λj h=>absurd h (dH j))).mono ?_;rintro e w' ⟨rfl,k⟩;exact⟨rfl,Cells.nil _ _ 2,aA.dD k _⟩
 ·rw[d];refine (P.CO hr om).mono ?_;rintro e w' ⟨rfl,f,hc⟩;refine⟨rfl,Cells.mono f.cells (λb _ e=>?_),aA.mono hc (λi _ e=>by rw[e];exact hBg)⟩;obtain⟨cur,m,_⟩:=f;exact⟨cur,e ▸ m⟩
theorem LJ (v:Nat){n:Nat}{l:List P.Ar}(hb:Cells w S (.slice ad n cap) n 2 (P.lV l)) (hl:n<=1000):
  Calls prog 10 #[iq v,.slice ad n cap] w λe w'=>∃ k,e=.returned (iq k)/\w.heap.size<=k/\mH w' k v (l.filter P.lj) false/\Below w.heap.size w w':=by
 have p:=LH (DV hb om);clear hb;go_enter func10,ntmps10
 go_wp2_with fail
 refine p.o.mono ?_;rintro e x ⟨a,c,rfl,j,s,f⟩;have q:=LH (LI j s hl);replace f:=LH f;clear p j s
 go_wp2_with fail
 refine q.o.mono ?_;rintro e w2 ⟨rfl,m,r⟩;have g:=f.o.trans (r.below f.o.size (λi hi e=>by omega))
 have t:mH (w2.alloc (.cells #[iq v,.slice a (l.filter P.lj).length c,.bool false] 52)) w2.heap.size v (l.filter P.lj) false:=⟨a,c,aj w2 _,by refine Cells.mono (Cells.dB m sm (λb ⟨cs,d⟩ _=>aB _ _ _ (dC d))) (λb _ ⟨cs,d⟩=>⟨cs,(aB _ _ _ (dC d)).trans d⟩)⟩
 have h:=g.alloc g.size (.cells #[iq v,.slice a (l.filter P.lj).length c,.bool false] 52);replace t:=LH t;replace h:=LH h;have u:=LH g.size;clear m r g q;go_wp2;go_ret;exact⟨_,rfl,u.o,t.o,h.o⟩
theorem LK {k v:Nat}{l:List P.Ar}{trip:Bool}(h:mH w k v l trip) (hl:l.length<=1000):Calls prog 33 #[iq k] w λe w'=>∃ a c,e=.returned (.slice a l.length c)/\Below w.heap.size w w':=by
 obtain⟨j,cap,h1,b⟩:=h;have c:=cell_of h1 1;have f:=LH (DV b om);obtain⟨n,g⟩:=Ex l.length;rw[<-g] at c f ⊢;replace g:=LH g;clear h1 b;go_enter func33,ntmps33
 go_wp2_with fail
 refine f.o.mono ?_;rintro e m ⟨i,c1,rfl,-,-,d⟩;replace d:=LH d;clear f;go_wp2;go_ret;exact⟨_,_,rfl,d.o⟩
section
open Go.ChangeShapes Go.WideShapes Go.ChangeAt Go.Deep Go.Joins
variable {H:Type}{enc:TypeId×Value->H}{w:World}{base:Nat}{held:Bool}
end
end Go.Proofs.YthmcbgidehjlbaaGreat.Fd
namespace Go.Proofs.YthmcbgidehjlbaaGreat.Fd
open Go Go.RowKit K
variable {w:World}
theorem lp.kind {G:VG}{s:kS}{S:VT}(h:ly G w s S){g:Nat}(hg:lp G w g){cs:Array Value}{t:TypeId}{m:Nat×Nat}(hc:w.heap[g]?=some (.cells cs t m)):
  (ku w G.v g/\(t=104\/t=111))\/(kn w G.b g/\(t=223\/t=145))\/(g=G.d/\t=122)\/(g=G.sb/\t=5)\/(g=G.r/\t=176):=by
 rcases hg with e|e|rfl|rfl|rfl
 ·obtain⟨a,f,h1,c⟩:=ku.type h.kx e;rw[hc] at h1;simp only[IJ] at h1;obtain⟨_,rfl,_⟩:=h1;exact .inl ⟨e,c⟩
 ·obtain⟨a,f,m',h1,c⟩:=kn.obj h.book e;rw[hc] at h1;simp only[IJ] at h1;obtain⟨_,rfl,_⟩:=h1;exact .inr (.inl ⟨e,c⟩)
 ·obtain⟨⟨a,h1⟩,_⟩:=h.mF.types;rw[hc] at h1;simp only[IJ] at h1;exact .inr (.inr (.inl ⟨rfl,h1.2.1⟩))
 ·obtain⟨_,a,h1⟩:=h.mF.types;rw[hc] at h1;simp only[IJ] at h1;exact .inr (.inr (.inr (.inl ⟨rfl,h1.2.1⟩)))
 ·obtain⟨dv,mv,h1,_⟩:=h.ring;rw[hc] at h1;simp only[IJ] at h1;exact .inr (.inr (.inr (.inr ⟨rfl,h1.2.1⟩)))
theorem LL {G:VG}{s:kS}{S:VT}(h:ly G w s S){B n:Nat}{v:Value}{K:iz}(ho:w.ownsRow B 5 1 v n (aQ K)) (hn:0<n) (hK:K[0]?≠some 0){g:Nat}(hg:v.ownBlock=some g):g≠G.sb:=by
 rintro rfl;obtain⟨db,d,b,e,_,_,_,_,hd⟩:=Cells.at (Cells.own ho) hn;have hlen:K.length=n:=by have:=ho.1;rw[km] at this;omega
 rcases ho.2 with ⟨a,_⟩|⟨o,cap,cur,a,_⟩
 ·rw[e] at a;cases a
 rw[e] at a;simp only[IJ] at a;obtain⟨⟨rfl,rfl,_⟩,-,-⟩:=a;rw[e] at hg;simp[Value.ownBlock] at hg;subst hg;have h1:=hd 0 _ (pI K 0 om);obtain⟨n',c,hc⟩:=h.mF.sure;obtain⟨⟨sv,pv,pcs,m,j,_⟩,_⟩:=h.mF.at_;rw[cell_of m] at hc;simp at hc;subst hc;have p:=h.mF.len;have l:=h.cont.zero;obtain⟨db,d,b,e,_,_,_,_,f⟩:=Cells.at (Cells.own j) (by have:=j.1;rw[km] at this;omega);simp only[IJ] at e;obtain⟨⟨rfl,rfl,_⟩,-,-⟩:=e;have k:=f 0 _ (pI S.X.sure 0 om);rw[k] at h1;simp only[IJ,dP] at h1
 have i:S.X.sure[0]?=some 0:=by
  have e:(S.X.at 0)[0]?=S.X.sure[0]?:=by simp only[D.Dk.at];rw[dV om,bF]
  rw[<-e,l];rfl
 rw[av om] at i;refine hK ?_;rw[av om,<-aF i];congr 1;exact gF om
structure rG (G1 G2:VG) (w:World) (S1 S2:VT):Prop where
 d:G1.d≠G2.d
 sb:G1.sb≠G2.sb
 r:G1.r≠G2.r
 vb:∀ g,ku w G1.v g->¬ ku w G2.v g
 row:∀ g,kn w G1.b g->¬ kn w G2.b g
 m1:¬ ph w S1.m G2.sb
 m2:¬ ph w S2.m G1.sb
 p1:¬ nW w G1.v G2.sb
 p2:¬ nW w G2.v G1.sb
theorem rG.symm {G1 G2:VG}{w:World}{S1 S2:VT}(h:rG G1 G2 w S1 S2):rG G2 G1 w S2 S1:=⟨h.d.symm,h.sb.symm,h.r.symm,λg a b=>h.vb g b a,λg a b=>h.row g b a,h.m2,h.m1,h.p2,h.p1⟩
theorem kF.exact {w':World}{v m:Nat}{L:iz}{ks:List (Nat×iz)}{kh:Bool}(h:kF w v m L ks kh) (hk:∀ g,(ku w v g\/nW w v g\/g=m\/ph w m g)->w'.heap[g]?=w.heap[g]?):kF w' v m L ks kh:=by
 obtain⟨⟨cs,pv,h1,n,o,p,q,r,s,l,t,vs,d,a,b⟩,⟨sv,g1,g2⟩,x,hp⟩:=h;have f:w.cell? (iu v 110)=some pv:=(cell_of h1 _).trans l;refine⟨⟨cs,pv,(hk v (.inl (.inl rfl))).trans h1,n,o,p,q,r,s,l,t,vs,d,dE a (λg hg=>?_),λj k u i hu=>⟨(b j k u i hu).1,dE (b j k u i hu).2 (λg hg=>?_)⟩⟩,⟨sv,(hk m (.inr (.inr (.inl rfl)))).trans g1,dE g2 (λg hg=>?_)⟩,x,hp⟩
 ·obtain⟨c,e⟩:=uI a hg;exact hk g (.inl (.inr ⟨_,_,by rw[f,e]⟩))
 ·obtain⟨c,e⟩:=uI (b j k u i hu).2 hg;exact hk g (.inr (.inl ((vL f d a g).2 ⟨j,_,_,by rw[hu,e]⟩)))
 ·obtain⟨c,e⟩:=uI g2 hg;exact hk g (.inr (.inr (.inr ⟨_,c,by rw[cell_of g1,e];rfl⟩)))
theorem ly.beside {G1 G2:VG}{w':World}{s1 s2:kS}{S1 S2:VT}(h1:ly G1 w s1 S1) (h2:ly G2 w s2 S2) (hz:G1.A[0]?≠some 0/\G1.M[0]?≠some 0) (ha:rG G1 G2 w S1 S2) (hs:lL G2 w w'):ly G1 w' s1 S1:=by
 have dB:∀ (g:Nat) (cs:Array Value) (t:TypeId) (m:Nat×Nat),w.heap[g]?=some (.cells cs t m)->(t=104\/t=111->ku w G1.v g)->(t=223\/t=145->kn w G1.b g)->(t=122->g=G1.d)->(t=5->g≠G2.sb)->(t=176->g=G1.r)->w'.heap[g]?=w.heap[g]?:=λg cs t m hc a b c d e=>hs.ki.block g (dC hc) (λhg=>by
  rcases lp.kind h2 hg hc with ⟨h,f⟩|⟨h,f⟩|⟨h,f⟩|⟨h,f⟩|⟨h,f⟩
  ·exact ha.vb g (a f) h
  ·exact ha.row g (b f) h
  ·exact ha.d ((c f).symm.trans h)
  ·exact d f h
  ·exact ha.r ((e f).symm.trans h))
 have l:∀ (g:Nat) (es:Array MapEntry) (c:Nat),w.heap[g]?=some (.map es c)->w'.heap[g]?=w.heap[g]?:=λg es c hc=>hs.ki.block g (bm.1 hc).1 (λhg=>by obtain⟨cs,t,e,_⟩:=lp.obj h2 hg;rw[hc] at e;cases e)
 obtain⟨⟨R,J⟩,⟨Q,I⟩⟩:=h1.mF.types;obtain⟨⟨S,pv,hv,_,_,_,_,_,_,L,_,vs,u,x,y⟩,⟨sv,g1,g2⟩,_,_⟩:=h1.kx;have C:=dB G1.v _ _ _ hv (λ_=>.inl rfl) (λe=>by rcases e with e|e<;>exact absurd e de) (λe=>absurd e de) (λe=>absurd e de) (λe=>absurd e de);have p:=dB S1.m _ _ _ g1 (λe=>by rcases e with e|e<;>exact absurd e de) (λe=>by rcases e with e|e<;>exact absurd e de) (λe=>absurd e de) (λe=>absurd e de) (λe=>absurd e de);have z:w.cell? (iu G1.v 110)=some pv:=(cell_of hv _).trans L
 have o:∀ g,ph w S1.m g->w'.heap[g]?=w.heap[g]?:=λg hg=>by obtain⟨n,c,e⟩:=hg;have q:=e;rw[cell_of g1] at e;simp at e;subst e;obtain⟨cur,i⟩:=kA g2 (g:=g) rfl;exact dB g _ _ _ i (λe=>by rcases e with e|e<;>exact absurd e de) (λe=>by rcases e with e|e<;>exact absurd e de) (λe=>absurd e de) (λ_ e=>ha.m1 ⟨n,c,e ▸ q⟩) (λe=>absurd e de)
 have k:∀ {B n:Nat}{v:Value}{K:iz},w.ownsRow B 5 1 v n (aQ K)->0<n->K[0]?≠some 0->∀ g,v.ownBlock=some g->w'.heap[g]?=w.heap[g]?:=λ{B n v K} E P N g hg=>by obtain⟨cur,i⟩:=kA E hg;exact dB g _ _ _ i (λe=>by rcases e with e|e<;>exact absurd e de) (λe=>by rcases e with e|e<;>exact absurd e de) (λe=>absurd e de) (λ_=>LL h2 E P N hg) (λe=>absurd e de)
 refine⟨h1.kx.exact (λg hg=>?_),h1.base,h1.fix.kept (λj _ _=>az (w:=w) (a:=iu G1.v j) C),(hs.at h2 h1.su de).trans h1.su,h1.tree.exact (λg hg=>?_),h1.bN,h1.l4,h1.marks.exact (λg hg=>?_),?_,h1.br,h1.mF.dB hs.ki.size (λg hg=>?_),h1.db,h1.qM,h1.bv,h1.book.dB (λg hg _=>?_),h1.cont,h1.al,h1.ml⟩
 ·rcases hg with e|e|rfl|e
  ·obtain⟨cs,t,h,f⟩:=ku.type h1.kx e;exact dB g _ _ _ h (λ_=>e) (λe=>by rcases f with rfl|rfl<;>rcases e with e|e<;>exact absurd e de) (λe=>by rcases f with rfl|rfl<;>exact absurd e de) (λe=>by rcases f with rfl|rfl<;>exact absurd e de) (λe=>by rcases f with rfl|rfl<;>exact absurd e de)
  ·have q:=e;obtain⟨j,n,c,D⟩:=(vL z u x g).1 e;have O:=(aD.1 D).1;obtain⟨cur,i⟩:=kA (y j _ _ (av om) D).2 (g:=g) rfl;exact dB g _ _ _ i (λe=>by rcases e with e|e<;>exact absurd e de) (λe=>by rcases e with e|e<;>exact absurd e de) (λe=>absurd e de) (λ_ e=>ha.p1 (e ▸ q)) (λe=>absurd e de)
  ·exact p
  ·exact o g e
 ·rcases h1.tree.dep hg with ⟨cs,e⟩|⟨⟨n,c,H⟩,cs,e⟩|⟨cs,e⟩|⟨_,_,_,cs,e⟩|⟨_,es,c,e⟩
  ·exact hs.at h2 e de
  ·obtain⟨⟨kv,lv,mv,G,h,f,_⟩,_⟩:=h1.tree;have s:=H;rw[cell_of h] at s;simp at s;refine k f om hz.2 g ?_;rw[s];rfl
  ·exact hs.at h2 e de
  ·exact hs.at h2 (show w.heap[g]?=_ from e) de
  ·exact l g _ _ e
 ·rcases hg with rfl|⟨n,c,e⟩
  ·exact p
  ·exact o g ⟨n,c,e⟩
 ·obtain⟨dv,mv,h,f,F⟩:=h1.ring;refine⟨dv,mv,(dB G1.r _ _ _ h (λe=>by rcases e with e|e<;>exact absurd e de) (λe=>by rcases e with e|e<;>exact absurd e de) (λe=>absurd e de) (λe=>absurd e de) (λ_=>rfl)).trans h,dE f (k f om hz.1),dE F (k F om hz.2)⟩
 ·rcases hg with rfl|rfl
  ·exact dB _ _ _ _ J (λe=>by rcases e with e|e<;>exact absurd e de) (λe=>by rcases e with e|e<;>exact absurd e de) (λ_=>rfl) (λe=>absurd e de) (λe=>absurd e de)
  ·exact dB _ _ _ _ I (λe=>by rcases e with e|e<;>exact absurd e de) (λe=>by rcases e with e|e<;>exact absurd e de) (λe=>absurd e de) (λ_=>ha.sb) (λe=>absurd e de)
 ·obtain⟨cs,t,m,h,f⟩:=kn.obj h1.book hg;exact dB g _ _ _ h (λe=>by rcases f with rfl|rfl<;>rcases e with e|e<;>exact absurd e de) (λ_=>hg) (λe=>by rcases f with rfl|rfl<;>exact absurd e de) (λe=>by rcases f with rfl|rfl<;>exact absurd e de) (λe=>by rcases f with rfl|rfl<;>exact absurd e de)
section
variable {s:kS}{i n p:Nat}{l:iz}
theorem kS.LN (s:kS) (i:Nat) (l:iz) (n:Nat) (hn:n<=50):(s.full.push i l n).ks.length<=113:=by have:=s.DS;unfold kS.push;rw[aE,zb];omega
end
def LO (la:List P.Ar) (p:Nat):Bool:=la.any λa=>P.hasB a (60+(p:Int))
structure GI (w0:World) (G:VG) (k q b11:Nat) (la:List P.Ar) (w:World) (s:kS) (S:VT) (c:Nat->iz):Prop where
 kx:ly G w s S
 gu:mH w k G.v (la.filter P.lj) s.kh
 qv:oF w q 0 c
 bx:w.heap[b11]?=some (.cells #[iw 60,iw 50] 27 (0,0))
 mz:Below w0.heap.size w0 w
 oV:∀ g,lp G w g->w0.heap.size<=g
 kq:w0.heap.size<=k/\w0.heap.size<=q
 un:∀ p,p<50->LO la p=true->nf s.wm p=false
 mL:s.ks.length<=113
section
variable {w0 w w':World}{G:VG}{k q b11 B0:Nat}{la:List P.Ar}{s s':kS}{S S':VT}{j:Nat}{c:Nat->iz}
theorem GI.below (h:GI w0 G k q b11 la w s S c) (hb:Below w.heap.size w w'):GI w0 G k q b11 la w' s S c:=
 ⟨h.kx.below hb,h.gu.after hb,h.qv.after hb,(hb.block _ (dC h.bx)).trans h.bx,h.mz.trans (hb.mono h.mz.size),λg hg=>by
  by_cases a:g<w.heap.size
  ·exact h.oV g ((Step.below h.kx hb).kO.back a hg)
  ·have:=h.mz.size;omega,h.kq,h.un,h.mL⟩
theorem lL.xP (hs:lL G w w') (hsy:∀ g,lp G w g->w0.heap.size<=g) (hb:Below w0.heap.size w0 w):Below w0.heap.size w0 w':=hb.trans (hs.ki.below hb.size (λg hg e=>by have:=hsy g e;omega))
theorem lL.uR (hs:lL G w w') (hsy:∀ g,lp G w g->w0.heap.size<=g) (hb:w0.heap.size<=w.heap.size):∀ g,lp G w' g->w0.heap.size<=g:=λg hg=>by
 by_cases a:g<w.heap.size
 ·exact hsy g (hs.back a hg)
 ·omega
theorem oF.kO (h:oF w q B0 c) (hV:ly G w s S) (hs:lL G w w'):oF w' q B0 c:=h.dB (λg cs t ht hg=>hs.at hV hg (by rcases ht with rfl|rfl|rfl<;>decide))
theorem oF.same {c':Nat->iz}(h:oF w q B0 c) (he:∀ p,p<50->c p=c' p):oF w q B0 c':=by obtain⟨dv,hv,hs,h1,a,b⟩:=h;refine⟨dv,hv,hs,h1,?_,b⟩;rw[show ((List.range 50).map λp=>sd (c' p))=(List.range 50).map λp=>sd (c p) from dZ λp hp=>by rw[he p (du.1 hp)]];exact a
theorem GI.book (h:GI w0 G k q b11 la w s S c) (hg:kf No G.b w w'){n':Nat}(hB:Bk w' G.b n'):GI w0 G k q b11 la w' s { S with n:=n' } c:=by have hs:=h.kx.kO hg;exact⟨h.kx.pb hg hB,h.gu.kO h.kx hs,h.qv.kO h.kx hs,(hs.at h.kx h.bx de).trans h.bx,hs.xP h.oV h.mz,hs.uR h.oV h.mz.size,h.kq,h.un,h.mL⟩
theorem GI.sync (h:GI w0 G k q b11 la w s S c) (hV:ly G w' s.sync S') (hst:Step G w w' S S' j):GI w0 G k q b11 la w' s.sync S' c:=⟨hV,h.gu.kO h.kx hst.kO,h.qv.kO h.kx hst.kO,(hst.kO.at h.kx h.bx de).trans h.bx,hst.kO.xP h.oV h.mz,hst.kO.uR h.oV h.mz.size,h.kq,h.un,aW _⟩
theorem GI.pd (h:GI w0 G k q b11 la w s S c) (hV:ly G w' s.pd S) (hk:mH w' k G.v (la.filter P.lj) true) (hc:aA (λg=>g=G.v\/g=k) w w'):GI w0 G k q b11 la w' s.pd S c:=by
 have i:∀ (g:Nat) (cs:Array Value) (t:TypeId),t≠104->t≠52->w.heap[g]?=some (.cells cs t (0,0))->w'.heap[g]?=w.heap[g]?:=λg cs t h1 l hg=>hc.block g (dC hg) (λe=>by
  rcases e with rfl|rfl
  ·obtain⟨⟨y,pv,hv,_⟩,_⟩:=h.kx.kx;rw[hg] at hv;simp only[IJ] at hv;exact h1 hv.2.1
  ·obtain⟨o,cap,hv,_⟩:=h.gu;rw[hg] at hv;simp only[IJ] at hv;exact l hv.2.1)
 have d:=h.oV G.v (.inl (.inl rfl));refine⟨hV,hk,h.qv.dB (λg cs t ht hg=>i g cs t (by rcases ht with rfl|rfl|rfl<;>decide) (by rcases ht with rfl|rfl|rfl<;>decide) hg),(i _ _ _ de de h.bx).trans h.bx,h.mz.trans (hc.below h.mz.size (λg hg e=>by have:=h.kq;rcases e with e|e<;>omega)),λg hg=>?_,h.kq,h.un,h.mL⟩;obtain⟨cs,t,p,r,u⟩:=lp.obj hV hg;by_cases x:g<w.heap.size
 ·rcases hg with (e|⟨n,pc,e⟩)|e|e|e|e
  ·exact h.oV g (.inl (.inl e))
  ·obtain⟨_,_,_,_,_,f,_⟩:=hV.kx.cells;have hp:=hV.kx;obtain⟨⟨j,pv,h1,_,_,_,_,_,_,m,_,vs,_,a,_⟩,_⟩:=hp;rw[cell_of h1,m] at e;obtain rfl:=aF e;exact am d (kJ a g rfl)
  ·have:=e.ge;have hb:=h.oV G.b (.inr (.inl (.inl rfl)));omega
  ·exact h.oV g (.inr (.inr (.inl e)))
  ·exact h.oV g (.inr (.inr (.inr (.inl e))))
  ·exact h.oV g (.inr (.inr (.inr (.inr e))))
 ·have:=h.mz.size;omega
end
end Go.Proofs.YthmcbgidehjlbaaGreat.Fd
namespace Go.Proofs.YthmcbgidehjlbaaGreat.Fd
open _root_.Go.Proofs.Tryz
open Go Go.RowKit K
variable {w:World}
theorem DW (s:kS) (i:Nat):∀ n,rE s.ks s.Dt i n=vT s.c i n
 | 0=>rfl
 | n+1=>by rw[rE,vT,DW s i n];rfl
def qQ (B:Nat) (w':World) (c:Nat->iz) (i n:Int) (e:Ending):Prop:=(p9 i n=false/\e=.returned (.tuple #[.slice none 0 0,iw 3]))\/(p9 i n=true/\∃ u,e=.returned (.tuple #[u,iw 0])/\w'.ownsRow B 5 1 u (n.toNat*64) (aQ (vT c i.toNat n.toNat)))
theorem DX {G:VG}{s:kS}{S:VT}(hV:ly G w s S) (hn:S.n<700000) (i n:Int):
  Calls prog 18 #[iq G.v,iw i,iw n] w λe w'=>qQ w.heap.size w' s.c i n e/\∃ n',n'<=S.n+50/\Bk w' G.b n'/\kf No G.b w w':=by
 cases hin:p9 i n with
 | true=>have h:=dw hin;obtain⟨I,rfl⟩:∃ I:Nat,i=I:=⟨i.toNat,by omega⟩;obtain⟨M,rfl⟩:∃ M:Nat,n=M:=⟨n.toNat,by omega⟩;refine (Lh hV hn I M om).mono ?_;rintro e w' ⟨u,n',rfl,h1,m,g,j⟩;refine⟨.inr ⟨hin,u,rfl,?_⟩,n',by omega,g,j⟩;rw[show (M:Int).toNat=M from rfl,show (I:Int).toNat=I from rfl,<-DW];exact h1
 | false=>
  have l:=LH (show qQ w.heap.size w s.c i n (.returned (.tuple #[.slice none 0 0,iw 3])) from .inl ⟨hin,rfl⟩);have hw:=DM hV.kx i n;rw[hin] at hw;have hw:=LH hw;have a:=LH (λd (hb:Below w.heap.size w d)=>(show qQ w.heap.size d s.c i n (.returned (.tuple #[.slice none 0 0,iw 3]))/\∃ n',n'<=S.n+50/\Bk d G.b n'/\kf No G.b w d from ⟨.inl ⟨hin,rfl⟩,S.n,by omega,hV.book.after hb,kf.dD hb⟩));obtain⟨v,hv⟩:=Ex G.v;rw[<-hv] at hw ⊢;replace hv:=LH hv;have f:=LH (ag w.heap.size w);clear hV hin;by_cases k:64<n
  ·go_enter func18,ntmps18;go_wp2;go_ret2;exact a.o w f.o
  ·go_enter func18,ntmps18
   go_wp2_with fail
   refine hw.o.mono ?_;rintro e d ⟨rfl,hb⟩;replace hb:=LH hb;go_wp2;go_ret2;exact a.o d hb.o
def oG (S S':VT):Prop:=S'.n<=S.n+1200/\S'.num<=S.num+113/\S'.l8<=S.l8+113
def Room (S:VT) (j:Nat):Prop:=S.n<=400+1200*j/\S.num<=113*j/\S.l8<=113*j
theorem Room.next {S S':VT}{j:Nat}(h:Room S j) (hb:oG S S'):Room S' (j+1):=by obtain⟨a,b,c⟩:=h;obtain⟨d,e,f⟩:=hb;unfold Room;refine⟨?_,?_,?_⟩<;>omega
theorem Step.uS {G:VG}{w':World}{S S':VT}{k:Nat}(h:Step G w w' S S' k) (hk:k<=113):oG S S':=⟨by have:=h.n;omega,by have:=h.num;omega,by have:=h.l8;omega⟩
theorem oG.refl (S:VT):oG S S:=⟨by omega,by omega,by omega⟩
def oy (w w':World):Prop:=w.heap.size<=w'.heap.size/\∀ (g:Nat) (cs:Array Value),w.heap[g]?=some (.cells cs 44 (0,0))->w'.heap[g]?=some (.cells cs 44 (0,0))
theorem oy.below {w':World}(hb:Below w.heap.size w w'):oy w w':=⟨hb.size,λg _ hg=>(hb.block g (dC hg)).trans hg⟩
section
variable {w0 w w':World}{G:VG}{k q b11:Nat}{la:List P.Ar}{s s':kS}{S S':VT}{j:Nat}{c:Nat->iz}
end
variable {G1 G2:VG}{S1 S2:VT}
theorem rG.step {w':World}{s1 s2 s2':kS}{S2':VT}{j:Nat}(ha:rG G1 G2 w S1 S2) (h1:ly G1 w s1 S1) (h2:ly G2 w s2 S2) (_:ly G1 w' s1 S1) (_:ly G2 w' s2' S2') (hs:Step G2 w w' S2 S2' j) (_:G1.A[0]?≠some 0/\G1.M[0]?≠some 0):rG G1 G2 w' S1 S2':=by
 have h:=hs.kO;obtain⟨⟨G,pv,hv,_,_,_,_,_,_,E,_,vs,B,C,D⟩,⟨sv,g1,g2⟩,_,_⟩:=h1.kx;have F:w.cell? (iu G1.v 110)=some pv:=(cell_of hv _).trans E
 have m:∀ g,ku w G1.v g->w'.heap[g]?=w.heap[g]?:=λg hg=>by
  obtain⟨cs,t,k,l⟩:=ku.type h1.kx hg;refine h.ki.block g (dC k) (λe=>?_);rcases lp.kind h2 e k with ⟨f,c⟩|⟨f,c⟩|⟨f,c⟩|⟨f,c⟩|⟨f,c⟩
  ·exact ha.vb g hg f
  ·rcases l with rfl|rfl<;>rcases c with e|e<;>exact absurd e de
  ·rcases l with rfl|rfl<;>exact absurd c de
  ·rcases l with rfl|rfl<;>exact absurd c de
  ·rcases l with rfl|rfl<;>exact absurd c de
 have o:=m G1.v (.inl rfl);have s:=h.at h2 g1 de;obtain⟨lv,hb⟩:=h1.book.box
 have q:w'.heap[G1.b]?=w.heap[G1.b]?:=h.ki.block _ (dC hb) (λe=>by
  rcases lp.kind h2 e hb with ⟨f,c⟩|⟨f,c⟩|⟨f,c⟩|⟨f,c⟩|⟨f,c⟩
  ·rcases c with e|e<;>exact absurd e de
  ·exact ha.row _ (.inl rfl) f
  ·exact absurd c de
  ·exact absurd c de
  ·exact absurd c de)
 have x:=h1.mF.self.2;refine⟨ha.d,ha.sb,ha.r,λg f c=>?_,λg f c=>?_,λe=>ha.m1 (ph.same s e),λe=>?_,λe=>?_,λe=>?_⟩
 ·have i:=ku.same o f;have u:=ku.lt h1.kx i;rcases h.uL g c with e|e
  ·exact ha.vb g i e
  ·omega
 ·have i:kn w G1.b g:=f.imp id (λe=>⟨e.1,mw.block q e.2⟩);have u:=kn.lt h1.book i;have p:kn w G2.b g:=c.imp id (λe=>⟨e.1,h.row g u e.1 e.2⟩);exact ha.row g i p
 ·rcases hs.uO _ e with e|e
  ·exact ha.m2 e
  ·omega
 ·obtain⟨pg,n,pc,j,n',z,k,l,y⟩:=e;rw[az (w:=w) (a:=iu G1.v 110) o] at k;rw[az (w:=w) (a:=iu pg (j*2+1)) (m pg (.inr ⟨n,pc,k⟩))] at y;exact ha.p1 ⟨pg,n,pc,j,n',z,k,l,y⟩
 ·rcases h.kC _ e with e|e
  ·exact ha.p2 e
  ·omega
def DY (G:VG):Prop:=G.A[0]?≠some 0/\G.M[0]?≠some 0
structure GF (w0:World) (G1 G2:VG) (k:Nat) (w:World) (s1 s2:kS) (S1 S2:VT):Prop where
 v1:ly G1 w s1 S1
 v2:ly G2 w s2 S2
 gu:mH w k G1.v [] false
 ap:rG G1 G2 w S1 S2
 mz:Below w0.heap.size w0 w
 y1:∀ g,lp G1 w g->w0.heap.size<=g
 y2:∀ g,lp G2 w g->w0.heap.size<=g
 f1:s1.ks.length<=113
 f2:s2.ks.length<=113
 z1:DY G1
 z2:DY G2
def nH (G:VG) (w w':World):Prop:=∀ g,g<w.heap.size->lp G w' g->lp G w g
section
variable {w0 w w' w2:World}{G1 G2:VG}{k:Nat}{s1 s2 s':kS}{S1 S2 S':VT}{j:Nat}
theorem nH.trans {G:VG}(h:nH G w w') (h2:nH G w' w2) (hs:w.heap.size<=w'.heap.size):nH G w w2:=λg a hg=>h g a (h2 g (aH a hs) hg)
theorem nH.below {G:VG}{s:kS}{S:VT}(h:ly G w s S) (hb:Below w.heap.size w w'):nH G w w':=λ_ a hg=>(Step.below h hb).kO.back a hg
theorem nH.other (ha:rG G1 G2 w S1 S2) (h1:ly G1 w s1 S1) (h2:ly G2 w s2 S2) (hs:lL G2 w w'):nH G1 w w':=λg h hg=>by
 obtain⟨⟨i,pv,hv,_⟩,_⟩:=h1.kx;obtain⟨lv,hb⟩:=h1.book.box
 have f:w'.heap[G1.v]?=w.heap[G1.v]?:=hs.ki.block _ (dC hv) (λe=>by
  rcases lp.kind h2 e hv with ⟨c,a⟩|⟨c,a⟩|⟨c,a⟩|⟨c,a⟩|⟨c,a⟩
  ·exact ha.vb _ (.inl rfl) c
  ·rcases a with e|e<;>exact absurd e de
  ·exact absurd a de
  ·exact absurd a de
  ·exact absurd a de)
 have d:w'.heap[G1.b]?=w.heap[G1.b]?:=hs.ki.block _ (dC hb) (λe=>by
  rcases lp.kind h2 e hb with ⟨c,a⟩|⟨c,a⟩|⟨c,a⟩|⟨c,a⟩|⟨c,a⟩
  ·rcases a with e|e<;>exact absurd e de
  ·exact ha.row _ (.inl rfl) c
  ·exact absurd a de
  ·exact absurd a de
  ·exact absurd a de)
 rcases hg with e|e|e
 ·exact .inl (ku.same f e)
 ·exact .inr (.inl (e.imp id (λe=>⟨e.1,mw.block d e.2⟩)))
 ·exact .inr (.inr e)
theorem GF.below (h:GF w0 G1 G2 k w s1 s2 S1 S2) (hb:Below w.heap.size w w'):GF w0 G1 G2 k w' s1 s2 S1 S2:=by have a:=h.v1.below hb;have b:=h.v2.below hb;exact⟨a,b,h.gu.after hb,h.ap.step h.v1 h.v2 a b (Step.below h.v2 hb) h.z1,h.mz.trans (hb.mono h.mz.size),(Step.below h.v1 hb).kO.uR h.y1 h.mz.size,(Step.below h.v2 hb).kO.uR h.y2 h.mz.size,h.f1,h.f2,h.z1,h.z2⟩
theorem GF.one (h:GF w0 G1 G2 k w s1 s2 S1 S2) (hV:ly G1 w' s' S') (hs:Step G1 w w' S1 S' j) (hf:s'.ks.length<=113):GF w0 G1 G2 k w' s' s2 S' S2/\nH G1 w w'/\nH G2 w w':=by
 have a:=h.v2.beside h.v1 h.z2 h.ap.symm hs.kO;have b:=nH.other h.ap.symm h.v2 h.v1 hs.kO;refine⟨⟨hV,a,h.gu.kO h.v1 hs.kO,(h.ap.symm.step h.v2 h.v1 a hV hs h.z2).symm,hs.kO.xP h.y1 h.mz,hs.kO.uR h.y1 h.mz.size,λg hg=>?_,hf,h.f2,h.z1,h.z2⟩,λg c hg=>hs.kO.back c hg,b⟩;by_cases c:g<w.heap.size
 ·exact h.y2 g (b g c hg)
 ·have:=h.mz.size;omega
theorem GF.two (h:GF w0 G1 G2 k w s1 s2 S1 S2) (hV:ly G2 w' s' S') (hs:Step G2 w w' S2 S' j) (hf:s'.ks.length<=113):GF w0 G1 G2 k w' s1 s' S1 S'/\nH G1 w w'/\nH G2 w w':=by
 have a:=h.v1.beside h.v2 h.z1 h.ap hs.kO;have b:=nH.other h.ap h.v1 h.v2 hs.kO;refine⟨⟨a,hV,h.gu.kO h.v2 hs.kO,h.ap.step h.v1 h.v2 a hV hs h.z1,hs.kO.xP h.y2 h.mz,λg hg=>?_,hs.kO.uR h.y2 h.mz.size,h.f1,hf,h.z1,h.z2⟩,b,λg c hg=>hs.kO.back c hg⟩;by_cases c:g<w.heap.size
 ·exact h.y1 g (b g c hg)
 ·have:=h.mz.size;omega
end
def qR (s:kS) (i:Int) (l:iz) (N:Nat):kS:=if mq s.kh i N=0 then s.full.push i.toNat l (N / 64) else s
theorem LP (kh:Bool) (i:Int) (N:Nat):qP [] kh i N=mq kh i N:=by
 unfold qP;split
 ·rename_i h;rw[h];rfl
 ·rfl
theorem LQ (kh:Bool) (i:Int) (N:Nat):mq kh i N≠7:=by rcases xO kh i N with h|h|h|⟨h,_⟩<;>rw[h]<;>decide
theorem DZ {s:kS}{i:Int}{l:iz}{N:Nat}(h:s.ks.length<=113):(qR s i l N).ks.length<=113:=by
 unfold qR;split
 ·rename_i b;rcases xO s.kh i N with a|a|a|⟨_,_,_,h0,h1⟩
  ·rw[b] at a;exact absurd a de
  ·rw[b] at a;exact absurd a de
  ·rw[b] at a;exact absurd a de
  ·exact kS.LN _ _ _ _ om
 ·exact h
theorem LR {G:VG}{s:kS}{S:VT}(hV:ly G w s S){Sx:Nat->Prop}{da:Option Addr}{N dcap:Nat}{l:iz}(hd:Bytes w Sx (.slice da N dcap) l) (hSx:∀ g,Sx g->¬ lp G w g) (i:Int)
  (hn:S.n+9*s.ks.length<700000) (hnum:S.num+s.ks.length<800000) (hrn:S.l8+s.ks.length<800000):
  Calls prog 26 #[iq G.v,iw i,.slice da N dcap] w λe w'=>e=.returned (iw (mq s.kh i N))/\∃ S',ly G w' (qR s i l N) S'/\Step G w w' S S' s.ks.length:=by
 have h:N=l.length:=by obtain⟨a,c,e,_⟩:=hd.shape;simp only[IJ] at e;exact e.2.1
 have m:N<=maxLen:=by obtain⟨a,c,e,h1,q⟩:=hd.shape;simp only[IJ] at e;obtain⟨rfl,r,rfl⟩:=e;omega
 rcases xO s.kh i N with d|d|d|⟨d,hlat,hN0,hi0,hi1⟩
 rotate_right
 ·obtain⟨I,rfl⟩:∃ I:Nat,i=I:=⟨i.toNat,by omega⟩;rw[d];unfold qR;rw[ak d];exact DT hV hlat hd hSx I (N / 64) om om hn hnum hrn
 all_goals
  have b:=zE hV.kx i da N dcap m;have f:=LH (λk (hb:Below w.heap.size w k)=>(show ∃ S',ly G k (qR s i l N) S'/\Step G w k S S' s.ks.length from ⟨S,by unfold qR;rw[ah (by rw[d];decide)];exact hV.below hb,(Step.below hV hb).mono (aW _)⟩));rw[d] at b ⊢;obtain⟨v,hv⟩:=Ex G.v;rw[<-hv] at b ⊢;revert h hd d b hv;refine H5 ?_;intro h hd d b hv;clear hV hSx;go_enter func26,ntmps26
  go_wp2_with fail
  refine b.o.mono ?_;rintro e k ⟨rfl,j⟩;have p:=LH (f.o k j);clear j f;go_wp2;go_ret;exact⟨rfl,p.o⟩
section
variable {w0 w:World}{G1 G2:VG}{k:Nat}{s1 s2:kS}{S1 S2:VT}{j:Nat}
theorem oy.kO {G:VG}{w':World}{s:kS}{S:VT}(h:ly G w s S) (hs:lL G w w'):oy w w':=⟨hs.ki.size,λ_ _ hg=>(hs.at h hg de).trans hg⟩
theorem GF.data (h:GF w0 G1 G2 k w s1 s2 S1 S2){v:Value}{l:iz}(hd:Bytes w0 (λ_=>True) v l):Bytes w (λg=>g<w0.heap.size) v l:=(Bytes.mono (S':=λg=>g<w0.heap.size) hd (λ_ hg _=>hg)).dB h.mz.size (λg hg _=>h.mz.block g hg)
theorem LS (h:GF w0 G1 G2 k w s1 s2 S1 S2) (hr:Room S1 j) (hj:j<=50){da:Option Addr}{N dcap:Nat}{l:iz}(hd:Bytes w0 (λ_=>True) (.slice da N dcap) l) (i:Int):
  Calls prog 17 #[iq k,iw i,.slice da N dcap] w λe w'=>e=.returned (iw (mq s1.kh i N))/\lL G1 w w'/\∃ S',(GF w0 G1 G2 k w' (qR s1 i l N) s2 S' S2/\nH G1 w w'/\nH G2 w w')/\oG S1 S':=by
 obtain⟨a,b,d⟩:=hr;have o:=h.f1;refine (Lv h.gu h.v1 (h.data hd) (λg hg hs=>by have:=h.y1 g hs;omega) i (λa q=>by cases q) om om om).mono ?_;rw[LP];rintro e w' ⟨rfl,h1|h1|h1⟩
 ·obtain⟨m,r,n,p,f⟩:=h1;refine⟨rfl,f.kO,S1,?_,oG.refl S1⟩;unfold qR;rw[ah m];exact h.one n f o
 ·exact absurd h1.1 (LQ _ _ _)
 ·obtain⟨m,S',n,p,f⟩:=h1;refine⟨rfl,f.kO,S',?_,f.uS o⟩;have c:=DZ (i:=i) (l:=l) (N:=N) o;unfold qR at c ⊢;rw[ak m] at c ⊢;exact h.one n f c
theorem LU (h:GF w0 G1 G2 k w s1 s2 S1 S2) (hr:Room S2 j) (hj:j<=50){da:Option Addr}{N dcap:Nat}{l:iz}(hd:Bytes w0 (λ_=>True) (.slice da N dcap) l) (i:Int):
  Calls prog 26 #[iq G2.v,iw i,.slice da N dcap] w λe w'=>e=.returned (iw (mq s2.kh i N))/\lL G2 w w'/\∃ S',(GF w0 G1 G2 k w' s1 (qR s2 i l N) S1 S'/\nH G1 w w'/\nH G2 w w')/\oG S2 S':=by
 obtain⟨a,b,d⟩:=hr;have f:=h.f2;refine (LR h.v2 (h.data hd) (λg hg hs=>by have:=h.y2 g hs;omega) i om om om).mono ?_;rintro e w' ⟨rfl,S',m,c⟩;exact⟨rfl,c.kO,S',h.two m c (DZ f),c.uS f⟩
theorem LV (h:GF w0 G1 G2 k w s1 s2 S1 S2) (hr:Room S1 j) (hj:j<=50):Calls prog 20 #[iq G1.v] w λe w'=>e=.returned (iw 0)/\oy w w'/\∃ S',GF w0 G1 G2 k w' s1.sync s2 S' S2/\oG S1 S':=by obtain⟨a,b,d⟩:=hr;have g:=h.f1;refine (zG h.v1 om om om).mono ?_;rintro e w' ⟨rfl,S',f,c⟩;exact⟨rfl,oy.kO h.v1 c.kO,S',(h.one f c (aW _)).1,c.uS g⟩
theorem LW (h:GF w0 G1 G2 k w s1 s2 S1 S2) (hr:Room S2 j) (hj:j<=50):Calls prog 20 #[iq G2.v] w λe w'=>e=.returned (iw 0)/\oy w w'/\∃ S',GF w0 G1 G2 k w' s1 s2.sync S1 S'/\oG S2 S':=by obtain⟨a,b,d⟩:=hr;have g:=h.f2;refine (zG h.v2 om om om).mono ?_;rintro e w' ⟨rfl,S',f,c⟩;exact⟨rfl,oy.kO h.v2 c.kO,S',(h.two f c (aW _)).1,c.uS g⟩
theorem LX (h:GF w0 G1 G2 k w s1 s2 S1 S2):Calls prog 31 #[iq G1.v] w λe w'=>e=.returned (.tuple #[])/\GF w0 G1 G2 k w' s1.pd s2 S1 S2:=by refine (zH h.v1).mono ?_;rintro e w' ⟨rfl,b,a,-⟩;exact⟨rfl,(h.one b a h.f1).1⟩
theorem LY (h:GF w0 G1 G2 k w s1 s2 S1 S2):Calls prog 31 #[iq G2.v] w λe w'=>e=.returned (.tuple #[])/\GF w0 G1 G2 k w' s1 s2.pd S1 S2:=by refine (zH h.v2).mono ?_;rintro e w' ⟨rfl,b,a,-⟩;exact⟨rfl,(h.two b a h.f2).1⟩
theorem LZ (h:GF w0 G1 G2 k w s1 s2 S1 S2) (hr:Room S1 j) (hj:j<=50) (i n:Int):Calls prog 18 #[iq G1.v,iw i,iw n] w λe w'=>qQ w.heap.size w' s1.c i n e/\kf No G1.b w w'/\oy w w'/\∃ S',GF w0 G1 G2 k w' s1 s2 S' S2/\oG S1 S':=by obtain⟨a,b,d⟩:=hr;refine (DX h.v1 om i n).mono ?_;rintro e w' ⟨h1,n',m,l,f⟩;have g:Step G1 w w' S1 { S1 with n:=n' } 50:=Step.book h.v1 f om;exact⟨h1,f,oy.kO h.v1 g.kO,_,(h.one (h.v1.pb f l) g h.f1).1,g.uS om⟩
theorem L5 (h:GF w0 G1 G2 k w s1 s2 S1 S2) (hr:Room S2 j) (hj:j<=50) (i n:Int):Calls prog 18 #[iq G2.v,iw i,iw n] w λe w'=>qQ w.heap.size w' s2.c i n e/\kf No G2.b w w'/\oy w w'/\∃ S',GF w0 G1 G2 k w' s1 s2 S1 S'/\oG S2 S':=by obtain⟨a,b,d⟩:=hr;refine (DX h.v2 om i n).mono ?_;rintro e w' ⟨h1,n',m,l,f⟩;have g:Step G2 w w' S2 { S2 with n:=n' } 50:=Step.book h.v2 f om;exact⟨h1,f,oy.kO h.v2 g.kO,_,(h.two (h.v2.pb f l) g h.f2).1,g.uS om⟩
end
theorem L6 {v m:Nat}{L:iz}{kh:Bool}(h:kF w v m L [] kh) (x:Nat):¬ nW w v x:=λe=>by obtain⟨⟨i,pv,hv,_,_,_,_,_,_,f,_,vs,a,b,d⟩,_⟩:=h;obtain⟨j,n,c,g⟩:=(vL ((cell_of hv _).trans f) a b x).1 e;have:=(aD.1 g).1;simp at a;subst a;simp at this
theorem vR.two {B:Nat}{w1 w2:World}(h1:vR B w1 G1 S1) (h2:vR w1.heap.size w2 G2 S2) (hb:Below w1.heap.size w1 w2):rG G1 G2 w2 S1 S2:=by
 have m:=h1.kx.below hb;have hd:=h1.kx.mF.self;obtain⟨dv,mv,hr,_⟩:=h1.kx.ring;have l:=dC hr;have r:=Step.below h1.kx hb
 have d:∀ g,lp G1 w2 g->g<w1.heap.size:=λg hg=>by
  by_cases h:g<w1.heap.size
  ·exact h
  ·exfalso;obtain⟨⟨s,pv,hv,_⟩,_⟩:=h1.kx.kx;obtain⟨lv,f⟩:=h1.kx.book.box;rcases hg with e|e|e|e|e
   ·exact h (ku.lt h1.kx.kx (ku.same (hb.block _ (dC hv)) e))
   ·exact h (kn.lt h1.kx.book (e.imp id (λe=>⟨e.1,mw.block (hb.block _ (dC f)) e.2⟩)))
   ·omega
   ·omega
   ·omega
 have j:=hd.1;have k:=hd.2;refine⟨by have:=h2.hd;omega,by have:=h2.mD;omega,by have:=h2.hr;omega,λg a b=>?_,λg a b=>?_,λe=>?_,λe=>?_,L6 m.kx _,h2.kC _⟩
 ·have:=d g (.inl a);have:=h2.oV g (.inl b);omega
 ·have:=d g (.inr (.inl a));have:=h2.oV g (.inr (.inl b));omega
 ·obtain⟨o,hm⟩:=h1.kx.marks.box;have i:=ph.same (S:=S1) (hb.block _ (dC hm)) e;obtain⟨n,c,hc⟩:=i;obtain⟨_,sv,a,b⟩:=h1.kx.marks;rw[cell_of a] at hc;simp at hc;subst hc;have p:=kt b G2.sb rfl;have q:=h2.mD;omega
 ·have:=h2.uO _ e;omega
end Go.Proofs.YthmcbgidehjlbaaGreat.Fd

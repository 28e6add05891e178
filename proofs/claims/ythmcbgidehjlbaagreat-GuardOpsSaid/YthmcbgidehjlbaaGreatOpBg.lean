/-
 Parts of the proof. No condition beyond what each theorem names.
-/
import Derived.Test.YthmcbgidehjlbaaGreatOpBa
import Derived.Test.YthmcbgidehjlbaaGreatOpBc
import Derived.Test.YthmcbgidehjlbaaGreatOpBe
import Derived.Test.YthmcbgidehjlbaaGreatOpBf
set_option maxRecDepth 100000
set_option maxHeartbeats 4000000
namespace Go.Proofs.YthmcbgidehjlbaaGreat.Fd
open _root_.Go.Proofs.Tryz
open Go Go.RowKit K
variable {w:World}{S:Nat->Prop}{ad:Option Addr}{cap:Nat}
theorem C5 (w:World):Calls prog 41 #[.slice none 0 0] w λe w'=>e=.returned (.slice none 0 0)/\w=w':=by have he:=Lib.run_eql_slice_nil (P:=prog) w 23 27 none 0 0 0 0 underlying23;go_enter func41,ntmps41;go_wp2;go_ret;exact⟨rfl,rfl⟩
theorem LQ {n:Nat}{l:List P.Ar}(hb:Cells w S (.slice ad n cap) n 2 (P.lP l)) (hl:n<=1000000):
  Calls prog 41 #[.slice ad n cap] w λe w'=>∃ a c,e=.returned (.slice a n c)/\Cells w' (λg=>w.heap.size<=g/\∃ cs,w'.heap[g]?=some (.cells cs 27 (0,0))) (.slice a n c) n 2 (P.lP l)/\(a=none\/∃ g,a=some (iu g 0)/\P.nm w' g c l/\w.heap.size<=g)/\Below w.heap.size w w':=by
 have d:n=l.length:=by have:=hb.1;rw[P.rF] at this;omega
 cases ad with
 | none=>obtain⟨h1,a,c,e,k,i,j,_⟩:=hb;simp only[IJ] at e;obtain⟨rfl,-,rfl⟩:=e;obtain rfl:cap=0:=j rfl;obtain rfl:n=0:=om;refine (C5 w).mono ?_;rintro e w' ⟨rfl,rfl⟩;obtain rfl:l=[]:=gB.1 d.symm;exact⟨none,0,rfl,Cells.nil _ _ 2,.inl rfl,ag _ _⟩
 | some ad=>refine (P.zy hb hl).mono ?_;rintro e w' ⟨g,c,rfl,hr,hg,f⟩;refine⟨some (iu g 0),c,rfl,?_,.inr ⟨g,rfl,hr,hg⟩,f⟩;have h:=hr.cells;rw[<-d] at h;refine Cells.mono h (λb _ e=>?_);obtain⟨cur,i,_⟩:=hr;exact⟨by omega,cur,e ▸ i⟩
theorem LR {a:Option Addr}{n c:Nat}{l:List P.Ar}(hb:Cells w S (.slice a n c) n 2 (P.lP l)){B:Nat}(h:a=none\/∃ g,a=some (iu g 0)/\P.nm w g c l/\B<=g) (hl:n<=1000):
  Calls prog 40 #[.slice a n c,.func (.func 42) #[] #[]] w λe w'=>e=.returned (.slice a (l.filter P.kR).length c)/\Cells w' (λg=>∃ cs,w'.heap[g]?=some (.cells cs 27 (0,0))) (.slice a (l.filter P.kR).length c) (l.filter P.kR).length 2 (P.lP (l.filter P.kR))/\aQ (λg=>B<=g) w w':=by
 have d:n=l.length:=by have:=hb.1;rw[P.rF] at this;omega
 rcases h with rfl|⟨g,rfl,hr,hBg⟩
 ·obtain⟨h1,a,p,e,q,m,o,_⟩:=hb;simp only[IJ] at e;obtain⟨rfl,-,rfl⟩:=e;obtain rfl:c=0:=o rfl;obtain rfl:n=0:=om;obtain rfl:l=[]:=gB.1 d.symm;refine (P.C7 (S:=S) (l:=[]) (Cells.nil _ _ 2) (λj h=>absurd h (dH j))).mono ?_;rintro e w' ⟨rfl,k⟩;exact⟨rfl,Cells.nil _ _ 2,aQ.dE k _⟩
 ·rw[d];refine (P.C8 hr om).mono ?_;rintro e w' ⟨rfl,f,hc⟩;refine⟨rfl,Cells.mono f.cells (λb _ e=>?_),aQ.mono hc (λi _ e=>by rw[e];exact hBg)⟩;obtain⟨cur,m,_⟩:=f;exact⟨cur,e ▸ m⟩
theorem LS (v:Nat){n:Nat}{l:List P.Ar}(hb:Cells w S (.slice ad n cap) n 2 (P.lP l)) (hl:n<=1000):
  Calls prog 10 #[iq v,.slice ad n cap] w λe w'=>∃ k,e=.returned (iq k)/\w.heap.size<=k/\mO w' k v (l.filter P.kR) false/\Below w.heap.size w w':=by
 have p:=LH (LQ hb om);clear hb;go_enter func10,ntmps10
 go_wp2_with fail
 refine p.o.mono ?_;rintro e x ⟨a,c,rfl,j,s,f⟩;have q:=LH (LR j s hl);replace f:=LH f;clear p j s
 go_wp2_with fail
 refine q.o.mono ?_;rintro e w2 ⟨rfl,m,r⟩;have g:=f.o.trans (r.below f.o.size (λi hi e=>by omega))
 have t:mO (w2.alloc (.cells #[iq v,.slice a (l.filter P.kR).length c,.bool false] 52)) w2.heap.size v (l.filter P.kR) false:=⟨a,c,aj w2 _,by refine Cells.mono (Cells.dC m sm (λb ⟨cs,d⟩ _=>aB _ _ _ (dD d))) (λb _ ⟨cs,d⟩=>⟨cs,(aB _ _ _ (dD d)).trans d⟩)⟩
 have h:=g.alloc g.size (.cells #[iq v,.slice a (l.filter P.kR).length c,.bool false] 52);replace t:=LH t;replace h:=LH h;have u:=LH g.size;clear m r g q;go_wp2;go_ret;exact⟨_,rfl,u.o,t.o,h.o⟩
section
open Go.ChangeShapes Go.WideShapes Go.ChangeAt Go.Deep Go.Joins
variable {H:Type}{enc:TypeId×Value->H}{w:World}{base:Nat}{held:Bool}
theorem trod_struct2 {P:Program}{t:TypeId}{f0 f1:Field}{fuel:Nat}{cs:List Value}{x:DataW H×List MemPlace}(ht:P.underlying t=some (.struct #[f0,f1])) (h:DataW.trod enc P w base (λ_=>true) held fuel t cs=some x):
  ∃ y0 y1 n,cs.length=P.cellsOf t/\DataW.trod enc P w base (λ_=>true) held n f0.type ((cs.drop f0.offset).take (P.cellsOf f0.type))=some y0/\DataW.trod enc P w base (λ_=>true) held n f1.type ((cs.drop f1.offset).take (P.cellsOf f1.type))=some y1:=by
 obtain⟨xs,n,_,rfl,b,hlen,a⟩:=DataW.trod_struct ht h
 match xs,hlen with
 | [y0,y1],_=>exact⟨y0,y1,n,b,by simpa using a 0 f0 rfl,by simpa using a 1 f1 rfl⟩
theorem LU {cs:List Value}(h:cs.length=2):∃ c0 c1,cs=[c0,c1]:=by
 match cs,h with
 | [c0,c1],_=>exact⟨c0,c1,rfl⟩
def uL (x:Int):Prop:=-9223372036854775808<=x/\x<=9223372036854775807
theorem LV {fuel:Nat}{cs:List Value}{x:DataW H×List MemPlace}(h:DataW.trod enc prog w base (λ_=>true) held fuel 27 cs=some x):∃ a:P.Ar,cs=[iw a.1,iw a.2]/\uL a.1/\uL a.2:=by
 obtain⟨i,y1,n,d,c,h1⟩:=trod_struct2 underlying27 h;rw[show prog.cellsOf 27=2 by kernel_rfl] at d;obtain⟨c0,c1,rfl⟩:=LU d;have b:prog.cellsOf 3=1:=kr;simp only[b,List.drop,List.take] at c h1;obtain⟨z0,e,_,w0⟩:=fg underlying3 c;obtain⟨z1,f,_,g⟩:=fg underlying3 h1;cases e
 cases f
 exact⟨(z0,z1),rfl,wf_i64 w0,wf_i64 g⟩
theorem LW (x:Addr):(x.add (0*2)).add 0=x:=by simp[Addr.add]
theorem LX {r:Reach}{b0:Nat}{v:Value}{d:DataW H}{p:List MemPlace}(hv:Value.okWide prog w r b0 23 v) (h:DataW.Trod enc prog w base (λ_=>true) held 23 v d p):
  ∃ a cap,∃ L:List P.Ar,v=.slice a L.length cap/\Cells w (λ_=>True) (.slice a L.length cap) L.length 2 (P.lP L)/\∀ x ∈ L,uL x.1/\uL x.2:=by
 obtain⟨a,len,cap,rfl⟩:=okWide_slice underlying23 hv;obtain⟨fuel,K⟩:=h;rcases open_slice underlying23 K with ⟨b,_⟩|⟨x,l,c,m,n,D,U,b,_,O,hm,B,_,G⟩
 ·simp[Value.cells] at b;obtain⟨rfl,rfl,rfl⟩:=b;exact⟨none,0,[],rfl,Cells.nil _ _ 2,λx G=>by cases G⟩
 ·simp[Value.cells] at b;obtain⟨rfl,rfl,rfl⟩:=b;simp only[ea] at B;rw[B] at G
  have C:∀ i,i<len->∃ q:P.Ar,∃ cs,cs.length=2/\(∀ j,j<2->w.cell? ((x.add (i*2)).add j)=cs[j]?)/\cs=[iw q.1,iw q.2]/\uL q.1/\uL q.2:=λi hi=>by obtain⟨cs,h1,t⟩:=G i om;rw[show prog.cellsOf 27=2 by kernel_rfl] at h1;obtain⟨_,I,F⟩:=World.cells?_some h1;obtain⟨q,Q⟩:=LV t;exact⟨q,cs,I,F,Q⟩
  have:Inhabited P.Ar:=⟨(0,0)⟩;obtain⟨f,e⟩:=choose_lt C;refine⟨some x,cap,(List.range len).map f,by simp,?_,λy R=>?_⟩
  ·rw[df,List.length_range];refine⟨by rw[P.rF];simp,some x,cap,rfl,O,hm,λh=>(by cases h),?_⟩;rcases Nat.eq_zero_or_pos len with E|E
   ·exact .inl E
   ·right;obtain⟨g,off,spot⟩:=x
    have k:spot=none:=by obtain⟨cs,V,S,T,_⟩:=e 0 E;subst T;have z:=S 0 om;rw[LW] at z;exact gG z
    subst k
    have A:∀ j,j<len->w.cell? (iu g (off+j*2))=some (iw (f j).1)/\w.cell? (iu g (off+(j*2+1)))=some (iw (f j).2):=λj M=>by obtain⟨cs,I,F,J,_⟩:=e j M;subst J;have o:=F 0 om;have s:=F 1 om;rw[DJ] at o s;exact⟨o,s⟩
    refine⟨g,off,rfl,trivial,kZ (A 0 E).1,λj u hu=>?_⟩
    have N:j<len*2:=by
     have:=(aD.1 hu).1;rw[P.rF] at this
     simpa using this
    obtain⟨g1,g2⟩:=P.tG ((List.range len).map f) (j / 2) (by simp;omega);obtain⟨o,s⟩:=A (j / 2) om;rcases Nat.mod_two_eq_zero_or_one j with t|t
    ·rw[show j / 2*2=j by omega] at g1 o;rw[hu] at g1;rw[o,aF g1];simp
    ·rw[show j / 2*2+1=j by omega] at g2 s;rw[hu] at g2;rw[s,aF g2];simp
  ·obtain⟨i,hi,rfl⟩:=aO.1 R;obtain⟨cs,_,_,_,h1,t⟩:=e i (du.1 hi);exact⟨h1,t⟩
end
end Go.Proofs.YthmcbgidehjlbaaGreat.Fd
namespace Go.Proofs.YthmcbgidehjlbaaGreat.Fd
open Go Go.RowKit K
section
variable {s:kJ}{i n p:Nat}{l:iz}
theorem kJ.Ma (s:kJ) (p:Nat):s.full.c p=s.c p:=by unfold kJ.full;split<;>rfl
theorem kJ.Mb (s:kJ) (i:Nat) (l:iz) (n p:Nat):(s.push i l n).c p=kQ (lU i l n) p (s.c p):=zw _ _ _ _
theorem kJ.DS (s:kJ):s.full.wm=s.wm:=by unfold kJ.full;split<;>rfl
theorem kJ.Mc (s:kJ) (i:Nat) (l:iz) (n:Nat):(s.push i l n).wm=lp s.wm (lU i l n):=dL ..
theorem kJ.DT (s:kJ) (i:Nat) (l:iz) (n:Nat):(s.push i l n).ki=s.ki:=rfl
theorem Md (ks:List (Nat×iz)) (L:iz):(lp L ks).length=L.length:=by
 induction ks generalizing L with
 | nil=>rfl
 | cons k ks ih=>exact (ih (pV L k.1)).trans yK
theorem DU {k:Nat×iz}(h:k ∈ lU i l n):i<=k.1/\k.1<i+n:=by unfold lU at h;obtain⟨j,a,rfl⟩:=aO.1 h;have:=du.1 a;exact⟨by simp,by simp;omega⟩
theorem Me (hL:s.wm.length=7) (hin:i+n<=50) (h:nB s.wm p=false) (hp:∀ j,j<n->p≠i+j):nB (s.push i l n).wm p=false:=by rw[kJ.Mc,zB _ _ _ hL (λk hk=>by have:=DU hk;omega),h,fD,eo];intro k hk;have:=DU hk;simp only[cL];intro e;exact hp (k.1 - i) om om
theorem mM.Mf {G:VG}{w:World}{S:VT}(h:mM G w s S):s.wm.length=7:=by unfold kJ.wm;rw[Md];exact h.zC
theorem mM.Mg {G:VG}{w:World}{S:VT}(h:mM G w s S) (p:Nat):(s.c p).length=64:=h.zL p
theorem kJ.Mh (s:kJ) (i:Nat) (l:iz) (n:Nat) (hn:n<=50):(s.full.push i l n).ks.length<=113:=by have:=s.DI;unfold kJ.push;rw[aE,zh];omega
end
def tJ (la:List P.Ar) (p:Nat):Bool:=la.any λa=>P.hasB a (60+(p:Int))
structure GI (w0:World) (G:VG) (k q b11:Nat) (la:List P.Ar) (w:World) (s:kJ) (S:VT) (c:Nat->iz):Prop where
 kC:mM G w s S
 gu:mO w k G.v (la.filter P.kR) s.ki
 qv:l5 w q 0 c
 bx:w.heap[b11]?=some (.cells #[iw 60,iw 50] 27 (0,0))
 mm:Below w0.heap.size w0 w
 nX:∀ g,nn G w g->w0.heap.size<=g
 kq:w0.heap.size<=k/\w0.heap.size<=q
 un:∀ p,p<50->tJ la p=true->nB s.wm p=false
 mu:s.ks.length<=113
section
variable {w0 w w':World}{G:VG}{k q b11 B0:Nat}{la:List P.Ar}{s s':kJ}{S S':VT}{j:Nat}{c:Nat->iz}
theorem GI.below (h:GI w0 G k q b11 la w s S c) (hb:Below w.heap.size w w'):GI w0 G k q b11 la w' s S c:=
 ⟨h.kC.below hb,h.gu.after hb,h.qv.after hb,(hb.block _ (dD h.bx)).trans h.bx,h.mm.trans (hb.mono h.mm.size),λg hg=>by
  by_cases a:g<w.heap.size
  ·exact h.nX g ((Step.below h.kC hb).lR.back a hg)
  ·have:=h.mm.size;omega,h.kq,h.un,h.mu⟩
theorem l3.xO (hs:l3 G w w') (hsy:∀ g,nn G w g->w0.heap.size<=g) (hb:Below w0.heap.size w0 w):Below w0.heap.size w0 w':=hb.trans (hs.kj.below hb.size (λg hg e=>by have:=hsy g e;omega))
theorem l3.xP (hs:l3 G w w') (hsy:∀ g,nn G w g->w0.heap.size<=g) (hb:w0.heap.size<=w.heap.size):∀ g,nn G w' g->w0.heap.size<=g:=λg hg=>by
 by_cases a:g<w.heap.size
 ·exact hsy g (hs.back a hg)
 ·omega
theorem l5.lR (h:l5 w q B0 c) (hV:mM G w s S) (hs:l3 G w w'):l5 w' q B0 c:=h.dC (λg cs t ht hg=>hs.at hV hg (by rcases ht with rfl|rfl|rfl<;>decide))
theorem l5.same {c':Nat->iz}(h:l5 w q B0 c) (he:∀ p,p<50->c p=c' p):l5 w q B0 c':=by obtain⟨dv,hv,hs,h1,a,b⟩:=h;refine⟨dv,hv,hs,h1,?_,b⟩;rw[show ((List.range 50).map λp=>mP (c' p))=(List.range 50).map λp=>mP (c p) from dZ λp hp=>by rw[he p (du.1 hp)]];exact a
theorem GI.book (h:GI w0 G k q b11 la w s S c) (hg:kh No G.b w w'){n':Nat}(hB:Bk w' G.b n'):GI w0 G k q b11 la w' s { S with n:=n' } c:=by have hs:=h.kC.lR hg;exact⟨h.kC.pZ hg hB,h.gu.lR h.kC hs,h.qv.lR h.kC hs,(hs.at h.kC h.bx de).trans h.bx,hs.xO h.nX h.mm,hs.xP h.nX h.mm.size,h.kq,h.un,h.mu⟩
theorem GI.sync (h:GI w0 G k q b11 la w s S c) (hV:mM G w' s.sync S') (hst:Step G w w' S S' j):GI w0 G k q b11 la w' s.sync S' c:=⟨hV,h.gu.lR h.kC hst.lR,h.qv.lR h.kC hst.lR,(hst.lR.at h.kC h.bx de).trans h.bx,hst.lR.xO h.nX h.mm,hst.lR.xP h.nX h.mm.size,h.kq,h.un,aW _⟩
theorem GI.pj (h:GI w0 G k q b11 la w s S c) (hV:mM G w' s.pj S) (hk:mO w' k G.v (la.filter P.kR) true) (hc:aQ (λg=>g=G.v\/g=k) w w'):GI w0 G k q b11 la w' s.pj S c:=by
 have i:∀ (g:Nat) (cs:Array Value) (t:TypeId),t≠104->t≠52->w.heap[g]?=some (.cells cs t (0,0))->w'.heap[g]?=w.heap[g]?:=λg cs t h1 l hg=>hc.block g (dD hg) (λe=>by
  rcases e with rfl|rfl
  ·obtain⟨⟨y,pv,hv,_⟩,_⟩:=h.kC.kC;rw[hg] at hv;simp only[IJ] at hv;exact h1 hv.2.1
  ·obtain⟨o,cap,hv,_⟩:=h.gu;rw[hg] at hv;simp only[IJ] at hv;exact l hv.2.1)
 have d:=h.nX G.v (.inl (.inl rfl));refine⟨hV,hk,h.qv.dC (λg cs t ht hg=>i g cs t (by rcases ht with rfl|rfl|rfl<;>decide) (by rcases ht with rfl|rfl|rfl<;>decide) hg),(i _ _ _ de de h.bx).trans h.bx,h.mm.trans (hc.below h.mm.size (λg hg e=>by have:=h.kq;rcases e with e|e<;>omega)),λg hg=>?_,h.kq,h.un,h.mu⟩;obtain⟨cs,t,p,r,u⟩:=nn.obj hV hg;by_cases x:g<w.heap.size
 ·rcases hg with (e|⟨n,pc,e⟩)|e|e|e|e
  ·exact h.nX g (.inl (.inl e))
  ·obtain⟨_,_,_,_,_,f,_⟩:=hV.kC.cells;have hp:=hV.kC;obtain⟨⟨j,pv,h1,_,_,_,_,_,_,m,_,vs,_,a,_⟩,_⟩:=hp;rw[cell_of h1,m] at e;obtain rfl:=aF e;exact am d (kK a g rfl)
  ·have:=e.ge;have hb:=h.nX G.b (.inr (.inl (.inl rfl)));omega
  ·exact h.nX g (.inr (.inr (.inl e)))
  ·exact h.nX g (.inr (.inr (.inr (.inl e))))
  ·exact h.nX g (.inr (.inr (.inr (.inr e))))
 ·have:=h.mm.size;omega
end
theorem DV {la:List P.Ar}{i n:Nat}:(la.filter P.kR).any (λa=>P.ob a (60+(i:Int),(n:Int)))=(List.range n).any (λj=>tJ la (i+j)):=by
 rw[eI,bQ,bQ];constructor
 ·rintro⟨a,b,d⟩;obtain⟨b,hc⟩:=gH.1 b;have hc:=dw hc;simp only[P.ob,P.hasB,ee,ef,cL] at d;rcases d with ⟨h1,e,f,g⟩|⟨h1,e,f,g⟩
  ·refine⟨0,du.2 om,bQ.2 ⟨a,b,?_⟩⟩;simp only[P.hasB,cL];omega
  ·refine⟨(a.1 - (60+i)).toNat,du.2 om,bQ.2 ⟨a,b,?_⟩⟩;simp only[P.hasB,cL];omega
 ·rintro⟨j,c,h⟩;have c:=du.1 c;obtain⟨a,b,h⟩:=bQ.1 h;simp only[P.hasB,cL] at h;refine⟨a,gH.2 ⟨b,dN om⟩,?_⟩;simp only[P.ob,P.hasB,ee,ef,cL];by_cases k:a.1<=60+i
  ·left;omega
  ·right;omega
end Go.Proofs.YthmcbgidehjlbaaGreat.Fd
namespace Go.Proofs.YthmcbgidehjlbaaGreat.Fd
open _root_.Go.Proofs.Tryz
open Go Go.RowKit K
variable {w:World}
theorem DW (a:P.Ar) (t:Int) (h:0<=a.1/\a.1<=1000/\0<=t/\t<=1000) (w:World):Calls prog 15 #[P.lJ a,iw t] w λe w'=>e=.returned (.bool (P.hasB a t))/\Below w.heap.size w w':=by
 obtain⟨x,y⟩:=a;simp only at h;obtain⟨h1,g,i,j⟩:=h;have hb:Below w.heap.size w (w.alloc (.cells #[iw x,iw y] 27)):=(ag _ _).alloc (ae _) _;replace hb:=LH hb;obtain⟨D,c⟩:=Ex (t - x:Int);have d:t - x=D:=c.symm;unfold P.lJ;by_cases k:x<=t
 ·have b:P.hasB (x,y) t=decide (D<y):=by unfold P.hasB;simp only;exact gE.2 om
  rw[b];have f:-1000<=D/\D<=1000:=om;replace b:=LH b;replace c:=LH c;go_enter func15,ntmps15;go_wp2;go_ret;exact⟨rfl,hb.o⟩
 ·have b:P.hasB (x,y) t=false:=by unfold P.hasB;simp only;exact dt om
  rw[b];replace b:=LH b;replace c:=LH c;clear d;go_enter func15,ntmps15;go_wp2;go_ret;exact⟨rfl,hb.o⟩
theorem DX (s:kJ) (i:Nat):∀ n,rI s.ks s.Dt i n=pn s.c i n
 | 0=>rfl
 | n+1=>by rw[rI,pn,DX s i n];rfl
theorem DY {c c':Nat->iz}(h:∀ p,p<50->c p=c' p) (i:Nat):∀ n,i+n<=50->pn c i n=pn c' i n
 | 0,_=>rfl
 | n+1,hn=>by rw[pn,pn,DY h i n om,h _ om]
def rK (B:Nat) (w':World) (c:Nat->iz) (i n:Int) (e:Ending):Prop:=(mz i n=false/\e=.returned (.tuple #[.slice none 0 0,iw 3]))\/(mz i n=true/\∃ u,e=.returned (.tuple #[u,iw 0])/\w'.ownsRow B 5 1 u (n.toNat*64) (dB (pn c i.toNat n.toNat)))
theorem Mi {G:VG}{s:kJ}{S:VT}(hV:mM G w s S) (hn:S.n<700000) (i n:Int):
  Calls prog 18 #[iq G.v,iw i,iw n] w λe w'=>rK w.heap.size w' s.c i n e/\∃ n',n'<=S.n+50/\Bk w' G.b n'/\kh No G.b w w':=by
 cases hin:mz i n with
 | true=>have h:=dw hin;obtain⟨I,rfl⟩:∃ I:Nat,i=I:=⟨i.toNat,by omega⟩;obtain⟨M,rfl⟩:∃ M:Nat,n=M:=⟨n.toNat,by omega⟩;refine (Lv hV hn I M om).mono ?_;rintro e w' ⟨u,n',rfl,h1,m,g,j⟩;refine⟨.inr ⟨hin,u,rfl,?_⟩,n',by omega,g,j⟩;rw[show (M:Int).toNat=M from rfl,show (I:Int).toNat=I from rfl,<-DX];exact h1
 | false=>
  have l:=LH (show rK w.heap.size w s.c i n (.returned (.tuple #[.slice none 0 0,iw 3])) from .inl ⟨hin,rfl⟩);have hw:=DD hV.kC i n;rw[hin] at hw;have hw:=LH hw;have a:=LH (λd (hb:Below w.heap.size w d)=>(show rK w.heap.size d s.c i n (.returned (.tuple #[.slice none 0 0,iw 3]))/\∃ n',n'<=S.n+50/\Bk d G.b n'/\kh No G.b w d from ⟨.inl ⟨hin,rfl⟩,S.n,by omega,hV.book.after hb,kh.dE hb⟩));obtain⟨v,hv⟩:=Ex G.v;rw[<-hv] at hw ⊢;replace hv:=LH hv;have f:=LH (ag w.heap.size w);clear hV hin;by_cases k:64<n
  ·go_enter func18,ntmps18;go_wp2;go_ret2;exact a.o w f.o
  ·go_enter func18,ntmps18
   go_wp2_with fail
   refine hw.o.mono ?_;rintro e d ⟨rfl,hb⟩;replace hb:=LH hb;go_wp2;go_ret2;exact a.o d hb.o
def qT (S S':VT):Prop:=S'.n<=S.n+1200/\S'.num<=S.num+113/\S'.my<=S.my+113
def Room (S:VT) (j:Nat):Prop:=S.n<=400+1200*j/\S.num<=113*j/\S.my<=113*j
theorem Room.next {S S':VT}{j:Nat}(h:Room S j) (hb:qT S S'):Room S' (j+1):=by obtain⟨a,b,c⟩:=h;obtain⟨d,e,f⟩:=hb;unfold Room;refine⟨?_,?_,?_⟩<;>omega
theorem Step.DZ {G:VG}{w':World}{S S':VT}{k:Nat}(h:Step G w w' S S' k) (hk:k<=113):qT S S':=⟨by have:=h.n;omega,by have:=h.num;omega,by have:=h.my;omega⟩
theorem qT.refl (S:VT):qT S S:=⟨by omega,by omega,by omega⟩
def qA (la:List P.Ar) (s:kJ) (i:Int) (l:iz) (N:Nat):kJ:=if ow la s.ki i N=0 then s.full.push i.toNat l (N / 64) else if ow la s.ki i N=7 then s.pj else s
def vO (w w':World):Prop:=w.heap.size<=w'.heap.size/\∀ (g:Nat) (cs:Array Value),w.heap[g]?=some (.cells cs 44 (0,0))->w'.heap[g]?=some (.cells cs 44 (0,0))
theorem vO.below {w':World}(hb:Below w.heap.size w w'):vO w w':=⟨hb.size,λg _ hg=>(hb.block g (dD hg)).trans hg⟩
section
variable {w0 w w':World}{G:VG}{k q b11:Nat}{la:List P.Ar}{s s':kJ}{S S':VT}{j:Nat}{c:Nat->iz}
theorem D0 (h:GI w0 G k q b11 la w s S c) (hr:Room S j) (hj:j<=50):Calls prog 20 #[iq G.v] w λe w'=>e=.returned (iw 0)/\∃ S',GI w0 G k q b11 la w' s.sync S' c/\qT S S':=by obtain⟨a,b,d⟩:=hr;have g:=h.mu;refine (DH h.kC om om om).mono ?_;rintro e w' ⟨rfl,S',h1,f⟩;exact⟨rfl,S',h.sync h1 f,f.DZ g⟩
theorem Mj (h:GI w0 G k q b11 la w s S c) (hr:Room S j) (hj:j<=50) (i n:Int):Calls prog 18 #[iq G.v,iw i,iw n] w λe w'=>rK w.heap.size w' s.c i n e/\vO w w'/\kh No G.b w w'/\∃ S',GI w0 G k q b11 la w' s S' c/\qT S S':=by obtain⟨a,b,d⟩:=hr;refine (Mi h.kC om i n).mono ?_;rintro e w' ⟨h1,n',m,l,f⟩;exact⟨h1,⟨f.size,λg cs hg=>f.at h.kC.book hg id de de⟩,f,_,h.book f l,by show n'<=_;omega,by show S.num<=_;omega,by show S.my<=_;omega⟩
theorem D6 (h:GI w0 G k q b11 la w s S c) (hr:Room S j) (hj:j<=50){da:Option Addr}{N dcap:Nat}{l:iz}(hd:Bytes w0 (λ_=>True) (.slice da N dcap) l) (i:Int) (hlb:∀ a ∈ la,0<=a.1/\a.1<=1000000000/\a.2<=1000000000):
  Calls prog 17 #[iq k,iw i,.slice da N dcap] w λe w'=>e=.returned (iw (ow (la.filter P.kR) s.ki i N))/\∃ S',GI w0 G k q b11 la w' (qA (la.filter P.kR) s i l N) S' c/\qT S S':=by
 obtain⟨a,b,d⟩:=hr;have B:=h.mu;have y:Bytes w (λg=>g<w0.heap.size) (.slice da N dcap) l:=(Bytes.mono (S':=λg=>g<w0.heap.size) hd (λg hg _=>hg)).dC h.mm.size (λg hg _=>h.mm.block g hg);refine (LD h.gu h.kC y (λg hg hs=>by have:=h.nX g hs;omega) i (λa A=>hlb a (gH.1 A).1) om om om).mono ?_;rintro e w' ⟨rfl,h1|h1|h1⟩
 ·obtain⟨m,x,t,r,f⟩:=h1;refine⟨rfl,S,?_,qT.refl S⟩;unfold qA;rw[ah m,ah x];exact⟨t,r,h.qv.lR h.kC f.lR,(f.lR.at h.kC h.bx de).trans h.bx,f.lR.xO h.nX h.mm,f.lR.xP h.nX h.mm.size,h.kq,h.un,h.mu⟩
 ·obtain⟨x,t,r,hC⟩:=h1;refine⟨rfl,S,?_,qT.refl S⟩;unfold qA;rw[ah (by rw[x];decide),ak x];exact h.pj t r hC
 ·obtain⟨m,S',t,r,f⟩:=h1;refine⟨rfl,S',?_,f.DZ B⟩;unfold qA;rw[ak m]
  obtain⟨n,v⟩:lN s.ki i N=0/\(la.filter P.kR).any (λa=>P.ob a (60+i,(N / 64:Nat)))=false:=by
   unfold ow at m;by_cases n:lN s.ki i N=0
   ·rw[ak n] at m;refine⟨n,?_⟩;by_cases v:(la.filter P.kR).any (λa=>P.ob a (60+i,(N / 64:Nat)))=true
    ·rw[ak v] at m;exact absurd m de
    ·simpa using v
   ·rw[ah n] at m;exact absurd m n
  rcases xN s.ki i N with o|o|o|⟨_,hlat,hN0,hi0,hi1⟩
  ·rw[n] at o;exact absurd o de
  ·rw[n] at o;exact absurd o de
  ·rw[n] at o;exact absurd o de
  obtain⟨I,rfl⟩:∃ I:Nat,i=I:=⟨i.toNat,by omega⟩;rw[DV] at v;refine⟨t,?_,h.qv.lR h.kC f.lR,(f.lR.at h.kC h.bx de).trans h.bx,f.lR.xO h.nX h.mm,f.lR.xP h.nX h.mm.size,h.kq,λp hp u=>?_,kJ.Mh _ _ _ _ om⟩
  ·rw[kJ.DT,kJ.zM];exact r
  ·refine Me (by rw[kJ.DS];exact h.kC.Mf) (by show (I:Int).toNat+N / 64<=50;omega) (by rw[kJ.DS];exact h.un p hp u) (λj hj e=>?_);have:=eo.1 v j (du.2 hj);have z:p=I+j:=e;rw[<-z] at this;exact this u
theorem Ml (h:GI w0 G k q b11 la w s S c){da:Option Addr}{N dcap:Nat}{l:iz}(hd:Bytes w0 (λ_=>True) (.slice da N dcap) l) (i n:Nat) (hl:l.length=n*64) (hin:i+n<=50):
  Calls prog 16 #[iq q,iw i,.slice da N dcap] w λe w'=>e=.returned (iw 0)/\vO w w'/\GI w0 G k q b11 la w' s S (λp=>kQ (lU i l n) p (c p)):=by
 have m:Bytes w (λg=>g<w0.heap.size) (.slice da N dcap) l:=(Bytes.mono (S':=λg=>g<w0.heap.size) hd (λg hg _=>hg)).dC h.mm.size (λg hg _=>h.mm.block g hg);refine (L8 h.qv m (λg hg e=>by have:=h.kq;omega) i n hl hin).mono ?_;rintro e w' ⟨rfl,y,hC⟩;obtain⟨dv,hv,hs,h1,_⟩:=h.qv
 have d:∀ (g:Nat) (o:Obj),w.heap[g]?=some o->(∀ cs,o≠.cells cs 91 (0,0))->w'.heap[g]?=w.heap[g]?:=λg o hg r=>hC.block g (bm.1 hg).1 (λe=>by rw[e,h1] at hg;exact r _ (aF hg).symm)
 have z:mM G w' s S:=h.kC.other hC.size (λg o hg r=>d g o hg (λcs e=>by
  rcases r with ⟨a,t,ht,b⟩|⟨es,C,b⟩
  ·rw[e] at b;simp only[IJ] at b;obtain⟨_,rfl,_⟩:=b;rcases ht with (e|e|e|e)|(e|e|e|e)|e|e|e|e|e<;>exact absurd e de
  ·rw[e] at b;cases b))
 refine⟨rfl,⟨hC.size,λg cs hg=>(d g _ hg (λa e=>by
  simp only[IJ] at e;exact absurd e.2.1 de)).trans hg⟩,z,h.gu.dC hC.size (λg cs t ht hg=>d g _ hg (λa e=>by
  simp only[IJ] at e;obtain⟨_,rfl,_⟩:=e;rcases ht with e|e<;>exact absurd e de)),y,(d _ _ h.bx (λcs e=>by
  simp only[IJ] at e;exact absurd e.2.1 de)).trans h.bx,h.mm.trans (hC.below h.mm.size (λg hg e=>by have:=h.kq;omega)),λg hg=>?_,h.kq,h.un,h.mu⟩
 by_cases A:g<w.heap.size
 ·
  have hb:∀ (x:Nat) (cs:Array Value) (t:TypeId),t≠91->w.heap[x]?=some (.cells cs t (0,0))->w'.heap[x]?=w.heap[x]?:=λx cs t ht B=>d x _ B (λa e=>by simp only[IJ] at e;exact ht e.2.1)
  obtain⟨⟨D,pv,u,_⟩,_⟩:=h.kC.kC;obtain⟨lv,f⟩:=h.kC.book.box;have v:=hb _ _ _ de u;have j:=hb _ _ _ de f;rcases hg with e|e|e
  ·exact h.nX g (.inl (kF.same v e))
  ·exact h.nX g (.inr (.inl (e.imp id (λe=>⟨e.1,mJ.block j e.2⟩))))
  ·exact h.nX g (.inr (.inr e))
 ·have:=h.mm.size;omega
end
end Go.Proofs.YthmcbgidehjlbaaGreat.Fd

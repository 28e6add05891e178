/-
 Parts of the proof. No condition beyond what each theorem names.
-/
import Derived.Test.YthmcbgidehjlbaaGreatOpBa
import Derived.Test.YthmcbgidehjlbaaGreatOpBc
namespace Go.Proofs.YthmcbgidehjlbaaGreat.Fd
open _root_.Go.Proofs.Tryz
open Go Go.RowKit K
def uM:kJ:=⟨List.replicate 7 0,[],false,λ_=>lZ⟩
structure DR (B:Nat) (w:World) (G:VG) (S:VT):Prop where
 kC:mM G w uM S
 n:S.n<=400
 num:S.num=0
 my:S.my=0
 nX:∀ g,nn G w g->B<=g
 xM:∀ g,sn w S.m g->B<=g
 kD:∀ g,¬ oU w G.v g
 hd:B<=G.d
 nK:B<=G.sb
 hv:B<=G.v
 hb:B<=G.b
 hr:B<=G.r
theorem xI.fresh {B:Nat}{w:World}{d v m s b sb t r:Nat}{xs:List Value}{A M:iz}{tp:Option Addr}{X:D.Dk}{n:Nat}{gs:Nat->Nat}{Ls:List iz}(h:xI B w d v m s b sb t r xs A M tp X n gs Ls):DR B w ⟨v,b,d,sb,s,r,⟨#[119]⟩,A,M,xs,tp⟩ ⟨t,m,0,0,n,b,gs,Ls,[],X⟩:=by
 have f:B<=b:=by have:=h.hd;omega
 have i:w.cell? (iu v 110)=some (.slice none 0 0):=by rw[cell_of h.box,aV,ph,aL (by rw[h.base.len];omega),h.base.len];rfl
 refine⟨⟨h.kC,h.base,⟨by simp[nb,h.base.len],λj x o=>?_⟩,h.su,h.tree,ae _,h.l4,h.marks,h.ring,h.br,h.nE,h.hd.2,h.nK.2,h.bv,h.book,⟨λ_=>rfl,λp _ hb=>?_,λ_ _ _=>rfl,h.low.1 0 om (.inl rfl),λp hp _=>h.low.1 (60+p) om (.inr om)⟩,h.al,h.ml⟩,h.mu,rfl,rfl,λg hg=>?_,λg hg=>?_,λg hg=>?_,h.hd.1,h.nK.1,am f h.bv,f,am f h.br⟩
 ·have l:=(aD.1 o).1;have e:ph xs t m 0 r=nb xs t m 0 r++[.slice none 0 0,.bool false]:=by simp[ph,nb]
  show w.cell? (iu v j)=some x;rw[cell_of h.box,aV,e,aX l];exact o
 ·have k:nB (List.replicate 7 0) p=true:=hb;rw[Df] at k;cases k
 ·rcases hg with (e|⟨n',pc,e⟩)|e|e|e|e
  ·have a:g=v:=e;have:=h.bv;omega
  ·have a:w.cell? (iu v 110)=some (ir g n' pc):=e;rw[i] at a;cases a
  ·exact am f e.ge
  ·have a:g=d:=e;rw[a];exact h.hd.1
  ·have a:g=sb:=e;rw[a];exact h.nK.1
  ·have a:g=r:=e;rw[a];exact am f h.br
 ·obtain⟨n',c,e⟩:=hg;have a:w.cell? (iu m 1)=some (ir g n' c):=e;obtain⟨_,sv,q,u⟩:=h.marks;rw[cell_of q] at a;simp at a;subst a;exact am f (kK u g rfl)
 ·obtain⟨pg,n',pc,j,n2,y,e,_⟩:=hg;have a:w.cell? (iu v 110)=some (ir pg n' pc):=e;rw[i] at a;cases a
theorem L9 (w:World):Calls prog 9 #[] w λe w'=>∃ G S,e=.returned (.tuple #[iq G.d,iq G.v,.bool true])/\DR w.heap.size w' G S/\Below w.heap.size w w':=(Dd w).mono λ_ _ ⟨_,_,_,h1,⟨_,_,_,_,_,_,_,_,_,_,_,_,_,a⟩,_,_,_,b⟩=>⟨_,_,h1,a.fresh,b⟩
end Go.Proofs.YthmcbgidehjlbaaGreat.Fd

/-
 Parts of the proof. No condition beyond what each theorem names.
-/
import Derived.Deep.Slices
import Derived.Test.YthmcbgidehjlbaaGreatFrBa
import Derived.Test.YthmcbgidehjlbaaGreatFrBe
set_option maxRecDepth 100000
set_option maxHeartbeats 4000000
namespace Go.Proofs.YthmcbgidehjlbaaGreat.Fd
open _root_.Go.Proofs.Tryz
open Go Go.ChangeShapes Go.WideShapes Go.ChangeAt Go.RowKit Go.Deep Go.Joins K
variable {cap:Nat}
structure qu where
 kind:Int
 first:Int
 num:Int
 data:iz
structure Lw (w:World) (g o:Nat) (x:qu) (dv:Value):Prop where
 c0:w.cell? (iu g o)=some (iw x.kind)
 c1:w.cell? (iu g (o+1))=some (iw x.first)
 c2:w.cell? (iu g (o+2))=some (iw x.num)
 c3:w.cell? (iu g (o+3))=some dv
 data:Bytes w (λ_=>True) dv x.data
 fr:-9223372036854775808<=x.first/\x.first<=9223372036854775807
 nr:-9223372036854775808<=x.num/\x.num<=9223372036854775807
def uP (w:World) (a:Option Addr) (cap:Nat) (L:List qu):Prop:=L.length<=cap/\cap<=maxLen/\∀ j x,L[j]?=some x->∃ g off dv,a=some (iu g off)/\g<w.heap.size/\Lw w g (off+j*4) x dv
theorem uP.dB {w w':World}{a:Option Addr}{L:List qu}(h:uP w a cap L) (hb:Below w.heap.size w w'):uP w' a cap L:=by
 refine⟨h.1,h.2.1,λj x d=>?_⟩;obtain⟨g,off,dv,h1,c,b⟩:=h.2.2 j x d;have hc:∀ i,w'.cell? (iu g i)=w.cell? (iu g i):=λi=>az (hb.block g c)
 exact⟨g,off,dv,h1,aH c hb.size,⟨(hc _).trans b.c0,(hc _).trans b.c1,(hc _).trans b.c2,(hc _).trans b.c3,Cells.dB b.data hb.size (λg _ hg=>hb.block g hg),b.fr,b.nr⟩⟩
section
variable {H:Type}{enc:TypeId×Value->H}{w:World}{base:Nat}{held:Bool}
theorem Lx {P:Program}{t e:TypeId}{fuel:Nat}{c:Value}{x:DataW H×List MemPlace}(ht:P.underlying t=some (.slice e)) (he:P.underlying e=some (.int .u8)) (hc:P.cellsOf e=1)
  (h:DataW.trod enc P w base (λ_=>true) held fuel t [c]=some x):∃ l:iz,Bytes w (λ_=>True) c l:=by
 suffices hs:∃ a len cap f,c=.slice a len cap/\zJ .u8 w a len cap f by obtain⟨a,len,cap,f,rfl,i⟩:=hs;exact i.bytes
 rcases open_ints ht he hc h with ⟨b,_⟩|⟨x,l,c,f,b,_,j,hm,i,_,d,g⟩
 ·simp at b;subst b;exact⟨_,_,_,[],rfl,.inl ⟨rfl,rfl,rfl,rfl⟩⟩
 ·simp at b;subst b;exact⟨_,_,_,f,rfl,.inr ⟨_,rfl,j,hm,by simpa using i,d,g⟩⟩
theorem trod_struct4 {P:Program}{t:TypeId}{f0 f1 f2 f3:Field}{fuel:Nat}{cs:List Value}{x:DataW H×List MemPlace}(ht:P.underlying t=some (.struct #[f0,f1,f2,f3])) (h:DataW.trod enc P w base (λ_=>true) held fuel t cs=some x):
  ∃ y0 y1 y2 y3 n,cs.length=P.cellsOf t/\DataW.trod enc P w base (λ_=>true) held n f0.type ((cs.drop f0.offset).take (P.cellsOf f0.type))=some y0/\DataW.trod enc P w base (λ_=>true) held n f1.type ((cs.drop f1.offset).take (P.cellsOf f1.type))=some y1/\
   DataW.trod enc P w base (λ_=>true) held n f2.type ((cs.drop f2.offset).take (P.cellsOf f2.type))=some y2/\DataW.trod enc P w base (λ_=>true) held n f3.type ((cs.drop f3.offset).take (P.cellsOf f3.type))=some y3:=by
 obtain⟨xs,n,_,rfl,b,hlen,a⟩:=DataW.trod_struct ht h
 match xs,hlen with
 | [y0,y1,y2,y3],_=>exact⟨y0,y1,y2,y3,n,b,by simpa using a 0 f0 rfl,by simpa using a 1 f1 rfl,by simpa using a 2 f2 rfl,by simpa using a 3 f3 rfl⟩
theorem Ly (x:Addr):(x.add (0*4)).add 0=x:=by simp[Addr.add]
theorem Lz (g off i j:Nat):(((iu g off):Addr).add i).add j=(iu g (off+i+j)):=by rw[add_plain,add_plain]
def DU (w:World) (cs:List Value) (q:qu×Value):Prop:=cs=[iw q.1.kind,iw q.1.first,iw q.1.num,q.2]/\Bytes w (λ_=>True) q.2 q.1.data/\(-9223372036854775808<=q.1.first/\q.1.first<=9223372036854775807)/\(-9223372036854775808<=q.1.num/\q.1.num<=9223372036854775807)
theorem LA {cs:List Value}(h:cs.length=4):∃ c0 c1 c2 c3,cs=[c0,c1,c2,c3]:=by
 match cs,h with
 | [c0,c1,c2,c3],_=>exact⟨c0,c1,c2,c3,rfl⟩
theorem LB {fuel:Nat}{cs:List Value}{x:DataW H×List MemPlace}(h:DataW.trod enc prog w base (λ_=>true) held fuel 44 cs=some x):∃ q,DU w cs q:=by
 obtain⟨m,y1,y2,o,n,f,c,h1,d,e⟩:=trod_struct4 underlying44 h;rw[show prog.cellsOf 44=4 by kernel_rfl] at f;obtain⟨c0,c1,c2,c3,rfl⟩:=LA f;have a:prog.cellsOf 3=1:=kr;have b:prog.cellsOf 42=1:=kr;simp only[a,b,List.drop,List.take] at c h1 d e;obtain⟨z0,g,_,_⟩:=fg underlying3 c;obtain⟨z1,i,_,k⟩:=fg underlying3 h1;obtain⟨z2,j,_,w2⟩:=fg underlying3 d;obtain⟨z3,l⟩:=Lx underlying42 underlying5 kr e;cases g
 cases i
 cases j
 exact⟨(⟨z0,z1,z2,z3⟩,c3),rfl,l,wf_i64 k,wf_i64 w2⟩
theorem LC {r:Reach}{b0:Nat}{v:Value}{d:DataW H}{p:List MemPlace}(hv:Value.okWide prog w r b0 22 v) (h:DataW.Trod enc prog w base (λ_=>true) held 22 v d p):
  ∃ a cap,∃ L:List qu,v=.slice a L.length cap/\uP w a cap L:=by
 obtain⟨a,len,cap,rfl⟩:=okWide_slice underlying22 hv;obtain⟨fuel,N⟩:=h;rcases open_slice underlying22 N with ⟨e,_⟩|⟨x,l,c,m,n,D,S,e,_,O,hm,A,_,F⟩
 ·simp[Value.cells] at e;obtain⟨rfl,rfl,rfl⟩:=e;exact⟨none,0,[],rfl,ae _,by unfold maxLen;omega,λj x u=>by simp at u⟩
 ·simp[Value.cells] at e;obtain⟨rfl,rfl,rfl⟩:=e;simp only[ea] at A;rw[A] at F
  have B:∀ i,i<len->∃ q:qu×Value,∃ cs,cs.length=4/\(∀ j,j<4->w.cell? ((x.add (i*4)).add j)=cs[j]?)/\DU w cs q:=λi hi=>by obtain⟨cs,h1,G⟩:=F i om;rw[show prog.cellsOf 44=4 by kernel_rfl] at h1;obtain⟨_,E,C⟩:=World.cells?_some h1;obtain⟨q,P⟩:=LB G;exact⟨q,cs,E,C,P⟩
  have:Inhabited (qu×Value):=⟨(⟨0,0,0,[]⟩,undef)⟩;obtain⟨f,t⟩:=choose_lt B;refine⟨some x,cap,(List.range len).map (λi=>(f i).1),by simp,by simpa using O,hm,λj y u=>?_⟩
  have z:j<len:=by
   have:=(aD.1 u).1
   simpa using this
  simp[fh z] at u;subst u;obtain⟨cs,E,C,I,J,K,M⟩:=t j z;subst I;obtain⟨g,off,spot⟩:=x
  have o:spot=none:=by obtain⟨cs,T,Q,R,_⟩:=t 0 om;subst R;have s:=Q 0 om;rw[Ly] at s;exact gG s
  subst o
  have b:∀ k,k<4->w.cell? (iu g (off+j*4+k))=([iw (f j).1.kind,iw (f j).1.first,iw (f j).1.num,(f j).2]:List Value)[k]?:=λk hk=>by have:=C k hk;rw[Lz] at this;exact this
  refine⟨g,off,_,rfl,?_,b 0 om,b 1 om,b 2 om,b 3 om,J,K,M⟩;exact lq (b 0 om)
end
def LD (L:List qu) (e:Ending):Prop:=∃ b,e=.returned (.bool b)/\(b=true->L.length<=25/\∀ x ∈ L,x.data.length<=5000)
theorem LF {w:World}{a:Option Addr}{L:List qu}(h:uP w a cap L):Calls prog 7 #[.slice a L.length cap] w λe w'=>LD L e/\w=w':=by
 have d:=h.2.1;have r:=h.1;have B:=LH h.2.2;obtain⟨n,v⟩:=Ex L.length;rw[<-v];have W:(n:Int)<=9223372036854775807:=by unfold maxLen at d;omega
 revert d r v;refine H3 ?_;intro d r v;clear h;go_enter func7,ntmps7;go_wp2
 go_loopg [3,4] (min n 40) (λg s ix wr=>∃ (j:Nat) (t:Nat),j+g=min n 40/\ix=iw j/\s=iw t/\t<=5000*j/\Hd (∀ (i:Nat) (x:qu),i<j->L[i]?=some x->x.data.length<=5000)/\wr=w)
 case atStart=>exact⟨0,0,by omega,rfl,rfl,by omega,λi x hi=>absurd hi om,rfl⟩
 case round=>
  obtain⟨j,t,l,rfl,rfl,ht,p,rfl⟩:=hrel;by_cases m:j<min n 40
  ·obtain⟨g1,rfl⟩:∃ i,gk=i+1:=⟨gk - 1,by omega⟩;have u:(j:Int)<n:=om;have V:(j:Int)<40:=om;have H:j<L.length:=by have:=v.o;omega
   obtain⟨x,k⟩:∃ x,L[j]?=some x:=⟨_,av H⟩;obtain⟨g,off,dv,rfl,S,hr⟩:=B.o j x k;obtain⟨da,dc,rfl,_⟩:=hr.data.shape;obtain⟨o,C⟩:=Ex (off+j*4);have c3:=hr.c3;have U:(j:Int)*4=(j*4:Nat):=om;have N:=r.o;have R:(j:Int)<cap:=om;obtain⟨dl,f⟩:=Ex x.data.length;rw[<-f] at c3
   have O:(dl:Int)<=9223372036854775807:=by obtain⟨_,_,e,h1,J⟩:=hr.data.shape;unfold maxLen at J;omega
   rw[<-C] at c3;have X:off+j*4=o:=C.symm;replace C:=LH C;have Y:(t:Int)<=200000:=om;have P:t<=200000:=om;by_cases hb:dl<=5000
   ·have G:¬ (5000:Int)<dl:=om;have M:(dl:Int)<=5000:=om
    have E:=LH (show ∀ (i:Nat) (x:qu),i<j+1->L[i]?=some x->x.data.length<=5000 from λi y hi I=>by
     by_cases e:i=j
     ·subst e;rw[k] at I;obtain rfl:=aF I;omega
     ·exact p.o i y om I)
    revert k hr f;refine H3 ?_;intro k hr f;clear p;go_wp2;go_roundg g1
    case measure=>omega
    case rel=>exact⟨j+1,t+dl,by omega,by go_num,by go_num,by omega,E.o,rfl⟩
   ·have G:(5000:Int)<dl:=om;revert f hr k;refine H3 ?_;intro f hr k;clear p;go_wp2;go_ret;exact⟨⟨false,rfl,λe=>by cases e⟩,rfl⟩
  ·have q:j=min n 40:=om;obtain rfl:gk=0:=om
   have b:∀ x ∈ L,L.length<=25->x.data.length<=5000:=λx k Z=>by obtain⟨i,hi⟩:=cM k;have T:=(aD.1 hi).1;have:=v.o;exact p.o i x om hi
   have c:=v.o;rw[<-c] at b;replace b:=LH b;have F:=LH c;by_cases z:n<=25
   ·have A:(n:Int)<=25:=om;obtain rfl:j=n:=om;have u:¬ (j:Int)<j:=om;by_cases J:t<=20000
    ·have D:(t:Int)<=20000:=om;replace q:=LH q;clear p m l c;go_wp2;go_ret;exact⟨⟨true,rfl,λ_=>⟨by rw[<-F.o];exact z,λx k=>b.o x k z⟩⟩,rfl⟩
    ·have D:¬ (t:Int)<=20000:=om;replace q:=LH q;clear p m l c;go_wp2;go_ret;exact⟨⟨false,rfl,λe=>by cases e⟩,rfl⟩
   ·have A:¬ (n:Int)<=25:=om;have K:(25:Int)<n:=om;by_cases Q:n<=40
    ·obtain rfl:j=n:=om;have u:¬ (j:Int)<j:=om;replace q:=LH q;clear p m l c;go_wp2;go_ret;exact⟨⟨false,rfl,λe=>by cases e⟩,rfl⟩
    ·obtain rfl:j=40:=om;have u:((40:Nat):Int)<n:=om;replace q:=LH q;clear p m l c;go_wp2;go_ret;exact⟨⟨false,rfl,λe=>by cases e⟩,rfl⟩
end Go.Proofs.YthmcbgidehjlbaaGreat.Fd

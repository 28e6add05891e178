/-
 Parts of the proof. No condition beyond what each theorem names.
-/
import Derived.Deep.LoopGhost
import Derived.Test.YthmcbgidehjlbaaGreatFrAc
set_option maxRecDepth 100000
set_option maxHeartbeats 4000000
namespace Go.Proofs.YthmcbgidehjlbaaGreat.Fd
open _root_.Go.Proofs.Tryz
open Go Go.RowKit K
def rO (l:List Nat):List Value:=l.map λ(x:Nat)=>iw x
theorem E8 (l:List Nat) (j:Nat) (h:j<l.length):(rO l)[j]?=some (iw (l.getD j 0:Nat)):=by simp[rO,List.getD,h]
theorem E9 (l:List Nat) (x:Nat):rO (l++[x])=rO l++[iw x]:=by simp[rO]
theorem Ap:(prog.info? 3).map (λi=>(i.zero,i.size,i.bytes))=some (some (iw 0),1,8):=kr
def sW:Nat->Nat->List Nat
 | 0,_=>[]
 | f+1,n=>if n<=1 then [] else (n+3) / 4::sW f ((n+3) / 4)
def wF (n:Nat):List Nat:=n::sW 20 n
theorem Fa (n:Nat) (h1:1<=n) (h2:n<=65536) (w:World):
  Calls prog 129 #[iw n] w λe w'=>∃ v,e=.returned v/\w'.ownsRow w.heap.size 3 1 v (wF n).length (rO (wF n))/\(wF n).length<=21/\Below w.heap.size w w':=by
 have C:(iw 0).cells.size=1:=rfl;obtain⟨R,u⟩:=Ex (wF n);rw[<-u];have O:(n:Int)<=65536:=om;have H:(1:Int)<=n:=om;have b:(w.alloc (.cells #[iw n] 3)).ownsRow w.heap.size 3 1 (ir w.heap.size 1 1) 1 (rO [n]):=ch w #[iw n] 1 (ae _) mx rfl;have c:Below w.heap.size w (w.alloc (.cells #[iw n] 3)):=(ag _ _).alloc (ae _) _;revert u b c;refine H3 ?_;intro u b c;go_enter func129,ntmps129;go_wp2
 go_loopg [0,2] 20 (λg x o wr=>∃ m:Nat,∃ l:List Nat,x=iw m/\m<=65536/\l.length+g=21/\Hd (m<=4 ^ g/\l++sW g m=R)/\Hd (wr.ownsRow w.heap.size 3 1 o l.length (rO l))/\Hd (Below w.heap.size w wr))
 case atStart=>exact⟨n,[n],rfl,h2,rfl,⟨by omega,u.o.symm⟩,b.o,c.o⟩
 case round=>
  obtain⟨m,l,rfl,hm,I,h,t,d⟩:=hrel;clear b c;by_cases J:1<m
  ·obtain⟨g1,rfl⟩:∃ j,gk=j+1:=⟨gk - 1,by
    cases gk with
    | zero=>have:=h.o.1;omega
    | succ k=>rfl⟩
   have q:(1:Int)<(m:Int):=om
   have i:Hd ((m+3) / 4<=4 ^ g1/\(l++[(m+3) / 4])++sW g1 ((m+3) / 4)=R):=by obtain⟨G,a2⟩:=h.o;refine⟨by rw[dK] at G;omega,?_⟩;rw[<-a2,sW,ah om,cC];rfl
   obtain⟨m2,f⟩:=Ex ((m+3) / 4);have P:((m:Int)+4 - 1) / 4=(m2:Int):=om;have r:m2<=65536:=om;rw[<-f] at i;replace f:=LH f;clear h;have s:(wr.alloc (.cells #[iw m2] 3)).ownsRow _ _ _ _ _ _:=dE t.o (λg hg=>aB _ _ _ (kt t.o g hg));have A:=LH s;have z:=LH (mC wr #[iw m2] 3 1 1 rfl mx);have y:=LH (λg=>kJ t.o g);have L:=d.o.size;clear s
   go_wp2_with (at_builtin;refine K.append ?_ (.tmp 13) (.tmp 15) 59 ?_ w.heap.size 3 (iw 0) 1 8 underlying59 Ap C om _ l.length _ ?_ A.o (λ_=>True) _ 1 [iw m2] ?_ z.o (by simp[Value.oneCell']) mx om ?_ ?_)
   ·rfl
   ·rfl
   ·omega
   intro v' w2 D E M N;have F:=LH D;have p:Below w.heap.size w (wr.alloc (.cells #[iw m2] 3)):=d.o.alloc d.o.size _;have B:=LH ((aA.dD p No).grown E (λg hg I=>absurd (y.o g hg) om)).no;clear D E M N p;go_wp2;go_roundg g1
   case measure=>omega
   case rel=>refine⟨m2,l++[m2],rfl,r,by simp;omega,i.o,?_,B.o⟩;show World.ownsRow _ _ _ _ _ _ _;rw[E9,aE];exact F.o
  ·have q:¬ (1:Int)<(m:Int):=om
   have a:l=R:=by
    rw[<-h.o.2];cases gk with
    | zero=>simp[sW]
    | succ k=>rw[sW,ak om,dm]
   replace a:=LH a;clear h;go_wp2;go_ret;refine⟨_,rfl,?_,?_,d.o⟩
   ·rw[<-a.o];exact t.o
   ·rw[<-a.o];omega
theorem Aq (w:World):Calls prog 129 #[iw 50] w λe w'=>∃ v,e=.returned v/\w'.ownsRow w.heap.size 3 1 v 4 (rO [50,13,4,1])/\Below w.heap.size w w':=(Fa 50 om om w).mono λ_ _ ⟨v,h1,a,_,b⟩=>⟨v,h1,a,b⟩
theorem wG (w:World):Calls prog 97 #[iw 50] w λe w'=>e=.returned (iw 4)/\Below w.heap.size w w':=by
 have hc:=LH (Aq w);go_enter func97,ntmps97
 go_wp2_with fail
 refine hc.o.mono ?_;rintro e w' ⟨v,rfl,h1,a⟩;obtain⟨g,cp,rfl,_,_⟩:=kz h1 om;replace h1:=LH h1;replace a:=LH a;clear hc;go_wp2;go_ret;exact⟨rfl,a.o⟩
def kp (k:Int):Nat:=if k=0 then 50 else if k=1 then 13 else if k=2 then 4 else if k=3 then 1 else 0
theorem vh (k:Int) (w:World):Calls prog 98 #[iw 50,iw k] w λe w'=>e=.returned (iw (kp k))/\Below w.heap.size w w':=by
 have hc:=LH (Aq w);by_cases hk:0<=k/\k<4
 ·obtain⟨j,rfl⟩:∃ j:Nat,k=j:=⟨k.toNat,by omega⟩;have d:j<4:=om
  have hv:([50,13,4,1]:List Nat).getD j 0=kp j:=by
   match j,d with
   | 0,_=>rfl
   | 1,_=>rfl
   | 2,_=>rfl
   | 3,_=>rfl
  replace hv:=LH hv;have q:(0:Int)<=(j:Int):=om;have f:(j:Int)<4:=om;have h:decide (4<=j)=false:=by simpa using d
  have i:decide ((4:Int)<=(j:Int))=false:=by simpa using f
  clear hk;go_enter func98,ntmps98
  go_wp2_with fail
  refine hc.o.mono ?_;rintro e w' ⟨v,rfl,h1,a⟩;obtain⟨g,cp,rfl,_,_⟩:=kz h1 om;have b:=h1.cells (g:=g) rfl j _ (E8 [50,13,4,1] j d);rw[bJ,hv.o,aw] at b;replace h1:=LH h1;replace a:=LH a;clear hc;go_wp2;go_ret;exact⟨rfl,a.o⟩
 ·have hw:kp k=0:=by unfold kp;rw[ah om,ah om,ah om,ah om]
  rw[hw];replace hw:=LH hw;by_cases l:k<0
  ·clear hk;go_enter func98,ntmps98
   go_wp2_with fail
   refine hc.o.mono ?_;rintro e w' ⟨v,rfl,h1,a⟩;obtain⟨g,cp,rfl,_,_⟩:=kz h1 om;replace h1:=LH h1;replace a:=LH a;clear hc;go_wp2;go_ret;exact⟨rfl,a.o⟩
  ·have n:(4:Int)<=k:=om;have c:(0:Int)<=k:=om;have p:decide ((4:Int)<=k)=true:=by simpa using n
   have m:decide (k<(0:Int))=false:=by simpa using c
   clear hk l;go_enter func98,ntmps98
   go_wp2_with fail
   refine hc.o.mono ?_;rintro e w' ⟨v,rfl,h1,a⟩;obtain⟨g,cp,rfl,_,_⟩:=kz h1 om;replace h1:=LH h1;replace a:=LH a;clear hc;go_wp2;go_ret;exact⟨rfl,a.o⟩
end Go.Proofs.YthmcbgidehjlbaaGreat.Fd

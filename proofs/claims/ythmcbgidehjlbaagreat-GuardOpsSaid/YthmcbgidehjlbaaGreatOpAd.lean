/-
 Parts of the proof. No condition beyond what each theorem names.
-/
import Derived.Deep.LoopGhost
import Derived.Test.YthmcbgidehjlbaaGreatOpAc
set_option maxRecDepth 100000
set_option maxHeartbeats 4000000
namespace Go.Proofs.YthmcbgidehjlbaaGreat.Fd
open _root_.Go.Proofs.Tryz
open Go Go.RowKit K
def rT (l:List Nat):List Value:=l.map λ(x:Nat)=>iw x
theorem Ff (l:List Nat) (j:Nat) (h:j<l.length):(rT l)[j]?=some (iw (l.getD j 0:Nat)):=by simp[rT,List.getD,h]
theorem Fg (l:List Nat) (x:Nat):rT (l++[x])=rT l++[iw x]:=by simp[rT]
theorem Av:(prog.info? 3).map (λi=>(i.zero,i.size,i.bytes))=some (some (iw 0),1,8):=kr
def td:Nat->Nat->List Nat
 | 0,_=>[]
 | f+1,n=>if n<=1 then [] else (n+3) / 4::td f ((n+3) / 4)
def wh (n:Nat):List Nat:=n::td 20 n
theorem Fh (n:Nat) (h1:1<=n) (h2:n<=65536) (w:World):
  Calls prog 129 #[iw n] w λe w'=>∃ v,e=.returned v/\w'.ownsRow w.heap.size 3 1 v (wh n).length (rT (wh n))/\(wh n).length<=21/\Below w.heap.size w w':=by
 have C:(iw 0).cells.size=1:=rfl;obtain⟨R,u⟩:=Ex (wh n);rw[<-u];have O:(n:Int)<=65536:=om;have H:(1:Int)<=n:=om;have b:(w.alloc (.cells #[iw n] 3)).ownsRow w.heap.size 3 1 (ir w.heap.size 1 1) 1 (rT [n]):=ch w #[iw n] 1 (ae _) mx rfl;have c:Below w.heap.size w (w.alloc (.cells #[iw n] 3)):=(ag _ _).alloc (ae _) _;revert u b c;refine H3 ?_;intro u b c;go_enter func129,ntmps129;go_wp2
 go_loopg [0,2] 20 (λg x o wr=>∃ m:Nat,∃ l:List Nat,x=iw m/\m<=65536/\l.length+g=21/\Hd (m<=4 ^ g/\l++td g m=R)/\Hd (wr.ownsRow w.heap.size 3 1 o l.length (rT l))/\Hd (Below w.heap.size w wr))
 case atStart=>exact⟨n,[n],rfl,h2,rfl,⟨by omega,u.o.symm⟩,b.o,c.o⟩
 case round=>
  obtain⟨m,l,rfl,hm,I,h,t,d⟩:=hrel;clear b c;by_cases J:1<m
  ·obtain⟨g1,rfl⟩:∃ j,gk=j+1:=⟨gk - 1,by
    cases gk with
    | zero=>have:=h.o.1;omega
    | succ k=>rfl⟩
   have q:(1:Int)<(m:Int):=om
   have i:Hd ((m+3) / 4<=4 ^ g1/\(l++[(m+3) / 4])++td g1 ((m+3) / 4)=R):=by obtain⟨G,a2⟩:=h.o;refine⟨by rw[dK] at G;omega,?_⟩;rw[<-a2,td,ah om,cC];rfl
   obtain⟨m2,f⟩:=Ex ((m+3) / 4);have P:((m:Int)+4 - 1) / 4=(m2:Int):=om;have r:m2<=65536:=om;rw[<-f] at i;replace f:=LH f;clear h;have s:(wr.alloc (.cells #[iw m2] 3)).ownsRow _ _ _ _ _ _:=gF t.o (λg hg=>aB _ _ _ (kp t.o g hg));have A:=LH s;have z:=LH (l9 wr #[iw m2] 3 1 1 rfl mx);have y:=LH (λg=>kK t.o g);have L:=d.o.size;clear s
   go_wp2_with (at_builtin;refine K.append ?_ (.tmp 13) (.tmp 15) 59 ?_ w.heap.size 3 (iw 0) 1 8 underlying59 Av C om _ l.length _ ?_ A.o (λ_=>True) _ 1 [iw m2] ?_ z.o (by simp[Value.oneCell']) mx om ?_ ?_)
   ·rfl
   ·rfl
   ·omega
   intro v' w2 D E M N;have F:=LH D;have p:Below w.heap.size w (wr.alloc (.cells #[iw m2] 3)):=d.o.alloc d.o.size _;have B:=LH ((aQ.dE p No).grown E (λg hg I=>absurd (y.o g hg) om)).no;clear D E M N p;go_wp2;go_roundg g1
   case measure=>omega
   case rel=>refine⟨m2,l++[m2],rfl,r,by simp;omega,i.o,?_,B.o⟩;show World.ownsRow _ _ _ _ _ _ _;rw[Fg,aE];exact F.o
  ·have q:¬ (1:Int)<(m:Int):=om
   have a:l=R:=by
    rw[<-h.o.2];cases gk with
    | zero=>simp[td]
    | succ k=>rw[td,ak om,dm]
   replace a:=LH a;clear h;go_wp2;go_ret;refine⟨_,rfl,?_,?_,d.o⟩
   ·rw[<-a.o];exact t.o
   ·rw[<-a.o];omega
theorem Aw (w:World):Calls prog 129 #[iw 50] w λe w'=>∃ v,e=.returned v/\w'.ownsRow w.heap.size 3 1 v 4 (rT [50,13,4,1])/\Below w.heap.size w w':=(Fh 50 om om w).mono λ_ _ ⟨v,h1,a,_,b⟩=>⟨v,h1,a,b⟩
theorem wi (w:World):Calls prog 97 #[iw 50] w λe w'=>e=.returned (iw 4)/\Below w.heap.size w w':=by
 have hc:=LH (Aw w);go_enter func97,ntmps97
 go_wp2_with fail
 refine hc.o.mono ?_;rintro e w' ⟨v,rfl,h1,a⟩;obtain⟨g,cp,rfl,_,_⟩:=kz h1 om;replace h1:=LH h1;replace a:=LH a;clear hc;go_wp2;go_ret;exact⟨rfl,a.o⟩
def kt (k:Int):Nat:=if k=0 then 50 else if k=1 then 13 else if k=2 then 4 else if k=3 then 1 else 0
theorem uZ (k:Int) (w:World):Calls prog 98 #[iw 50,iw k] w λe w'=>e=.returned (iw (kt k))/\Below w.heap.size w w':=by
 have hc:=LH (Aw w);by_cases hk:0<=k/\k<4
 ·obtain⟨j,rfl⟩:∃ j:Nat,k=j:=⟨k.toNat,by omega⟩;have d:j<4:=om
  have hv:([50,13,4,1]:List Nat).getD j 0=kt j:=by
   match j,d with
   | 0,_=>rfl
   | 1,_=>rfl
   | 2,_=>rfl
   | 3,_=>rfl
  replace hv:=LH hv;have q:(0:Int)<=(j:Int):=om;have f:(j:Int)<4:=om;have h:decide (4<=j)=false:=by simpa using d
  have i:decide ((4:Int)<=(j:Int))=false:=by simpa using f
  clear hk;go_enter func98,ntmps98
  go_wp2_with fail
  refine hc.o.mono ?_;rintro e w' ⟨v,rfl,h1,a⟩;obtain⟨g,cp,rfl,_,_⟩:=kz h1 om;have b:=h1.cells (g:=g) rfl j _ (Ff [50,13,4,1] j d);rw[bJ,hv.o,aw] at b;replace h1:=LH h1;replace a:=LH a;clear hc;go_wp2;go_ret;exact⟨rfl,a.o⟩
 ·have hw:kt k=0:=by unfold kt;rw[ah om,ah om,ah om,ah om]
  rw[hw];replace hw:=LH hw;by_cases l:k<0
  ·clear hk;go_enter func98,ntmps98
   go_wp2_with fail
   refine hc.o.mono ?_;rintro e w' ⟨v,rfl,h1,a⟩;obtain⟨g,cp,rfl,_,_⟩:=kz h1 om;replace h1:=LH h1;replace a:=LH a;clear hc;go_wp2;go_ret;exact⟨rfl,a.o⟩
  ·have n:(4:Int)<=k:=om;have c:(0:Int)<=k:=om;have p:decide ((4:Int)<=k)=true:=by simpa using n
   have m:decide (k<(0:Int))=false:=by simpa using c
   clear hk l;go_enter func98,ntmps98
   go_wp2_with fail
   refine hc.o.mono ?_;rintro e w' ⟨v,rfl,h1,a⟩;obtain⟨g,cp,rfl,_,_⟩:=kz h1 om;replace h1:=LH h1;replace a:=LH a;clear hc;go_wp2;go_ret;exact⟨rfl,a.o⟩
end Go.Proofs.YthmcbgidehjlbaaGreat.Fd

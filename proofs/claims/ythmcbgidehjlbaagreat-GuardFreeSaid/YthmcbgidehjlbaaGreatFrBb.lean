/-
 Parts of the proof. No condition beyond what each theorem names.
-/
import Derived.Sort.QuietIn
import Derived.Test.YthmcbgidehjlbaaGreatFrAk
import Derived.Test.YthmcbgidehjlbaaGreatFrAs
import Derived.Test.YthmcbgidehjlbaaGreatFrAu
import Derived.Test.YthmcbgidehjlbaaGreatFrAv
import Derived.Test.YthmcbgidehjlbaaGreatFrAz
import Derived.Test.YthmcbgidehjlbaaGreatFrBa
set_option maxRecDepth 100000
set_option maxHeartbeats 16000000
namespace Go.Proofs.YthmcbgidehjlbaaGreat.Fd
open _root_.Go.Proofs.Tryz
open Go Go.RowKit Go.Shelf K
attribute [local go_sem] Oper.semAt_some
theorem J0 (F:Fence) (n:Nat) (h6:F.fn 156) (hro:F.round=none) (a:Option Addr) (len cap:Nat) (w:World):
  CallsIn F n prog 156 #[.slice a len cap,iw 8] w λe w'=>e=.returned (.func (.func 174) #[] #[iq w.heap.size,iq (w.heap.size+1)])/\w'=(w.alloc (.cells #[.slice a len cap] 105)).alloc (.cells #[iw 8] 3):=by
 refine eK func156 rfl h6 ?_ hro;simp only[ntmps156,NT,Nat.reduceAdd,Nat.reduceSub]
 gi_wp2
 go_ret;exact⟨by simp,rfl⟩
theorem J1 (a:Option Addr) (len cap:Nat) (w:World):
  Calls prog 156 #[.slice a len cap,iw 8] w λe w'=>e=.returned (.func (.func 174) #[] #[iq w.heap.size,iq (w.heap.size+1)])/\w'=(w.alloc (.cells #[.slice a len cap] 105)).alloc (.cells #[iw 8] 3):=dJ.1 (J0 .wide 3 trivial rfl a len cap w)
def chunks (n:Nat):List (Nat×Nat):=if n<=8 then [(0,n)] else [(0,8),(8,n - 8)]
def xK (g:Nat) (x:Nat×Nat):Array Value:=#[.slice (some (iu g (x.1*2))) x.2 x.2]
theorem J2 (n:Nat) (hn:1<=n) (l Bs Bn g L cap:Nat) (C:Nat->Prop) (hL0:0<L) (hL:L<=15) (hLc:L<=cap) (J Jx:List (Nat×Nat)->World->Prop) (hJ:∀ s W W',J s W->W.grownBy W' none->J s W')
  (hY:∀ pre x W,J pre W->pre.length<2->x.1+x.2<=L->x.2<=8->YieldAt .wide (n - 1) prog l (xK g x) W λe W'=>(e=.returned (.bool true)/\J (pre++[x]) W'/\aA C W W')\/(e=.returned (.bool false)/\Jx (pre++[x]) W'))
  (W:World) (hb:¬ C Bs) (hbn:¬ C Bn) (hBs:W.cell? (iu Bs 0)=some (ir g L cap)) (hBn:W.cell? (iu Bn 0)=some (iw 8)) (h0:J [] W):
  CallsIn .wide n prog 174 #[.func (.yield l) #[] #[],iq Bs,iq Bn] W λe W'=>(∃ v,e=.returned v)/\
   ((∃ ys,ys=chunks L/\J ys W')\/(∃ pre,pre <+: chunks L/\Jx pre W')):=by
 have K:=LH (λM (hk:aA C W M)=>(show M.cell? (iu Bs 0)=some (ir g L cap)/\M.cell? (iu Bn 0)=some (iw 8) from ⟨(hk.cell (p:=iu Bs 0) (lq hBs) hb).trans hBs,(hk.cell (p:=iu Bn 0) (lq hBn) hbn).trans hBn⟩));have D:(prog.info? 142).map (·.size)=some 2:=kr;replace hY:=LH hY;refine eK func174 rfl trivial ?_ rfl;simp only[ntmps174,NT,Nat.reduceAdd,Nat.reduceSub];clear hBs hBn
 gi_wp2
 gi_loopw [4] (λi wr=>∃ k:Nat,k<=2/\(k=2->8<L)/\i=.int .i64 (8*k:Nat)/\Hd (J ((chunks L).take k) wr)/\Hd (aA C W wr)) (λi _=>match i with|.int _ z=>(24 - z).toNat|_=>0)
 case atStart=>exact⟨0,by omega,by omega,rfl,h0,aA.refl _ _⟩
 case round=>
  obtain⟨k,hk,aa,rfl,S,t⟩:=hrel;obtain⟨c0,c1⟩:=K.o wr t.o;by_cases Q:8*k<L
  ·have A:((8*k:Nat):Int)<L:=om;obtain⟨I,c⟩:=Ex (8*k);rw[<-c] at A Q ⊢;obtain⟨E,r⟩:=Ex (min 8 (L - I));have d:E=if 8<=L - I then 8 else L - I:=by rw[r];split<;>omega
   have a6:min 8 ((L - I:Nat):Int)=(E:Int):=by split at d<;>omega
   have Z:E<=L - I:=by split at d<;>omega
   revert c r d;refine H3 ?_;intro c r d;have U:I<=15:=om;have a1:((I+E:Nat):Int)=(I:Int)+E:=om
   have R:∀ x:World,(Instr.sliceAt 105 (ir g L cap) (some (iw I)) none none).run prog x=.ok (.slice (some (iu g (I*2))) (L - I) (cap - I)) x:=λx=>by have h:=rH (P:=prog) x underlying105 D (some (iu g 0)) L cap I om;rw[pK _ _ _ _ _ _ om,aw] at h;exact h
   have B:∀ x:World,(Instr.sliceAt 105 (ir g L cap) (some (iw I)) (some (iw (I+E))) (some (iw (I+E)))).run prog x=.ok (.slice (some (iu g (I*2))) E E) x:=λx=>by
    have he:prog.elem 105=142:=by simp[Program.elem,underlying105]
    have w:prog.underlying 105=some (.slice (prog.elem 105)):=by rw[he];exact underlying105
    have Y:=run_slice_lhm (P:=prog) x 105 (some (iu g 0)) L cap w .i64 .i64 .i64 I (I+E) (I+E) om om om om;rw[fo x _ _ _ _ _ w,Y,he,tJ x D];have u:((I:Int)+E).toNat=I+E:=om;simp only[Result.andThen,u,Int.toNat_natCast]
    rw[show sliced (some (iu g 0)) I (I+E) (I+E) 2=.slice (some (iu g (I*2))) E E from by rw[pK _ _ _ _ _ _ om,aw,ek]]
   gi_wp2
   gi_quiet (fail)
   obtain⟨H,b⟩:=Ex (wr.drewN nq);rw[<-b];have m:aA C W H:=by rw[b];exact⟨t.o.os,t.o.tape,t.o.output,t.o.size,t.o.block⟩
   have O:=hJ _ _ H S.o (by rw[b];exact⟨rfl,rfl,rfl,ae _,λ_ _ _=>rfl⟩);obtain⟨d0,d1⟩:=K.o H m
   obtain⟨fn,tmps,assign,body,G,hR⟩:=hY.o _ (I,E) H O (by
    have h1:((chunks L).take k).length<=k:=by rw[aR];omega
    have T:k<2:=by have:=c.o;omega
    omega) (show I+E<=L by omega) (show E<=8 by have:=r.o;omega)
   unfold xK at G;simp only at G
   have q:(chunks L).take k++[(I,E)]=(chunks L).take (k+1):=by
    have T:k=0\/k=1:=by have:=c.o;omega
    rcases T with rfl|rfl
    ·have u:I=0:=c.o
     have N:(chunks L).take 1=[(0,E)]:=by
      unfold chunks;by_cases F:L<=8
      ·rw[ak F];have:E=L:=by have:=r.o;omega
       rw[this];rfl
      ·rw[ah F];have:E=8:=by have:=r.o;omega
       rw[this];rfl
     rw[N,u];rfl
    ·have u:I=8:=c.o;have F:¬ L<=8:=om;have N:E=L - 8:=by have:=r.o;omega
     unfold chunks;rw[ah F,u,N];rfl
   revert b m q;refine H3 ?_;intro b m q;have V:IntKind.i64.wrap ((I:Int)+E)=I+E:=by rw[bO];omega
   clear R c0 c1
   gi_wp2
   refine hR.mono ?_;rintro e X (⟨rfl,f,hk3⟩|⟨rfl,a⟩)
   ·have j:=m.o.trans hk3;rw[q.o] at f;obtain⟨f0,f1⟩:=K.o X j;replace f:=LH f;replace j:=LH j;clear G d0 d1 B;have a7:IntKind.i64.wrap ((I:Int)+8)=I+8:=by rw[bO];omega
    gi_wp2
    have a8:k<=1:=by have:=c.o;omega
    go_roundw
    case rel=>
     refine⟨k+1,by omega,λe=>?_,?_,f.o,j.o⟩
     ·have:=c.o;omega
     ·have:=c.o;congr 1;omega
    case measure=>show (24 - (_:Int)).toNat<(24 - (_:Int)).toNat;omega
   ·replace a:=LH a;clear G d0 d1 B
    gi_wp2
    refine aI (gw rfl _ _ _) rfl ?_;refine⟨⟨_,rfl⟩,.inr ⟨_,?_,a.o⟩⟩;rw[q.o];exact List.take_prefix _ _
  ·have y:J (chunks L) wr:=by
    have h:=S.o
    rwa [bh (by
     unfold chunks;split
     ·simp;omega
     ·simp;omega)] at h
   have A:¬ ((8*k:Nat):Int)<L:=om
   gi_wp2
   go_end0;exact⟨⟨_,rfl⟩,.inl y⟩
end Go.Proofs.YthmcbgidehjlbaaGreat.Fd
namespace Go.Proofs.YthmcbgidehjlbaaGreat.K
open _root_.Go.Proofs.Tryz
open Go Go.RowKit
theorem J4 {P:Program}{n l0:Nat}{w:World}{ops:Array Oper}{rest:List Oper}{o:Oper}{a:Act}{Q:Exit->Act->World->Prop}(hgd:o.guard=none) (s x:Operand) (t:TypeId)
  (ho:o.op=.call { callee:=.builtin .append,args:=#[s,x],argTypes:=#[t,t] })
  (base:Nat) (e:TypeId) (z:Value) (size bytes:Nat) (ht:P.underlying t=some (.slice e)) (hi:(P.info? e).map (λi=>(i.zero,i.size,i.bytes))=some (some z,size,bytes)) (hzs:z.cells.size=size) (hsz:0<size)
  (v:Value) (m0:Nat) (xs:List Value) (hs:a.eval s=v) (hown:w.ownsRow base e size v m0 xs) (S:Nat->Prop) (y:Value) (m:Nat) (news:List Value) (hx:a.eval x=y) (hy:Cells w S y m size news) (h1:∀ u ∈ news,u.oneCell'=true)
  (h63:m0+m<=maxLen) (hbytes:(m0+m)*bytes<=140737488355328) (hbase:base<=w.heap.size)
  (h:∀ v' w',w'.ownsRow base e size v' (m0+m) (xs++news)->w.grownBy w' v.ownBlock->(v'=.slice none 0 0↔v=.slice none 0 0/\m=0)->(v'.ownBlock=v.ownBlock\/∃ g,v'.ownBlock=some g/\w.heap.size<=g)->wpListIn (Fence.wide.inRound l0) n P ops Q rest (a.put o.dst v') w'):wpListIn (Fence.wide.inRound l0) n P ops Q (o::rest) a w:=by
 refine wpListIn_plain hgd λK r=>RA.Dd (λc e=>by rw[ho] at e;cases e) ?_
 obtain⟨i,b,d,f,j⟩:=cw hi;obtain⟨v',w',hr,k,l,p,q⟩:=tH (P:=P) w base t o.type e i z size bytes ht b d f j hzs hsz v m0 xs hown S y m news hy h1 h63 hbytes hbase;unfold Oper.wp execOp;simp only[ho,resolve,invoke,builtin,aM,Sem.run_pure,bu,cI,bt,bT,hs,hx,hr];exact r _ _ (h v' w' k l p q)
end Go.Proofs.YthmcbgidehjlbaaGreat.K
namespace Go.Proofs.YthmcbgidehjlbaaGreat.Fd
open _root_.Go.Proofs.Tryz
open Go Go.RowKit Go.Shelf K
variable {W:World}
attribute [local go_sem] Oper.semAt_some
theorem Df {A:World}{row:Option Nat}{B:Nat}{e:TypeId}{sz:Nat}{v:Value}{k:Nat}{xs:List Value}(h:A.ownsRow B e sz v k xs) (hg:A.grownBy W row) (hr:∀ r,row=some r->∃ o:Obj,A.heap[r]?=some o/\o.isCells=false):W.ownsRow B e sz v k xs:=by
 refine dE h (λg a=>hg.block g (h.lt g a).2 (λd=>?_));obtain⟨o,c,hc⟩:=hr g d.symm;rcases h.2 with ⟨rfl,_⟩|⟨f,cap,cur,rfl,_,b,_⟩
 ·simp[Value.ownBlock] at a
 ·obtain rfl:f=g:=by simpa [Value.ownBlock] using a
  rw[b] at c;cases c
  cases hc
def nQ (W:World) (s:Nat) (v:Value) (k:Nat):Prop:=∃ vs:List Value,Boxed W s 200 v/\W.ownsRow (s+1) 42 1 v k vs/\∀ u ∈ vs,∃ Z:iz,Z.length=64/\W.ownsRow 0 5 1 u 64 (aQ Z)
theorem nQ.below {W':World}{s k:Nat}{v:Value}(h:nQ W s v k) (hb:Below W.heap.size W W'):nQ W' s v k:=by obtain⟨vs,h1,a,c⟩:=h;refine⟨vs,(hb.block s h1.lt).trans h1,dE a (λg hg=>hb.block g (a.lt g hg).2),λu hu=>?_⟩;obtain⟨Z,d,b⟩:=c u hu;exact⟨Z,d,dE b (λg hg=>hb.block g (b.lt g hg).2)⟩
theorem nQ.qk {A:World}{row:Option Nat}{s k:Nat}{v:Value}(h:nQ A s v k) (hg:A.grownBy W row) (hr:∀ r,row=some r->∃ o:Obj,A.heap[r]?=some o/\o.isCells=false):nQ W s v k:=by
 obtain⟨vs,h1,c,d⟩:=h;refine⟨vs,?_,Df c hg hr,λu hu=>?_⟩
 ·refine (hg.block s h1.lt (λb=>?_)).trans h1;obtain⟨o,a,hc⟩:=hr s b.symm;rw[show A.heap[s]?=_ from h1] at a;cases a
  cases hc
 ·obtain⟨Z,e,a⟩:=d u hu;exact⟨Z,e,Df a hg hr⟩
theorem nQ.set {s k:Nat}{v:Value}(h:nQ W s v k):nQ (W.setCell (iu s 0) v) s v k:=by
 obtain⟨vs,b1,d,f⟩:=h;have a:∀ {B:Nat}{e:TypeId}{y:Value}{n:Nat}{xs:List Value},W.ownsRow B e 1 y n xs->200≠e->(W.setCell (iu s 0) v).ownsRow B e 1 y n xs:=λ{B e y n xs} b c=>b.kept (grownBy_setCell' W s v) (.inr (b1.not_row c b).symm)
 refine⟨vs,b1.set _,a d de,λy i=>?_⟩;obtain⟨Z,g,b⟩:=f y i;exact⟨Z,g,a b de⟩
theorem nQ.parts {s k:Nat}{v:Value}(h:nQ W s v k):∃ parts:List iz,parts.length=k/\(∀ l ∈ parts,l.length=64)/\kP W (λ_=>True) v parts:=by
 obtain⟨vs,_,e,g⟩:=h;have hlen:vs.length=k:=by simpa using e.1
 have main:∀ us:List Value,(∀ u ∈ us,∃ Z:iz,Z.length=64/\W.ownsRow 0 5 1 u 64 (aQ Z))->∃ parts:List iz,parts.length=us.length/\(∀ l ∈ parts,l.length=64)/\∀ j u,us[j]?=some u->Bytes W (λ_=>True) u (parts.getD j []):=by
  intro us
  induction us with
  | nil=>exact λ_=>⟨[],rfl,(λl b=>by simp at b),(λj u hu=>by simp at hu)⟩
  | cons u us ih=>
   intro hu;obtain⟨Z,f,i⟩:=hu u sm;obtain⟨parts,h1,c,d⟩:=ih (λx a=>hu x (by simp[a]));refine⟨Z::parts,by simp[h1],(λl b=>?_),(λj x a=>?_)⟩
   ·rcases bi.1 b with rfl|b
    ·exact f
    ·exact c l b
   ·cases j with
    | zero=>simp at a;subst a;show Cells _ _ _ _ _ _;rw[List.getD_cons_zero,f];exact (Cells.own i).mono (λ_ _ _=>trivial)
    | succ j=>simp at a;simpa using d j x a
 obtain⟨parts,h1,c,d⟩:=main vs g;refine⟨parts,by omega,c,⟨vs,?_,d⟩⟩;rw[h1,hlen];exact (Cells.own e).mono (λ_ _ _=>trivial)
def OC (s k:Nat):Prop:=k=s\/s+3<=k
theorem nQ.push {w:World}{s k:Nat}{v u x:Value}{S:Nat->Prop}(h:nQ w s v k) (hs:s+3<=w.heap.size) (hvb:∀ g,v.ownBlock=some g->s+3<=g) (hk:k<=30) (hx:Cells w S x 1 1 [u]) (h1:u.oneCell'=true) (hu:∃ Z:iz,Z.length=64/\w.ownsRow 0 5 1 u 64 (aQ Z)):
  ∃ v' w',(Builtin.append_ #[200,200] 200 #[v,x]).run prog w=.ok v' w'/\w'.cell? (iu s 0)=some v/\w'.frozen? (iu s 0)=false/\(∃ g c,v'=ir g (k+1) c)/\nQ (w'.setCell (iu s 0) v') s v' (k+1)/\
   (∀ g,v'.ownBlock=some g->s+3<=g)/\aA (OC s) w (w'.setCell (iu s 0) v')/\KeepsOthers w (w'.setCell (iu s 0) v'):=by
 obtain⟨vs,b1,A,D⟩:=h;obtain⟨v',w',hr,C,z,G⟩:=xi (P:=prog) (bytes:=24) (t:=200) underlying200 yB rfl de A om (aA.refl No w) hx (by simpa using h1) mx om 200
 have l:∀ {p:Nat}{cs:Array Value}{ty:TypeId},w.heap[p]?=some (.cells cs ty (0,0))->42≠ty->w'.heap[p]?=some (.cells cs ty (0,0)):=λ{p cs ty} hp m=>by rw[z.block p (dC hp) (o6 A hp m)];exact hp
 have c1:Boxed w' s 200 v:=l b1 de
 have q:∀ {u:Value}{Z:iz},w.ownsRow 0 5 1 u 64 (aQ Z)->w'.ownsRow 0 5 1 u 64 (aQ Z):=λ{u Z} a=>dE a (λg hg=>z.block g (a.lt g hg).2 (λe=>by
  rcases a.2 with ⟨rfl,_⟩|⟨b,cap,cur,rfl,_,j,_⟩
  ·simp[Value.ownBlock] at hg
  ·obtain rfl:b=g:=by simpa [Value.ownBlock] using hg
   exact o6 A j de e))
 have d:∀ {B:Nat}{e:TypeId}{y:Value}{n:Nat}{xs:List Value},w'.ownsRow B e 1 y n xs->200≠e->(w'.setCell (iu s 0) v').ownsRow B e 1 y n xs:=λ{B e y n xs} a m=>a.kept (grownBy_setCell' w' s v') (.inr (c1.not_row m a).symm)
 obtain⟨g,c,rfl,_⟩:=kz C om
 have r:∀ b,(ir g (k+1) c).ownBlock=some b->s+3<=b:=λb f=>by
  rcases G with e|⟨g2,e,hg2⟩
  ·exact hvb b (e ▸ f)
  ·rw[e] at f;cases f
   omega
 refine⟨_,w',hr,c1.cell,c1.frozen,⟨g,c,rfl⟩,⟨vs++[u],c1.set _,d C de,λy F=>?_⟩,r,?_,?_⟩
 ·have:∃ Z:iz,Z.length=64/\w.ownsRow 0 5 1 y 64 (aQ Z):=by
   rcases bw.1 F with hm|hm
   ·exact D y hm
   ·simp at hm;subst hm;exact hu
  obtain⟨Z,E,a⟩:=this;exact⟨Z,E,d (q a) de⟩
 ·refine aA.setCell (aA.mono z (λi _ hi=>.inr (hvb i hi))) (λ_=>.inl rfl) _
 ·refine KeepsOthers.trans ⟨z.size,λi o hi a=>(z.block i (dC hi) (λe=>?_)).trans hi⟩ (KeepsOthers.setCell _ _ _);rcases A.2 with ⟨rfl,_⟩|⟨b,cap,cur,rfl,_,j,_⟩
  ·simp[Value.ownBlock] at e
  ·obtain rfl:b=i:=by simpa [Value.ownBlock] using e
   rw[j] at hi;cases hi
   cases a
abbrev CH (L:Nat):={ x:Nat×Nat // x.1+x.2<=L/\x.2<=8 }
def Dg (g:Nat){L:Nat}(x:CH L):Array Value:=xK g x.1
theorem J5 (n:Nat) (hn:1<=n) (Bs Bn g L cap:Nat) (C:Nat->Prop) (hL0:0<L) (hL:L<=15) (hLc:L<=cap) (w:World) (hb:¬ C Bs) (hbn:¬ C Bn) (hBs:w.cell? (iu Bs 0)=some (ir g L cap)) (hBn:w.cell? (iu Bn 0)=some (iw 8)):
  SeqStopsK .wide n prog 174 #[iq Bs,iq Bn] (Dg g (L:=L)) (aA C) (λys=>ys.map (·.1)=chunks L) (λpre=>pre.map (·.1) <+: chunks L) 2 w:=λl J i W f o _ t m=>by
 refine (J2 n hn l Bs Bn g L cap C hL0 hL hLc (λpre W=>∃ p:List (CH L),p.map (·.1)=pre/\J p W) (λpre W=>∃ p:List (CH L),p.map (·.1)=pre/\i p W) ?_ ?_ W hb hbn ((f.cell (p:=iu Bs 0) (lq hBs)).trans hBs) ((f.cell (p:=iu Bn 0) (lq hBn)).trans hBn) ⟨[],rfl,m⟩).mono ?_
 ·rintro s A B ⟨p,hp,a⟩ hg;exact⟨p,hp,o _ _ _ none a hg (λr e=>by cases e)⟩
 ·rintro pre x k ⟨p,hp,a⟩ h d b;obtain⟨fn,tmps,assign,body,u,q⟩:=t p ⟨x,d,b⟩ k a (by rw[<-hp,df] at h;exact h);refine⟨fn,tmps,assign,body,u,q.mono ?_⟩;rintro e j (⟨rfl,h1,h2⟩|⟨rfl,h1⟩)
  ·exact .inl ⟨rfl,⟨p++[⟨x,d,b⟩],by simp[hp],h1⟩,h2⟩
  ·exact .inr ⟨rfl,⟨p++[⟨x,d,b⟩],by simp[hp],h1⟩⟩
 ·rintro e j ⟨h1,⟨ys,rfl,p,hp,a⟩|⟨pre,c,p,hp,a⟩⟩
  ·exact⟨h1,.inl ⟨p,hp,a⟩⟩
  ·exact⟨h1,.inr ⟨p,by show p.map _ <+: _;rw[hp];exact c,a⟩⟩
end Go.Proofs.YthmcbgidehjlbaaGreat.Fd
namespace Go.Proofs.YthmcbgidehjlbaaGreat.Fd
open _root_.Go.Proofs.Tryz
open Go Go.RowKit Go.Shelf K
attribute [local go_sem] Oper.semAt_some
theorem J6 (k:Nat):aQ (List.replicate k 0)=List.replicate k (iy 0):=by simp[aQ,u8]
def Dh {L:Nat}(A:Act) (g:Nat) (x:CH L) (a':Act) (_:World):Prop:=a'={ tmps:=(A.tmps.setIfInBounds 11 (.slice (some (iu g (x.1.1*2))) x.1.2 x.1.2)).setIfInBounds 3 (.slice (some (iu g (x.1.1*2))) x.1.2 x.1.2),defers:=[] }
def CI {L:Nat}(s:Nat) (W4:World) (pre:List (CH L)) (W:World):Prop:=(∃ v,nQ W s v pre.length/\∀ g,v.ownBlock=some g->s+3<=g)/\aA (OC s) W4 W
theorem J7 {w:World}{B g n cap:Nat}{ws:List (Nat×Value)}(hrow:w.ownsRow B 142 2 (ir g n cap) n (ng ws)) (hwl:ws.length=n) (h0:0<n) (hn:n<=15) (hmay:∀ p ∈ ws,p.1<120/\∃ Z:iz,Z.length=64/\w.ownsRow 0 5 1 p.2 64 (aQ Z)):
  Calls prog 127 #[ir g n cap] w λe w'=>∃ (v:Value) (parts:List iz),e=.returned v/\parts.length<=17/\(∀ l ∈ parts,l.length=64)/\kP w' (λ_=>True) v parts/\Below w.heap.size w w':=by
 have cm:n<=cap:=by
  rcases hrow.2 with ⟨h,_⟩|⟨_,_,_,h,_,_,hc,_⟩
  ·cases h
  ·cases h
   exact hc
 have G:∀ d,Below w.heap.size w d->∀ j p,ws[j]?=some p->d.cell? (iu g (j*2))=some (iw p.1)/\d.cell? (iu g (j*2+1))=some p.2:=λd hb j p hj=>by have b6:=(aD.1 hj).1;obtain⟨g',off,c',hv,_,_,_,ct,cr⟩:=Cells.at (Cells.own hrow) om;simp only[IJ] at hv;obtain⟨⟨rfl,rfl,_⟩,_,_⟩:=hv;obtain⟨e1,e2⟩:=tz ws j p hj;have f1:=cr _ _ e1;have f2:=cr _ _ e2;rw[aw] at f1 f2;rw[hb.cell (p:=iu g (j*2)) ct,hb.cell (p:=iu g (j*2+1)) ct];exact⟨f1,f2⟩
 have an:∀ d,Below w.heap.size w d->∀ p ∈ ws,∃ Z:iz,Z.length=64/\d.ownsRow 0 5 1 p.2 64 (aQ Z):=λd hb p hp=>by obtain⟨Z,hZ,ho⟩:=(hmay p hp).2;exact⟨Z,hZ,dE ho (λg hg=>hb.block g (ho.lt g hg).2)⟩
 replace G:=LH G;replace an:=LH an;replace hmay:=LH hmay;clear hrow;refine (dJ (n:=3)).1 ?_;refine callsIn_of_wp_marks func127 rfl trivial ?_ rfl;simp only[ntmps127,NT,Nat.reduceAdd,Nat.reduceSub];refine dU.2 ?_;obtain⟨s,hs⟩:=Ex w.heap.size;have b0:nQ (w.alloc (.cells #[.slice none 0 0] 200)) s (.slice none 0 0) 0:=⟨[],by rw[hs];exact Boxed.new w _ _,aS _ _ _ _,λu hu=>by cases hu⟩;have a1:Below w.heap.size w (w.alloc (.cells #[.slice none 0 0] 200)):=(ag _ _).alloc (ae _) _;have R:(w.alloc (.cells #[.slice none 0 0] 200)).heap.size=s+1:=by rw[hs];simp
 replace b0:=LH b0;replace a1:=LH a1;replace R:=LH R
 go_wp2_with fail
 rw[<-hs];replace hs:=LH hs;refine (J1 _ _ _ _).mono ?_;rintro e w1 ⟨rfl,rfl⟩;generalize w.alloc (.cells #[.slice none 0 0] 200)=W1 at*;rw[R.o];have b4:=(b0.o.below ((ag _ W1).alloc (ae _) (.cells #[ir g n cap] 105))).below ((ag _ (W1.alloc (.cells #[ir g n cap] 105))).alloc (ae _) (.cells #[iw 8] 3))
 have c1:((W1.alloc (.cells #[ir g n cap] 105)).alloc (.cells #[iw 8] 3)).cell? (iu (s+1) 0)=some (ir g n cap):=by have:=(Boxed.new W1 105 (ir g n cap)).alloc (.cells #[iw 8] 3);rw[R.o] at this;exact this.cell
 have c2:((W1.alloc (.cells #[ir g n cap] 105)).alloc (.cells #[iw 8] 3)).cell? (iu (s+1+1) 0)=some (iw 8):=by have:=Boxed.new (W1.alloc (.cells #[ir g n cap] 105)) 3 (iw 8);rw[aN,R.o] at this;exact this.cell
 have ad:Below w.heap.size w ((W1.alloc (.cells #[ir g n cap] 105)).alloc (.cells #[iw 8] 3)):=(a1.o.alloc a1.o.size _).alloc (by have:=a1.o.size;simp;omega) _;have M:((W1.alloc (.cells #[ir g n cap] 105)).alloc (.cells #[iw 8] 3)).heap.size=s+3:=by simp[R.o]
 generalize ((W1.alloc (.cells #[ir g n cap] 105)).alloc (.cells #[iw 8] 3))=W4 at*;clear b0 a1 R;have b8:=J5 2 om (s+1) (s+1+1) g n cap (OC s) h0 hn cm W4 (λh=>by unfold OC at h;omega) (λh=>by unfold OC at h;omega) c1 c2;have af:∀ W,aA (OC s) W4 W->Below w.heap.size w W:=λW h=>ad.trans (h.below ad.size (λk hk hc=>by have:=hs.o;unfold OC at hc;omega))
 have U:CI s W4 ([]:List (CH n)) W4:=⟨⟨_,b4,λg hg=>by simp[Value.ownBlock] at hg⟩,aA.refl _ _⟩;clear c1 c2 b4;refine G5 b8 af U M ad ?_;clear b8 af U M ad;intro b8 af U M ad
 go_wp2_with fail
 refine (dU (n:=3)).1 ?_;refine ze (λA hA=>?_)
 refine wpIn_rangeFunc_ownH (F:=.wide) (n:=3) (P:=prog) (α:=CH n) rfl om (gf:=174) (lb:=#[iq (s+1),iq (s+1+1)]) (by rw[hA];rfl) trivial (enters_of func174 kr rfl) b8.o (λh k=>h.trans k) (λW l o o' hl h _ _=>⟨rfl,rfl,rfl,by simp,λk hk hc=>(grownBy_putObj' W l o').block k hk (λe=>hc (.inr (by cases e;have:=M.o;omega)))⟩) (ag _ _) (λx=>rfl)
  (CI s W4) (λ_ _ _=>False)
  (λx X Y row hx cz hr=>by obtain⟨⟨v,h1,h2⟩,h3⟩:=hx;exact⟨⟨v,h1.qk cz (λr e=>(hr r e).2),h2⟩,h3.grown cz (λk e _=>.inr (by have:=(hr k e).1;have:=M.o;omega))⟩)
  (λ_ _ _ _ _ hx _ _=>hx)
  U.o
  (Dh A g)
  ?ax ?assign ?body ?done ?stop
 case ax=>exact λx a' _ X Y row h _ _=>h
 case stop=>exact λD c pre W _ _ h _=>h.elim
 case assign=>
  rintro l pre ⟨⟨x1,x2⟩,hx⟩ W K hI hK;have bC:=hK _ W (KeepsFrom.refl _ _) (aA.refl _ _) hI rfl;rw[hA] at bC;replace hK:=LH bC;rw[hA];unfold Dg xK;clear bC
  gi_wp2
  exact hK.o
 case body=>
  rintro l pre ⟨⟨x1,x2⟩,hx⟩ a' W c8 cc hI ck er;unfold Dh at ck;subst ck;rw[hA];clear hA;simp only at hx ⊢;obtain⟨⟨v,hO,I⟩,hC⟩:=hI;obtain⟨fi,fs⟩:=hx;obtain⟨n1,f⟩:=Ex W.heap.size;have E:=af.o W hC;have cV:s+3<=n1:=by rw[f,<-M.o];exact hC.size
  refine G7 f hO I hC E c8 cc ?_;clear f hO I hC E c8 cc;intro f hO I hC E c8 cc;clear U
  gi_wp2
  gi_loopw [4,14] (λbv ix wr=>∃ j:Nat,∃ l:iz,j<=x2/\ix=.int .i64 j/\Hd (l.length=8*j)/\Hd (wr.ownsRow n1 5 1 bv (8*j) (aQ l))/\Hd (Below n1 W wr)) (λ_ ix _=>match ix with|.int _ z=>(8 - z).toNat|_=>0)
  case atStart=>exact⟨0,[],aW _,rfl,rfl,aS _ _ _ _,ag _ _⟩
  case round=>
   obtain⟨j,lb,hj,rfl,HL,HO,N⟩:=hrel;by_cases cP:j<x2
   ·have c9:(j:Int)<x2:=om;have b6:x1+j<ws.length:=om;obtain⟨p,hp⟩:∃ p,ws[x1+j]?=some p:=⟨ws[x1+j],av b6⟩;have b5:Below w.heap.size w wr:=E.o.trans (N.o.mono (by have:=hs.o;omega));obtain⟨c0,c1⟩:=G.o wr b5 _ p hp;have e0:=(hmay.o p (aZ hp)).1;obtain⟨O,dv⟩:=p;simp only at e0 c0 c1;have bA:x1*2+j*2=(x1+j)*2:=om;have ay:x1*2+j*2+1=(x1+j)*2+1:=om;rw[<-bA] at c0;rw[<-ay] at c1
    obtain⟨da,dl,dc,rfl⟩:∃ da dl dc,dv=.slice da dl dc:=by obtain⟨Z,_,ho⟩:=(hmay.o _ (aZ hp)).2;obtain⟨gd,cd,e,_⟩:=kz ho om;exact⟨_,_,_,e⟩
    replace hp:=LH hp;replace b5:=LH b5;clear bA ay
    gi_wp2
    refine⟨trivial,(CallsIn.inRound l (dJ.2 (oL O om _))).mono ?_⟩;rintro e w7 ⟨u,rfl,hu,m⟩;obtain⟨w6,q⟩:=Ex (wr.alloc (.cells #[iw O,.slice da dl dc] 142));rw[<-q] at hu m;have J:Below n1 W w7:=(N.o.alloc (by have:=N.o.size;have:=f.o;omega) _).trans (by rw[<-q];exact m.mono (by rw[q];have:=N.o.size;have:=f.o;simp;omega));have a6:w7.ownsRow n1 5 1 u4 (8*j) (aQ lb):=dE (HO.o.alloc (.cells #[iw O,.slice da dl dc] 142)) (λg hg=>by rw[<-q];exact m.block g (by rw[q];have:=(HO.o.lt g hg).2;simp;omega));have cf:=LH (Cells.mono (S':=λ_=>True) (Cells.own hu) (λ_ _ _=>trivial));replace a6:=LH a6;replace J:=LH J;have cT:n1<=w7.heap.size:=by have:=J.o.size;have:=f.o;omega
    obtain⟨lu,b7⟩:=Ex (kj O);have bz:lu.length=8:=by rw[b7];exact nF
    rw[<-b7] at cf;have dg:=LH (And.intro b7 bz);clear hu m q HO N b7 bz;obtain⟨j8,H⟩:=Ex (8*j);rw[<-H] at a6;replace H:=LH H;have cA:j8<=64:=by have:=H.o;omega
    gi_wp2_with (gi_at_builtin;refine K.J4 ?_ (.tmp 18) (.tmp 21) 42 ?_ n1 5 (iy 0) 1 1 underlying42 nu rfl de _ j8 _ ?_ a6.o (λ_=>True) _ 8 (aQ lu) ?_ cf.o (nJ lu) mx om cT ?_)
    ·rfl
    ·rfl
    ·rfl
    ·rfl
    intro v' w8 b2 dd ec ed;have bW:Below n1 W w8:=J.o.grown dd cT (λk e=>(a6.o.lt k e).1)
    replace b2:w8.ownsRow n1 5 1 v' (8*(j+1)) (aQ (lb++lu)):=by rw[nI,show 8*(j+1)=j8+8 by have:=H.o;omega];exact b2
    replace b2:=LH b2;replace bW:=LH bW;clear dd ec ed a6 cf J c0 c1 b5;have ca:=LH (show (lb++lu).length=8*(j+1) by have h1:=HL.o;have h2:=dg.o.2;rw[aE,h1,h2];omega);have e6:IntKind.i64.wrap ((j:Int)+1)=j+1:=by rw[bO];omega
    gi_wp2
    go_roundw
    case rel=>exact⟨j+1,lb++lu,by omega,by simp,ca.o,b2.o,bW.o⟩
    case measure=>show (8 - (_:Int)).toNat<(8 - (_:Int)).toNat;omega
   ·obtain rfl:j=x2:=om;have c9:¬ (j:Int)<j:=om
    obtain⟨ba,bc,rfl⟩:∃ ba bc,u4=.slice ba (8*j) bc:=by
     rcases HO.o.2 with ⟨e,e2⟩|⟨gb,cb,_,e,_⟩
     ·exact⟨none,0,by rw[e,e2]⟩
     ·exact⟨_,_,e⟩
    obtain⟨j8,H⟩:=Ex (8*j);rw[<-H] at HO HL ⊢;have cA:j8<=64:=om;replace H:=LH H;obtain⟨T,bp⟩:=Ex (64 - j8);have c6:(64:Int) - j8=T:=om;have c7:j8+T=64:=om;replace bp:=LH bp;have hOr:=hO.o.below (by rw[<-f.o];exact N.o);have fb:n1<=wr.heap.size:=by rw[f.o];exact N.o.size
    have dT:=LH (show ∀ d,aA (λk=>n1<=k) wr.drew d->d.cell? (iu s 0)=some v from λd h=>by obtain⟨vs,h1,_⟩:=hOr;have cg:Boxed wr.drew s 200 v:=h1;exact (h.cell (p:=iu s 0) cg.lt (by show ¬ n1<=s;omega)).trans cg.cell)
    gi_wp2_with fail
    refine RA.JZ (λa b=>aA (λk=>n1<=k) a b) (·=·) [1,1,1,1,1,3,3,6,7] [7,8] (λ_ _ _=>True) (λx=>x.ownsRow n1 5 1 (.slice ba j8 bc) j8 (aQ lb)/\Below n1 W x) kr (aA.refl _ _) (λ_ _ e=>e ▸ aA.refl _ _) (λ_ _ _ h k=>h.trans k) (λ_ _ e k=>e ▸ k) ⟨HO.o,N.o.drew⟩ kr kr kr (λ⟨_,_,h⟩=>h) ?_;intro cx;refine RA.lk prog (v) (hc:=λd hp=>by exact dT.o _ hp.1) (h:=?_)
    repeat refine RA.qq ?_
    refine RA.vk prog (iw j8) (h:=?_);refine RA.si (r:=(T:Int)) (he:=c6) (h:=?_)
    refine RA.bq (λ_ _=>True) (λy d=>d.ownsRow n1 5 1 y 64 (aQ lb++List.replicate T (iy 0))/\Below n1 W d) (hs:=λ_ _ _ _ _=>trivial) (he:=λ_ _ _ e k=>e ▸ k) (hr:=λd hp hH=>by obtain⟨v',w',hr,r1,r2,r3⟩:=J3 (P:=prog) underlying42 underlying3 nu rfl rfl hH.1 (by have:=hH.2.size;have:=f.o;omega) T om om 42;rw[c7] at r1;refine⟨v',w',RA.nS rf rf hr,r2.mono (λi _ hi=>(hH.1.lt i hi).1),trivial,r1,hH.2.trans (r2.below (by have:=hH.2.size;have:=f.o;omega) (λi hi e=>by have:=(hH.1.lt i e).1;omega))⟩) (hn:=λu=>?_)
    refine RA.bq (λ_ _=>True) (λx d=>Cells d (λ_=>True) x 1 1 [u]/\(∃ gu cu,u=ir gu 64 cu)/\d.ownsRow n1 5 1 u 64 (aQ lb++List.replicate T (iy 0))/\Below n1 W d) (hs:=λ_ _ _ _ _=>trivial) (he:=λ_ _ _ e k=>e ▸ k) (hr:=λd hp hH=>by obtain⟨gu,cu,rfl,_⟩:=kz hH.1 om;refine⟨ir d.heap.size 1 1,d.alloc (.cells #[ir gu 64 cu] 42),?_,(aA.refl _ _).alloc _,trivial,mC d #[ir gu 64 cu] 42 1 1 rfl mx,⟨_,_,rfl⟩,hH.1.alloc _,hH.2.alloc (by have:=hH.2.size;have:=f.o;omega) _⟩;show (execOp _ _).run prog d=_;go_simp) (hn:=λx=>?_)
    refine RA.oH (λv' d=>d.cell? (iu s 0)=some v/\d.frozen? (iu s 0)=false/\(∃ g c,v'=ir g (pre.length+1) c)/\nQ (d.setCell (iu s 0) v') s v' (pre.length+1)/\(∀ g,v'.ownBlock=some g->s+3<=g)/\aA (OC s) W (d.setCell (iu s 0) v')/\KeepsOthers W (d.setCell (iu s 0) v')) (hr:=(λd hp hH=>by
     obtain⟨q1,⟨gu,cu,rfl⟩,q3,q4⟩:=hH;have b3:Below W.heap.size W d:=by rw[<-f.o];exact q4
     obtain⟨v',w',hr,r1,r2,r3,r4,r5,r6,r7⟩:=(hO.o.below b3).push (by have:=q4.size;have:=f.o;omega) I.o om q1 rfl ⟨lb++List.replicate T 0,by rw[aE,HL.o];simp;omega,by rw[nI,J6];exact kU q3 (aW _)⟩
     refine⟨v',w',RA.nS rf rf hr,r1,r2,r3,r4,r5,?_,?_⟩
     ·exact (aA.dD b3 (OC s)).trans r6
     ·exact KeepsOthers.trans ⟨b3.size,λi o hi _=>(b3.block i (dC hi)).trans hi⟩ r7)) (hn:=λv'=>?_)
    refine RA.lr (λd=>∃ v',nQ d s v' (pre.length+1)/\(∀ g,v'.ownBlock=some g->s+3<=g)/\aA (OC s) W d/\KeepsOthers W d) (hr:=λd hp hH=>by obtain⟨q1,q2,⟨gv,cv,rfl⟩,q4,q5,q6,q7⟩:=hH;refine⟨d.setCell (iu s 0) (ir gv (pre.length+1) cv),RA.kL rf rf ?_,_,q4,q5,q6,q7⟩;show (Instr.storeAt _ _ _).run prog d=_;go_simp) (hn:=?_)
    refine RA.RA.kZ (λw9 hH=>?_);simp only[RA.RP,cx];obtain⟨v',q4,q5,q6,q7⟩:=hH;refine⟨q7.from _,q6,⟨⟨v',by rw[aE];exact q4,q5⟩,hC.o.trans q6⟩⟩
 case done=>
  rintro D ys W hD cY hI hK;rw[hA];clear hA U;obtain⟨⟨v,hO,I⟩,hC⟩:=hI
  have e8:ys.length<=2:=by have h:=bV List.length cY;rw[df] at h;rw[h];unfold chunks;split<;>simp
  have E:=af.o W hC;have cV:s+3<=W.heap.size:=by rw[<-M.o];exact hC.size
  rw[M.o] at hD;refine G4 hO I E hK ?_;clear hO I E hK;intro hO I E hK;clear hC cY;obtain⟨k0,cK⟩:=Ex ys.length;rw[<-cK] at hO e8;clear cK
  go_wp2_with fail
  go_loopw [34] (λix wr=>∃ j:Nat,j<=n/\ix=.int .i64 j/\Hd (∃ v,nQ wr s v (k0+j)/\∀ g,v.ownBlock=some g->s+3<=g)/\Hd (wr.heap[D]?=some (.deferred (some [])))/\Hd (Below w.heap.size w wr)/\Hd (s+3<=wr.heap.size)) (λix _=>match ix with|.int _ z=>(20 - z).toNat|_=>0)
  case atStart=>exact⟨0,aW _,rfl,⟨v,hO.o,I.o⟩,hK.o,E.o,cV⟩
  case round=>
   obtain⟨j,hj,rfl,HO,HK,N,HS⟩:=hrel;by_cases cP:j<n
   ·have c9:(j:Int)<n:=om;have b6:j<ws.length:=om;obtain⟨p,hp⟩:∃ p,ws[j]?=some p:=⟨ws[j],av b6⟩;obtain⟨c0,c1⟩:=G.o wr N.o _ p hp;obtain⟨O,dv⟩:=p;simp only at c0 c1;have c5:=an.o wr N.o _ (aZ hp)
    obtain⟨da,dl,dc,rfl⟩:∃ da dl dc,dv=.slice da dl dc:=by obtain⟨Z,_,ho⟩:=c5;obtain⟨gd,cd,e,_⟩:=kz ho om;exact⟨_,_,_,e⟩
    obtain⟨v2,V,cX⟩:=HO.o;obtain⟨w6,q⟩:=Ex (wr.alloc (.cells #[iw O,.slice da dl dc] 142));have bR:Below wr.heap.size wr w6:=by rw[q];exact (ag _ _).alloc (ae _) _
    have dp:=V.below bR;have e7:=cell_of (show w6.heap[wr.heap.size]?=some (.cells #[iw O,.slice da dl dc] 142 (0,0)) by rw[q];exact aj wr _) 1;have e3:(wr.heap.size:Nat)<w6.heap.size:=by rw[q];simp
    obtain⟨w7,bl⟩:=Ex (w6.alloc (.cells #[.slice da dl dc] 42));have m:Below wr.heap.size wr w7:=by rw[bl];exact bR.alloc om _
    obtain⟨v3,w8,hr,r1,r2,⟨gv,cv,rfl⟩,r4,r5,r6,r7⟩:=(V.below m).push (S:=λ_=>True) (x:=ir w6.heap.size 1 1) (u:=.slice da dl dc) (by have:=m.size;have:=HS.o;omega) cX om (by rw[bl];exact mC w6 #[.slice da dl dc] 42 1 1 rfl mx) rfl (by obtain⟨Z,hZ,ho⟩:=c5;exact⟨Z,hZ,dE ho (λg hg=>m.block g (ho.lt g hg).2)⟩)
    have Q:(w8.setCell (iu s 0) (ir gv (k0+j+1) cv)).heap[D]?=some (.deferred (some [])):=r7.same D _ ((m.block D (dC HK.o)).trans HK.o) rfl;have a7:Below w.heap.size w (w8.setCell (iu s 0) (ir gv (k0+j+1) cv)):=(N.o.trans (m.mono N.o.size)).trans (r6.below (am N.o.size m.size) (λi hi hc=>by have:=hs.o;unfold OC at hc;omega));have bD:s+3<=(w8.setCell (iu s 0) (ir gv (k0+j+1) cv)).heap.size:=am HS.o (am m.size r7.size);have aa:nQ (w8.setCell (iu s 0) (ir gv (k0+j+1) cv)) s (ir gv (k0+j+1) cv) (k0+(j+1)):=r4;obtain⟨eb,t,_,_⟩:=V;have bB:=t.cell;have e4:s<wr.heap.size:=t.lt;obtain⟨w9,C⟩:=Ex (w8.setCell (iu s 0) (ir gv (k0+j+1) cv));rw[<-C] at Q a7 bD aa;have cW:w6.heap.size=wr.heap.size+1:=by rw[q];simp
    rw[bl,q,aN] at hr;have L:=LH (And.intro Q (And.intro a7 (And.intro bD (And.intro aa r5))));replace hr:=LH hr;replace C:=LH C;clear Q a7 bD aa r4 r5 r6 r7 m dp e7 e3 t c5 bR bl q cW
    go_wp2_with (at_builtin;refine C0 ?_ (.tmp 38) (.tmp 41) 200 200 ?_ _ _ ?_ ?_ hr.o ?_)
    ·rfl
    ·rfl
    ·rfl
    ·rfl
    have e6:IntKind.i64.wrap ((j:Int)+1)=j+1:=by rw[bO];omega
    clear hr c0 c1 bB e4;go_wp2;rw[<-C.o];go_roundw
    case rel=>exact⟨j+1,by omega,by simp,⟨_,L.o.2.2.2.1,L.o.2.2.2.2⟩,L.o.1,L.o.2.1,L.o.2.2.1⟩
    case measure=>show (20 - (_:Int)).toNat<(20 - (_:Int)).toNat;omega
   ·obtain rfl:j=n:=om;have c9:¬ (j:Int)<j:=om;obtain⟨v2,V,cX⟩:=HO.o;have a8:=V;obtain⟨eb,t,cU,e5⟩:=V;obtain⟨gv,cv,rfl,_⟩:=kz cU om;have bB:=t.cell;have en:=t.frozen;replace a8:=LH a8;clear t cU e5;go_wp2;obtain⟨w9,C⟩:=Ex (wr.setCell (iu s 0) (ir gv (k0+j) cv));rw[<-C];have aa:nQ w9 s (ir gv (k0+j) cv) (k0+j):=by rw[C];exact a8.o.set
    have Q:w9.heap[D]?=some (.deferred (some [])):=by rw[C];exact (KeepsOthers.setCell _ _ _).same D _ HK.o rfl
    have a7:Below w.heap.size w w9:=by rw[C];exact N.o.setCell (p:=iu s 0) (by rw[hs.o];exact ae _) _
    clear C;refine⟨by simp,.inl ⟨_,_,rfl,run_takeDeferred Q,?_⟩⟩;have ds:=grownBy_putObj' w9 D (.deferred none);have cj:=aa.qk ds (λr e=>by cases e;exact⟨_,Q,rfl⟩);have dn:Below w.heap.size w (w9.putObj D (.deferred none)):=a7.trans (belowK_b (w:=w) (ae _) w9 D _ _ (by have:=hs.o;omega) Q rfl rfl);obtain⟨parts,p1,p2,p3⟩:=cj.parts;obtain⟨fu,cl,_,_⟩:=cj;have e1:=cl.cell;refine⟨ir gv (k0+j) cv,?_,_,rfl,parts,by omega,p2,p3,dn⟩;simp[results,f127,go_sem,e1]
end Go.Proofs.YthmcbgidehjlbaaGreat.Fd
namespace Go.Proofs.YthmcbgidehjlbaaGreat.Fd
open _root_.Go.Proofs.Tryz
open Go Go.RowKit K
variable {w:World}{B:Nat}{t:TypeId}{ps:List (Nat×iz)}{ws:List (Nat×Value)}
theorem lP.mono {B':Nat}{v:Value}(h:lP w B t v ps) (hb:B'<=B):lP w B' t v ps:=by
 obtain⟨ws,h1,e,f⟩:=h
 exact⟨ws,h1,kU e hb,λj p q hp g=>by obtain⟨a,b,c,d⟩:=f j p q hp g;exact⟨a,b,c,kU d hb⟩⟩
theorem lP.nil (w:World) (B:Nat) (t:TypeId):lP w B t (.slice none 0 0) []:=⟨[],rfl,aS _ _ _ _,λj p q hp _=>by simp at hp⟩
theorem lP.snoc {w':World}{v' z:Value}{Y:Nat}{Z:iz}(h1:ws.length=ps.length)
  (h3:∀ (j:Nat) (p:Nat×Value) (q:Nat×iz),ws[j]?=some p->ps[j]?=some q->p.1=q.1/\q.1<120/\q.2.length=64/\w.ownsRow B 5 1 p.2 64 (aQ q.2))
  (ho:w'.ownsRow B t 2 v' (ps.length+1) (ng ws++[iw Y,z])) (hk:∀ {v:Value}{k:Nat}{xs:List Value},w.ownsRow B 5 1 v k xs->w'.ownsRow B 5 1 v k xs) (hY:Y<120) (hZ:Z.length=64) (hz:w.ownsRow B 5 1 z 64 (aQ Z)):lP w' B t v' (ps++[(Y,Z)]):=by
 refine⟨ws++[(Y,z)],by simp[h1],by rw[aE,xu];exact ho,λj p q hp e=>?_⟩;rw[gR] at hp e;rw[<-h1] at e;by_cases g:j<ws.length
 ·rw[ak g] at hp e;obtain⟨a,b,c,d⟩:=h3 j p q hp e;exact⟨a,b,c,hk d⟩
 ·rw[ah g] at hp e
  have f:j - ws.length=0:=by have:=(aD.1 hp).1;simp at this;omega
  rw[f] at hp e;simp at hp e;subst hp;subst e;exact⟨rfl,hY,hZ,hk hz⟩
theorem lP.qk {w':World}{v:Value}(h:lP w B t v ps) (hk:∀ (g:Nat) (cs:Array Value) (ty:TypeId),B<=g->w.heap[g]?=some (.cells cs ty (0,0))->(ty=t\/ty=5)->w'.heap[g]?=some (.cells cs ty (0,0))):lP w' B t v ps:=by
 obtain⟨ws,h1,e,f⟩:=h;refine⟨ws,h1,dE e (λg hg=>?_),λj p q hp i=>?_⟩
 ·obtain⟨cur,hc⟩:=kA e hg;rw[hc];exact hk _ _ _ (kJ e g hg) hc (.inl rfl)
 ·obtain⟨a,b,c,d⟩:=f j p q hp i;refine⟨a,b,c,dE d (λg hg=>?_)⟩;obtain⟨cur,hc⟩:=kA d hg;rw[hc];exact hk _ _ _ (kJ d g hg) hc (.inr rfl)
theorem Kb {P:Program}{fn:Func}{u p e:Tmp}{ty:TypeId}(h:fn.results=#[.tmp u,.cell p ty,.tmp e]) (tmps:Array Value) (w:World) (g:Nat) (t:TypeId) (cs:Array Value) (fr:Nat×Nat) (d:TypeDesc)
  (hp:tmps.getD p undef=iq g) (hg:w.heap[g]?=some (.cells cs t fr))
  (hu:P.underlying ty=some d) (hd:(match d with|.struct _|.array _ _=>true|_=>false)=true) (hi:(P.info? ty).map (·.size)=some cs.size):
  (results fn tmps).run P w=.ok (.tuple #[tmps.getD u undef,.agg cs,tmps.getD e undef]) w:=by
 have a:tmps[p]?.getD undef=iq g:=by rw[<-hp];simp
 simp only[results,h];simp[a,asAddr,cR w g t ty cs fr d hg hu hd hi,Result.andThen]
theorem Di {parts:List iz}(hl:∀ x ∈ parts,x.length<=9000) (hp:parts.length<=10):(mu parts).length<=100000:=by
 have h:∀ ps:List iz,(∀ x ∈ ps,x.length<=9000)->(mu ps).length<=ps.length*9004:=by
  intro ps
  induction ps with
  | nil=>intro _;simp[mu]
  | cons p ps ih=>
   intro h;have h1:=h p (cq ..);have b:=ih (λx a=>h x (fc _ a));have e:mu (p::ps)=(rQ p.length++p)++mu ps:=by simp[mu]
   rw[e,aE,aE,bj];have c:(rQ p.length).length=4:=rfl;omega
 have:=h parts hl;omega
structure BX (C:Nat->Prop) (b:Nat) (x y:World):Prop where
 b0:∃ n,Bk x b n
 b1:∃ n,Bk y b n
 g:kf C b x y
theorem BX.mh {C:Nat->Prop}{b n:Nat}{x y:World}(h:Bk x b n) (k:aA No x y):BX C b x y:=⟨⟨n,h⟩,⟨n,h.after k.no⟩,kf.ti k⟩
theorem BX.trans {C:Nat->Prop}{b:Nat}{x y z:World}(h:BX C b x y) (k:BX C b y z):BX C b x z:=⟨h.b0,k.b1,h.g.trans k.g⟩
theorem Kc {r d s b num k g n cap:Nat}{gH:ByteArray}{tp:Option Addr}{A M:iz}(hR:oh w r d s b gH A M num) (hA:A.length=64) (hM:M.length=32) (hnum:num<=900000) (hs:kR w s none tp) (hB:Bk w b k) (hk:k<900000)
  (hrow:w.ownsRow B 142 2 (ir g n cap) n (ng ws)) (hwl:ws.length=n) (h0:0<n) (hn:n<=15) (hmay:∀ p ∈ ws,p.1<120/\∃ Z:iz,Z.length=64/\w.ownsRow 0 5 1 p.2 64 (aQ Z)):
  Calls prog 89 #[iq r,ir g n cap] w λe w'=>∃ (lv:Value) (ps:List (Nat×iz)) (at' vg vc:Nat) (Z:iz),e=.returned (.tuple #[lv,.agg #[iw at',ir vg 64 vc],iw 0])/\
   lP w' w.heap.size 168 lv ps/\ps.length<=17/\(∀ p ∈ ps,25<=p.1/\p.1<60)/\25<=at'/\at'<60/\Z.length=64/\w'.ownsRow w.heap.size 5 1 (ir vg 64 vc) 64 (aQ Z)/\Bk w' b (k+2)/\kf No b w w':=by
 obtain⟨da,dc,ma,mc,h1,cd,cg⟩:=hR.cells;obtain⟨st,X⟩:=Ex (mM d s b gH (ir da 64 dc) (ir ma 32 mc));rw[<-X] at h1;have hV:st.length=8:=by rw[X];rfl
 have h7:=dC h1
 have bA:∀ a,a.heap[r]?=w.heap[r]?->(Instr.loadAt 174 (iq r)).run prog a=.ok (.agg st.toArray) a:=λa hb=>mE underlying174 (by rw[X];exact uB) (λj x hj=>by rw[aw,cell_of (hb.trans h1),aV,aX (aD.1 hj).1];exact hj)
 obtain⟨F,dd⟩:=Ex w.heap.size;obtain⟨w1,dp⟩:=Ex (w.alloc (.cells #[iw 0,.slice none 0 0] 168));have b1:Below w.heap.size w w1:=by rw[dp];exact (ag _ _).alloc (ae _) _
 have x1:w1.heap[F]?=some (.cells #[iw 0,.slice none 0 0] 168 (0,0)):=by rw[dp,dd];exact aj w _
 have a7:=J7 (dE hrow (λg hg=>b1.block g (kt hrow g hg))) hwl h0 hn (λp hp=>⟨(hmay p hp).1,by obtain⟨Z,hZ,ho⟩:=(hmay p hp).2;exact⟨Z,hZ,dE ho (λg hg=>b1.block g (kt ho g hg))⟩⟩)
 obtain⟨c,hc⟩:=Ex st.toArray;rw[<-hc] at bA;refine G7 X hc bA a7 b1 x1 h1 ?_;clear X hc bA a7 b1 x1 h1;intro X hc bA a7 b1 x1 h1;refine G4 cd cg hs hB ?_;clear cd cg hs hB;intro cd cg hs hB;clear hrow hmay hR;go_enter func89,ntmps89
 go_wp2_with fail
 rw[<-dp,<-dd];replace dp:=LH dp;replace dd:=LH dd;refine a7.o.mono ?_;rintro e w2 ⟨pv,parts,rfl,ih,b4,R,cW⟩;have bp:Below w.heap.size w w2:=b1.o.trans (cW.mono b1.o.size);have x2:=(cW.block F (dC x1.o)).trans x1.o;obtain⟨m,hm⟩:=Ex parts.length;obtain⟨N2,ad⟩:=Ex w2.heap.size;obtain⟨vs,ax,e8⟩:=R.row;rw[<-hm] at ax ih;obtain⟨pa,b6,rfl,iK,hS⟩:=ax.shape;unfold maxLen at hS;have e5:∀ a,Below N2 w2 a->Cells a (λ_=>True) (.slice pa m b6) m 1 vs:=λa I=>ax.dB I.size (λg _ hg=>I.block g om)
 have e7:∀ a,Below N2 w2 a->∀ j v,vs[j]?=some v->Bytes a (λ_=>True) v (parts.getD j []):=λa I j v hv=>Cells.dB (e8 j v hv) I.size (λg _ hg=>I.block g om)
 have dn:vs.length=m:=by have:=ax.1;omega
 have c6:∀ j,j<m->(parts.getD j []).length=64:=λj hj=>by rw[List.getD,av om];exact b4 _ (bK _)
 have hold:∀ a,Below N2 w2 a->∀ g,g<w.heap.size->a.heap[g]?=w.heap[g]?:=λa I g hg=>(I.block g (by have:=bp.size;omega)).trans (bp.block g hg)
 refine G7 e5 e7 dn c6 hold hm ad ?_;clear e5 e7 dn c6 hold hm ad;intro e5 e7 dn c6 hold hm ad;refine G4 bp x2 R b4 ?_;clear bp x2 R b4;intro bp x2 R b4;clear a7 cW ax e8 x1 b1;go_wp2
 go_loopg [4,18] m (λg lv ix wr=>∃ (j:Nat) (ps:List (Nat×iz)),j+g=m/\ix=iw j/\ps.length=j/\Hd (lP wr N2 168 lv ps)/\Hd (∀ p ∈ ps,25<=p.1/\p.1<60)/\Hd (Below N2 w2 wr))
 case atStart=>exact⟨0,[],by omega,rfl,rfl,lP.nil _ _ _,λp hp=>by simp at hp,ag _ _⟩
 case round=>
  obtain⟨j,ps,iT,rfl,gv,HP,HR,HB⟩:=hrel;by_cases gh:j<m
  ·obtain⟨g1,rfl⟩:∃ i,gk=i+1:=⟨gk - 1,by omega⟩;have ic:(j:Int)<m:=om;obtain⟨wo,rfl⟩:=Ex (wr:World);obtain⟨pg,iN,pc,hv,_,_,_,iS,hO⟩:=Cells.at (e5.o wo HB.o) om;simp only[IJ] at hv;obtain⟨rfl,_,rfl⟩:=hv;obtain⟨q,hq⟩:∃ q,vs[j]?=some q:=⟨vs[j]'(by rw[dn.o];exact gh),av (by rw[dn.o];exact gh)⟩;have hP:=hO j q hq;have e6:=e7.o wo HB.o j q hq;have dg:=c6.o j gh;obtain⟨L,hL⟩:=Ex (parts.getD j []);rw[<-hL] at e6 dg;obtain⟨qa,iO,rfl,_⟩:=e6.shape;have a8:=hold.o wo HB.o
   have hh:Bytes wo (λ_=>True) (ir da 64 dc) A:=by show Cells wo _ _ A.length 1 _;rw[hA];exact (Cells.own (dE cd.o (λg hg=>a8 g (kt cd.o g hg)))).mono (λ_ _ _=>trivial)
   obtain⟨J,hJ⟩:=Ex (2+j);have iP:(2:Int)+j=J:=om;have b5:=xx (w:=wo) (d:=d) (s:=s) (b:=b) (gH:=gH) (ma:=some (iu ma 0)) (mc:=mc) hh hA ((a8 s (dC hs.o)).trans hs.o:kR wo s none tp) J om e6 om;rw[<-X.o,<-hc.o] at b5;obtain⟨Y,hY⟩:=Ex (25+J);rw[<-hY] at b5;have b2:=bA.o wo (a8 r h7);rw[dg] at hP;rw[dg] at b5;refine G4 b5 b2 hY hJ ?_;clear b5 b2 hY hJ;intro b5 b2 hY hJ;have cV:Y<60/\25<=Y:=by have h1:=hY.o;have h2:=hJ.o;omega
   clear hh e6 a8 hO hq
   go_wp2_with (first|(refine kQ rfl 174 _ rfl _ _ rfl b2.o ?_)|fail)
   refine b5.o.mono ?_;rintro e w5 ⟨v,rfl,k3,k4⟩;have cb:N2<=wo.heap.size:=by rw[ad.o];exact HB.o.size
   have hz:N2<=w5.heap.size:=am cb k4.size;have k5:=kU k3 cb;obtain⟨vg,vc,rfl,_⟩:=kz k3 om;obtain⟨Z,hZ⟩:=Ex (nw A Y (L++List.replicate (64 - 64) 0));rw[<-hZ] at k5;have fz:Z.length=64:=by have:=k5.1;rw[km] at this;omega
   have hW:=HP.o.dB (λg hg hl=>k4.block g hl);obtain⟨ws',e1,e2,e3⟩:=hW;obtain⟨wx,ck⟩:=Ex (w5.alloc (.cells #[iw Y,ir vg 64 vc] 168));have bx:Below w5.heap.size w5 wx:=by rw[ck];exact (ag _ _).alloc (ae _) _
   obtain⟨wy,bR⟩:=Ex (wx.alloc (.cells #[iw Y,ir vg 64 vc] 168));have bz:Below w5.heap.size w5 wy:=by rw[bR];exact bx.alloc bx.size _
   have cr:=LH (mC wx #[iw Y,ir vg 64 vc] 168 1 2 rfl mx);obtain⟨la,lc,rfl,_⟩:=(Cells.own e2).shape;rw[gv] at e2 ⊢;have fb:=LH (dE e2 (λg hg=>bz.block g (kt e2 g hg)));rw[<-bR] at cr;rw[bR,ck] at fb cr;rw[aN] at cr;have hK:N2<=((w5.alloc (.cells #[iw Y,ir vg 64 vc] 168)).alloc (.cells #[iw Y,ir vg 64 vc] 168)).heap.size:=by simp;omega
   refine G9 hZ ck bR e2 e3 k5 k4 bx bz ?_;clear hZ ck bR e2 e3 k5 k4 bx bz;intro hZ ck bR e2 e3 k5 k4 bx bz;clear k3 hP b2 b5
   go_wp2_with (at_builtin;refine K.append ?_ (.tmp 38) (.tmp 40) 166 ?_ N2 168 (.agg #[iw 0,.slice none 0 0]) 2 32 underlying166 yW rfl om _ j _ ?_ fb.o (λ_=>True) _ 1 [iw Y,ir vg 64 vc] ?_ cr.o (by simp[Value.oneCell']) mx om ?_ ?_)
   any_goals (first|rfl|omega|exact hK|(simp;omega))
   intro v' w6 y1 y2 y3 y4;have y2:wy.grownBy w6 (Value.slice la j lc).ownBlock:=by rw[bR.o,ck.o];exact y2
   have cX:∀ (g:Nat) (cs:Array Value) (ty:TypeId) (m:Nat×Nat),w5.heap[g]?=some (.cells cs ty m)->ty≠168->w6.heap[g]?=some (.cells cs ty m):=λg cs ty m hg cY=>by rw[y2.block g (aH (dC hg) bz.o.size) (λe=>?_),bz.o.block g (dC hg),hg];obtain⟨cur,hc⟩:=kA e2.o e.symm;rw[hg] at hc;simp only[IJ] at hc;exact cY hc.2.1
   have cP:lP w6 N2 168 v' (ps++[(Y,Z)]):=lP.snoc e1 e3.o (by rw[gv];exact y1) (λ{v k xs} ho=>dE ho (λg hg=>by obtain⟨cur,hc⟩:=kA ho hg;rw[hc];exact cX _ _ _ _ hc de)) om fz k5.o
   have en:Below N2 w2 w6:=(HB.o.trans (k4.o.mono cb)).trans ((bz.o.mono hz).trans (((aA.refl _ wy:aA (λg=>(Value.slice la j lc).ownBlock=some g) wy wy).grown y2 (λ_ h _=>h)).below (am hz bz.o.size) (λg hg e=>by have:=kJ e2.o g e;omega)))
   have fi:∀ p ∈ ps++[(Y,Z)],25<=p.1/\p.1<60:=λp hp=>by
    rcases bw.1 hp with hp|hp
    ·exact HR.o p hp
    ·simp only[cD] at hp;subst hp;exact⟨cV.2,cV.1⟩
   replace cP:=LH cP;replace en:=LH en;replace fi:=LH fi;clear cX y1 y2 y3 y4 hK cr fb e2 e3 k4 k5 bx bz HP HR HB;go_wp2;go_roundg g1
   case measure=>omega
   case rel=>exact⟨j+1,_,by omega,by go_num,by simp[gv],cP.o,fi.o,en.o⟩
  ·obtain rfl:gk=0:=om;obtain rfl:j=m:=om;have ic:¬ (j:Int)<j:=om;obtain⟨wo,rfl⟩:=Ex (wr:World);have a8:=hold.o wo HB.o
   have iA:wo.cell? (iu r 8)=some (iw num):=by rw[cell_of ((a8 r h7).trans h1.o),aV,aL om,hV];rfl
   obtain⟨U,hD⟩:=Ex (num+1);have iG:(num:Int)+1=U:=om;have iH:U<=900001:=om;replace hD:=LH hD;clear a8
   go_wp2_with fail
   obtain⟨E,aa⟩:=Ex wo.heap.size;obtain⟨w7,bC⟩:=Ex (wo.alloc (.cells (mW U n (List.replicate 16 0)).toArray 181));have x7:w7.heap[E]?=some (.cells (mW U n (List.replicate 16 0)).toArray 181 (0,0)):=by rw[bC,aa];exact aj wo _
   have b7:Below wo.heap.size wo w7:=by rw[bC];exact (ag _ _).alloc (ae _) _
   have bl:(mW U n (List.replicate 16 0)).toArray=#[Value.int IntKind.i64 U,Value.int IntKind.i64 n,Value.int IntKind.u8 0,Value.int IntKind.u8 0,
     Value.int IntKind.u8 0,Value.int IntKind.u8 0,Value.int IntKind.u8 0,Value.int IntKind.u8 0,
     Value.int IntKind.u8 0,Value.int IntKind.u8 0,Value.int IntKind.u8 0,Value.int IntKind.u8 0,
     Value.int IntKind.u8 0,Value.int IntKind.u8 0,Value.int IntKind.u8 0,Value.int IntKind.u8 0,
     Value.int IntKind.u8 0,Value.int IntKind.u8 0]:=rfl
   rw[<-bl,<-bC,<-aa];have cb:N2<=wo.heap.size:=by rw[ad.o];exact HB.o.size
   have cu:Below N2 w2 w7:=HB.o.trans (b7.mono cb);have h8:w.heap.size<=N2:=by rw[ad.o];exact bp.o.size
   have af:Below w.heap.size w w7:=bp.o.trans (cu.mono h8);have N:=hB.o.after af;have r7:=(af.block r h7).trans h1.o;have M7:=dE cg.o (λg hg=>af.block g (kt cg.o g hg));have P7:kP w7 (λ_=>True) (.slice pa j b6) parts:=R.o.dB cu.size (λg _ hg=>cu.block g (by have:=ad.o;omega));have ct:=HP.o.dB (λg _ hg=>b7.block g hg);have ds:=(cu.block F (by have:=dC x2.o;have:=ad.o;omega)).trans x2.o;have f:∀ a,BX No b w7.drew a->BX No b w7 a:=λa h=>⟨⟨k,N⟩,h.b1,h.g.drew⟩
   have cj:∀ a,BX No b w7 a->a.heap[r]?=some (.cells (st++[Value.int IntKind.i64 num]).toArray 176 (0,0)):=λa h=>h.g.at N r7 id de de
   have gA:∀ {v:Value}{i:Nat},st[i]?=some v->∀ a,BX No b w7 a->a.cell? (iu r i)=some v:=λ{v i} hi a h=>by rw[cell_of (cj a h),aV,aX (aD.1 hi).1];exact hi
   have d7:=LH (gA (i:=7) (v:=iq b) (by rw[X.o];rfl));have d6:=LH (gA (i:=6) (v:=ir ma 32 mc) (by rw[X.o];rfl));have cf:=LH (λa (h:BX No b w7 a)=>bA.o a ((cj a h).trans h1.o.symm));have O:∀ a,BX No b w7 a->a.heap[E]?=some (.cells (mW U n (List.replicate 16 0)).toArray 181 (0,0)):=λa h=>h.g.at N x7 id de de
   have g0:=LH (λa (h:BX No b w7 a)=>(show a.cell? (iu E 0)=some (iw U) by rw[cell_of (O a h)];rfl));have g1:=LH (λa (h:BX No b w7 a)=>(show a.cell? (iu E 1)=some (iw n) by rw[cell_of (O a h)];rfl))
   have cK:∀ a,BX No b w7 a->Bytes a (λ_=>True) (ir ma 32 mc) M:=λa h=>by show Cells a _ _ M.length 1 _;rw[hM];exact (Cells.own (h.g.own N M7 (λ_ _=>id) de de)).mono (λ_ _ _=>trivial)
   have a6:BX No b w7.drew w7.drew:=⟨⟨k,N.dB (λ_ _ _=>rfl)⟩,⟨k,N.dB (λ_ _ _=>rfl)⟩,kf.refl⟩;have a1:Bk w7.drew b k/\kP w7.drew (λ_=>True) (.slice pa j b6) parts:=⟨N.dB (λ_ _ _=>rfl),P7.dB (ae _) (λ_ _ _=>rfl)⟩;refine G8 f cK a6 a1 x7 N r7 ct ?_;clear f cK a6 a1 x7 N r7 ct;intro f cK a6 a1 x7 N r7 ct;refine G4 ds af bC aa ?_;clear ds af bC aa;intro ds af bC aa;clear bl gA cj O P7 M7 b7 cu iA;refine RA.oz (BX No b) (λx y=>(∃ n,Bk x b n)/\aA No x y) [1,1,1,1,1,1,1,1,1,1,1,1,1,1,1,1,1,1,1,3,3,2,7] [22] (λ_ v a=>∃ p,v=iq p/\w7.heap.size<=p/\ke a p 209 (List.replicate 32 0)) (λa=>Bk a b k/\kP a (λ_=>True) (.slice pa j b6) parts) kr a6.o (λ_ _ h=>by obtain⟨⟨n,h1⟩,h2⟩:=h;exact BX.mh h1 h2) (λ_ _ _=>BX.trans) (λ_ _ h k=>⟨k.1.after h.2.no,kP.ki k.2 h.2⟩) a1.o kr kr ?_;intro cx
   repeat refine RA.qq ?_
   refine RA.fk prog r 0 (h:=?_);refine RA.fk prog r 7 (h:=?_);refine RA.lk prog (iq b) (hc:=λa hp=>by exact d7.o _ (f.o _ hp.1)) (h:=?_)
   repeat refine RA.qq ?_
   refine RA.fk prog r 0 (h:=?_);refine RA.fk prog r 6 (h:=?_);refine RA.lk prog (ir ma 32 mc) (hc:=λa hp=>by exact d6.o _ (f.o _ hp.1)) (h:=?_)
   repeat refine RA.qq ?_
   refine RA.fk prog r 0 (h:=?_);refine RA.ld (y':=.agg c) (hr:=λa hp=>cf.o _ (f.o _ hp.1)) (h:=?_);refine RA.fk prog E 0 (h:=?_);refine RA.lk prog (iw U) (hc:=λa hp=>by exact g0.o _ (f.o _ hp.1)) (h:=?_);refine RA.fk prog E 1 (h:=?_);refine RA.lk prog (iw n) (hc:=λa hp=>by exact g1.o _ (f.o _ hp.1)) (h:=?_)
   repeat refine RA.qq ?_
   refine RA.qc (P:=prog) [.agg c,iw U,iw n,.slice pa j b6] (λ_ _=>True) (λv a=>Bk a b k/\∃ C:iz,C.length<=2000/\kP a (λ_=>True) v [[114,105,110,103,32,98,111,100,121],kj 25,kj 35,kj U,kj n,C]) (hs:=λ_ _ _ _ _=>trivial) (he:=λv x y hE hk=>by
    obtain⟨h1,C,h2,I⟩:=hk;exact⟨h1.after hE.2.no,C,h2,kP.ki I hE.2⟩) (hr:=λG hp hH=>by
    obtain⟨W,ca⟩:=hH;have ht:=Ka (w:=G) (d:=d) (s:=s) (b:=b) (gH:=gH) (dv:=ir da 64 dc) (mv:=ir ma 32 mc) U n om om ca (by rw[<-hm.o];omega) b4.o;rw[<-X.o,<-hc.o] at ht;refine ht.mono ?_;rintro e w5 ⟨v,C,rfl,k1,k2,k3⟩;exact⟨v,rfl,BX.mh W (aA.dD k3 No),trivial,W.after k3,C,k1,k2⟩) (hn:=λiC=>?_)
   refine RA.qc (P:=prog) [iq b,ir ma 32 mc,iC] (λv _=>∃ H:iz,H.length=32/\v=.agg (aQ H).toArray) (λ_ G=>Bk G b (k+1)) (hs:=λ_ _ _ _ h=>h) (he:=λ_ _ _ h k=>k.after h.2.no) (hr:=(λG hp hH=>by
    obtain⟨W,C,hC,k2⟩:=hH
    have hlen:∀ x ∈ [[114,105,110,103,32,98,111,100,121],kj 25,kj 35,kj U,kj n,C],x.length<=9000:=by
     intro x hx;simp only[bi,bL,bS] at hx;rcases hx with rfl|rfl|rfl|rfl|rfl|rfl
     ·simp
     ·rw[nF];omega
     ·rw[nF];omega
     ·rw[nF];omega
     ·rw[nF];omega
     ·omega
    refine (vr W om (cK.o _ (f.o _ hp.1)) om k2 sm (λx hx=>by have:=hlen x hx;omega) (Di hlen sm)).mono ?_;rintro e w5 ⟨rfl,k4,k5⟩;exact⟨_,rfl,⟨⟨k,W⟩,⟨_,k4⟩,k5⟩,⟨_,rk,rfl⟩,k4⟩)) (hn:=λiX=>?_)
   refine RA.fr (hs:=λv x y hr hk=>by
    obtain⟨p,h1,h2,I⟩:=hk;obtain⟨n',gb⟩:=hr.b0;exact⟨p,h1,h2,hr.g.at gb I id de de⟩) (hr:=λG hp=>⟨iq G.heap.size,G.alloc (.cells (aQ (List.replicate 32 0)).toArray 209),by
    show (execOp _ _).run prog G=_;go_simp;rfl,⟨(f.o _ hp.1).b1,(aA.refl _ _).alloc _⟩,G.heap.size,rfl,(f.o _ hp.1).g.size,aj G _⟩) (h:=λiD=>?_)
   refine RA.lr (λw5=>∃ (p:Nat) (H:iz),iD=iq p/\w7.heap.size<=p/\H.length=32/\ke w5 p 209 H/\Bk w5 b (k+1)/\kf No b w7 w5) (he:=λx y hE hk=>by
    obtain⟨p,H,h1,h2,I,h4,h5,h6⟩:=hk;exact⟨p,H,h1,h2,I,h4.dB (hE.2.block p (dC h4) id),h5.after hE.2.no,h6.trans (kf.ti hE.2)⟩) (hr:=(λG ig hH=>by
    have hp:=ig.first kr;obtain⟨p,rfl,h2,I⟩:=hp.fact 0 rfl kr;obtain⟨H,bl,rfl⟩:=hp.fact 1 rfl kr;have hr:=f.o _ hp.1;have ba:Bk G b (k+1):=hH;have e0:Bk (G.setRow p (aQ H).toArray) b (k+1):=ba.dB (λg hg hl=>aG _ _ _ _ (λe=>kn.type ba I de de (e ▸ hg)));have iQ:b<w7.heap.size:=by obtain⟨lv,hx⟩:=N.o.box;exact dC hx
    exact⟨G.setRow p (aQ H).toArray,RA.kL rf rf (th I bl),p,H,rfl,h2,bl,I.setRow H,e0,hr.g.then (D:=(·=p)) ((aA.refl (λx=>x=p) G).setRow (λ_=>rfl) _) (λg hg e=>by omega) (λ_ e=>by omega)⟩)) (hn:=?_)
   refine RA.RA.kZ (λw8 hH=>?_);simp only[RA.RP,cx];obtain⟨cl,H,rfl,iJ,bl,ed,er,e4⟩:=hH;obtain⟨T,hT⟩:=Ex (H.take 16);have fu:T.length=16:=by rw[hT,aR];omega
   have x8:=e4.at N.o x7.o id de de
   have cc:(Builtin.copy_ #[42,42] 3 #[.slice (some (iu E 2)) 16 16,ir cl 32 32]).run prog w8.drew=.ok (goInt 16) (w8.drew.setRow E (mW U n T).toArray):=by
    have hX:Cells w8.drew (λ_=>True) (ir cl 32 32) 32 1 (aQ H):=⟨by rw[km,bl],_,_,rfl,by omega,by unfold maxLen;omega,λh=>(by cases h),.inr ⟨cl,0,rfl,trivial,dC ed,λi u hu=>by
     rw[aw,cell_of (w:=w8.drew) (g:=cl) (cs:=(aQ H).toArray) (t:=209) (fr:=(0,0)) ed]
     simpa using hu⟩⟩
    have h:=tI (P:=prog) w8.drew 42 42 3 5 E 2 16 16 (mW U n (List.replicate 16 0)).toArray 181 underlying42 kr x8 (λ_=>True) (ir cl 32 32) 32 (aQ H) hX (nJ H) (by simp[mW,aQ]);rw[show Nat.min 32 16=16 from rfl] at h
    have e:splice (mW U n (List.replicate 16 0)).toArray.toList 2 ((aQ H).take 16)=mW U n T:=by
     have e1:(aQ H).take 16=aQ T:=by rw[hT];simp[aQ]
     rw[e1];unfold splice mW;rw[km,fu];have e2:(List.drop (2+16) ([Value.int IntKind.i64 U,Value.int IntKind.i64 n]++aQ (List.replicate 16 0)))=[]:=gV (by simp[aQ]);rw[gr,e2,dm];rfl
    rw[e] at h;exact h
   obtain⟨Q,bD⟩:=Ex (w8.drew.setRow E (mW U n T).toArray);rw[<-bD] at cc;have x9:Q.heap[E]?=some (.cells (mW U n T).toArray 181 (0,0)):=by rw[bD];exact aJ _ _ _ _ _ _ x8
   have ec:∀ (g:Nat) (cs:Array Value) (ty:TypeId) (m:Nat×Nat),w8.heap[g]?=some (.cells cs ty m)->ty≠181->Q.heap[g]?=some (.cells cs ty m):=λg cs ty m hg cY=>by rw[bD];refine (aG _ _ _ _ (λe=>?_)).trans hg;subst e;rw[x8] at hg;simp only[IJ] at hg;exact cY hg.2.1.symm
   have eb:∀ (g:Nat) (cs:Array Value) (ty:TypeId) (m:Nat×Nat),w7.heap[g]?=some (.cells cs ty m)->ty≠181->ty≠223->ty≠145->Q.heap[g]?=some (.cells cs ty m):=λg cs ty m hg h1 h2 I=>ec _ _ _ _ (e4.at N.o hg id h2 I) h1
   have V:Bk Q b (k+1):=er.dB (λg hg hl=>by obtain⟨cs,t,m,hc,ht⟩:=kn.obj er hg;rw[hc];exact ec _ _ _ _ hc (by rcases ht with rfl|rfl<;>decide))
   have iW:w.heap.size<=E:=by rw[aa.o];exact am h8 cb
   have an:kf No b w Q:=((kf.dD af.o).trans e4).then (D:=(·=E)) (by rw[bD];exact (aA.refl (λx=>x=E) w8).drew.setRow (λ_=>rfl) _) (λg hg e=>by omega) (λ_ e=>by subst e;obtain⟨lv,hx⟩:=N.o.box;rw[hx] at x7;have:=x7.o;simp only[IJ] at this;exact absurd this.2.1 de)
   have bB:∀ (g:Nat) (cs:Array Value) (ty:TypeId) (m:Nat×Nat),w.heap[g]?=some (.cells cs ty m)->ty≠223->ty≠145->Q.heap[g]?=some (.cells cs ty m):=λg cs ty m hg h1 h2=>an.at hB.o hg id h1 h2
   have r9:=bB _ _ _ _ h1.o de de;have cz:=an.own hB.o cd.o (λ_ _=>id) de de;have cA:=an.own hB.o cg.o (λ_ _=>id) de de;have cU:kR Q s none tp:=bB _ _ _ _ hs.o de de;have P9:=ct.o.qk (w':=Q) (λg cs ty _ hg ht=>eb _ _ _ _ hg (by rcases ht with rfl|rfl<;>decide) (by rcases ht with rfl|rfl<;>decide) (by rcases ht with rfl|rfl<;>decide));have cm:=eb _ _ _ _ ds.o de de de;have iL:F<N2:=by rw[ad.o];exact dC x2.o
   have iV:w.heap.size<=Q.heap.size:=an.size;have iU:E<Q.heap.size:=dC x9;refine G8 x9 V an r9 cz cA cU P9 ?_;clear x9 V an r9 cz cA cU P9;intro x9 V an r9 cz cA cU P9;refine G4 cm hT bD cc ?_;clear cm hT bD cc;intro cm hT bD cc;clear ec eb bB x8 ed er e4 a6 a1 d7 d6 cf g0 g1 cK f x7 N r7 ct ds af bC
   go_wp2_with fail
   refine RA.rt (aA No) [1,1,1,6] [3] (λx=>x=w8.drew) rfl (λ_=>aA.refl _ _) (λ_ _ _ h k=>h.trans k) (h:=?_);intro cx;refine RA.fk prog E 2 (h:=?_);refine RA.qU (y':=.slice (some (iu E 2)) 16 16) (hr:=λa hp=>by show (Instr.sliceAt _ _ _ _ _).run prog a=_;go_simp) (h:=?_);refine RA.qU (y':=ir cl 32 32) (hr:=λa hp=>by show (Instr.sliceAt _ _ _ _ _).run prog a=_;go_simp) (h:=?_);refine RA.oH (λ_ x=>x=Q) (hr:=λa hp hH=>⟨goInt 16,Q,RA.v8 (P:=prog) (w:=a) (w':=Q) rf rf (by rw[show a=w8.drew from hH];exact cc.o),rfl⟩) (hn:=λu=>?_);refine RA.RA.kZ (λiF hH=>?_);simp only[RA.RP,cx];obtain rfl:Q=iF:=Eq.symm hH;clear cc;obtain⟨RM,fs⟩:=Ex (U % 2);have iI:RM<2:=om;have hG:=LH (show (U:Int).tmod 2=RM by rw[bZ om];omega);obtain⟨Y,hY⟩:=Ex (25+RM);have cV:25<=Y/\Y<60:=om;obtain⟨gf,ay⟩:=Ex ((mW U n T).toArray);have f:∀ a,BX (·=F) b Q.drew a->BX (·=F) b Q a:=λa h=>⟨⟨_,V.o⟩,h.b1,h.g.drew⟩
   have b3:∀ {g:Nat}{cs:Array Value}{ty:TypeId}{m:Nat×Nat},Q.heap[g]?=some (.cells cs ty m)->ty≠168->¬ g=F:=λ{g cs ty m} hg cY e=>by subst e;have hq:=cm.o;rw[hg] at hq;simp only[IJ] at hq;exact cY hq.2.1
   have cj:∀ a,BX (·=F) b Q a->a.heap[r]?=some (.cells (st++[Value.int IntKind.i64 num]).toArray 176 (0,0)):=λa h=>h.g.at V.o r9.o (b3 r9.o de) de de
   have cf:=LH (λa (h:BX (·=F) b Q a)=>bA.o a ((cj a h).trans h1.o.symm));have O:∀ a,BX (·=F) b Q a->a.heap[E]?=some (.cells (mW U n T).toArray 181 (0,0)):=λa h=>h.g.at V.o x9.o (b3 x9.o de) de de
   have g0:=LH (λa (h:BX (·=F) b Q a)=>(show a.cell? (iu E 0)=some (iw U) by rw[cell_of (O a h)];rfl))
   have hQ:=LH (λa (h:BX (·=F) b Q a)=>(show (Instr.loadAt 181 (iq E)).run prog a=.ok (.agg gf) a by
    rw[ay]
    exact mE underlying181 (by simp only[mW,aE,km,fu];kernel_rfl) (λi x hi=>by
     rw[aw,cell_of (O a h)]
     simpa using hi)))
   have hy:=LH (λa (h:BX (·=F) b Q a)=>h.g.own V.o cA.o (λg hg=>by obtain⟨cur,hc⟩:=kA cA.o hg;exact b3 hc de) de de);have hf:=LH (λa (h:BX (·=F) b Q a)=>h.g.own V.o cz.o (λg hg=>by obtain⟨cur,hc⟩:=kA cz.o hg;exact b3 hc de) de de);have hI:=LH (λa (h:BX (·=F) b Q a)=>(show kR a s none tp from h.g.at V.o cU.o (b3 cU.o de) de de));have ha:=LH (show ∀ a,BX (·=F) b Q a->F<a.heap.size from λa h=>aH (dC cm.o) h.g.size);have a6:BX (·=F) b Q.drew Q.drew:=⟨⟨_,V.o.dB (λ_ _ _=>rfl)⟩,⟨_,V.o.dB (λ_ _ _=>rfl)⟩,kf.refl⟩;have a1:Bk Q.drew b (k+1)/\Q.drew.heap[F]?=some (.cells #[iw 0,.slice none 0 0] 168 (0,0)):=⟨V.o.dB (λ_ _ _=>rfl),cm.o⟩;refine G6 f a6 a1 fs hY ay ?_;clear f a6 a1 fs hY ay;intro f a6 a1 fs hY ay;clear cj O
   go_wp2_with fail
   refine RA.region (BX (·=F) b) (λx y=>(∃ n,Bk x b n)/\aA No x y) [1,1,1,1,1,1,1,1,1,1,1,1,3,3,1,1,1,4,1] (λ_ _ _=>True) (λa=>Bk a b (k+1)/\a.heap[F]?=some (.cells #[iw 0,.slice none 0 0] 168 (0,0))) kr a6.o (λ_ _ h=>by obtain⟨⟨n,h1⟩,h2⟩:=h;exact BX.mh h1 h2) (λ_ _ _=>BX.trans) (λ_ _ h k=>⟨k.1.after h.2.no,(h.2.block F (dC k.2) id).trans k.2⟩) a1.o kr ?_;intro cx
   repeat refine RA.qq ?_
   refine RA.fk prog r 0 (h:=?_);refine RA.ld (y':=.agg c) (hr:=λa hp=>cf.o _ (f.o _ hp.1)) (h:=?_);refine RA.fk prog E 0 (h:=?_);refine RA.lk prog (iw U) (hc:=λa hp=>by exact g0.o _ (f.o _ hp.1)) (h:=?_);refine RA.vk prog (iw RM) (hr:=λw hp=>by (try go_simp);exact hG.o) (h:=?_)
   repeat refine RA.qq ?_
   refine RA.fk prog r 0 (h:=?_);refine RA.ld (y':=.agg c) (hr:=λa hp=>cf.o _ (f.o _ hp.1)) (h:=?_);refine RA.ld (y':=.agg gf) (hr:=λa hp=>hQ.o _ (f.o _ hp.1)) (h:=?_)
   refine RA.qc (P:=prog) [.agg c,.agg gf] (λ_ _=>True) (λv G=>Bk G b (k+2)/\G.heap[F]?=some (.cells #[iw 0,.slice none 0 0] 168 (0,0))/\∃ l:iz,l.length=48/\Bytes G (λ_=>True) v l) (hs:=λ_ _ _ _ _=>trivial) (he:=λv x y hE hk=>by
    obtain⟨h1,h2,l,I,h4⟩:=hk;exact⟨h1.after hE.2.no,(hE.2.block F (dC h2) id).trans h2,l,I,h4.ki hE.2 (λ_ _ _=>id)⟩) (hr:=λG hp hH=>by
    obtain⟨W,ca⟩:=hH;have hr:=f.o _ hp.1;have hN:=yU (w:=G) (d:=d) (s:=s) (gH:=gH) (dv:=ir da 64 dc) W om (kU (hy.o G hr) (aW _)) U n om om fu;rw[<-X.o,<-hc.o,<-ay.o] at hN;refine hN.mono ?_;rintro e w5 ⟨v,rfl,⟨l,k1,k2⟩,k3,k4⟩;exact⟨v,rfl,⟨⟨_,W⟩,⟨_,k3⟩,k4.mono (λ_ _ e=>e.elim)⟩,trivial,k3,k4.at W ca id de de,l,k1,k2⟩) (hn:=λiB=>?_)
   refine RA.qc (P:=prog) [.agg c,iw RM,iB] (λv G=>∃ z Z,v=.tuple #[.agg #[iw Y,z],iw 0]/\List.length Z=64/\G.ownsRow (F+1) 5 1 z 64 (aQ Z)) (λ_ G=>Bk G b (k+2)/\G.heap[F]?=some (.cells #[iw 0,.slice none 0 0] 168 (0,0))) (hs:=λv x y hr hk=>by
    obtain⟨z,Z,h1,h2,I⟩:=hk;obtain⟨n',gb⟩:=hr.b0;exact⟨z,Z,h1,h2,hr.g.own gb I (λg hg e=>by have:=kJ I g hg;omega) de de⟩) (he:=λv x y hE hk=>⟨hk.1.after hE.2.no,(hE.2.block F (dC hk.2) id).trans hk.2⟩) (hr:=(λG hp hH=>by
    obtain⟨W,ca,l,k1,k2⟩:=hH;have hr:=f.o _ hp.1
    have ib:Bytes G (λ_=>True) (ir da 64 dc) A:=by show Cells G _ _ A.length 1 _;rw[hA];exact (Cells.own (hf.o G hr)).mono (λ_ _ _=>trivial)
    have hU:=xx (w:=G) (d:=d) (s:=s) (b:=b) (gH:=gH) (ma:=some (iu ma 0)) (mc:=mc) ib hA (hI.o G hr) RM om k2 om;rw[<-X.o,<-hc.o,<-hY.o] at hU;refine hU.mono ?_;rintro e w5 ⟨v,rfl,k3,k4⟩;exact⟨_,rfl,BX.mh W (aA.dD k4 No),⟨v,_,rfl,by rw[rj (by rw[oP om])];exact oP om,kU k3 (ha.o G hr)⟩,W.after k4,(k4.block F (dC ca)).trans ca⟩)) (hn:=λh9=>?_)
   repeat refine RA.qq ?_
   refine RA.vk prog (kW h9 0) (hr:=λa hp=>by obtain⟨v,Z,rfl,_⟩:=hp.fact 0 rfl kr;clear hp;go_simp;rfl) (h:=?_)
   refine RA.vk prog (kW h9 1) (hr:=λa hp=>by obtain⟨v,Z,rfl,_⟩:=hp.fact 0 rfl kr;clear hp;go_simp;rfl) (h:=?_)
   refine RA.st (λw5=>∃ (vg vc:Nat) (Z:iz),h9=.tuple #[.agg #[iw Y,ir vg 64 vc],iw 0]/\Z.length=64/\w5.ownsRow (F+1) 5 1 (ir vg 64 vc) 64 (aQ Z)/\w5.heap[F]?=some (.cells #[iw Y,ir vg 64 vc] 168 (0,0))/\Bk w5 b (k+2)) (he:=λx y hE hk=>by
    obtain⟨vg,vc,Z,h2,I,h4,h5,h6⟩:=hk;exact⟨vg,vc,Z,h2,I,dE h4 (λg hg=>hE.2.block g (kt h4 g hg) id),(hE.2.block F (dC h5) id).trans h5,h6.after hE.2.no⟩) (hr:=(λG hp hH=>by
    obtain⟨z,Z,rfl,h5,h6⟩:=hp.fact 0 rfl kr;obtain⟨vg,vc,rfl,_⟩:=kz h6 om;obtain⟨ba,I⟩:=hH;have e0:Bk (G.setRow F #[iw Y,ir vg 64 vc]) b (k+2):=ba.dB (λg hg hl=>aG _ _ _ _ (λe=>kn.type ba I de de (e ▸ hg)))
    exact⟨G.setRow F #[iw Y,ir vg 64 vc],RA.kL rf rf (mf (P:=prog) (ty:=168) (x:=[iw Y,ir vg 64 vc]) I kr rf (by simp[Value.oneCell'])),⟨⟨_,ba⟩,⟨_,e0⟩,kf.mh ((aA.refl (λx=>x=F) G).setRow (λ_=>rfl) _) (λ_ e=>by
     subst e;obtain⟨lv,hx⟩:=ba.box;rw[hx] at I;simp only[IJ] at I;exact absurd I.2.1 de)⟩,vg,vc,Z,rfl,h5,dE h6 (λg hg=>aG _ _ _ _ (by
     have:=kJ h6 g hg;omega)),aJ _ _ _ _ _ _ I,e0⟩)) (hn:=?_)
   repeat refine RA.qq ?_
   refine RA.RA.done rfl (λS hR hF hH=>?_);clear hF;simp only[RA.RP,cx];have cT:=f.o _ hR;clear hR;obtain⟨vg,vc,Z,rfl,fz,c9,b8,bW⟩:=hH;simp only[kW,TP];have iM:w.heap.size<=F:=by rw[dd.o];exact ae _
   have dT:=P9.o.qk (w':=S) (λg cs ty iR hg ht=>cT.g.at V.o hg (λe=>by omega) (by rcases ht with rfl|rfl<;>decide) (by rcases ht with rfl|rfl<;>decide));have c5:kf No b w S:=((an.o.mono (C':=λg=>w.heap.size<=g) (λ_ _ e=>e.elim)).trans (cT.g.mono (λg _ (e:g=F)=>by show w.heap.size<=g;omega))).mono (λg hg e=>by omega)
   have c8:(Instr.storeAt 168 (iq F) (.agg #[iw Y,ir vg 64 vc])).run prog S.drew=.ok () S.drew:=by have h:=mf (P:=prog) (w:=S.drew) (ty:=168) (x:=[iw Y,ir vg 64 vc]) b8 kr rf (by simp[Value.oneCell']);rw[show S.drew.setRow F [iw Y,ir vg 64 vc].toArray=S.drew from fT S.drew F _ _ _ b8] at h;exact h
   have c7:∀ a,aA No S.drew a->(Instr.loadAt 168 (iq F)).run prog a=.ok (.agg #[iw Y,ir vg 64 vc]) a:=λa h=>mE (x:=[iw Y,ir vg 64 vc]) underlying168 kr (λi x hi=>by
    rw[aw,cell_of ((h.block F (dC b8) id).trans b8)]
    simpa using hi)
   refine G7 c8 c7 b8 c9 bW dT c5 ?_;clear c8 c7 b8 c9 bW dT c5;intro c8 c7 b8 c9 bW dT c5;clear cT g0 hQ hy hf hI ha a6 a1 cf
   go_wp2_with fail
   refine RA.region (aA No) (·=·) [1,1,1,1,4,1] (λ_ _ _=>True) (λx=>x=S.drew) kr (aA.refl _ _) (λ_ _ e=>e ▸ aA.refl _ _) (λ_ _ _ h k=>h.trans k) (λ_ _ e k=>e ▸ k) rfl kr ?_;intro cx
   repeat refine RA.qq ?_
   refine RA.ld (y':=.agg #[iw Y,ir vg 64 vc]) (hr:=λa hp=>c7.o _ hp.1) (h:=?_)
   repeat refine RA.qq ?_
   refine RA.st (λx=>x=S.drew) (hr:=λa hp hH=>⟨a,RA.kL rf rf (by rw[show a=S.drew from hH];exact c8.o),aA.refl _ _,hH⟩) (hn:=?_)
   repeat refine RA.qq ?_
   refine RA.RA.done rfl (λiE hR hF hH=>?_);clear hF hR;simp only[RA.RP,cx];obtain rfl:iE=S.drew:=hH;go_wp2;refine aI (Kb results89 _ _ F 168 _ (0,0) _ rfl (show S.drew.heap[F]?=_ from b8.o) underlying168 rfl kr) rfl ?_;refine⟨u4,ps,Y,vg,vc,Z,rfl,(dT.o.dB (λ_ _ _=>rfl)).mono h8,by omega,HR.o,cV.1,cV.2,fz,kU (dE c9.o (λ_ _=>rfl)) om,bW.o.dB (λ_ _ _=>rfl),c5.o.xb⟩
theorem Kh {X:D.Dk}(hz:X.sure.length=64*120) (h0:X.kC=[]) (hq:∀ q ∈ ps,q.1<120/\q.2.length=64):(laid X ps).sure.length=64*120/\(laid X ps).kC=[]:=by unfold laid;rw[h0];exact⟨D.xo 120 ps _ hz hq,rfl⟩
theorem Ki:∀ (qs:List (List (Nat×iz))) (X:D.Dk),X.sure.length=64*120->X.kC=[]->(∀ ps ∈ qs,∀ q ∈ ps,q.1<120/\q.2.length=64)->∀ p,p<120->(qs.foldl laid X).at p=kX qs.flatten p (X.at p):=by
 intro qs
 induction qs with
 | nil=>intro X _ _ _ p _;rfl
 | cons ps qs ih=>intro X g e f p hp;have c:=f ps sm;obtain⟨a,b⟩:=Kh g e c;rw[eA,ih _ a b (λd h'=>f d (by simp[h'])) p hp,Kf g e c hp,eL];unfold kX;rw[dL]
theorem Dj (l m:List (Nat×iz)) (p:Nat) (d:iz):kX (l++m) p d=kX m p (kX l p d):=by unfold kX;rw[dL]
theorem lP.one {w:World}{B Y vg vc:Nat}{Z:iz}(hY:Y<120) (hZ:Z.length=64) (hB:B<=w.heap.size) (hz:w.ownsRow B 5 1 (ir vg 64 vc) 64 (aQ Z)):
  lP (w.alloc (.cells #[iw Y,ir vg 64 vc] 168)) B 168 (ir w.heap.size 1 1) [(Y,Z)]:=by
 refine⟨[(Y,ir vg 64 vc)],rfl,ch (base:=B) (e:=168) (size:=2) w #[iw Y,ir vg 64 vc] 1 hB mx rfl,λj p q hp a=>?_⟩;cases j with
 | zero=>simp at hp a;subst hp;subst a;exact⟨rfl,hY,hZ,dE hz (λg hg=>aB w _ g (kt hz g hg))⟩
 | succ j=>simp at hp
theorem Kj {w:World}{r d s b sb num k B g n cap:Nat}{gH:ByteArray}{tp:Option Addr}{A M:iz}{X:D.Dk}(hR:oh w r d s b gH A M num) (hbr:b<=r) (hA:A.length=64) (hM:M.length=32) (hnum:num<900000) (hs:kR w s none tp) (hB:Bk w b k) (hk:k<800000)
  (hD:l6 w d sb X) (hdb:d<b) (mD:sb<b) (hbB:b<=B) (hBw:B<=w.heap.size) (hP:lP w B 142 (ir g n cap) ps) (hpl:ps.length=n) (h0:0<n) (hn:n<=15) (hpr:∀ p ∈ ps,p.1<25\/60<=p.1) (hnd:(ps.map λp=>(p.1:Int)).Nodup):
  Calls prog 52 #[iq r,ir g n cap] w λe w'=>e=.returned (iw 0)/\(∃ X',l6 w' d sb X'/\∀ p,p<120->(p<25\/60<=p)->X'.at p=kX ps p (X.at p))/\
   oh w' r d s b gH A M (num+1)/\Bk w' b (k+3)/\kf (λg=>g=r\/g=d\/g=sb) b w w':=by
 obtain⟨da,dc,ma,mc,h1,bD,bW⟩:=hR.cells;obtain⟨st,J⟩:=Ex (mM d s b gH (ir da 64 dc) (ir ma 32 mc));rw[<-J] at h1;have cz:st.length=8:=by rw[J];rfl
 have iO:=dC h1
 have b2:∀ I rn,I.heap[r]?=some (.cells (st++[iw rn]).toArray 176 (0,0))->(Instr.loadAt 174 (iq r)).run prog I=.ok (.agg st.toArray) I:=λI rn hb=>mE underlying174 (by rw[J];exact uB) (λj x hj=>by rw[aw,cell_of hb,aV,aX (aD.1 hj).1];exact hj)
 obtain⟨ws,ds,E,U⟩:=hP;rw[hpl] at E ds
 have a7:∀ (j:Nat) (p:Nat×Value),ws[j]?=some p->∃ q,ps[j]?=some q/\p.1=q.1/\q.1<120/\q.2.length=64/\w.ownsRow B 5 1 p.2 64 (aQ q.2):=λj p hp=>by
  have hj:j<ps.length:=by have:=(aD.1 hp).1;omega
  obtain⟨a,b,c,d⟩:=U j p _ hp (av hj);exact⟨_,av hj,a,b,c,d⟩
 have ax:∀ p ∈ ws,Dc p/\p.1<120/\∃ Z:iz,Z.length=64/\w.ownsRow 0 5 1 p.2 64 (aQ Z):=λp hp=>by obtain⟨j,hj⟩:=cM hp;obtain⟨q,hq,e1,e2,e3,e4⟩:=a7 j p hj;obtain⟨vg,vc,e5,_⟩:=kz e4 om;exact⟨⟨by omega,by rw[e1];exact hpr q (aZ hq),vg,vc,e5⟩,by omega,q.2,e3,kU e4 (aW _)⟩
 have ct:(ws.map λp=>(p.1:Int)).Nodup:=by
  have e:ws.map (λp=>(p.1:Int))=ps.map (λp=>(p.1:Int)):=by
   refine b9 (λj=>?_);rw[bf,bf];cases hj:ws[j]? with
   | none=>
    have:ps[j]?=none:=by rw[List.getElem?_eq_none_iff] at hj ⊢;omega
    rw[this];rfl
   | some p=>obtain⟨q,hq,e1,_⟩:=a7 j p hj;rw[hq];simp[e1]
  rw[e];exact hnd
 have N:=JW hR hD.at_ hD.size E ds hn (λp hp=>(ax p hp).1) ct
 have F:∀ w1,Below w.heap.size w w1->_:=λw1 b1=>Kc (w:=w1) (k:=k) (tp:=tp) (hR.dB hbr (λg cs ty _ _ hg=>b1.block g (dC hg))) hA hM om ((b1.block s (dC hs)).trans hs:kR w1 s none tp) (hB.after b1) om (dE E (λg hg=>b1.block g (kt E g hg))) ds h0 hn (λp hp=>⟨(ax p hp).2.1,by obtain⟨Z,hZ,ho⟩:=(ax p hp).2.2;exact⟨Z,hZ,dE ho (λg hg=>b1.block g (kt ho g hg))⟩⟩)
 obtain⟨c,hc⟩:=Ex st.toArray;rw[<-hc] at b2;refine G9 J hc b2 N F h1 bD bW hs ?_;clear J hc b2 N F h1 bD bW hs;intro J hc b2 N F h1 bD bW hs;refine G6 hB hD a7 E U hpr ?_;clear hB hD a7 E U hpr;intro hB hD a7 E U hpr;have iM:¬ (n:Int)=0:=om;clear ax ct hR hnd;go_enter func52,ntmps52
 go_wp2_with fail
 refine N.o.mono ?_;rintro e w1 ⟨rfl,b1⟩;replace b1:=LH b1
 go_wp2_with fail
 refine (F.o w1 b1.o).mono ?_;rintro e w2 ⟨lv,aa,t,vg,vc,Z,rfl,p1,iP,cj,iF,iG,hW,hO,eb,fu⟩;have cu:w.heap.size<=w1.heap.size:=b1.o.size;have hG:=(kf.dD (C:=No) b1.o).trans fu;have iC:b<w.heap.size:=by obtain⟨lv,hx⟩:=hB.o.box;exact dC hx
 have r2:=hG.at hB.o h1.o id de de;have A2:=hG.own hB.o bD.o (λ_ _=>id) de de;have M2:=hG.own hB.o bW.o (λ_ _=>id) de de;have S2:kR w2 s none tp:=hG.at hB.o hs.o id de de;have D2:l6 w2 d sb X:=hD.o.dB hG.size (λg hg=>hG.block g (by rcases hg with rfl|rfl<;>omega) (λe=>e.elim id (λe=>by have:=e.ge;rcases hg with rfl|rfl<;>omega)));have R2:=hG.own hB.o E.o (λ_ _=>id) de de
 have E2:∀ (j:Nat) (p:Nat×Value),ws[j]?=some p->∃ q,ps[j]?=some q/\p.1=q.1/\q.1<120/\q.2.length=64/\w2.ownsRow B 5 1 p.2 64 (aQ q.2):=λj p hp=>by obtain⟨q,a,b,c,d,e⟩:=a7.o j p hp;exact⟨q,a,b,c,d,hG.own hB.o e (λ_ _=>id) de de⟩
 have hQ:lP w2 B 168 lv aa:=p1.mono (am hBw cu);have dT:=kU hO (am hBw cu);have ed:B<=w2.heap.size:=am hBw hG.size;obtain⟨q7,cf⟩:=Ex w2.heap.size;obtain⟨I,b7⟩:=Ex (w2.alloc (.cells #[iw t,ir vg 64 vc] 168));have b3:Below w2.heap.size w2 I:=by rw[b7];exact (ag _ _).alloc (ae _) _
 have x7:I.heap[q7]?=some (.cells #[iw t,ir vg 64 vc] 168 (0,0)):=by rw[b7,cf];exact aj w2 _
 have bA:=hG.trans (kf.dD (C:=No) b3);have r3:=(b3.block r (dC r2)).trans r2;have A3:=dE A2 (λg hg=>b3.block g (kt A2 g hg));have M3:=dE M2 (λg hg=>b3.block g (kt M2 g hg));have S3:kR I s none tp:=(b3.block s (dC S2)).trans S2;have D3:l6 I d sb X:=D2.dB b3.size (λg hg=>b3.block g (by have:=D2.self;rcases hg with rfl|rfl;exact this.1;exact this.2));have R3:=dE R2 (λg hg=>b3.block g (kt R2 g hg));have cb:=hQ.dB (λg _ hg=>b3.block g hg);have v23:=dE dT (λg hg=>b3.block g (kt dT g hg))
 have E3:∀ (j:Nat) (p:Nat×Value),ws[j]?=some p->∃ q,ps[j]?=some q/\p.1=q.1/\q.1<120/\q.2.length=64/\I.ownsRow B 5 1 p.2 64 (aQ q.2):=λj p hp=>by obtain⟨q,a,b,c,d,e⟩:=E2 j p hp;exact⟨q,a,b,c,d,dE e (λg hg=>b3.block g (kt e g hg))⟩
 have bp:=eb.after b3;have en:B<=I.heap.size:=am ed b3.size
 have L:∀ f,Below I.heap.size I f->∀ j p,ws[j]?=some p->f.cell? (iu g (j*2))=some (iw p.1)/\f.cell? (iu g (j*2+1))=some p.2:=λf hb j p hj=>by have iK:=(aD.1 hj).1;obtain⟨g',off,c',hv,_,_,_,h7,gA⟩:=Cells.at (Cells.own R3) om;simp only[IJ] at hv;obtain⟨⟨rfl,rfl,_⟩,_,_⟩:=hv;obtain⟨e1,e2⟩:=tz ws j p hj;have f1:=gA _ _ e1;have f2:=gA _ _ e2;rw[aw] at f1 f2;rw[hb.cell (p:=iu g (j*2)) h7,hb.cell (p:=iu g (j*2+1)) h7];exact⟨f1,f2⟩
 refine G9 E3 L x7 bA r3 A3 M3 S3 D3 ?_;clear E3 L x7 bA r3 A3 M3 S3 D3;intro E3 L x7 bA r3 A3 M3 S3 D3;refine G5 cb v23 bp b7 cj ?_;clear cb v23 bp b7 cj;intro cb v23 bp b7 cj;clear N F hG fu r2 A2 M2 S2 D2 R2 E2 p1 hQ dT b3 eb hO R3 b1 E U a7
 go_wp2_with fail
 rw[<-b7.o,<-cf];replace cf:=LH cf
 go_loopg [9,41] n (λg lo ix wr=>∃ j:Nat,j+g=n/\ix=iw j/\Hd (lP wr B 168 lo (ps.take j))/\Hd (∀ g,lo.ownBlock=some g->I.heap.size<=g)/\Hd (Below I.heap.size I wr))
 case atStart=>exact⟨0,by omega,rfl,lP.nil _ _ _,λg hg=>by simp[Value.ownBlock] at hg,ag _ _⟩
 case round=>
  obtain⟨j,iJ,rfl,HP,HO,O⟩:=hrel;by_cases iL:j<n
  ·obtain⟨g1,rfl⟩:∃ i,gk=i+1:=⟨gk - 1,by omega⟩;have ib:(j:Int)<n:=om;obtain⟨u,rfl⟩:=Ex (wr:World);obtain⟨p,hp⟩:∃ p,ws[j]?=some p:=⟨ws[j]'om,av om⟩;obtain⟨c0,c1⟩:=L.o u O.o j p hp;obtain⟨q,hq,e1,e2,e3,e4⟩:=E3.o j p hp;obtain⟨Y,dv⟩:=p;obtain⟨Yq,Zq⟩:=q;simp only at c0 c1 e1 e2 e3 e4;obtain rfl:Y=Yq:=e1;obtain⟨eg,ec,rfl,_⟩:=kz e4 om;obtain⟨wx,ba⟩:=Ex (u.alloc (.cells #[iw Y,ir eg 64 ec] 142));have bx:Below u.heap.size u wx:=by rw[ba];exact (ag _ _).alloc (ae _) _
   obtain⟨wy,a8⟩:=Ex (wx.alloc (.cells #[iw Y,ir eg 64 ec] 168));have bz:Below u.heap.size u wy:=by rw[a8];exact bx.alloc bx.size _
   have bl:=LH (mC wx #[iw Y,ir eg 64 ec] 168 1 2 rfl mx);obtain⟨ws',f1,f2,f3⟩:=HP.o;have hK:(ps.take j).length=j:=by rw[aR];omega
   obtain⟨la,lc,rfl,_⟩:=(Cells.own f2).shape;have ay:=HO.o;rw[hK] at f2 ay ⊢;replace ay:=LH ay;have cY:=LH (dE f2 (λg hg=>bz.block g (kt f2 g hg)));rw[<-a8] at bl;rw[a8,ba] at cY bl;rw[aN] at bl;have gh:B<=((u.alloc (.cells #[iw Y,ir eg 64 ec] 142)).alloc (.cells #[iw Y,ir eg 64 ec] 168)).heap.size:=by have:=O.o.size;simp;omega
   have cr:B<=u.heap.size+1+1:=by have:=O.o.size;omega
   have e7:=LH (dE e4 (λg hg=>O.o.block g (kt e4 g hg)));refine G8 ba a8 f2 f3 bx bz hq hp ?_;clear ba a8 f2 f3 bx bz hq hp;intro ba a8 f2 f3 bx bz hq hp;clear e4
   go_wp2_with (at_builtin;refine K.append ?_ (.tmp 45) (.tmp 51) 166 ?_ B 168 (.agg #[iw 0,.slice none 0 0]) 2 32 underlying166 yW rfl om _ j _ ?_ cY.o (λ_=>True) _ 1 [iw Y,ir eg 64 ec] ?_ bl.o (by simp[Value.oneCell']) mx om ?_ ?_)
   any_goals (first|rfl|omega|exact gh|exact cr|(simp;omega))
   intro v' w6 y1 y2 y3 y4;have y2:wy.grownBy w6 (Value.slice la j lc).ownBlock:=by rw[a8.o,ba.o];exact y2
   have bR:∀ (g:Nat) (cs:Array Value) (ty:TypeId) (m:Nat×Nat),u.heap[g]?=some (.cells cs ty m)->ty≠168->w6.heap[g]?=some (.cells cs ty m):=λg cs ty m hg ic=>by rw[y2.block g (aH (dC hg) bz.o.size) (λe=>?_),bz.o.block g (dC hg),hg];obtain⟨cur,hc⟩:=kA f2.o e.symm;rw[hg] at hc;simp only[IJ] at hc;exact ic hc.2.1
   have b5:ps.take (j+1)=ps.take j++[(Y,Zq)]:=by have ha:j<ps.length:=om;rw[bP ha];have h8:=hq.o;rw[av ha] at h8;rw[aF h8]
   have bB:lP w6 B 168 v' (ps.take (j+1)):=by
    rw[b5]
    exact lP.snoc f1 f3.o (by rw[hK];exact y1) (λ{v k xs} ho=>dE ho (λg hg=>by obtain⟨cur,hc⟩:=kA ho hg;rw[hc];exact bR _ _ _ _ hc de)) e2 e3 e7.o
   have cX:∀ g,v'.ownBlock=some g->I.heap.size<=g:=λg hg=>by
    rcases y4 with e|⟨g2,e,hg2⟩
    ·exact ay.o g (e ▸ hg)
    ·rw[e] at hg;cases hg
     exact am O.o.size (am (am (Nat.le_succ _) (Nat.le_succ _)) hg2)
   have cV:Below I.heap.size I w6:=O.o.trans ((bz.o.mono O.o.size).trans (((aA.refl _ wy:aA (λg=>(Value.slice la j lc).ownBlock=some g) wy wy).grown y2 (λ_ h _=>h)).below (am O.o.size bz.o.size) (λg hg e=>by have:=ay.o g e;omega)));replace cX:=LH cX;replace bB:=LH bB;replace cV:=LH cV;clear bR y1 y2 y3 y4 gh cr bl cY f2 f3 e7 bx bz HP O HO ay b5;go_wp2;go_roundg g1
   case measure=>omega
   case rel=>exact⟨j+1,by omega,by go_num,bB.o,cX.o,cV.o⟩
  ·obtain rfl:gk=0:=om;obtain rfl:j=n:=om;have ib:¬ (j:Int)<j:=om;obtain⟨u,rfl⟩:=Ex (wr:World);have r4:=(O.o.block r (dC r3.o)).trans r3.o;have A4:=dE A3.o (λg hg=>O.o.block g (kt A3.o g hg));have M4:=dE M3.o (λg hg=>O.o.block g (kt M3.o g hg));have S4:kR u s none tp:=(O.o.block s (dC S3.o)).trans S3.o;have D4:l6 u d sb X:=D3.o.dB O.o.size (λg hg=>O.o.block g (by have:=D3.o.self;rcases hg with rfl|rfl;exact this.1;exact this.2));have P4:=cb.o.dB (λg _ hg=>O.o.block g hg);have V4:=dE v23.o (λg hg=>O.o.block g (kt v23.o g hg));have B4:=bp.o.after O.o;have q4:=(O.o.block q7 (dC x7.o)).trans x7.o;have G4:=bA.o.trans (kf.dD (C:=No) O.o);have O4:=HP.o;rw[<-hpl,cS] at O4;have cl:B<=u.heap.size:=am en O.o.size;obtain⟨AR,cU⟩:=Ex (t - 25);have e8:(t:Int) - 25=AR:=om;have ad:t=25+AR:=om;obtain⟨NM,cd⟩:=Ex (num+1);have fz:(num:Int)+1=NM:=om;have iB:NM<=900000:=om;have G:∀ f,RY u.heap.size b u.drew f->RY u.heap.size b u f:=λf h=>⟨⟨_,B4⟩,h.b1,h.os,h.tape,h.output,h.size,h.lU,h.other,h.box,h.pD⟩
   have a6:∀ f,RY u.heap.size b u f->f.heap[r]?=some (.cells (st++[iw num]).toArray 176 (0,0)):=λf h=>h.other _ _ _ _ r4 de de de
   have dd:=LH (λf (h:RY u.heap.size b u f)=>b2.o f _ (a6 f h))
   have dg:∀ {v:Value}{i:Nat},(st++[iw num])[i]?=some v->∀ f,RY u.heap.size b u f->f.cell? (iu r i)=some v:=λ{v i} hi f h=>by rw[cell_of (a6 f h),aV];exact hi
   have d3:=LH (dg (i:=3) (v:=iw 25) (by rw[J.o];rfl));have d8:=LH (dg (i:=8) (v:=iw num) (by rw[J.o];rfl));have Q:∀ f,RY u.heap.size b u f->f.heap[q7]?=some (.cells #[iw t,ir vg 64 vc] 168 (0,0)):=λf h=>(h.lU q7 (dC q4) (dC q4) (kn.type B4 q4 de de)).trans q4
   have g0:=LH (λf (h:RY u.heap.size b u f)=>(show f.cell? (iu q7 0)=some (iw t) by rw[cell_of (Q f h)];rfl));have hf:=LH (λf (h:RY u.heap.size b u f)=>h.own A4);have hz:=LH (λf (h:RY u.heap.size b u f)=>h.own M4);have hN:=LH (λf (h:RY u.heap.size b u f)=>(show kR f s none tp from h.other _ _ _ _ S4 de de de));have a1:Bk u.drew b (k+2):=B4.dB (λ_ _ _=>rfl);have bC:RY u.heap.size b u.drew u.drew:=RY.ow a1 a1 kf.refl;refine G9 a6 Q G a1 bC D4 P4 V4 B4 ?_;clear a6 Q G a1 bC D4 P4 V4 B4;intro a6 Q G a1 bC D4 P4 V4 B4;refine G5 G4 O4 cd cU ad ?_;clear G4 O4 cd cU ad;intro G4 O4 cd cU ad;clear dg r4 A4 M4 S4 q4 r3 A3 M3 S3 D3 cb v23 bp bA x7 HP HO O L E3
   go_wp2_with fail
   refine RA.region (RY u.heap.size b) (λx y=>(∃ n,Bk x b n)/\aA No x y) [1,1,1,1,1,1,1,1,1,1,1,1,1,1,1,1,1,1,1,1,1,1,1,3,3,1,1,1,2,4,1] (λ_ v f=>∃ p',v=iq p'/\u.heap.size<=p'/\∃ C,C.size=2/\f.heap[p']?=some (.cells C 168 (0,0))) (λf=>Bk f b (k+2)) kr bC.o (λx y h=>by obtain⟨k,hk⟩:=h.1;exact RY.ow hk (hk.after h.2.no) (kf.ti h.2)) (λ_ _ _ h k=>h.trans k) (λ_ _ h k=>k.after h.2.no) a1.o kr ?_;intro cx
   repeat refine RA.qq ?_
   refine RA.fk prog r 0 (h:=?_);refine RA.ld (y':=.agg c) (hr:=λI hp=>dd.o _ (G.o _ hp.1)) (h:=?_);refine RA.fk prog q7 0 (h:=?_);refine RA.lk prog (iw t) (hc:=λI hp=>by exact g0.o _ (G.o _ hp.1)) (h:=?_)
   repeat refine RA.qq ?_
   refine RA.fk prog r 0 (h:=?_);refine RA.fk prog r 3 (h:=?_);refine RA.fk prog r 3 (h:=?_);refine RA.lk prog (iw 25) (hc:=λI hp=>by exact d3.o _ (G.o _ hp.1)) (h:=?_);refine RA.si (r:=(AR:Int)) (he:=e8) (h:=?_)
   repeat refine RA.qq ?_
   refine RA.fk prog r 0 (h:=?_);refine RA.ld (y':=.agg c) (hr:=λI hp=>dd.o _ (G.o _ hp.1)) (h:=?_)
   repeat refine RA.qq ?_
   refine RA.fk prog r 8 (h:=?_);refine RA.lk prog (iw num) (hc:=λI hp=>by exact d8.o _ (G.o _ hp.1)) (h:=?_);refine RA.ai (r:=(NM:Int)) (he:=fz) (h:=?_)
   refine RA.vk prog (.agg (mW NM 0 (List.replicate 16 0)).toArray) (hr:=λI hp=>by clear hp;go_simp;rfl) (h:=?_)
   refine RA.qc (P:=prog) [.agg c,.agg (mW NM 0 (List.replicate 16 0)).toArray] (λ_ _=>True) (λv f=>Bk f b (k+3)/\∃ l:iz,l.length=48/\Bytes f (λ_=>True) v l) (hs:=λ_ _ _ _ _=>trivial) (he:=λv x y hE hk=>by
    obtain⟨h1,l,h2,h3⟩:=hk;exact⟨h1.after hE.2.no,l,h2,h3.ki hE.2 (λ_ _ _=>id)⟩) (hr:=(λf hp hH=>by
    have R:Bk f b (k+2):=hH;have hr:=G.o _ hp.1;have gv:=yU (w:=f) (d:=d) (s:=s) (gH:=gH) (dv:=ir da 64 dc) R om (kU (hz.o f hr) (aW _)) NM 0 om om (T:=List.replicate 16 0) sm;rw[<-J.o,<-hc.o] at gv;refine gv.mono ?_;rintro e H ⟨v,rfl,⟨l,k1,k2⟩,k3,k4⟩;exact⟨v,rfl,RY.ow R k3 k4,trivial,k3,l,k1,k2⟩)) (hn:=λu4=>?_)
   refine RA.qc (P:=prog) [.agg c,iw AR,u4] (λv f=>∃ z Z,v=.tuple #[.agg #[iw t,z],iw 0]/\List.length Z=64/\f.ownsRow B 5 1 z 64 (aQ Z)) (λ_ f=>Bk f b (k+3)) (hs:=λv x y hr hk=>by
    obtain⟨z,Z,h1,h2,h3⟩:=hk;exact⟨z,Z,h1,h2,hr.own h3⟩) (he:=λv x y hE hk=>hk.after hE.2.no) (hr:=(λf hp hH=>by
    obtain⟨cW,l,k1,k2⟩:=hH;have hr:=G.o _ hp.1
    have hY:Bytes f (λ_=>True) (ir da 64 dc) A:=by show Cells f _ _ A.length 1 _;rw[hA];exact (Cells.own (hf.o f hr)).mono (λ_ _ _=>trivial)
    have hJ:=xx (w:=f) (d:=d) (s:=s) (b:=b) (gH:=gH) (ma:=some (iu ma 0)) (mc:=mc) hY hA (hN.o f hr) AR om k2 om;rw[<-J.o,<-hc.o,<-ad.o] at hJ;refine hJ.mono ?_;rintro e H ⟨v,rfl,k3,k4⟩;exact⟨_,rfl,RY.ow cW (cW.after k4) (kf.dD k4),⟨v,_,rfl,by rw[rj (by rw[oP om])];exact oP om,kU k3 (am cl hr.size)⟩,cW.after k4⟩)) (hn:=λu5=>?_)
   repeat refine RA.qq ?_
   refine RA.vk prog (kW u5 0) (hr:=λI hp=>by obtain⟨v,Z,rfl,_⟩:=hp.fact 0 rfl kr;clear hp;go_simp;rfl) (h:=?_)
   refine RA.vk prog (kW u5 1) (hr:=λI hp=>by obtain⟨v,Z,rfl,_⟩:=hp.fact 0 rfl kr;clear hp;go_simp;rfl) (h:=?_)
   refine RA.fr (hs:=λv x y hr hk=>by
    obtain⟨p',h1,h2,C,h3,h4⟩:=hk;obtain⟨C',h5,h6⟩:=hr.box _ _ _ h4;exact⟨p',h1,h2,C',h5.trans h3,h6⟩) (hr:=λf hp=>⟨iq f.heap.size,f.alloc (.cells #[iw 0,.slice none 0 0] 168),by
    show (execOp _ _).run prog f=_;go_simp,⟨(G.o _ hp.1).b1,(aA.refl _ _).alloc _⟩,f.heap.size,rfl,(G.o _ hp.1).size,_,rfl,aj f _⟩) (h:=λu9=>?_)
   refine RA.st (λH=>∃ (p' e6 e0:Nat) (Z:iz),u9=iq p'/\u5=.tuple #[.agg #[iw t,ir e6 64 e0],iw 0]/\Z.length=64/\H.ownsRow B 5 1 (ir e6 64 e0) 64 (aQ Z)/\H.heap[p']?=some (.cells #[iw t,ir e6 64 e0] 168 (0,0))/\Bk H b (k+3)) (he:=λx y hE hk=>by
    obtain⟨p',vg,vc,Z,h1,h2,h3,h4,h5,h6⟩:=hk;exact⟨p',vg,vc,Z,h1,h2,h3,dE h4 (λg hg=>hE.2.block g (kt h4 g hg) id),(hE.2.block p' (dC h5) id).trans h5,h6.after hE.2.no⟩) (hr:=(λf hp hH=>by
    obtain⟨p',rfl,h2,C,fi,h3⟩:=hp.fact 0 rfl kr;obtain⟨z,Z,rfl,h5,h6⟩:=hp.fact 1 rfl kr;obtain⟨vg,vc,rfl,_⟩:=kz h6 om;have R:Bk f b (k+3):=hH;have hU:Bk (f.setRow p' #[iw t,ir vg 64 vc]) b (k+3):=R.dB (λg hg hl=>aG _ _ _ _ (λe=>kn.type R h3 de de (e ▸ hg)))
    exact⟨f.setRow p' #[iw t,ir vg 64 vc],RA.kL rf rf (mf (P:=prog) (ty:=168) (x:=[iw t,ir vg 64 vc]) h3 kr fi (by simp[Value.oneCell'])),(RY.ow R R kf.refl).store h2 h3 fi.symm R,p',vg,vc,Z,rfl,rfl,h5,dE h6 (λg hg=>aG _ _ _ _ (by rintro rfl;exact o6 h6 h3 de hg)),aJ _ _ _ _ _ _ h3,hU⟩)) (hn:=?_)
   repeat refine RA.qq ?_
   refine RA.RA.done rfl (λH hR hF hH=>?_);clear hF;simp only[RA.RP,cx];have S:=G.o _ hR;clear hR;obtain⟨iQ,hT,hS,Z2,rfl,rfl,gb,dp,ck,er⟩:=hH;simp only[kW,TP];have cg:∀ (g:Nat) (cs:Array Value) (ty:TypeId),u.heap[g]?=some (.cells cs ty (0,0))->(ty=168\/ty=5)->H.heap[g]?=some (.cells cs ty (0,0)):=λg cs ty hg ht=>(S.lU g (dC hg) (dC hg) (kn.type B4.o hg (by rcases ht with rfl|rfl<;>decide) (by rcases ht with rfl|rfl<;>decide))).trans hg
   have r5:=a6.o _ S;have q5:=Q.o _ S;have D5:l6 H d sb X:=D4.o.dB S.size (λg hg=>S.lU g (by have:=D4.o.self;rcases hg with rfl|rfl;exact this.1;exact this.2) (by have:=D4.o.self;rcases hg with rfl|rfl;exact this.1;exact this.2) (λe=>by have:=e.ge;rcases hg with rfl|rfl<;>omega));have P5:=P4.o.qk (w':=H) (λg cs ty _ hg ht=>cg g cs ty hg ht);have O5:=O4.o.qk (w':=H) (λg cs ty _ hg ht=>cg g cs ty hg ht)
   have V5:=dE (w':=H) V4.o (λg hg=>by obtain⟨cur,hc⟩:=kA V4.o hg;rw[hc];exact cg _ _ _ hc (.inr rfl))
   have G5:=G4.o.trans (S.pb rfl);have cm:B<=H.heap.size:=am cl S.size;clear G a6 Q dd d3 d8 g0 hf hz hN a1 bC D4 P4 O4 V4 G4 B4 S cg
   obtain⟨la,lc,rfl,_⟩:∃ la lc,lv=.slice la aa.length lc/\True:=by obtain⟨ws',_,f2,_⟩:=P5;obtain⟨la,lc,e,_⟩:=(Cells.own f2).shape;exact⟨la,lc,e,trivial⟩
   obtain⟨oa,oc,rfl,_⟩:∃ oa oc,u9=.slice oa j oc/\True:=by obtain⟨ws',_,f2,_⟩:=O5;obtain⟨la,lc,e,_⟩:=(Cells.own f2).shape;exact⟨la,lc,by rw[e,hpl],trivial⟩
   obtain⟨qL,c5⟩:=Ex (H.heap.size+1+1);obtain⟨w6,c6⟩:=Ex (H.alloc (.cells #[iw t,ir vg 64 vc] 168));obtain⟨w7,c7⟩:=Ex (w6.alloc (.cells #[iw t,ir hT 64 hS] 168));obtain⟨w8,c9⟩:=Ex (w7.alloc (.cells #[.slice la aa.length lc,ir H.heap.size 1 1,.slice oa j oc,ir (H.heap.size+1) 1 1] 166));have s6:w6.heap.size=H.heap.size+1:=by rw[c6];simp
   have s7:w7.heap.size=H.heap.size+1+1:=by rw[c7];simp;omega
   have b6:Below H.heap.size H w6:=by rw[c6];exact (ag _ _).alloc (ae _) _
   have cT:Below w6.heap.size w6 w7:=by rw[c7];exact (ag _ _).alloc (ae _) _
   have cc:Below w7.heap.size w7 w8:=by rw[c9];exact (ag _ _).alloc (ae _) _
   have b8:Below H.heap.size H w8:=(b6.trans (cT.mono b6.size)).trans (cc.mono om);have x8:w8.heap[qL]?=some (.cells #[.slice la aa.length lc,ir H.heap.size 1 1,.slice oa j oc,ir (H.heap.size+1) 1 1] 166 (0,0)):=by rw[c9,c5,<-s7];exact aj w7 _
   have PA:=P5.dB (w':=w8) (λg _ hg=>b8.block g hg);have PC:=O5.dB (w':=w8) (λg _ hg=>b8.block g hg)
   have PB:lP w8 B 168 (ir H.heap.size 1 1) [(t,Z)]:=by have h:=lP.one (Y:=t) om hW cm V5;rw[<-c6] at h;exact (h.dB (λg _ hg=>cT.block g hg)).dB (λg _ hg=>cc.block g hg)
   have PD:lP w8 B 168 (ir (H.heap.size+1) 1 1) [(t,Z2)]:=by have h:=lP.one (w:=w6) (Y:=t) om gb om (dE dp (λg hg=>b6.block g (kt dp g hg)));rw[<-c7,s6] at h;exact h.dB (λg _ hg=>cc.block g hg)
   obtain⟨qs,b4⟩:=Ex ([aa,[(t,Z)],ps,[(t,Z2)]])
   have hL:∀ i,i<4->∃ a l c W,w8.cell? (iu qL i)=some (.slice a l c)/\qs[i]?=some W/\lP w8 B 168 (.slice a l c) W/\W.length<1000:=λi hi=>by
    rw[b4];obtain rfl|rfl|rfl|rfl:i=0\/i=1\/i=2\/i=3:=om
    ·exact⟨_,_,_,_,by rw[cell_of x8];rfl,rfl,PA,by omega⟩
    ·exact⟨_,_,_,_,by rw[cell_of x8];rfl,rfl,PB,by simp⟩
    ·exact⟨_,_,_,_,by rw[cell_of x8];rfl,rfl,PC,by omega⟩
    ·exact⟨_,_,_,_,by rw[cell_of x8];rfl,rfl,PD,by simp⟩
   have af:∀ p,p<120->(p<25\/60<=p)->(qs.foldl laid X).at p=kX ps p (X.at p):=λp hp iN=>by
    have each:∀ W ∈ qs,∀ q ∈ W,q.1<120/\q.2.length=64:=λW hm=>by
     rw[b4] at hm;simp only[bi,bL,bS] at hm;rcases hm with rfl|rfl|rfl|rfl
     ·exact PA.each
     ·exact PB.each
     ·exact PC.each
     ·exact PD.each
    rw[Ki qs X D5.len D5.none each p hp,b4];simp only[eL,List.flatten_nil,dm,Dj];rw[qK aa p _ (λq hq=>by have:=cj.o q hq;omega),qK [(t,Z)] p _ (λq hq=>by simp at hq;subst hq;show ¬ t=p;omega),qK [(t,Z2)] p _ (λq hq=>by simp at hq;subst hq;show ¬ t=p;omega)]
   have D8:l6 w8 d sb X:=D5.dB b8.size (λg hg=>b8.block g (by have:=D5.self;rcases hg with rfl|rfl;exact this.1;exact this.2));have r8:=(b8.block r (dC r5)).trans r5;have B8:=er.after b8;have G8:=G5.trans (kf.dD (C:=No) b8);have fb:B<=w8.heap.size:=am cm b8.size;have f0:=cell_of q5 0;have f1:=cell_of q5 1;have f2:=cell_of ck 0;have f3:=cell_of ck 1;have l7:=dC q5;have iA:=dC ck;have iD:qs.length=4:=by rw[b4];rfl
   refine G6 hL af D8 r8 B8 G8 ?_;clear hL af D8 r8 B8 G8;intro hL af D8 r8 B8 G8;replace c9:=LH (show w8=((H.alloc (.cells #[iw t,ir vg 64 vc] 168)).alloc (.cells #[iw t,ir hT 64 hS] 168)).alloc (.cells #[.slice la aa.length lc,ir H.heap.size 1 1,.slice oa j oc,ir (H.heap.size+1) 1 1] 166) by rw[c9,c7,c6]);replace c5:=LH c5;replace b4:=LH b4;clear c6 c7 b6 cT cc b8 x8 PA PB PC PD s6 s7 D5 r5 er G5 P5 O5 V5 dp ck q5
   go_wp2_with fail
   rw[<-c9.o,<-c5.o];clear f0 f1 f2 f3 l7 iA
   go_loopg [93] 4 (λg ix wr=>∃ i:Nat,i+g=4/\ix=iw i/\Hd (l6 wr d sb ((qs.take i).foldl laid X))/\Hd (aA (λg=>g=d\/g=sb) w8 wr))
   case atStart=>exact⟨0,by omega,rfl,D8.o,aA.refl _ _⟩
   case round=>
    obtain⟨i,iI,rfl,HD,HC⟩:=hrel;have ih:¬ (r=d\/r=sb):=om;have rr:=(HC.o.block r (dC r8.o) ih).trans r8.o;obtain⟨wq,rfl⟩:=Ex (wr:World);by_cases hy:i<4
    ·obtain⟨g1,rfl⟩:∃ x,gk=x+1:=⟨gk - 1,by omega⟩;have hh:(i:Int)<4:=om;obtain⟨pa,pl,pc,W,e1,e2,e3,e4⟩:=hL.o i hy;have hI:¬ (qL=d\/qL=sb):=by have:=c5.o;omega
     have c0:=(HC.o.cell (p:=iu qL i) (lq e1) hI).trans e1;have V:=Kg (s:=s) (b:=b) (gH:=gH) (da:=some (iu da 0)) (dn:=64) (dc:=dc) (ma:=some (iu ma 0)) (mn:=32) (mc:=mc) HD.o (by omega:d<B) (by omega:sb<B) (am fb HC.o.size) e4 (e3.dB (w':=wq) (λg hg hl=>HC.o.block g hl (by rintro (e|e)<;>omega)));rw[<-J.o,<-hc.o] at V
     have b5:qs.take (i+1)=qs.take i++[W]:=by have h9:i<qs.length:=om;rw[bP h9];rw[av h9] at e2;rw[aF e2]
     have an:=b2.o wq _ rr;replace V:=LH V;replace an:=LH an;replace b5:=LH b5;clear e1 e2 e3 hI
     go_wp2_with (first|(refine kQ rfl 174 _ rfl _ _ rfl an.o ?_)|fail)
     refine V.o.mono ?_;rintro e w9 ⟨rfl,k1,k2⟩;have cK:l6 w9 d sb ((qs.take (i+1)).foldl laid X):=by rw[b5.o,dL];exact k1
     have cA:=HC.o.trans k2;replace cK:=LH cK;replace cA:=LH cA;clear k1 k2 V an HD HC c0 rr;go_wp2;go_roundg g1
     case measure=>omega
     case rel=>exact⟨i+1,by omega,by go_num,cK.o,cA.o⟩
    ·obtain rfl:gk=0:=om;obtain rfl:i=4:=om;have hh:¬ ((4:Nat):Int)<4:=om
     have c8:wq.cell? (iu r 8)=some (iw num):=by rw[cell_of rr,aV,aL om,cz];rfl
     have f8:=kY rr 8
     have cP:l6 wq d sb (qs.foldl laid X):=by
      have h:=HD.o
      rwa [bh om] at h
     replace cP:=LH cP;replace rr:=LH rr;go_wp2;obtain⟨wE,ca⟩:=Ex (wq.setCell (iu r 8) (iw NM));rw[<-ca];have fs:∀ g,g≠r->wE.heap[g]?=wq.heap[g]?:=λg hg=>by rw[ca];exact kD _ _ _ (by simpa using hg)
     have hV:wq.heap.size<=wE.heap.size:=by rw[ca];exact (KeepsWalks.setCell wq _ _).size
     have ig:wE.heap[r]?=some (.cells (st++[iw NM]).toArray 176 (0,0)):=by
      rw[ca,lz rr.o];congr 2;have e:(st++[iw num]).toArray.setIfInBounds 8 (iw NM)=((st++[iw num]).set 8 (iw NM)).toArray:=by simp
      rw[e,fv _ _ om,cz];rfl
     have gf:b≠r:=by intro e;obtain⟨lv,hx⟩:=hB.o.box;have h:=h1.o;rw[<-e,hx] at h;simp only[IJ] at h;exact absurd h.2.1 de
     have GE:kf (λg=>g=r\/g=d\/g=sb) b w wE:=((G8.o.mono (λ_ _ e=>e.elim)).then HC.o (λ_ _ e=>.inr e) (λ_ e=>by rcases e with e|e<;>omega)).then (D:=(·=r)) (by rw[ca];exact (aA.refl (λx=>x=r) wq).setCell (λ_=>rfl) _) (λ_ _ e=>.inl e) (λ_ e=>gf e)
     have E:∀ {v:Value}{k:Nat}{xs:List Value},w.ownsRow b 5 1 v k xs->wE.ownsRow b 5 1 v k xs:=λ{v k xs} ho=>GE.own hB.o ho (λg hg e=>by
      have iE:=kJ ho g hg;rcases e with rfl|rfl|rfl
      ·obtain⟨cur,hc⟩:=kA ho hg;have h:=h1.o;rw[hc] at h;simp only[IJ] at h;exact absurd h.2.1 de
      ·omega
      ·omega) de de
     have BE:Bk wE b (k+3):=B8.o.dB (λg hg hl=>by
      have iH:=hg.ge
      have hX:g≠r:=λe=>by subst e;exact kn.type B8.o r8.o de de hg
      rw[fs g hX];exact HC.o.block g hl (by rintro (e|e)<;>omega))
     have DE:l6 wE d sb (qs.foldl laid X):=cP.o.dB hV (λg hg=>fs g (by rcases hg with rfl|rfl<;>omega));refine aI (results_tmp rfl _ _ _) rfl ⟨rfl,⟨_,DE,af.o⟩,⟨_,_,?_,E bD.o,E bW.o⟩,BE,GE⟩;rw[ig,J.o,cd.o]
end Go.Proofs.YthmcbgidehjlbaaGreat.Fd
namespace Go.Proofs.YthmcbgidehjlbaaGreat.Fd
open Go Go.RowKit K
theorem Ku (ks:List (Nat×iz)) (p:Nat) (d d':iz) (h:p ∈ ks.map Prod.fst):kX ks p d=kX ks p d':=by
 induction ks generalizing d d' with
 | nil=>simp at h
 | cons k ks ih=>
  show kX ks p (if k.1=p then k.2 else d)=kX ks p (if k.1=p then k.2 else d');by_cases e:k.1=p
  ·rw[ak e,ak e]
  ·rw[ah e,ah e];refine ih _ _ ?_;simp only[bt,bi] at h;exact h.resolve_left (λh=>e h.symm)
theorem Kv (ks:List (Nat×iz)) (p:Nat) (z d:iz) (hn:(ks.map λq=>(q.1:Int)).Nodup) (h:(p,z) ∈ ks):kX ks p d=z:=by obtain⟨j,c⟩:=cM h;refine zd ks p d j (p,z) c rfl (λi l hi a e=>?_);have b:=(aD.1 a).1;have f:=(aD.1 c).1;have:=eJ.1 hn j i (by simpa using f) (by simpa using b) hi;have g:=(aD.1 c).2;have k:=(aD.1 a).2;simp only[List.getElem_map,g,k] at this;exact this (by rw[e])
theorem Kw:∀ (l:List Nat) (x:Int),x ∈ nG (ni l)->10<=x:=by
 unfold ni
 suffices h:∀ (l:List Nat) (S:List (Int×Value)),(∀ x ∈ nG S,10<=x)->∀ x ∈ nG (l.foldl pG S),10<=x by intro l x a;refine h l _ (λx a=>?_) x a;simp[nG] at a;omega
 intro l
 induction l with
 | nil=>intro S h;exact h
 | cons k l ih=>
  intro S h;refine ih _ (λx a=>?_);unfold pG at a;rw[rq,rq,rq] at a;rcases a with ((a|a)|a)|a
  ·exact h x a
  ·omega
  ·omega
  ·omega
structure xL (A M L:iz) (Dt:Nat->iz) (Ls:List iz) (Tx:List (Int×Value)) (X:D.Dk):Prop where
 len:∀ p,(Dt p).length=64
 Dn:∀ p,p<50->nf L p=true->X.at (60+p)=nw A (60+p) (Dt p)/\qp Ls p=qo M p (X.at (60+p))/\pW Tx p (.bool false)=.bool true
 Dp:∀ p,p<50->nf L p=false->Dt p=nA
 zero:X.at 0=nA
 raw:∀ p,p<50->nf L p=false->X.at (60+p)=nA
theorem xL.next {A M L:iz}{Dt:Nat->iz}{Ls Ls':List iz}{Tx Tx':List (Int×Value)}{X X':D.Dk}{all:List Nat}{pk:List (Nat×iz)}{Cs:List mG}(h:xL A M L Dt Ls Tx X) (hN:nX A M Ls Tx all pk Ls' Tx' Cs) (hnd:(Cs.map λq=>(q.1:Int)).Nodup)
  (hX:∀ p,p<120->(p<25\/60<=p)->X'.at p=kX (Cs.map λq=>(q.1,q.2.2)) p (X.at p)) (hL:L.length=7) (hpk:∀ k ∈ pk,k.1<50/\k.2.length=64):xL A M (lh L pk) (λp=>kX pk p (Dt p)) Ls' Tx' X':=by
 have f:=λp=>Dm pk L p hL (λk hk=>(hpk k hk).1)
 have d:∀ p,pk.any (λk=>decide (p=k.1))=true↔p ∈ pk.map Prod.fst:=λp=>by simp only[bQ,cL,aO];exact⟨λ⟨k,hk,e⟩=>⟨k,hk,e.symm⟩,λ⟨k,hk,e⟩=>⟨k,hk,e.symm⟩⟩
 have i:((Cs.map λq=>(q.1,q.2.2)).map λq=>(q.1:Int)).Nodup:=by rw[cO];exact hnd
 refine⟨λp=>xF pk p _ 64 (h.len p) (λk hk=>(hpk k hk).2),λp hp hb=>?_,λp hp hb=>?_,?_,λp hp hb=>?_⟩
 ·have g:((60:Nat)+p:Nat)<120:=om;by_cases hm:p ∈ pk.map Prod.fst
  ·obtain⟨v,hv⟩:=hN.has p hm
   have l:X'.at (60+p)=nw A (60+p) (kX pk p nA):=by rw[hX _ g (.inr om)];exact Kv _ _ _ _ i (aO.2 ⟨_,hv,rfl⟩)
   have hd:kX pk p (Dt p)=kX pk p nA:=Ku pk p _ _ hm;refine⟨by rw[l,hd],?_,?_⟩
   ·rw[hN.tag p hp,ak hm,l]
   ·rw[hN.qI p hp,ak hm]
  ·have n:nf L p=true:=by
    rw[f] at hb
    have:pk.any (λk=>decide (p=k.1))=false:=by rw[Bool.eq_false_iff];exact λe=>hm ((d p).1 e)
    rw[this,Bool.or_false] at hb;exact hb
   obtain⟨a,b,c⟩:=h.Dn p hp n
   have l:X'.at (60+p)=X.at (60+p):=by rw[hX _ g (.inr om)];refine qK _ _ _ (λk hk e=>?_);obtain⟨q,j,rfl⟩:=aO.1 hk;have m:q.1=60+p:=e;have:=(hN.only q j).2 om;rw[m,ek] at this;exact hm this
   have hd:kX pk p (Dt p)=Dt p:=qK pk p _ (λk hk e=>hm (aO.2 ⟨k,hk,e⟩));refine⟨by rw[l,hd];exact a,?_,?_⟩
   ·rw[hN.tag p hp,ah hm,l];exact b
   ·rw[hN.qI p hp,ah hm];exact c
 ·rw[f,io] at hb
  have hm:p ∉ pk.map Prod.fst:=λe=>by rw[(d p).2 e] at hb;exact absurd hb.2 de
  show kX pk p (Dt p)=nA;rw[qK pk p _ (λk hk e=>hm (aO.2 ⟨k,hk,e⟩))];exact h.Dp p hp hb.1
 ·rw[hX 0 om (.inl om),qK _ _ _ (λk hk e=>?_)]
  ·exact h.zero
  ·obtain⟨q,j,rfl⟩:=aO.1 hk;have m:q.1=0:=e;have:=Kw _ _ (hN.keys q j);omega
 ·rw[f,io] at hb
  have hm:p ∉ pk.map Prod.fst:=λe=>by rw[(d p).2 e] at hb;exact absurd hb.2 de
  rw[hX _ om (.inr om),qK _ _ _ (λk hk e=>?_)]
  ·exact h.raw p hp hb.1
  ·obtain⟨q,j,rfl⟩:=aO.1 hk;have m:q.1=60+p:=e;have:=(hN.only q j).2 om;rw[m,ek] at this;exact hm this
variable {vc:Array Value}{num:Nat}
structure VG where
 v:Nat
 b:Nat
 d:Nat
 sb:Nat
 s:Nat
 r:Nat
 gH:ByteArray
 A:iz
 M:iz
 xs:List Value
 tp:Option Addr
structure VT where
 t:Nat
 m:Nat
 num:Nat
 l8:Nat
 n:Nat
 N:Nat
 gs:Nat->Nat
 Ls:List iz
 Tx:List (Int×Value)
 X:D.Dk
structure lT (G:VG) (w:World) (L:iz) (ks:List (Nat×iz)) (kh:Bool) (Dt:Nat->iz) (S:VT):Prop where
 kx:kF w G.v S.m L ks kh
 base:ou G.xs G.d G.s G.b G.gH G.A G.M
 fix:mP w G.v (mX G.xs S.t S.m S.num G.r)
 su:kR w G.s none G.tp
 tree:lx w S.t G.b S.N S.gs G.M S.Ls S.Tx
 bN:G.b<=S.N
 l4:S.Ls.length=4
 marks:lI w S.m L S.N
 ring:oh w G.r G.d G.s G.b G.gH G.A G.M S.l8
 br:G.b<=G.r
 mF:l6 w G.d G.sb S.X
 db:G.d<G.b
 qM:G.sb<G.b
 bv:G.b<=G.v
 book:Bk w G.b S.n
 cont:xL G.A G.M L Dt S.Ls S.Tx S.X
 al:G.A.length=64
 ml:G.M.length=32
section
variable {G:VG}{w w':World}{L:iz}{ks:List (Nat×iz)}{kh:Bool}{Dt:Nat->iz}{S:VT}
theorem lT.Dq (h:lT G w L ks kh Dt S):L.length=7:=by obtain⟨_,sv,_,a⟩:=h.marks;have:=a.1;rw[km] at this;omega
theorem lT.zw (h:lT G w L ks kh Dt S):G.v<w.heap.size:=by obtain⟨⟨cs,pv,hb,_⟩,_⟩:=h.kx;exact dC hb
theorem lT.blt (h:lT G w L ks kh Dt S):G.b<w.heap.size:=by obtain⟨lv,a⟩:=h.book.box;exact dC a
theorem lT.below (h:lT G w L ks kh Dt S) (hb:Below w.heap.size w w'):lT G w' L ks kh Dt S:=
 ⟨h.kx.after hb,h.base,h.fix.after hb,(hb.block G.s (dC h.su)).trans h.su,h.tree.after h.bN hb,h.bN,h.l4,h.marks.dB (λg _ _ _ _ hg=>hb.block g (dC hg)),h.ring.dB h.br (λg cs ty _ _ hg=>hb.block g (dC hg)),h.br,
  h.mF.dB hb.size (λg hg=>hb.block g (by have:=h.mF.self;rcases hg with rfl|rfl;exact this.1;exact this.2)),h.db,h.qM,h.bv,h.book.after hb,h.cont,h.al,h.ml⟩
end
theorem l6.types {w:World}{d sb:Nat}{X:D.Dk}(h:l6 w d sb X):(∃ cs,w.heap[d]?=some (.cells cs 122 (0,0)))/\∃ cs,w.heap[sb]?=some (.cells cs 5 (0,0)):=by obtain⟨n,c,hc⟩:=h.sure;obtain⟨⟨sv,pv,pcs,h1,a,_⟩,_⟩:=h.at_;refine⟨⟨_,h1⟩,?_⟩;rw[cell_of h1] at hc;simp at hc;exact kA a (by rw[hc];rfl)
def uK (vc:Array Value) (t m num:Nat) (u:Value):Array Value:=(splice vc.toList 106 [iq t,iq m,iw num]).toArray.setIfInBounds 110 u
theorem rZ {t m:Nat}{u:Value}(hs:vc.size=112) (j:Nat):(uK vc t m num u)[j]?=if j=110 then some u else if 106<=j/\j<109 then ([iq t,iq m,iw num]:List Value)[j - 106]? else vc[j]?:=by
 have a:106+([iq t,iq m,iw num]:List Value).length<=vc.toList.length:=by simp;omega
 have hlen:(splice vc.toList 106 [iq t,iq m,iw num]).length=112:=by rw[length_splice _ _ _ a];simpa using hs
 unfold uK;by_cases h:j=110
 ·subst h;rw[ak rfl,dM (by rw[aT,hlen];omega)]
 ·rw[ah h,bH (bY h),aV,vm a];by_cases h1:j<106
  ·rw[ak h1,ah om,cZ]
  ·rw[ah h1];by_cases b:j<109
   ·rw[ak (by simpa using b),ak om]
   ·rw[ah (by simpa using b),ah om,cZ]
theorem Ky {t m:Nat}{u:Value}(hs:vc.size=112):(uK vc t m num u).size=112:=by
 have a:106+([iq t,iq m,iw num]:List Value).length<=vc.toList.length:=by simp;omega
 unfold uK;rw[Array.size_setIfInBounds,aT,length_splice _ _ _ a]
 simpa using hs
theorem mP.next {w w7:World}{v t m num r t' m' num':Nat}{xs:List Value}{vc:Array Value}{u:Value}(h:mP w v (mX xs t m num r)) (hx:xs.length=106) (hb:w.heap[v]?=some (.cells vc 104 (0,0))) (hs:vc.size=112) (h7:w7.heap[v]?=some (.cells (uK vc t' m' num' u) 104 (0,0))):mP w7 v (mX xs t' m' num' r):=by
 refine⟨by simp[mX,hx],λj x a=>?_⟩;have b:=(aD.1 a).1;have d:(mX xs t' m' num' r).length=110:=by simp[mX,hx]
 rw[cell_of h7,rZ hs,ah om];by_cases h1:106<=j/\j<109
 ·rw[ak h1];rw[mX,aL om,hx] at a;rw[<-a];have:j - 106<3:=om
  match j - 106,this with
  | 0,_=>rfl
  | 1,_=>rfl
  | 2,_=>rfl
 ·rw[ah h1,<-cell_of hb];refine h.2 j x ?_;by_cases c:j<106
  ·rw[mX,aX om] at a ⊢;exact a
  ·have:j=109:=om;subst this;rw[mX,aL om,hx] at a ⊢;exact a
theorem Kz (a:Addr) (lo hi cap s:Nat):∃ a' c',sliced (some a) lo hi cap s=.slice (some a') (hi - lo) c':=by simp only[sliced];split<;>exact⟨_,_,rfl⟩
def lp (G:VG) (w:World) (g:Nat):Prop:=ku w G.v g\/kn w G.b g\/g=G.d\/g=G.sb\/g=G.r
structure lL (G:VG) (w w':World):Prop where
 ki:aA (lp G w) w w'
 uL:∀ g,ku w' G.v g->ku w G.v g\/w.heap.size<=g
 row:∀ g,g<w.heap.size->G.b<=g->mw w' G.b g->mw w G.b g
 kC:∀ x,nW w' G.v x->nW w G.v x\/w.heap.size<=x
section
variable {G:VG}{w w' w2:World}
theorem lL.refl:lL G w w:=⟨aA.refl _ _,λ_=>.inl,λ_ _ _ h=>h,λ_=>.inl⟩
theorem lL.trans (h:lL G w w') (k:lL G w' w2):lL G w w2:=by
 refine⟨aA.then h.ki k.ki (λg hg e=>?_),λg hg=>?_,λg hg hb e=>h.row g hg hb (k.row g (aH hg h.ki.size) hb e),λx a=>?_⟩
 ·rcases e with e|e|e
  ·exact (h.uL g e).elim .inl (λe=>absurd hg om)
  ·exact .inr (.inl (e.imp id (λe=>⟨e.1,h.row g hg e.1 e.2⟩)))
  ·exact .inr (.inr e)
 ·rcases k.uL g hg with e|e
  ·exact h.uL g e
  ·exact .inr (am h.ki.size e)
 ·rcases k.kC x a with e|e
  ·exact h.kC x e
  ·exact .inr (am h.ki.size e)
theorem ku.same (hv:w'.heap[G.v]?=w.heap[G.v]?){g:Nat}(h:ku w' G.v g):ku w G.v g:=by
 rcases h with rfl|⟨n,pc,e⟩
 ·exact .inl rfl
 ·exact .inr ⟨n,pc,by rw[<-az (w:=w) (a:=iu G.v 110) hv];exact e⟩
theorem lL.ow {C:Nat->Prop}(h:kf C G.b w w') (hC:∀ g,C g->g=G.d\/g=G.sb\/g=G.r) (hv:w'.heap[G.v]?=w.heap[G.v]?) (hp:∀ pg n pc,w.cell? (iu G.v 110)=some (ir pg n pc)->w'.heap[pg]?=w.heap[pg]?):lL G w w':=by have hc:w'.cell? (iu G.v 110)=w.cell? (iu G.v 110):=az (w:=w) (a:=iu G.v 110) hv;refine⟨aA.mono h.toaA (λg _ e=>e.elim (λe=>.inr (.inr (hC g e))) (λe=>.inr (.inl e))),λg hg=>.inl (ku.same hv hg),h.row,λx k=>?_⟩;obtain⟨pg,n,pc,j,n',c,h1,f,i⟩:=k;rw[hc] at h1;exact .inl ⟨pg,n,pc,j,n',c,h1,f,by rw[<-az (w:=w) (a:=iu pg (j*2+1)) (hp pg n pc h1)];exact i⟩
end
theorem Ds:∀ (q:Nat) (ks:List (Nat×iz)) (vs:List Value),vs.length=ks.length->(my ks vs).drop (q*2)=my (ks.drop q) (vs.drop q)
 | 0,ks,vs,_=>rfl
 | q+1,[],vs,h=>by simp[my]
 | q+1,k::ks,[],h=>by simp at h
 | q+1,k::ks,v::vs,h=>by
  have e:(my (k::ks) (v::vs))=iw k.1::v::my ks vs:=by simp[my]
  rw[e,show (q+1)*2=q*2+1+1 by omega,eZ,eZ,eZ,eZ];exact Ds q ks vs (by simpa using h)
theorem KA {w:World}{B:Nat}{ks:List (Nat×iz)}{vs:List Value}(h:∀ (j:Nat) (k:Nat×iz) (u:Value),ks[j]?=some k->vs[j]?=some u->k.2.length=64/\w.ownsRow B 5 1 u 64 (aQ k.2)):∀ u ∈ my ks vs,u.oneCell'=true:=by
 intro u hu;unfold my at hu;obtain⟨⟨k,z⟩,hp,hu⟩:=List.mem_flatMap.1 hu;obtain⟨j,a⟩:=cM hp
 have h1:ks[j]?=some k/\vs[j]?=some z:=by rw[List.getElem?_zip_eq_some] at a;exact a
 obtain⟨_,b⟩:=h j k z h1.1 h1.2;obtain⟨g,c,rfl,_⟩:=kz b om;simp only[bi,bL,bS] at hu;rcases hu with rfl|rfl<;>rfl
end Go.Proofs.YthmcbgidehjlbaaGreat.Fd

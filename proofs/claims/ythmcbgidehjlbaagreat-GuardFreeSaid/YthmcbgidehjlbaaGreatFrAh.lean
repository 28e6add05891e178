/-
 Parts of the proof. No condition beyond what each theorem names.
-/
import Derived.LoopIn
import Derived.LoopNIn
import Derived.OwnWalkIn
import Derived.RangeFuncBound
import Derived.RangeFuncNested
import Derived.Shelf.Abstract
import Derived.TacticsInMore
import Derived.WalkKit
import Derived.Test.YthmcbgidehjlbaaGreatFrAg
set_option maxRecDepth 100000
set_option maxHeartbeats 4000000
namespace Go.Proofs.YthmcbgidehjlbaaGreat.D
open _root_.Go.Proofs.Tryz
open Go Go.RowKit Go.Shelf K
attribute [local go_sem] Oper.semAt_some
theorem Ib (F:Fence) (n:Nat) (h6:F.fn 55) (hro:F.round=none) (a:Option Addr) (len cap:Nat) (w:World):
  CallsIn F n prog 55 #[.slice a len cap] w λe w'=>e=.returned (.func (.func 94) #[] #[iq w.heap.size])/\w'=w.alloc (.cells #[.slice a len cap] 116):=by
 refine eK func55 rfl h6 ?_ hro;simp only[ntmps55,NT,Nat.reduceAdd,Nat.reduceSub]
 gi_wp2
 go_ret;exact⟨rfl,rfl⟩
theorem Ic (F:Fence) (n:Nat) (h8:F.fn 94) (hro:F.round=none) (l Bs:Nat) (a:Option Addr) (cap:Nat) (J:World->Prop) (W:World) (hBs:W.cell? (iu Bs 0)=some (.slice a 0 cap)) (h0:J W):
  CallsIn F n prog 94 #[.func (.yield l) #[] #[],iq Bs] W λe W'=>(∃ v,e=.returned v)/\J W':=by
 refine eK func94 rfl h8 ?_ hro;simp only[ntmps94,NT,Nat.reduceAdd,Nat.reduceSub]
 gi_wp2
 gi_loopw [3] (λi wr=>i=iw (-1)/\J wr) (λ_ _=>0)
 case atStart=>exact⟨rfl,h0⟩
 case round=>
  obtain⟨rfl,b⟩:=hrel
  gi_wp2
  go_end0;exact⟨⟨_,rfl⟩,b⟩
theorem Ie (F:Fence) (n:Nat) (h8:F.fn 94) (hro:F.round=none) (Bs:Nat) (a:Option Addr) (cap:Nat) (w:World) (hBs:w.cell? (iu Bs 0)=some (.slice a 0 cap)) (hl:Bs<w.heap.size):
  SeqStopsK F n prog 94 #[iq Bs] (λx:Empty=>x.elim) (λ_ _=>True) (λ_=>True) (λ_=>False) 0 w:=λl J _ W c _ _ _ b=>
 (Ic F n h8 hro l Bs a cap (J []) W ((c.cell (p:=iu Bs 0) hl).trans hBs) b).mono λ_ _ ⟨he,d⟩=>⟨he,.inl ⟨[],trivial,d⟩⟩
theorem Ig (a:Option Addr) (len cap:Nat) (w:World):
  Calls prog 55 #[.slice a len cap] w λe w'=>e=.returned (.func (.func 94) #[] #[iq w.heap.size])/\w'=w.alloc (.cells #[.slice a len cap] 116):=dJ.1 (Ib .wide 3 trivial rfl a len cap w)
def Dk.at (d:Dk) (n:Nat):iz:=(d.sure.drop (n*64)).take 64
theorem yR {w:World}{F:Nat->Prop}{p:Nat}{D:Dk}(h:At w F p D) (hp:D.kC=[]) (n:Nat) (hn:n<D.size):Calls prog 24 #[iq p,iw n] w (λe w'=>∃ v,e=.returned (.tuple #[v,iw 0])/\w'.ownsRow w.heap.size 5 1 v 64 (aQ (D.at n))/\Below w.heap.size w w'):=by
 obtain⟨J,d,c3,mD⟩:=h.HT;obtain⟨pv,pcs,c4,V,b3⟩:=h.BW;obtain⟨s,b,rfl,ax,ay⟩:=Cells.shape V;rw[hp] at c4;clear V b3 ax ay;obtain⟨m,hm⟩:=Ex D.sure.length;rw[<-hm] at c3 mD;have hd:(decide ((0:Int)<=n/\(n:Int)<D.size))=true:=by simp;omega
 have X:=h.lim p h.self
 have N:∀ u,Below w.heap.size w u->Calls prog 54 #[iq p,iw n] u λe w'=>e=.returned (.bool true)/\u=w':=λu hb=>by have:=vB (h.dB hb.size (λk hk hl=>hb.block k hl)) n;rw[hd] at this;exact this
 have a1:=LH N;have H:=LH h;have B:=LH hm;clear h N;refine (dJ (n:=3)).1 ?_;refine callsIn_of_wp_marks func24 rfl trivial ?_ rfl;simp only[ntmps24,NT,Nat.reduceAdd,Nat.reduceSub];refine dU.2 ?_
 go_wp2_with fail
 refine (a1.o _ ((((ag _ w).alloc (ae _) _).alloc sm _).alloc (by simp;omega) _)).mono ?_;rintro e w1 ⟨rfl,rfl⟩;have b0:=((Boxed.new w 3 (iw n)).alloc (.cells #[.slice none 0 0] 42)).alloc (.cells #[iw 0] 47);have b1:=(Boxed.new (w.alloc (.cells #[iw n] 3)) 42 (.slice none 0 0)).alloc (.cells #[iw 0] 47);have b2:=Boxed.new ((w.alloc (.cells #[iw n] 3)).alloc (.cells #[.slice none 0 0] 42)) 47 (iw 0);have Q:Below w.heap.size w (((w.alloc (.cells #[iw n] 3)).alloc (.cells #[.slice none 0 0] 42)).alloc (.cells #[iw 0] 47)):=((((ag _ w).alloc (ae _) _).alloc sm _).alloc (by simp;omega) _);simp only[aN] at b1 b2;have b4:(((w.alloc (.cells #[iw n] 3)).alloc (.cells #[.slice none 0 0] 42)).alloc (.cells #[iw 0] 47)).heap.size=w.heap.size+3:=by simp
 generalize (((w.alloc (.cells #[iw n] 3)).alloc (.cells #[.slice none 0 0] 42)).alloc (.cells #[iw 0] 47))=W3 at*;have b8:=(Q.cell (p:=iu p 4) X).trans c4
 go_wp2_with fail
 refine (Ig _ _ _ _).mono ?_;rintro e w1 ⟨rfl,rfl⟩;have bk:=Boxed.new W3 116 (.slice s 0 b);have af:Below w.heap.size w (W3.alloc (.cells #[.slice s 0 b] 116)):=Q.alloc om _;have a6:=b0.alloc (.cells #[.slice s 0 b] 116);have a7:=b1.alloc (.cells #[.slice s 0 b] 116);have a8:=b2.alloc (.cells #[.slice s 0 b] 116);have bp:(W3.alloc (.cells #[.slice s 0 b] 116)).heap.size=w.heap.size+4:=by simp;omega
 have Y:=Ie .wide 2 trivial rfl W3.heap.size s b _ bk.cell bk.lt;rw[b4] at Y;generalize (W3.alloc (.cells #[.slice s 0 b] 116))=W4 at*
 go_wp2_with fail
 refine (dU (n:=3)).1 ?_
 refine wpIn_rangeFunc_ownF (F:=.wide) (n:=3) (P:=prog) (α:=Empty) rfl om (gf:=94) (lb:=#[iq (w.heap.size+3)]) ?hg trivial (enters_of func94 kr rfl) Y (λ_ _=>trivial) (λ_ _ _ _ _ _ _ _=>trivial) (ag _ _) (λx=>x.elim)
  (λ_ W=>Below W4.heap.size W4 W) (λ_ _ _=>False) (ownFrom_below (ae _) (ae _)) (λ_ _ _ _ _ hs _ _=>hs) (ag _ _) (λx=>x.elim) (λ_ x=>x.elim) (λ_ _ x=>x.elim) ?done (λ_ _ _ _ _ h=>h.elim)
 case hg=>rfl
 case done=>
  rintro A ys W hD _ O hK;have f:Below w.heap.size w W:=af.trans (O.mono om);have M:=(f.cell (p:=iu p 3) X).trans c3;have z0:Boxed W w.heap.size 3 (iw n):=(O.block _ om).trans a6;have z1:Boxed W (w.heap.size+1) 42 (.slice none 0 0):=(O.block _ om).trans a7;have z2:Boxed W (w.heap.size+1+1) 47 (iw 0):=(O.block _ om).trans a8;have bz:=O.size;have l:Bytes W F (ir J m d) D.sure:=Cells.dB mD f.size (λk _ hk=>f.block k hk)
  have an:n*64+64<=m:=by have:=H.o.full.1;have:=B.o;have h3:D.size=D.sure.length / 64:=rfl;omega
  have bl:m<=4194304:=by have:=H.o.full;have:=B.o;omega
  have q:Bytes W F (.slice (some (iu J (n*64))) 64 (d - n*64)) (D.at n):=by
   have h0:Cells W F (ir J m d) m 1 (aQ D.sure):=by have h:=l;unfold Bytes at h;rw[<-B.o] at h;exact h
   have h1:=Cells.sliced h0 (n*64) (n*64+64) om an;have ba:m<=d:=by obtain⟨_,_,hv,h1,_⟩:=Cells.shape mD;cases hv;rw[<-B.o] at h1;exact h1
   rw[pK _ _ _ _ _ _ om] at h1;have C:n*64+64 - n*64=64:=om;have hl:(D.at n).length=64:=by simp only[Dk.at,aR,bM];have:=B.o;omega
   simp only[C,aY,aw] at h1;show Cells _ _ _ _ _ _;rw[hl]
   simpa [Dk.at,aQ] using h1
  have S:n*64+64<=d:=by obtain⟨_,_,hv,h1,_⟩:=Cells.shape mD;cases hv;have:=B.o;omega
  have j:(D.at n).length=64:=by simp only[Dk.at,aR,bM];have:=B.o;omega
  have L:=LH q;have K:=LH j;clear q l j
  go_wp2_with fail
  have i:=Dr W
  refine RA.oz (aA No) (·=·) [5,5,5,1,1,1,1,1,1,1,3,7,7] [11,12] (λ_ _ _=>True) (λ_=>True) kr (aA.refl _ _) (λ_ _ h=>h ▸ aA.refl _ _) (λ_ _ _ h k=>h.trans k) (λ_ _ h k=>h ▸ k) trivial kr kr ?_;intro c;refine RA.sf rf rf rf ?_;refine RA.we rf rf rf ?_;refine RA.wg rf rf rf (y':=.pointer (some (iu p 3))) (λa=>by show (Instr.fieldAt _ _ _).run prog a=_;go_simp) ?_
  refine RA.ld (y':=ir J m d) (hr:=λa hp=>by have h1:=((i _ hp.1).cell (p:=iu p 3) (lq M) id).trans M;show (Instr.loadAt _ _).run prog a=_;go_simp) (h:=?_)
  refine RA.ld (y':=iw n) (hr:=λa hp=>by have h1:=((i _ hp.1).cell (p:=iu w.heap.size 0) z0.lt id).trans z0.cell;show (Instr.loadAt _ _).run prog a=_;go_simp) (h:=?_)
  refine RA.mi (r:=((n*64:Nat):Int)) (he:=by omega) (h:=?_)
  refine RA.ld (y':=iw n) (hr:=λa hp=>by have h1:=((i _ hp.1).cell (p:=iu w.heap.size 0) z0.lt id).trans z0.cell;show (Instr.loadAt _ _).run prog a=_;go_simp) (h:=?_)
  refine RA.ai (r:=((n+1:Nat):Int)) (he:=by omega) (h:=?_);refine RA.mi (r:=((n*64+64:Nat):Int)) (he:=by omega) (h:=?_)
  refine RA.v7 (y':=.slice (some (iu J (n*64))) 64 (d - n*64)) (hr:=(λa _=>by have h1:=vU (P:=prog) a underlying42 vC (some (iu J 0)) m d (n*64) (n*64+64) om S;rw[pK _ _ _ _ _ _ om] at h1;have C:n*64+64 - n*64=64:=om;simp only[C,aY,aw] at h1;exact h1)) (h:=?_)
  refine RA.qc (P:=prog) [_] (λ_ _=>True) (λv a=>a.ownsRow W.heap.size 5 1 v 64 (aQ (D.at n))/\Below W.heap.size W a) (hs:=λ_ _ _ _ _=>trivial) (hr:=λa hp _=>by have hR:=i _ hp.1;refine (q0 (w:=a) (L.o.ki hR (λ_ _ _=>id)) (by rw[K.o];omega)).mono ?_;rintro e Z ⟨u,rfl,ho,R,_⟩;rw[K.o] at ho;refine⟨_,rfl,aA.dD R _,trivial,⟨ho.1,ho.2.imp id ?_⟩,hR.no.trans (R.mono hR.size)⟩;rintro⟨g,cap,cur,C,e2,r⟩;exact⟨g,cap,cur,C,am hR.size e2,r⟩) (hn:=λu=>?_)
  refine RA.lr (λZ=>∃ a,a.ownsRow W.heap.size 5 1 u 64 (aQ (D.at n))/\Below W.heap.size W a/\Z=a.setCell (iu (w.heap.size+1) 0) u) (hr:=λa _ hH=>by
   obtain⟨t,y⟩:=hH;have z:=(show Boxed a _ _ _ from (y.block _ z1.lt).trans z1);have hc:=z.cell;have hf:=z.frozen;refine⟨_,RA.kL rf rf (w':=a.setCell (iu (w.heap.size+1) 0) u) ?_,a,t,y,rfl⟩;rcases t.2 with ⟨_,h0⟩|⟨g,cap,cur,rfl,_⟩
   ·omega
   ·clear t;show (Instr.storeAt _ _ _).run prog a=_;go_simp) (hn:=?_)
  refine RA.lr (λZ=>∃ a,a.ownsRow W.heap.size 5 1 u 64 (aQ (D.at n))/\Below W.heap.size W a/\Z=(a.setCell (iu (w.heap.size+1) 0) u).setCell (iu (w.heap.size+1+1) 0) (iw 0)) (hr:=(λZ _ hH=>by obtain⟨a,t,y,rfl⟩:=hH;have z:=(show Boxed a _ _ _ from (y.block _ z2.lt).trans z2);have z':Boxed (a.setCell (iu (w.heap.size+1) 0) u) (w.heap.size+1+1) 47 (iw 0):=z.kept (grownBy_setCell' a _ u) sm;have hc:=z'.cell;have hf:=z'.frozen;refine⟨_,RA.kL rf rf (w':=(a.setCell (iu (w.heap.size+1) 0) u).setCell (iu (w.heap.size+1+1) 0) (iw 0)) ?_,a,t,y,rfl⟩;generalize a.setCell (iu (w.heap.size+1) 0) u=w5 at*;show (Instr.storeAt _ _ _).run prog w5=_;go_simp)) (hn:=?_)
  refine RA.RA.kZ (λw5 hH=>?_);simp only[RA.RP,c];obtain⟨a,t,y,rfl⟩:=hH;have R1:=LH t;have R2:=LH y;clear t y
  go_wp2_with fail
  have aa:A<W.heap.size:=(bm.1 hK).1;have ad:a.heap[A]?=some (.deferred (some [])):=(R2.o.block _ aa).trans hK;have x1:Boxed a (w.heap.size+1) 42 _:=(R2.o.block _ z1.lt).trans z1;have x2:Boxed a (w.heap.size+1+1) 47 _:=(R2.o.block _ z2.lt).trans z2;have b6:Boxed ((a.setCell (iu (w.heap.size+1) 0) u).setCell (iu (w.heap.size+1+1) 0) (iw 0)) _ _ _:=(x1.set u).kept (grownBy_setCell' _ _ (iw 0)) sm;have b7:Boxed ((a.setCell (iu (w.heap.size+1) 0) u).setCell (iu (w.heap.size+1+1) 0) (iw 0)) _ _ _:=(x2.kept (grownBy_setCell' _ _ u) sm).set (iw 0)
  have E:((a.setCell (iu (w.heap.size+1) 0) u).setCell (iu (w.heap.size+1+1) 0) (iw 0)).heap[A]?=some (.deferred (some [])):=by rw[kD _ _ _ (by simp;omega),kD _ _ _ (by simp;omega)];exact ad
  have b5:Below w.heap.size w ((a.setCell (iu (w.heap.size+1) 0) u).setCell (iu (w.heap.size+1+1) 0) (iw 0)):=((f.trans (R2.o.mono f.size)).setCell (p:=iu (w.heap.size+1) 0) sm _).setCell (p:=iu (w.heap.size+1+1) 0) (by simp;omega) _
  have I:((a.setCell (iu (w.heap.size+1) 0) u).setCell (iu (w.heap.size+1+1) 0) (iw 0)).ownsRow W.heap.size 5 1 u 64 (aQ (D.at n)):=by refine dE R1.o (λg hg=>?_);have:=kJ R1.o g hg;rw[kD _ _ _ (by simp;omega),kD _ _ _ (by simp;omega)]
  generalize (a.setCell (iu (w.heap.size+1) 0) u).setCell (iu (w.heap.size+1+1) 0) (iw 0)=W5 at*;refine⟨by simp,.inl ⟨_,_,rfl,run_takeDeferred E,?_⟩⟩;have G:=grownBy_putObj' W5 A (.deferred none);have T:∀ k,k<w.heap.size+4->some k≠some A:=λk hk e=>by simp at e;omega
  have C:=(b6.kept G (T _ om)).cell;have e2:=(b7.kept G (T _ om)).cell;refine⟨.tuple #[u,iw 0],?_,u,rfl,?_,?_⟩
  ·simp[results,f24,go_sem,C,e2]
  ·have U:=dE I (w':=W5.putObj A (.deferred none)) (λg hg=>G.block g (kt I g hg) (λe=>by
    cases e
    rcases I.2 with ⟨rfl,_⟩|⟨g,_,_,rfl,_,h,_⟩
    ·simp[Value.ownBlock] at hg
    ·simp[Value.ownBlock] at hg;subst hg;rw[E] at h;cases h))
   refine⟨U.1,U.2.imp id ?_⟩;rintro⟨g,cap,cur,q1,q2,q3⟩;exact⟨g,cap,cur,q1,am f.size q2,q3⟩
  ·exact b5.trans (belowK_b (w:=w) (ae _) W5 A _ _ om E rfl rfl)
end Go.Proofs.YthmcbgidehjlbaaGreat.D
namespace Go.Proofs.YthmcbgidehjlbaaGreat.D
open _root_.Go.Proofs.Tryz
open Go Go.RowKit K
variable {w w1 w2:World}{p:Nat}
def Dk.plain (d:Dk):Prop:=d.oO=false/\d.qJ=false
theorem Dk.plain.lO {d:Dk}(h:d.plain):d.lO=d:=by obtain⟨b,le,da,s,p⟩:=d;obtain⟨h1,a⟩:=h;subst h1 a;simp[Dk.lO]
theorem yS {F:Nat->Prop}{D:Dk}(h:At w F p D) (hp:D.plain) (hfew:D.kC.length<1000000000) (n:Nat) (hn:n<D.size){S:Nat->Prop}{v:Value}{l:iz}(hb:Bytes w S v l) (hS:∀ k,S k->¬ F k) (hl:l.length=64):
  Calls prog 66 #[iq p,iw n,v] w λe w'=>e=.returned (iw 0)/\tu w F p { D with kC:=D.kC++[(n,l)] } w':=by
 have hm:mq D n 64=0:=by simp[mq];omega
 refine (HZ h hfew n hb hS).mono ?_;rintro e w' ⟨rfl,a⟩;refine⟨mI ?_,?_⟩
 ·simp[Dk.vG,hp.lO,hp.1,hl,hm]
 ·rw[Dk.put,hp.lO,ak ⟨hp.1,by rw[hl];exact hm⟩] at a;exact a
def oD (w:World) (p:Nat) (D:Dk) (w':World):Prop:=∃ F,At w' F p D/\(∀ k,F k->w.heap.size<=k)/\Below w.heap.size w w'
theorem oD.below {D:Dk}(h:oD w p D w1):Below w.heap.size w w1:=let ⟨_,_,_,hb⟩:=h;hb
theorem oD.dB {D:Dk}(h:oD w p D w1) (hb:Below w1.heap.size w1 w2):oD w p D w2:=
 let ⟨F,h1,d,c⟩:=h
 ⟨F,h1.dB hb.size (λb _ a=>hb.block b a),d,c.trans (hb.mono c.size)⟩
theorem oD.then {w3:World}{D D':Dk}{F:Nat->Prop}(h1:oD w p D w1) (h2:∀ k,F k->w.heap.size<=k) (hb:Below w1.heap.size w1 w2) (h:tu w2 F p D' w3):oD w p D' w3:=by obtain⟨c,e,b,f,-⟩:=h;have hs:=am h1.below.size hb.size;refine⟨c,e,λk hk=>(f k hk).elim (h2 k) (λh=>am hs h),?_⟩;have a:=h1.below.trans (hb.mono h1.below.size);exact⟨b.os.trans a.os,b.tape.trans a.tape,b.output.trans a.output,am hs b.size,λk hk=>(b.block k om (λd=>by have:=h2 k d;omega)).trans (a.block k hk)⟩
theorem oD.put {D:Dk}(h:oD w p D w1) (hb:Below w1.heap.size w1 w2) (hp:D.plain) (hfew:D.kC.length<1000000000) (n:Nat) (hn:n<D.size){S:Nat->Prop}{v:Value}{l:iz}(hv:Bytes w2 S v l) (hS:∀ k,S k->w1.heap.size<=k) (hl:l.length=64):
  Calls prog 66 #[iq p,iw n,v] w2 λe w'=>e=.returned (iw 0)/\oD w p { D with kC:=D.kC++[(n,l)] } w':=by
 have f:=h;obtain⟨F,h1,c,g⟩:=h;refine (yS (h1.dB hb.size (λb _ a=>hb.block b a)) hp hfew n hn hv (λk hk d=>by have:=h1.lim k d;have:=hS k hk;omega) hl).mono ?_;rintro e w' ⟨rfl,ht⟩;exact⟨rfl,f.then c hb ht⟩
theorem oD.new (n:Nat) (h1:1<=n) (h2:n<=65536) (w:World):Calls prog 35 #[iw n] w λe w'=>∃ p,e=.returned (.tuple #[iq p,iw 0])/\oD w p (.new n) w':=by refine (tU n h1 h2 w).mono ?_;rintro e d ⟨p,F,rfl,a,c,b⟩;exact⟨p,rfl,F,a,c,b⟩
theorem oD.get {D:Dk}(h:oD w p D w1) (hp:D.kC=[]) (n:Nat) (hn:n<D.size):
  Calls prog 24 #[iq p,iw n] w1 λe w'=>∃ g cap,e=.returned (.tuple #[ir g 64 cap,iw 0])/\w1.heap.size<=g/\Bytes w' (·=g) (ir g 64 cap) (D.at n)/\Below w1.heap.size w1 w':=by
 obtain⟨F,h1,d,f⟩:=h;refine (yR h1 hp n hn).mono ?_;rintro e w' ⟨v,rfl,a,hb⟩;have hc:=Cells.own a;rcases a.2 with ⟨_,c⟩|⟨g,cap,cur,rfl,hg,_⟩
 ·omega
 ·have b:(D.at n).length=64:=by have:=a.1;simpa [aQ] using this
  refine⟨g,cap,rfl,hg,?_,hb⟩;show Cells _ _ _ _ _ _;rw[b];exact hc.mono (λk _ hk=>by have:=hk.1;simp[Value.ownBlock] at this;exact this.symm)
theorem At.Ih {w:World}{F:Nat->Prop}{p:Nat}{D:Dk}(h:At w F p D):∃ g cap cur pv pcs,w.heap[p]?=some (.cells #[.bool D.qJ,iw D.left,.bool D.oO,ir g D.sure.length cap,pv] 122 (0,0))/\
  w.heap[g]?=some (.cells cur 5 (0,0))/\D.sure.length<=cap/\cap<=maxLen/\cur.size=cap/\cur.toList.take D.sure.length=aQ D.sure/\F g/\g≠p/\
  Cells w (λk=>F k/\k≠p/\k≠g) pv D.kC.length 2 pcs/\ns w (λk=>F k/\k≠p/\k≠g) D.kC pcs:=by
 obtain⟨⟨sv,pv,pcs,h1,d,f,i,j,l,c,m,n⟩,q,r,o,a2,a3,a4⟩:=h;rcases d.2 with ⟨rfl,_⟩|⟨g,cap,cur,rfl,hb,hg,c1,c2,c3,c4⟩
 ·simp[Value.ownBlock] at n
 have a:g≠p:=λe=>i (by simp[Value.ownBlock,e])
 refine⟨g,cap,cur,pv,pcs,h1,hg,c1,c2,by simpa using c3,by simpa using c4,c g (.inl rfl),a,(Cells.own f).mono (λb _ hb=>⟨c b (.inr hb.1),λe=>j (by rw[<-e];exact hb.1),λe=>l g rfl (by rw[<-e];exact hb.1)⟩),m.mono (λb _ hb=>⟨hb.1,hb.2.1,λe=>hb.2.2.1 (by simp[Value.ownBlock,e])⟩)⟩
def Dk.rV (d:Dk):Dk:={ d.lO with sure:=mV d.sure d.kC,kC:=[] }
theorem BZ {w:World}{F:Nat->Prop}{p:Nat}{D:Dk}(h:At w F p D) (hd:D.lO.oO=false):Calls prog 67 #[iq p] w λe w'=>e=.returned (iw 0)/\∃ F',At w' F' p D.rV/\aA F w w'/\(∀ k,F' k->F k)/\l5 p w w'/\∀ k,F' k->k=p\/∃ n c,w'.cell? (iu p 3)=some (ir k n c):=by
 have V:=LH (BV h);have HD:=LH hd;clear hd;go_enter func67,ntmps67
 go_wp2_with fail
 refine V.o.mono ?_;rw[HD.o];rintro e Q ⟨rfl,L,bA,ad⟩;obtain⟨g,cap,cur,pv,pcs,r,hg,q1,q2,q3,q4,X,j,z,O⟩:=L.Ih;have a1:D.lO.kC=D.kC:=rfl;have a6:D.lO.sure=D.sure:=rfl;rw[a1] at z O;rw[a6] at r q1 q4;obtain⟨m,hm⟩:=Ex D.sure.length;obtain⟨n,hn⟩:=Ex D.kC.length;rw[<-hm] at r q1 q4;rw[<-hn] at z;have c7:m<=4194304:=by have:=h.full;omega
 have c8:n<=1000000000:=by have:=h.mL;omega
 obtain⟨pa,A,rfl,c9,ca⟩:=Cells.shape z;have c3:=cell_of r 3;have c4:=cell_of r 4;have J:p<Q.heap.size:=dC r;have H:=LH h;have b2:=LH L;have HM:=LH hm;have HN:=LH hn;have b6:=LH z;have b7:=LH O;have HG:=LH hg;have b4:=LH q3;have b5:=LH q4;have T:=LH r;clear h L hm hn z O hg q3 q4 a1 a6 V r
 have b8:Hd (∀ wr,aA (·=g) Q wr->Cells wr (λk=>F k/\k≠p/\k≠g) (.slice pa n A) n 2 pcs/\ns wr (λk=>F k/\k≠p/\k≠g) D.kC pcs):=λwr hb=>⟨b6.o.dB hb.size (λb Y I=>hb.block b I Y.2.2),b7.o.dB hb.size (λb Y I=>hb.block b I Y.2.2)⟩
 go_wp2
 go_loopw [19] (λi wr=>∃ k:Nat,k<=n/\i=iw k/\aA (·=g) Q wr/\∃ C:Array Value,Hd (wr.heap[g]?=some (.cells C 5 (0,0))/\C.size=cap/\C.toList.take m=aQ (mV D.sure (D.kC.take k))))
  (λi _=>n - (intOf i).toNat)
 case atStart=>exact⟨0,aW _,rfl,aA.refl _ _,cur,HG.o,b4.o,by simpa [mV] using b5.o⟩
 case round=>
  obtain⟨k,hk,rfl,d,C,t⟩:=hrel;have ax:=d.size;by_cases N:k<n
  ·obtain⟨Z,a8⟩:=b8.o wr d;obtain⟨b,off,W,bc,rfl,_,I,bW,bp,c5,M,x⟩:=Hy Z a8 HN.o k N;obtain⟨q,hq⟩:=Ex (D.kC[k]'(HN.o ▸ N));rw[<-hq] at bp M x;have HQ:=LH hq;have b3:=LH M;have R:=LH x;clear Z a8 hq M x;have bC:g<wr.heap.size:=dC t.o.1;have u:wr.heap[p]?=_:=(d.block p J (λe=>j e.symm)).trans T.o;have G:=LH u;clear u
   have aa:q.1*64+64<=m:=by have h1:=H.o.xm q (by rw[HQ.o];exact bK _);have h2:=H.o.full;have h3:=HM.o;omega
   have U:=LH aa;clear aa;go_wp2;obtain⟨B,K⟩:=Ex ((wr.alloc (.cells #[iw q.1,.slice W 64 bc] 118)).drew)
   have hW:B.heap.size=wr.heap.size+1/\B.heap[g]?=some (.cells C 5 (0,0))/\B.heap[p]?=some (.cells #[.bool D.lO.qJ,iw D.lO.left,.bool D.lO.oO,ir g m cap,.slice (some (iu b off)) n A] 122 (0,0))/\
     B.heap[wr.heap.size]?=some (.cells #[iw q.1,.slice W 64 bc] 118 (0,0))/\Bytes B (λk=>(F k/\k≠p/\k≠g)/\k<wr.heap.size) (.slice W 64 bc) q.2/\aA (·=g) Q B:=by
    subst K;exact⟨by simp,(aB _ _ _ bC).trans t.o.1,(aB _ _ _ om).trans G.o,aj _ _,Cells.dB (b3.o.mono (λk hk Y=>⟨Y,hk⟩)) sm (λk _ hk=>aB _ _ _ hk),(d.alloc _).drew⟩
   obtain⟨z1,z2,z3,z4,z5,z6⟩:=hW;have bD:p≠g:=λe=>j e.symm
   have ay:wr.heap.size≠g:=om;refine RA.region (aA (·=g)) (aA No) [1,1,1,1,1,4] (λ_ _ _=>True) (λf=>f.heap[g]?=some (.cells C 5 (0,0))) kr (aA.refl _ _) (λ_ _ h=>h.mono (λ_ _ h=>h.elim)) (λ_ _ _ h k=>h.trans k) (λa b h k=>(h.block g (dC k) id).trans k) (by rw[<-K];exact z2) kr ?_;rw[<-K];intro c;refine RA.mv (h:=?_);refine RA.nc rf rf rf ?_;refine RA.fa rf rf rf (y':=.pointer (some (iu p 3))) (λf hp=>by show (Instr.fieldAt _ _ _).run prog f=_;go_simp) ?_
   refine RA.ld (y':=ir g m cap) (hr:=(λf hp=>by have E:aA (·=g) B f:=hp.1;have h1:=cell_of ((E.block _ (dC z3) bD).trans z3) 3;show (Instr.loadAt _ _).run prog f=_;go_simp)) (h:=?_)
   refine RA.ld (y':=.agg #[iw q.1,.slice W 64 bc]) (hr:=(λf hp=>by have E:aA (·=g) B f:=hp.1;have h0:=cell_of ((E.block _ (dC z4) ay).trans z4) 0;have h1:=cell_of ((E.block _ (dC z4) ay).trans z4) 1;show (Instr.loadAt _ _).run prog f=_;go_simp)) (h:=?_)
   refine RA.kc (P:=prog) [_,_] (.tuple #[]) (λf=>f.heap[g]?=some (.cells (splice C.toList (q.1*64) (aQ q.2)).toArray 5 (0,0))) (he:=λa b h k=>(h.block g (dC k) id).trans k) (hr:=(λf hp hH=>by have E:aA (·=g) B f:=hp.1;refine (Hv (w:=f) (g:=g) (n:=m) (cap:=cap) (cur:=C) hH q1 t.o.2.1 q2 q.1 (S:=λk=>(F k/\k≠p/\k≠g)/\k<wr.heap.size) (v:=.slice W 64 bc) (b:=q.2) (z5.ki E (λk hk hF e=>hF.1.2.2 e)) R.o U.o).mono ?_;rintro e w4 ⟨rfl,h1,h2⟩;exact⟨rfl,h2,h1⟩)) (hn:=?_)
   refine RA.RA.done rfl (λf E hF hH=>?_);have E:aA (·=g) B f:=E;simp only[RA.RP,c];have HH:=LH hH;clear hH hF;have bl:aA (·=g) Q f:=z6.trans E;go_wp2;go_roundw
   case rel=>obtain⟨r1,r2⟩:=HF (l:=D.kC) (k:=k) (s:=D.sure) (q:=q) t.o.2.1 q1 t.o.2.2 (by rw[<-HN.o];exact N) HQ.o R.o U.o;exact⟨k+1,by omega,by go_num,bl,_,HH.o,r1,r2⟩
   case measure=>simp[intOf];omega
  ·have bR:wr.cell? (iu p 4)=some (.slice pa n A):=(d.cell (p:=iu p 4) J (λe=>j e.symm)).trans c4;have u:wr.heap[p]?=_:=(d.block p J (λe=>j e.symm)).trans T.o;have c6:=kY u 4;have G:=LH u;clear u;go_wp2;go_ret;obtain⟨g1,g2,g3⟩:=t.o;have bB:k=D.kC.length:=by rw[<-HN.o];omega
   rw[bB,cS] at g3;have y:(mV D.sure D.kC).length=D.sure.length:=Dk.HJ H.o;have ax:D.rV.size=D.size:=by simp only[Dk.rV,Dk.size,y]
   have a7:=lz G.o 4 (.slice none 0 0);have af:l5 p wr (wr.setCell (iu p 4) (.slice none 0 0)):=yQ G.o 4 _ de;have an:l5 p Q wr:=az (d.block p J (λe=>j e.symm));have bz:=cell_of a7 3;refine⟨rfl,λk=>k=p\/k=g,At.made (g:=g) (cap:=cap) (cur:=C) (D:=D.rV) ?_ ?_ j ?_ ?_ rfl b2.o.lo ?_,?_,?_,(af.trans an).trans ad,?_⟩
   ·show _=some (Obj.cells #[_,_,_,.slice _ (mV D.sure D.kC).length _,_] _ _);rw[y,<-HM.o];exact a7
   ·exact (kD _ _ _ j).trans g1
   ·show (mV D.sure D.kC).length<=_/\_;rw[y,<-HM.o];exact⟨q1,q2,g2⟩
   ·show C.toList.take (mV D.sure D.kC).length=aQ (mV D.sure D.kC);rw[y,<-HM.o];exact g3
   ·show (mV D.sure D.kC).length=64*D.rV.size/\_;rw[ax,y];exact H.o.full
   ·exact ((bA.trans (d.mono (λk _ e=>e ▸ X))).setCell (λ_=>H.o.self) _)
   ·rintro k (rfl|rfl)
    ·exact H.o.self
    ·exact X
   ·rintro k (rfl|rfl)
    ·exact .inl rfl
    ·exact .inr ⟨_,_,bz⟩
end Go.Proofs.YthmcbgidehjlbaaGreat.D

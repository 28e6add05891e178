/-
 Parts of the proof. No condition beyond what each theorem names.
-/
import Derived.Test.YthmcbgidehjlbaaGreatFrAv
import Derived.Test.YthmcbgidehjlbaaGreatFrBc
set_option maxRecDepth 100000
set_option maxHeartbeats 8000000
namespace Go.Proofs.YthmcbgidehjlbaaGreat.Fd
open _root_.Go.Proofs.Tryz
open Go Go.RowKit K
def mH (w:World) (k v:Nat) (la:List P.Ar) (trip:Bool):Prop:=∃ a cap,w.heap[k]?=some (.cells #[iq v,.slice a la.length cap,.bool trip] 52 (0,0))/\Cells w (λg=>∃ cs,w.heap[g]?=some (.cells cs 27 (0,0))) (.slice a la.length cap) la.length 2 (P.lV la)
section
variable {w w':World}{k v:Nat}{la:List P.Ar}{trip:Bool}
theorem mH.dB (h:mH w k v la trip) (hs:w.heap.size<=w'.heap.size) (hk:∀ (g:Nat) (cs:Array Value) (t:TypeId),t=52\/t=27->w.heap[g]?=some (.cells cs t (0,0))->w'.heap[g]?=w.heap[g]?):mH w' k v la trip:=by obtain⟨a,cap,h1,c⟩:=h;refine⟨a,cap,(hk _ _ _ (.inl rfl) h1).trans h1,?_⟩;refine Cells.mono (Cells.dB c hs (λb ⟨cs,hb⟩ _=>hk b cs _ (.inr rfl) hb)) (λb _ ⟨cs,hb⟩=>⟨cs,(hk b cs _ (.inr rfl) hb).trans hb⟩)
theorem mH.after (h:mH w k v la trip) (hb:Below w.heap.size w w'):mH w' k v la trip:=h.dB hb.size (λg _ _ _ hg=>hb.block g (dC hg))
theorem mH.kO (h:mH w k v la trip){G:VG}{s:kS}{S:VT}(hV:ly G w s S) (hs:lL G w w'):mH w' k v la trip:=h.dB hs.ki.size (λg cs t ht hg=>hs.at hV hg (by rcases ht with rfl|rfl<;>decide))
theorem mH.of (h:GuardAt w k v la trip):mH w k v la trip:=by obtain⟨g,cap,h1,a⟩:=h;refine⟨some (iu g 0),cap,h1,Cells.mono a.cells (λb _ e=>?_)⟩;obtain⟨cur,c,_⟩:=a;exact⟨cur,e ▸ c⟩
theorem mH.lt (h:mH w k v la trip):k<w.heap.size:=by obtain⟨a,cap,h1,_⟩:=h;exact dC h1
theorem mH.c0 (h:mH w k v la trip):w.cell? (iu k 0)=some (iq v):=by obtain⟨a,cap,h1,_⟩:=h;exact cell_of h1 0
theorem mH.Lt (h:mH w k v la trip):mH (w.setCell (iu k 2) (.bool true)) k v la true:=by
 obtain⟨c,cap,h1,d⟩:=h
 have a:∀ (g:Nat) (cs:Array Value) , w.heap[g]?=some (.cells cs 27 (0,0))->(w.setCell (iu k 2) (.bool true)).heap[g]?=w.heap[g]?:=λg cs hg=>kD _ _ _ (by rintro rfl;rw[h1] at hg;simp only[IJ] at hg;exact absurd hg.2.1 de)
 refine⟨c,cap,lz h1 2 (.bool true),?_⟩;exact Cells.mono (Cells.dB d (by rw[ff];exact ae _) (λb ⟨cs,hb⟩ _=>a b cs hb)) (λb _ ⟨cs,hb⟩=>⟨cs,(a b cs hb).trans hb⟩)
theorem Lu (h:mH w k v la trip):Calls prog 21 #[iq k] w λe w'=>e=.returned (.bool trip)/\w=w':=by obtain⟨a,cap,h1,_⟩:=h;have c2:=cell_of h1 2;clear h1;go_enter func21,ntmps21;go_wp2;go_ret;exact⟨rfl,rfl⟩
end
theorem lL.back {G:VG}{w w':World}(h:lL G w w'){g:Nat}(hg:g<w.heap.size) (e:lp G w' g):lp G w g:=by
 rcases e with e|e|e
 ·exact (h.uL g e).elim .inl (λe=>absurd hg om)
 ·exact .inr (.inl (e.imp id (λe=>⟨e.1,h.row g hg e.1 e.2⟩)))
 ·exact .inr (.inr e)
theorem xO (kh:Bool) (i:Int) (N:Nat):mq kh i N=6\/mq kh i N=1\/mq kh i N=3\/(mq kh i N=0/\kh=false/\N % 64=0/\0<=i/\i+(N / 64:Nat)<=50):=by
 unfold mq;by_cases h1:kh=true
 ·rw[ak h1];exact .inl rfl
 ·rw[ah h1];by_cases b:N % 64≠0\/64<N / 64
  ·rw[ak b];exact .inr (.inl rfl)
  ·rw[ah b];by_cases a:p9 i (N / 64:Nat)=true
   ·rw[ak a];have:=dw a;exact .inr (.inr (.inr ⟨rfl,by simpa using h1,by omega,by omega,by omega⟩))
   ·rw[ah a];exact .inr (.inr (.inl rfl))
def qP (la:List P.Ar) (kh:Bool) (i:Int) (N:Nat):Int:=if mq kh i N=0 then (if la.any (λa=>P.o8 a (60+i,(N / 64:Nat)))=true then 7 else 0) else mq kh i N
theorem Lv {G:VG}{w:World}{s:kS}{S:VT}{k:Nat}{la:List P.Ar}{trip:Bool}(hk:mH w k G.v la trip) (hV:ly G w s S){Sx:Nat->Prop}{da:Option Addr}{N dcap:Nat}{l:iz}(hd:Bytes w Sx (.slice da N dcap) l) (hSx:∀ g,Sx g->¬ lp G w g) (i:Int)
  (hlb:∀ a ∈ la,0<=a.1/\a.1<=1000000000/\a.2<=1000000000) (hn:S.n+9*s.ks.length<700000) (hnum:S.num+s.ks.length<800000) (hrn:S.l8+s.ks.length<800000):
  Calls prog 17 #[iq k,iw i,.slice da N dcap] w λe w'=>e=.returned (iw (qP la s.kh i N))/\
   ((qP la s.kh i N≠0/\qP la s.kh i N≠7/\ly G w' s S/\mH w' k G.v la trip/\Step G w w' S S 0)\/
   (qP la s.kh i N=7/\ly G w' s.pd S/\mH w' k G.v la true/\aA (λg=>g=G.v\/g=k) w w')\/
   (qP la s.kh i N=0/\∃ S',ly G w' (s.full.push i.toNat l (N / 64)) S'/\mH w' k G.v la trip/\Step G w w' S S' s.ks.length)):=by
 have O:N=l.length:=by obtain⟨a,c,e,_⟩:=hd.shape;simp only[IJ] at e;exact e.2.1
 have bA:N<=dcap/\N<=maxLen:=by obtain⟨a,c,e,h1,h2⟩:=hd.shape;simp only[IJ] at e;obtain⟨rfl,h3,rfl⟩:=e;exact⟨by omega,by omega⟩
 have f:=zE hV.kx i da N dcap bA.2;have b4:=hk.lt;have a1:=hk.c0;have u:=LH (λh (hb:Below w.heap.size w h)=>Step.below hV hb);have U:=LH (λh (hb:Below w.heap.size w h)=>hV.below hb);have M:=LH (λh (hb:Below w.heap.size w h)=>hk.after hb);rcases xO s.kh i N with K|K|K|⟨K,J,hN0,hi0,hi1⟩
 rotate_right
 ·
  obtain⟨I,rfl⟩:∃ I:Nat,i=I:=⟨i.toNat,by omega⟩;obtain⟨n,Y⟩:=Ex (N / 64);obtain⟨p,hp⟩:=Ex (60+I:Int);obtain⟨any,B⟩:=Ex (la.any (λa=>P.o8 a (p,n)));have x:qP la s.kh I N=if any=true then 7 else 0:=by unfold qP;rw[ak K,B,hp,Y]
  rw[K] at f;rw[x,show (I:Int).toNat=I from rfl,<-Y];have X:=LH (λh (hb:Below w.heap.size w h)=>uF (hV.kx.after hb));have bD:=CQ 60 50;obtain⟨ad,cap,hg,W⟩:=hk;have ay:=cell_of hg 1;have L:=LH (λh (hb:Below w.heap.size w h)=>(hb.block k b4).trans hg);have a7:=LH (λh (hb:Below w.heap.size w h)=>Cells.dB W hb.size (λb ⟨cs,bz⟩ _=>hb.block b (dC bz)));have b3:=LH (λh (hb:Below w.heap.size w h)=>(Bytes.mono (S':=λg=>g<w.heap.size/\¬ lp G w g) hd (λg hg hx=>⟨hg,hSx g hx⟩)).ki (aA.dD hb No) (λ_ _ _=>id));have b2:=LH (λh (hb:Below w.heap.size w h) g (hs:g<w.heap.size/\¬ lp G w g) (hB:lp G h g)=>hs.2 ((u.o h hb).kO.back hs.1 hB));have e1:(N:Int) / 64=n:=om;have hl:l.length=n*64:=om;have bB:I+n<=50:=om;obtain⟨v,hv⟩:=Ex G.v;rw[<-hv] at f a1 L M X;refine G9 hp Y hl O hg W hd hSx K ?_;clear hp Y hl O hg W hd hSx K;intro hp Y hl O hg W hd hSx K;refine G4 x hV J f ?_;clear x hV J f;intro x hV J f;have R:=LH (λh (hb:Below w.heap.size w h)=>(hb.cell (p:=iu k 0) b4).trans a1);have af:=LH (λh (hb:Below w.heap.size w h)=>(hb.cell (p:=iu k 1) b4).trans ay);replace hv:=LH hv;obtain⟨ln,b5⟩:=Ex la.length;rw[<-b5] at ay af a7 L hg W;replace b5:=LH b5;clear ay;go_enter func17,ntmps17
  go_wp2_with fail
  refine f.o.mono ?_;rintro e h ⟨rfl,m⟩;have f0:=R.o h m;have b8:=LH (X.o h m);replace m:=LH m;clear a1 f
  go_wp2_with fail
  refine b8.o.mono ?_;rintro e w2 ⟨rfl,b6⟩;have Q:=m.o.trans (b6.mono m.o.size);obtain⟨w3,aa⟩:=Ex (w2.alloc (.cells #[iw p,iw n] 27));have F:Below w.heap.size w w3:=by rw[aa];exact Q.alloc Q.size _
  have x3:w3.heap[w2.heap.size]?=some (.cells #[iw p,iw n] 27 (0,0)):=by rw[aa];exact aj w2 _
  have f1:=af.o w3 F;have f0:=R.o w2 Q;have bR:(60:Int)+I=p:=hp.o.symm;have r:=P.CP (mb:=w2.heap.size) (q:=λa=>P.o8 a (p,n)) (a7.o w3 F) (λa ha w4 V=>CR ((V.block _ (dC x3)).trans x3) (hlb a ha) (by rw[hp.o];omega));rw[<-B] at r;refine G5 r B F Q x3 ?_;clear r B F Q x3;intro r B F Q x3;have bC:=LH aa;subst aa;have ba:=LH (λh (hb:Below w.heap.size w h)=>kY (L.o h hb) 2);clear b6 b8 X
  go_wp2_with fail
  refine r.o.mono ?_;rintro e w4 ⟨rfl,V⟩;have d:=F.o.trans (V.mono F.o.size);have f0:=R.o w4 d;have j:=U.o w4 d;have C:=u.o w4 d;have y:=M.o w4 d;cases any with
  | false=>
   have Z:=DT j J.o (b3.o w4 d) (b2.o w4 d) I n hl.o bB hn hnum hrn;rw[<-hv.o] at Z;refine G5 Z y j C d ?_;clear Z y j C d;intro Z y j C d;clear V r b3 b2 a7 L ba u U M
   go_wp2_with fail
   refine Z.o.mono ?_;rintro e w5 ⟨rfl,S',E,D⟩;have z:=y.o.kO j.o D.kO;have A:=C.o.trans D;rw[aw] at A;rw[hv.o] at z;replace E:=LH E;replace z:=LH z;replace A:=LH A;clear D;go_wp2;go_ret
   first|exact⟨rfl,S',E.o,z.o,A.o⟩|exact⟨rfl,.inr (.inr ⟨rfl,S',E.o,z.o,A.o⟩)⟩
  | true=>
   have H:=zH j;rw[<-hv.o] at H;replace H:=LH H;have an:=LH (L.o w4 d);refine G4 y j C d ?_;clear y j C d;intro y j C d;clear V r b3 b2 a7 L ba u U M
   go_wp2_with fail
   refine H.o.mono ?_;rintro e w5 ⟨rfl,E,D,bp⟩;have z:=y.o.kO j.o D.kO;have g5:=D.kO.at j.o an.o de;rw[an.o] at g5;have fz:=kY g5 2;have c2:=cell_of g5 2;have T:=z.Lt
   have b7:aA (λg=>g=G.v\/g=k) w w5:=by rw[bp];exact (aA.dD d.o _).setCell (p:=iu v 111) (λ_=>Or.inl hv.o) _
   have a6:aA (λg=>g=G.v\/g=k) w (w5.setCell (iu k 2) (.bool true)):=b7.setCell (p:=iu k 2) (λ_=>.inr rfl) _
   have a8:ly G (w5.setCell (iu k 2) (.bool true)) s.pd S:=by
    refine E.other (by rw[ff];exact ae _) (λg' o bl ho=>kD _ _ _ ?_);rintro rfl;rw[g5] at bl;obtain rfl:=aF bl;rcases ho with ⟨cs,t,ht,e⟩|⟨es,c,e⟩
    ·simp only[IJ] at e;obtain⟨_,rfl,_⟩:=e;rcases ht with (e|e|e|e)|(e|e|e|e)|e|e|e|e|e<;>exact absurd e de
    ·cases e
   rw[hv.o] at T;replace a8:=LH a8;replace T:=LH T;replace a6:=LH a6;clear E D g5 z b7 bp;go_wp2;go_ret
   first|exact⟨rfl,a8.o,T.o,a6.o⟩|exact⟨rfl,.inr (.inl ⟨rfl,a8.o,T.o,a6.o⟩)⟩
 all_goals
  have x:qP la s.kh i N=mq s.kh i N:=by unfold qP;rw[ah (by rw[K];decide)]
  rw[x];rw[K] at f ⊢;obtain⟨v,hv⟩:=Ex G.v;rw[<-hv] at f a1 ⊢;refine G9 hv f hV hk hd K x hSx O ?_;clear hv f hV hk hd K x hSx O;intro hv f hV hk hd K x hSx O;go_enter func17,ntmps17
  go_wp2_with fail
  refine f.o.mono ?_;rintro e h ⟨rfl,m⟩;have ax:=LH (show ly G h s S/\mH h k G.v la trip/\Step G w h S S 0 from ⟨U.o h m,M.o h m,u.o h m⟩);rw[<-hv.o] at ax;clear m U M u;go_wp2;go_ret;exact⟨rfl,.inl ⟨by decide,by decide,ax.o⟩⟩
end Go.Proofs.YthmcbgidehjlbaaGreat.Fd

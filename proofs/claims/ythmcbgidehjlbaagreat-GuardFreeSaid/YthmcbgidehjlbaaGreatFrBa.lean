/-
 Parts of the proof. No condition beyond what each theorem names.
-/
import Derived.Lib.AppendStr
import Derived.Test.YthmcbgidehjlbaaGreatFrAg
import Derived.Test.YthmcbgidehjlbaaGreatFrAu
import Derived.Test.YthmcbgidehjlbaaGreatFrAv
set_option maxRecDepth 100000
set_option maxHeartbeats 16000000
namespace Go.Proofs.YthmcbgidehjlbaaGreat.Fd
open _root_.Go.Proofs.Tryz
open Go Go.RowKit K
variable {w:World}{ps:List (Nat×iz)}{X:D.Dk}{d:Nat}
theorem lP.each {B:Nat}{t:TypeId}{v:Value}(h:lP w B t v ps):∀ q ∈ ps,q.1<120/\q.2.length=64:=λq e=>by obtain⟨ws,h1,_,a⟩:=h;obtain⟨j,d,rfl⟩:=dI e;obtain⟨_,b,c,_⟩:=a j _ _ (av om) (av d);exact⟨b,c⟩
theorem Kd {s z:iz}{n q p:Nat}(hs:s.length=64*n) (hq:q<n) (hz:z.length=64) (_hp:p<n):((splice s (q*64) z).drop (p*64)).take 64=if q=p then z else (s.drop (p*64)).take 64:=by
 have a:q*64+z.length<=s.length:=om;refine b9 (λi=>?_);by_cases hi:i<64
 ·rw[dV hi,bF,vm a];by_cases e:q=p
  ·subst e;rw[ak rfl,ah om,ak om];congr 1;omega
  ·rw[ah e,dV hi,bF];by_cases h1:p*64+i<q*64
   ·rw[ak h1]
   ·rw[ah h1,ah om]
 ·rw[cB (by rw[aR];omega)];split
  ·rw[cB om]
  ·rw[cB (by rw[aR];omega)]
theorem Ke (n p:Nat) (hp:p<n):∀ (l:List (Nat×iz)) (s:iz),s.length=64*n->(∀ q ∈ l,q.1<n/\q.2.length=64)->((D.mV s l).drop (p*64)).take 64=kX l p ((s.drop (p*64)).take 64):=by
 intro l
 induction l with
 | nil=>intro s _ _;rfl
 | cons q l ih=>intro s hs a;have h1:=a q sm;have e:D.mV s (q::l)=D.mV (splice s (q.1*64) q.2) l:=rfl;rw[e,ih _ (by rw[length_splice _ _ _ om];exact hs) (λb h'=>a b (by simp[h'])),Kd hs h1.1 h1.2 hp];rfl
theorem Kf (hz:X.sure.length=64*120) (h0:X.kC=[])(hq:∀ q ∈ ps,q.1<120/\q.2.length=64){p:Nat}(hp:p<120):(laid X ps).at p=kX ps p (X.at p):=by unfold laid D.Dk.at;rw[h0];exact Ke 120 p hp ps _ hz hq
theorem l6.len {sb:Nat}(h:l6 w d sb X):X.sure.length=64*120:=by have:=h.at_.full.1;rw[h.size] at this;exact this
theorem l6.self {sb:Nat}(h:l6 w d sb X):d<w.heap.size/\sb<w.heap.size:=⟨h.at_.lim d (.inl rfl),h.at_.lim sb (.inr rfl)⟩
theorem Kg {sb s b B:Nat}{gH:ByteArray}{da ma:Option Addr}{dn dc mn mc:Nat}{pv:Value}(h:l6 w d sb X) (hd:d<B) (mD:sb<B) (hBw:B<=w.heap.size) (hn:ps.length<1000) (hP:lP w B 168 pv ps):
  Calls prog 92 #[.agg (mM d s b gH (.slice da dn dc) (.slice ma mn mc)).toArray,pv] w λe w'=>e=.returned (iw 0)/\l6 w' d sb (laid X ps)/\aA (λg=>g=d\/g=sb) w w':=by
 refine (IM (s:=s) (b:=b) (gH:=gH) (da:=da) (ma:=ma) (dn:=dn) (dc:=dc) (mn:=mn) (mc:=mc) h.at_ h.plain h.size (by rw[h.none];simpa using hn) (λg hg=>by rcases hg with rfl|rfl<;>assumption) hBw hP).mono ?_;rintro e w' ⟨rfl,j,h1,a,f,i⟩;refine⟨rfl,l6.of h1 i ?_ h.plain ?_ rfl,a⟩
 ·obtain⟨n,c,hc⟩:=h.sure;exact⟨n,c,(show w'.cell? (iu d 3)=w.cell? (iu d 3) from f).trans hc⟩
 ·unfold laid D.Dk.size;rw[h.none];have:=D.xo 120 ps X.sure h.len hP.each;rw[bE,this]
end Go.Proofs.YthmcbgidehjlbaaGreat.Fd
namespace Go.Proofs.YthmcbgidehjlbaaGreat.P
open _root_.Go.Proofs.Tryz
open Go Go.RowKit K
theorem Kk (w:World) (x x':Operand) (a b c d:Int) (r:Bool) (h:(!(decide (a=c) && decide (b=d)))=r):((do eqGuard .neq 27 x x' (.agg #[iw a,iw b]) (.agg #[iw c,iw d]);binOp .neq 27 (.agg #[iw a,iw b]) (.agg #[iw c,iw d])):Sem Value).run prog w=.ok (.bool r) w:=by have f:prog.underlying 27=some (.struct (prog.fieldsOf 27)):=kr;have hp:prog.stoodInHeld 27=false:=kr;have hm:prog.eqGuardType prog.depth 27=false:=kr;have g:=underlying3;have a3:=Tryz.isAgg3;have z3:=Tryz.sizeOf3;rw[aM,run_eqGuard_agg _ _ _ _ _ _ _ hm,bu,run_neq_struct,show (10000:Nat)=9999+1 from rfl,run_equalIn_agg w 9999 27 _ _ f hp];simp only[Program.fieldsOf,underlying27];go_simp;subst h;by_cases h1:a=c<;>by_cases e:b=d<;>simp[h1,e]
theorem Dl (w:World) (x x':Operand) (u v:Array Value) (op:BinOp):(eqGuard op 27 x x' (.agg u) (.agg v)).run prog w=.ok () w:=run_eqGuard_agg _ _ _ _ _ _ _ kr
theorem Kl (w:World) (a b c d:Int):(binOp .neq 27 (.agg #[iw a,iw b]) (.agg #[iw c,iw d])).run prog w=.ok (.bool (!(decide (a=c) && decide (b=d)))) w:=by have h:=Kk w (.tmp 0) (.tmp 0) a b c d _ rfl;rw[aM,Dl,bu] at h;exact h
theorem Km (w:World) (l:List Ar) (h:l.length<=1000):Cells (w.alloc (.cells (lV l).toArray 27)) (·=w.heap.size) (ir w.heap.size l.length l.length) l.length 2 (lV l):=by
 refine⟨sG l,_,_,rfl,ae _,by unfold maxLen;omega,λh=>(by cases h),.inr ⟨_,0,rfl,rfl,by simp,λj u hu=>?_⟩⟩;rw[aw,cell_of (aj _ _)]
 simpa using hu
end Go.Proofs.YthmcbgidehjlbaaGreat.P
namespace Go.Proofs.YthmcbgidehjlbaaGreat.Fd
open _root_.Go.Proofs.Tryz
open Go Go.RowKit K
theorem Kn (w:World):Calls prog 34 #[.pointer none] w λe w'=>e=.returned (.agg #[iw 0,iw 0])/\Below w.heap.size w w':=by
 have b:(w.alloc (.cells #[iw 0,iw 0] 27)).heap[w.heap.size]?=some (.cells #[iw 0,iw 0] 27 (0,0)):=aj w _;have a:=mf (P:=prog) (ty:=27) (x:=[iw 0,iw 0]) b kr rfl (by simp[Value.oneCell']);have c:((w.alloc (.cells #[iw 0,iw 0] 27)).setRow w.heap.size ([iw 0,iw 0]:List Value).toArray).heap[w.heap.size]?=some (.cells #[iw 0,iw 0] 27 (0,0)):=aJ _ _ _ _ _ _ b;have hb:Below w.heap.size w ((w.alloc (.cells #[iw 0,iw 0] 27)).setRow w.heap.size ([iw 0,iw 0]:List Value).toArray):=below_setRow ((ag _ _).alloc (ae _) _) (ae _) _;revert a c hb;refine H3 ?_;intro a c hb;clear b;go_enter func34,ntmps34
 go_wp2_with (first|(refine kI rfl 27 _ _ rfl _ _ rfl rfl a.o ?_)|fail)
 refine aI (bd results34 _ _ w.heap.size 27 _ (0,0) _ rfl c.o underlying27 rfl kr) rfl ⟨rfl,hb.o⟩
theorem Ko (w:World):Calls prog 28 #[.pointer none,iw 0,iw 48] w λe w'=>e=.returned (.tuple #[.agg #[iw 0,iw 0],iw 3])/\Below w.heap.size w w':=by
 obtain⟨n0,j⟩:=Ex w.heap.size;obtain⟨A,l⟩:=Ex (w.alloc (.cells #[iw 0,iw 0] 27));have b1:Below w.heap.size w A:=by rw[l];exact (ag _ _).alloc (ae _) _
 have v:A.heap[n0]?=some (.cells #[iw 0,iw 0] 27 (0,0)):=by rw[l,j];exact aj w _
 have E:=LH (Kn A);have z:=LH (λd=>P.BN (x:=0) (y:=0) (p:=0) (q:=48) (f:=0) (c:=0) (b:=false) de de d);replace b1:=LH b1;replace v:=LH v;go_enter func28,ntmps28;have F:=LH l;subst l
 go_wp2_with fail
 refine E.o.mono ?_;rintro e w2 ⟨rfl,g⟩;replace g:=LH g;clear E
 go_wp2_with fail
 refine (z.o w2).mono ?_;rintro e d ⟨rfl,t⟩;rw[<-j];have h:=g.o.trans (t.mono g.o.size);have B:=(h.block n0 (dC v.o)).trans v.o;have i:Below w.heap.size w d:=b1.o.trans (h.mono b1.o.size);have G:(d.alloc (.cells #[iw 0,iw 0] 27)).heap[d.heap.size]?=some (.cells #[iw 0,iw 0] 27 (0,0)):=aj d _;have a:=mf (P:=prog) (ty:=27) (x:=[iw 0,iw 0]) G kr rfl (by simp[Value.oneCell']);obtain⟨u,m⟩:=Ex ((d.alloc (.cells #[iw 0,iw 0] 27)).setRow d.heap.size #[iw 0,iw 0]);have r:Below d.heap.size d u:=by rw[m];exact below_setRow ((ag _ _).alloc (ae _) _) (ae _) _
 have D:=(r.block n0 (dC B)).trans B;have n:Below w.heap.size w u:=i.trans (r.mono i.size);rw[<-show u=(d.alloc (.cells #[iw 0,iw 0] 27)).setRow d.heap.size ([iw 0,iw 0]:List Value).toArray from m] at a;have k:=mf (P:=prog) (ty:=27) (x:=[iw 0,iw 0]) D kr rfl (by simp[Value.oneCell']);have C:(u.setRow n0 ([iw 0,iw 0]:List Value).toArray).heap[n0]?=some (.cells #[iw 0,iw 0] 27 (0,0)):=aJ _ _ _ _ _ _ D;have s:Below w.heap.size w (u.setRow n0 ([iw 0,iw 0]:List Value).toArray):=below_setRow n (by rw[j];exact ae _) _;revert j a m k C s;refine H6 ?_;intro j a m k C s;clear h g t B i G r b1 v D n
 go_wp2_with (first|(refine kI rfl 27 _ _ rfl _ _ rfl rfl a.o ?_)|(refine kI rfl 27 _ _ rfl _ _ rfl rfl k.o ?_)|fail)
 refine aI (sE results28 _ _ n0 27 _ (0,0) _ rfl C.o underlying27 rfl kr) rfl ⟨rfl,s.o⟩
theorem ku.lt {w:World}{v m:Nat}{L:iz}{ks:List (Nat×iz)}{kh:Bool}(h:kF w v m L ks kh){g:Nat}(hg:ku w v g):g<w.heap.size:=by obtain⟨cs,t,h1,_⟩:=ku.type h hg;exact dC h1
theorem Kq (i:Nat){l:iz}(hl:l.length=64):nz i l 1=[(i,l)]:=by
 have h:(l.drop 0).take 64=l:=by rw[fA,bh om]
 show [(i+0,(l.drop (0*64)).take 64)]=_;rw[Nat.zero_mul,h,dY]
theorem Kr (w:World):Calls prog 8 #[] w λe w'=>e=.returned (.bool true)/\Below w.heap.size w w':=by
 have a6:=P.Dl;have a8:=P.Kl;have hf:=LH (Jn w);have Z:rA (lh (List.replicate 7 0) []) 2 48=(62,48):=by decide +kernel
 have r2:rz (lh (List.replicate 7 0) []) 2 48=0:=by decide +kernel
 have r3:rA (lh (List.replicate 7 0) []) 2 49=(0,0):=by decide +kernel
 have r4:rz (lh (List.replicate 7 0) []) 2 49=3:=by decide +kernel
 revert Z r2 r3 r4;refine H4 ?_;intro Z r2 r3 r4;go_enter func8,ntmps8
 go_wp2_with fail
 refine hf.o.mono ?_;rintro e w1 ⟨d,v,m,rfl,K,V,j,f,B⟩;have y:=Cv j 2 48;rw[Z.o,r2.o] at y;dsimp only at y;revert K j f B y;refine H5 ?_;intro K j f B y;clear hf V
 go_wp2_with fail
 refine y.o.mono ?_;rintro e w2 ⟨rfl,hb⟩;have c:=hb.alloc hb.size (.cells #[iw (62),iw (48)] 27);replace B:=LH (B.o.trans (c.mono B.o.size));have i:=λg=>ku.back (g:=g) j.o (aA.dD c No) id
 replace f:=LH (λg hg=>f.o g (i g hg));replace j:=LH (j.o.after c);have l:=LH (P.Hn w2 (62) (48));clear hb c i y
 go_wp2_with fail
 obtain⟨p4,O⟩:=Ex w2.heap.size;rw[<-O] at l ⊢;clear O;generalize w2.alloc (.cells #[iw 62,iw 48] 27)=W2 at*;have y:=Cv j.o 2 49;rw[r3.o,r4.o] at y;refine y.mono ?_;rintro e q ⟨rfl,hb⟩;have c:=hb.alloc hb.size (.cells #[iw (0),iw (0)] 27);replace B:=LH (B.o.trans (c.mono B.o.size));have i:=λg=>ku.back (g:=g) j.o (aA.dD c No) id
 replace f:=LH (λg hg=>f.o g (i g hg));replace j:=LH (j.o.after c);replace l:=LH (l.o.dB c);clear hb c i y
 go_wp2_with fail
 generalize q.alloc (.cells #[iw 0,iw 0] 27)=W3 at*;refine (Ko W3).mono ?_;rintro e C ⟨rfl,hb⟩;have c:=hb.alloc hb.size (.cells #[iw (0),iw (0)] 27);replace B:=LH (B.o.trans (c.mono B.o.size));have i:=λg=>ku.back (g:=g) j.o (aA.dD c No) id
 replace f:=LH (λg hg=>f.o g (i g hg));replace j:=LH (j.o.after c);replace l:=LH (l.o.dB c);have c0:=l.o.c0;have c1:=l.o.c1;have Y:=l.o.lt;clear hb c i
 go_wp2_with fail
 have I:=P.Km (C.alloc (.cells #[iw 0,iw 0] 27)) [(62,48),(0,0)] de;rw[aN,show ([(62,48),(0,0)]:List P.Ar).length=2 from rfl,show (P.lV [(62,48),(0,0)]).toArray=#[iw 62,iw 48,iw 0,iw 0] from rfl] at I;have J:=Jc v I de;obtain⟨n4,z⟩:=Ex C.heap.size;have F:(C.alloc (.cells #[iw 0,iw 0] 27)).heap.size=n4+1:=by rw[aN,z]
 rw[<-z] at J ⊢;clear I c0 c1 Y;generalize C.alloc (.cells #[iw 0,iw 0] 27)=W4 at*;replace F:=LH F;replace z:=LH z;refine J.mono ?_;clear J;rintro e w5 ⟨k,rfl,N,n,hb⟩;have U:=LH (show w.heap.size<=k from am B.o.size (am sm N));clear N;have c:Below W4.heap.size W4 w5:=((ag _ _).alloc (ae _) _).trans (hb.mono sm);replace B:=LH (B.o.trans (c.mono B.o.size));have i:=λg=>ku.back (g:=g) j.o (aA.dD c No) id
 replace f:=LH (λg hg=>f.o g (i g hg));replace j:=LH (j.o.after c);replace l:=LH (l.o.dB c);rw[show ([(62,48),(0,0)]:List P.Ar).filter P.lj=[(62,48)] from rfl] at n;replace n:=LH n;have c0:=l.o.c0;have c1:=l.o.c1;have Y:=l.o.lt;clear hb c i
 go_wp2_with fail
 refine (Jf n.o de).mono ?_;rintro e w6 ⟨g6,c6,rfl,hb⟩;replace B:=LH (B.o.trans (hb.mono B.o.size));have i:=λg=>ku.back (g:=g) j.o (aA.dD hb No) id
 replace f:=LH (λg hg=>f.o g (i g hg));replace j:=LH (j.o.after hb);replace n:=LH (n.o.after hb);clear hb i c0 c1 Y l
 go_wp2_with fail
 refine (D.xp _ _).mono ?_;rintro e w7 ⟨rfl,hs,hb⟩
 have x:∀ g,g=w6.heap.size->¬ ku w7 v g:=λg e G=>by have:=ku.lt j.o (ku.back j.o (aA.dD hb No) id G);omega
 replace B:=LH (B.o.trans (hb.mono B.o.size));have i:=λg=>ku.back (g:=g) j.o (aA.dD hb No) id
 replace f:=LH (λg hg=>f.o g (i g hg));replace j:=LH (j.o.after hb);replace n:=LH (n.o.after hb);have hw:=CS n.o j.o hs x 0 1 (D.uz _) om om sm sm;rw[Kq 0 (D.uz _)] at hw;replace hw:=LH hw;clear hb i hs x
 go_wp2_with fail
 refine hw.o.mono ?_;rintro e w8 (⟨-,rfl,hV8,hK8,hC,hN⟩|⟨h,-⟩)
 rotate_left
 ·exact absurd h de
 have E:∀ g,ku w8 v g->w.heap.size<=g:=λg hg=>(hN g hg).elim (f.o g) (λe=>am B.o.size e)
 replace B:=LH (B.o.trans (hC.below B.o.size (λg hg G=>by have:=f.o g G;omega)));obtain⟨KS,t⟩:=Ex ([]++[(0,D.sec [97])]:List (Nat×iz));rw[<-t] at hV8;have H:KS.length=1:=by rw[t];rfl
 replace t:=LH t;replace H:=LH H;replace j:=LH hV8;replace n:=LH hK8;replace f:=LH E;clear hV8 hK8 E hC hN hw
 go_wp2_with fail
 refine (D.xp _ _).mono ?_;rintro e w9 ⟨rfl,hs,hb⟩
 have x:∀ g,g=w8.heap.size->¬ ku w9 v g:=λg e G=>by have:=ku.lt j.o (ku.back j.o (aA.dD hb No) id G);omega
 replace B:=LH (B.o.trans (hb.mono B.o.size));have i:=λg=>ku.back (g:=g) j.o (aA.dD hb No) id
 replace f:=LH (λg hg=>f.o g (i g hg));replace j:=LH (j.o.after hb);replace n:=LH (n.o.after hb);have hw:=CS n.o j.o hs x 2 1 (D.uz _) om om (by rw[H.o];omega) sm;replace hw:=LH hw;clear hb i hs x
 go_wp2_with fail
 refine hw.o.mono ?_;rintro e aa (⟨h,-⟩|⟨-,rfl,hV8,hK8,hC⟩)
 ·exact absurd h de
 have a7:w.heap.size<=k:=U.o;replace B:=LH (B.o.trans (hC.below B.o.size (λg hg G=>G.elim (λe=>by have:=K.o;omega) (λe=>by omega))));replace j:=LH hV8;replace n:=LH hK8;clear hV8 hK8 hC hw f
 go_wp2_with fail
 refine (D.xp _ _).mono ?_;rintro e a1 ⟨rfl,-,hb⟩;replace B:=LH (B.o.trans (hb.mono B.o.size));replace j:=LH (j.o.after hb);replace n:=LH (n.o.after hb);clear hb
 go_wp2_with fail
 refine (Jj n.o j.o 0 _ _ _).mono ?_;rintro e ad ⟨rfl,rfl⟩;have L:a1.cell? (iu k 0)=some (iq v):=by obtain⟨g,cap,h1,_⟩:=n.o;exact cell_of h1 0
 have Q:=LH (I5 j.o 0 1 om (λp hp=>by
  have:∀ p,p<50->nf (List.replicate 7 0) p=false:=by decide +kernel
  exact this p hp))
 go_wp2_with fail
 refine Q.o.mono ?_;rintro e s ⟨u,rfl,hu,hb⟩;rw[show rX KS 0 1=D.sec [97] by rw[t.o];kernel_rfl] at hu
 have A:Bytes s (λ_=>True) u (D.sec [97]):=by show Cells _ _ _ (D.sec [97]).length 1 _;rw[D.uz];exact (Cells.own hu).mono (λ_ _ _=>trivial)
 replace B:=LH (B.o.trans (hb.mono B.o.size));replace j:=LH (j.o.after hb);replace n:=LH (n.o.after hb);replace A:=LH A;have W:∃ ua un uc,u=.slice ua un uc:=by obtain⟨ua,uc,e,_⟩:=A.o.shape;exact⟨_,_,_,e⟩
 obtain⟨ua,un,uc,rfl⟩:=W;clear hb hu Q L;have L:s.cell? (iu k 0)=some (iq v):=by obtain⟨g,cap,h1,_⟩:=n.o;exact cell_of h1 0
 replace L:=LH L
 go_wp2_with fail
 have r:=Dr s
 replace r:=LH r;have S:=LH (λq (h:aA No s.drew q)=>(((r.o _ h).cell (p:=iu k 0) (lq L.o) id).trans L.o));have T:=LH (λq (h:aA No s.drew q)=>Jd (n.o.after (r.o _ h).no));have X:=LH (λq (h:aA No s.drew q)=>uG (j.o.after (r.o _ h).no));refine RA.rt (aA No) [1,1,1,1,1,1,1,1,1,1,1,1,4,1,1,1,1,1,1,4,1,1,1,1,1,1,1,1,3,1,1,1,1,1,4,1,1,1,1,4,1,1,1,1] [] (λ_=>True) trivial (λ_=>aA.refl _ _) (λ_ _ _ h k=>h.trans k) (h:=?_);intro cx
 repeat (first|refine RA.qq ?_|refine RA.eq true (hr:=by rfl) (h:=?_)|refine RA.pt kr rf rf rf ?_|refine RA.es true (hr:=by simp) (h:=?_)|refine RA.nt (h:=?_))
 refine RA.kc (P:=prog) [iq k] (.bool true) (hr:=λq hp hH=>(T.o q hp.1).mono (by rintro e C ⟨rfl,rfl⟩;exact⟨rfl,aA.refl _ _,trivial⟩)) (hn:=?_)
 repeat (first|refine RA.qq ?_|refine RA.eq true (hr:=by rfl) (h:=?_)|refine RA.pt kr rf rf rf ?_|refine RA.es true (hr:=by simp) (h:=?_)|refine RA.nt (h:=?_))
 refine RA.fk prog k 0 (h:=?_);refine RA.lk prog (iq v) (hc:=λq hp=>by exact S.o _ hp.1) (h:=?_);refine RA.kc (P:=prog) [iq v] (.bool true) (hr:=λq hp hH=>(X.o q hp.1).mono (by rintro e C ⟨rfl,rfl⟩;exact⟨rfl,aA.refl _ _,trivial⟩)) (hn:=?_)
 repeat (first|refine RA.qq ?_|refine RA.eq true (hr:=by rfl) (h:=?_)|refine RA.pt kr rf rf rf ?_|refine RA.es true (hr:=by simp) (h:=?_)|refine RA.nt (h:=?_))
 refine RA.cv (hr:=λq hp=>by exact sK _ _ _ _ underlying42 underlying5 underlying9 _ _ _ (A.o.ki (r.o _ hp.1) (λ_ _ _=>id))) (h:=?_);refine RA.qc (P:=prog) [.string ⟨#[97]⟩] (λv q=>∃ g,v=ir g 64 64/\Bytes q (λ_=>True) v (D.sec [97])) (hs:=λv a b h R=>by obtain⟨g,h3,h4⟩:=R;exact⟨g,h3,h4.ki h (λ_ _ _=>id)⟩) (hr:=λq hp hH=>(D.xp _ _).mono (by rintro e C ⟨rfl,h1,R⟩;exact⟨_,rfl,aA.dD R _,⟨_,rfl,h1.mono (λ_ _ _=>trivial)⟩,trivial⟩)) (hn:=λu=>?_);refine RA.cv (hr:=λq hp=>by obtain⟨g,hg,hb⟩:=hp.fact 0 rfl kr;exact sK _ _ _ _ underlying42 underlying5 underlying9 _ _ _ hb) (h:=?_)
 repeat (first|refine RA.qq ?_|refine RA.eq true (hr:=by rfl) (h:=?_)|refine RA.pt kr rf rf rf ?_|refine RA.es true (hr:=by simp) (h:=?_)|refine RA.nt (h:=?_))
 refine RA.kc (P:=prog) [.pointer none] (.bool false) (hr:=λq hp hH=>(Je _).mono (by rintro e C ⟨rfl,rfl⟩;exact⟨rfl,aA.refl _ _,trivial⟩)) (hn:=?_)
 repeat (first|refine RA.qq ?_|refine RA.eq true (hr:=by rfl) (h:=?_)|refine RA.pt kr rf rf rf ?_|refine RA.es true (hr:=by simp) (h:=?_)|refine RA.nt (h:=?_))
 refine RA.kc (P:=prog) [.pointer none] (.slice none 0 0) (hr:=λq hp hH=>(Jg _).mono (by rintro e C ⟨rfl,rfl⟩;exact⟨rfl,aA.refl _ _,trivial⟩)) (hn:=?_);refine RA.vk prog (iw 0) (h:=?_)
 repeat (first|refine RA.qq ?_|refine RA.eq true (hr:=by rfl) (h:=?_)|refine RA.pt kr rf rf rf ?_|refine RA.es true (hr:=by simp) (h:=?_)|refine RA.nt (h:=?_))
 refine RA.RA.done rfl (λaf hR hF hH=>?_);clear hF hH;simp only[RA.RP,cx]
 try simp only[cn]
 try simp only[cG]
 have M:=LH (B.o.trans ((r.o _ hR).no.mono B.o.size));clear hR;go_wp2;go_ret;exact⟨rfl,M.o⟩
end Go.Proofs.YthmcbgidehjlbaaGreat.Fd
namespace Go.Proofs.YthmcbgidehjlbaaGreat.Fd
open Go Go.RowKit K
theorem Dm:∀ (ks:List (Nat×iz)) (L:iz) (i:Nat),L.length=7->(∀ k ∈ ks,k.1<50)->nf (lh L ks) i=(nf L i || ks.any (λk=>decide (i=k.1)))
 | [],L,i,_,_=>by simp[lh]
 | k::ks,L,i,hL,hk=>by have h1:=hk k (cq ..);have ih:=Dm ks (qj L k.1) i (by rw[Bz];exact hL) (λx a=>hk x (fc _ a));rw[show lh L (k::ks)=lh (qj L k.1) ks from rfl,ih,GW om,List.any_cons,Bool.or_assoc]
theorem Kt (i:Nat):nf (List.replicate 7 0) i=false:=by
 have h:(List.replicate 7 (0:UInt8)).getD (i / 8) 0=0:=by generalize (7:Nat)=n;rw[List.getD,eC];split<;>rfl
 unfold nf;rw[h];simp
end Go.Proofs.YthmcbgidehjlbaaGreat.Fd
namespace Go.Proofs.YthmcbgidehjlbaaGreat.Fd
open _root_.Go.Proofs.Tryz
open Go Go.RowKit K
theorem Kx {w:World}{S:Nat->Prop}{ad:Addr}{cap:Nat}{m:Nat}{vs:List Value}(hb:Cells w S (.slice (some ad) m cap) m 2 vs) (h1:∀ u ∈ vs,u.oneCell'=true) (hl:m<=1000000):
  Calls prog 53 #[.slice (some ad) m cap] w λe w'=>∃ g c,e=.returned (ir g m c)/\w.heap.size<=g/\w'.ownsRow w.heap.size 111 2 (ir g m c) m vs/\Below w.heap.size w w':=by
 obtain⟨hlen,a,n,hv,j,f,p,q⟩:=hb;simp only[IJ,dP] at hv;obtain⟨rfl,rfl⟩:=hv;have i:=ch (base:=w.heap.size) (e:=111) (size:=2) w #[] 0 (ae _) mx rfl;have h:Cells (w.alloc (.cells #[] 111)) S (.slice (some ad) m cap) m 2 vs:=Cells.dB ⟨hlen,some ad,cap,rfl,j,f,p,q⟩ sm (λb _ hb=>aB w _ b hb);have he:=Lib.run_eql_slice_nil (P:=prog) w 102 111 (some ad) m cap 0 0 underlying102;have H:=LH h;have H1:=LH h1;clear h q p h1 f;go_enter func53,ntmps53
 go_wp2_with (at_builtin;(refine K.append rfl _ _ 102 rfl w.heap.size 111 (.agg #[iw 0,.slice none 0 0]) 2 32 underlying102 xE rfl de _ 0 [] rfl i S _ m vs rfl H.o H1.o ?m ?b sm ?k))
 case m=>unfold maxLen;omega
 case b=>omega
 case k=>
  intro v' w' r hg s t
  have l:∃ g c,v'=ir g m c/\w.heap.size<=g:=by
   rcases r.2 with ⟨e,_⟩|⟨g,c,cur,e,d,_⟩
   ·exact absurd e s
   ·exact⟨g,c,by simpa using e,d⟩
  obtain⟨g,c,rfl,d⟩:=l;go_wp2;go_ret;exact⟨g,c,rfl,d,by simpa using r,(((ag _ _).alloc (ae _) _).grown hg sm (λk hk=>by simp[Value.ownBlock] at hk;omega))⟩
def p9 (i n:Int):Bool:=decide (0<=n/\n<=50/\0<=i/\i<=50 - n)
def mq (kh:Bool) (i:Int) (N:Nat):Int:=if kh=true then 6 else if N % 64≠0\/64<N / 64 then 1 else if p9 i (N / 64:Nat)=true then 0 else 3
def tE (L:iz) (f c:Int) (i:Nat):Bool:=nf L i && decide (f<=i) && decide ((i:Int) - f<c)
def uM (L:iz) (f c:Int):Bool:=(List.range 50).any (tE L f c)
section
variable {w w':World}{v m:Nat}{L:iz}{ks:List (Nat×iz)}{kh:Bool}
theorem DM (h:kF w v m L ks kh) (i n:Int):Calls prog 48 #[iq v,iw i,iw n] w λe w'=>e=.returned (.bool (p9 i n))/\Below w.heap.size w w':=by
 have hs:=LH (xB h);have l:=LH (λb (hb:Below w.heap.size w b)=>xB (h.after hb));clear h;by_cases j:0<=n
 rotate_left
 ·rw[show p9 i n=false from dt (λe=>j e.1)];go_enter func48,ntmps48;go_wp2;go_ret;exact⟨rfl,ag _ _⟩
 by_cases h1:n<=50
 rotate_left
 ·rw[show p9 i n=false from dt (λe=>h1 e.2.1)];go_enter func48,ntmps48
  go_wp2_with fail
  refine hs.o.mono ?_;rintro e b ⟨rfl,hb⟩;replace hb:=LH hb;go_wp2;go_ret;exact⟨rfl,hb.o⟩
 by_cases k:0<=i
 rotate_left
 ·rw[show p9 i n=false from dt (λe=>k e.2.2.1)];go_enter func48,ntmps48
  go_wp2_with fail
  refine hs.o.mono ?_;rintro e b ⟨rfl,hb⟩;replace hb:=LH hb;go_wp2;go_ret;exact⟨rfl,hb.o⟩
 obtain⟨D,c⟩:=Ex (50 - n:Int);have p:(50:Int) - n=D:=c.symm
 have d:p9 i n=decide (i<=D):=by unfold p9;rw[c];exact gE.2 ⟨λe=>e.2.2.2,λe=>⟨j,h1,k,e⟩⟩
 rw[d];replace c:=LH c;replace d:=LH d;go_enter func48,ntmps48
 go_wp2_with fail
 refine hs.o.mono ?_;rintro e b ⟨rfl,hb⟩;have g:=LH (l.o b hb);replace hb:=LH hb
 go_wp2_with fail
 refine g.o.mono ?_;rintro e w2 ⟨rfl,a⟩;have f:=LH (hb.o.trans (a.mono hb.o.size));clear a;go_wp2;go_ret;exact⟨rfl,f.o⟩
theorem zE (h:kF w v m L ks kh) (i:Int) (da:Option Addr) (N dc:Nat) (hN:N<=maxLen):Calls prog 44 #[iq v,iw i,.slice da N dc] w λe w'=>e=.returned (iw (mq kh i N))/\Below w.heap.size w w':=by
 cases kh with
 | true=>refine (Co h i da N dc).mono ?_;rintro e w' ⟨rfl,rfl⟩;exact⟨rfl,ag _ _⟩
 | false=>
  have hr:=LH (uG h);obtain⟨n,d⟩:=Ex (N / 64:Nat);obtain⟨r,a⟩:=Ex (N % 64:Nat);have hw:=LH (DM h i n);have k:(N:Int) / 64=n:=om;have l:(N:Int) % 64=r:=om;have c:mq false i N=if r≠0\/64<n then 1 else if p9 i n=true then 0 else 3:=by unfold mq;rw[ah de,<-a,<-d]
  rw[c];have g:(N:Int)<=9223372036854775807:=by have:=hN;unfold maxLen at this;omega
  revert hN d a c;refine H4 ?_;intro hN d a c;clear h;by_cases c1:r=0
  rotate_left
  ·have f:¬ (r:Int)=0:=om;rw[ak (.inl c1)];go_enter func44,ntmps44
   go_wp2_with (first|(go_at_call 22;refine hr.o.mono ?_;rintro e w' ⟨rfl,rfl⟩)|fail)
   go_ret;exact⟨rfl,ag _ _⟩
  by_cases c2:64<n
  ·have b:(64:Int)<n:=om;rw[ak (.inr c2)];subst c1;go_enter func44,ntmps44
   go_wp2_with (first|(go_at_call 22;refine hr.o.mono ?_;rintro e w' ⟨rfl,rfl⟩)|fail)
   go_ret;exact⟨rfl,ag _ _⟩
  have b:¬ (64:Int)<n:=om;rw[ah (by rintro (e|e);exact e c1;exact c2 e)];subst c1;cases hb0:p9 i n with
  | true=>
   rw[hb0] at hw;rw[ak rfl];go_enter func44,ntmps44
   go_wp2_with (first|(go_at_call 22;refine hr.o.mono ?_;rintro e w' ⟨rfl,rfl⟩)|fail)
   refine hw.o.mono ?_;rintro e j ⟨rfl,hb⟩;replace hb:=LH hb;go_wp2;go_ret;exact⟨rfl,hb.o⟩
  | false=>
   rw[hb0] at hw;rw[ah de];go_enter func44,ntmps44
   go_wp2_with (first|(go_at_call 22;refine hr.o.mono ?_;rintro e w' ⟨rfl,rfl⟩)|fail)
   refine hw.o.mono ?_;rintro e j ⟨rfl,hb⟩;replace hb:=LH hb;go_wp2;go_ret;exact⟨rfl,hb.o⟩
end
theorem zF {w:World}{m:Nat}{L:iz}(h:mj w m L) (f c C:Int) (hf:-9223372036854775808<=f/\f<=9223372036854775807) (hc:C<=9223372036854775807) (hcs:(c<0/\C=0)\/(c=0/\C=0)\/(0<c/\C=c)):Calls prog 59 #[iq m,iw f,iw c] w λe w'=>e=.returned (.bool (uM L f c))/\w=w':=by
 have hs:=LH (yI h);have z:=LH (λi hi=>xd h i hi);have v:0<=C:=om
 have x:∀ j:Nat,tE L f c j=(nf L j && decide (f<=j) && decide ((j:Int) - f<C)):=λj=>by
  unfold tE;by_cases h1:f<=j
  ·have:((j:Int) - f<c)↔((j:Int) - f<C):=om;rw[gE.2 this]
  ·simp[h1]
 have F:IntKind.u64.wrap C=C:=by simp[IntKind.wrap,IntKind.bits,IntKind.signed];omega
 revert hc v x;refine H3 ?_;intro hc v x;clear h;go_enter func59,ntmps59
 go_wp2_with (go_at_call 95;refine hs.o.mono ?_;rintro e w' ⟨rfl,rfl⟩)
 go_loopg [10] 50 (λg i wr=>∃ k:Nat,k+g=50/\i=iw k/\Hd (∀ j,j<k->tE L f c j=false)/\wr=w)
 case atStart=>exact⟨0,by omega,rfl,λ_ h=>absurd h (dH _),rfl⟩
 case round=>
  obtain⟨k,A,rfl,t,rfl⟩:=hrel;by_cases s:k<50
  ·obtain⟨g1,rfl⟩:∃ i,gk=i+1:=⟨gk - 1,by omega⟩;have B:(k:Int)<50:=om;have hk:=LH (z.o k s);have d:=LH (x.o k);cases hb:nf L k with
   | false=>
    rw[hb] at hk;have a:=LH (show tE L f c k=false by rw[d.o,hb];rfl)
    go_wp2_with (go_at_call 71;refine hk.o.mono ?_;rintro e w' ⟨rfl,rfl⟩)
    go_roundg g1
    case measure=>omega
    case rel=>exact⟨k+1,by omega,by go_num,λj b=>(dO.1 b).elim (t.o j) (λe=>by subst e;exact a.o),rfl⟩
   | true=>
    rw[hb] at hk;by_cases h1:f<=k
    ·obtain⟨U,u⟩:=Ex (IntKind.u64.wrap f:Int);obtain⟨Z,l⟩:=Ex ((k:Int) - f:Int);have E:IntKind.u64.wrap (k:Int)=k:=by simp[IntKind.wrap,IntKind.bits,IntKind.signed];omega
     have D:IntKind.u64.wrap ((k:Int) - IntKind.u64.wrap f)=Z:=by rw[l];simp[IntKind.wrap,IntKind.bits,IntKind.signed];omega
     rw[<-u] at D;have w2:IntKind.u64.wrap f=U:=u.symm;by_cases y:Z<C
     ·have a:=LH (show uM L f c=true from bQ.2 ⟨k,by simpa using s,by rw[d.o,hb,<-l];simp[h1,y]⟩);replace u:=LH u;replace l:=LH l;rcases hcs with ⟨n,rfl⟩|⟨rfl,rfl⟩|⟨n,rfl⟩
      ·have p:c<=0:=om;have q:¬ 0<c:=om;have r:¬ 0<=c:=om
       go_wp2_with (go_at_call 71;refine hk.o.mono ?_;rintro e w' ⟨rfl,rfl⟩)
       go_ret;exact⟨by rw[a.o];rfl,rfl⟩
      ·go_wp2_with (go_at_call 71;refine hk.o.mono ?_;rintro e w' ⟨rfl,rfl⟩)
       go_ret;exact⟨by rw[a.o];rfl,rfl⟩
      ·have p:¬ C<=0:=om;have q:¬ C<0:=om;have r:0<=C:=om
       go_wp2_with (go_at_call 71;refine hk.o.mono ?_;rintro e w' ⟨rfl,rfl⟩)
       go_ret;exact⟨by rw[a.o];rfl,rfl⟩
     ·have a:=LH (show tE L f c k=false by rw[d.o,hb,<-l];simp[y]);replace u:=LH u;replace l:=LH l;rcases hcs with ⟨n,rfl⟩|⟨rfl,rfl⟩|⟨n,rfl⟩
      ·have p:c<=0:=om;have q:¬ 0<c:=om;have r:¬ 0<=c:=om
       go_wp2_with (go_at_call 71;refine hk.o.mono ?_;rintro e w' ⟨rfl,rfl⟩)
       go_roundg g1
       case measure=>omega
       case rel=>exact⟨k+1,by omega,by go_num,λj b=>(dO.1 b).elim (t.o j) (λe=>by subst e;exact a.o),rfl⟩
      ·go_wp2_with (go_at_call 71;refine hk.o.mono ?_;rintro e w' ⟨rfl,rfl⟩)
       go_roundg g1
       case measure=>omega
       case rel=>exact⟨k+1,by omega,by go_num,λj b=>(dO.1 b).elim (t.o j) (λe=>by subst e;exact a.o),rfl⟩
      ·have p:¬ C<=0:=om;have q:¬ C<0:=om;have r:0<=C:=om
       go_wp2_with (go_at_call 71;refine hk.o.mono ?_;rintro e w' ⟨rfl,rfl⟩)
       go_roundg g1
       case measure=>omega
       case rel=>exact⟨k+1,by omega,by go_num,λj b=>(dO.1 b).elim (t.o j) (λe=>by subst e;exact a.o),rfl⟩
    ·have a:=LH (show tE L f c k=false by rw[d.o,hb];simp[h1])
     go_wp2_with (go_at_call 71;refine hk.o.mono ?_;rintro e w' ⟨rfl,rfl⟩)
     go_roundg g1
     case measure=>omega
     case rel=>exact⟨k+1,by omega,by go_num,λj b=>(dO.1 b).elim (t.o j) (λe=>by subst e;exact a.o),rfl⟩
  ·obtain rfl:gk=0:=om;obtain rfl:k=50:=om;have a:=LH (show uM L f c=false from eo.2 (λj b=>by rw[t.o j (by simpa using b)];decide));clear s;go_wp2;go_ret;exact⟨by rw[a.o];rfl,rfl⟩
theorem Li {w:World}{m:Nat}{L:iz}(h:mj w m L) (f c:Int) (hf:-9223372036854775808<=f/\f<=9223372036854775807) (hc:-9223372036854775808<=c/\c<=9223372036854775807):Calls prog 59 #[iq m,iw f,iw c] w λe w'=>e=.returned (.bool (uM L f c))/\w=w':=by
 by_cases a:0<c
 ·exact zF h f c c hf hc.2 (.inr (.inr ⟨a,rfl⟩))
 ·by_cases h1:c=0
  ·exact zF h f c 0 hf om (.inr (.inl ⟨h1,rfl⟩))
  ·exact zF h f c 0 hf om (.inl ⟨by omega,rfl⟩)
section
variable {w w':World}{v m:Nat}{L:iz}{ks:List (Nat×iz)}{kh:Bool}
theorem DN (h:kF w v m L ks kh) (f c:Int) (hf:-9223372036854775808<=f/\f<=9223372036854775807) (hc:-9223372036854775808<=c/\c<=9223372036854775807):Calls prog 32 #[iq v,iw f,iw c] w λe w'=>e=.returned (.bool (uM (lh L ks) f c))/\Below w.heap.size w w':=by
 have hw:=LH (Cr h);clear h;go_enter func32,ntmps32
 go_wp2_with fail
 refine hw.o.mono ?_;rintro e d ⟨m',rfl,a,hb⟩;have b:=LH (Li a.at_ f c hf hc);replace hb:=LH hb;clear a hw
 go_wp2_with fail
 refine b.o.mono ?_;rintro e w2 ⟨rfl,rfl⟩;go_wp2;go_ret;exact⟨rfl,hb.o⟩
end
def DP (X:Int):Int:=bits .xor .u64 X (IntKind.u64.wrap (X*8192))
def DQ (X:Int):Int:=bits .xor .u64 (DP X) (DP X / 128)
def zI (X:Int):Int:=bits .xor .u64 (DQ X) (IntKind.u64.wrap (DQ X*131072))
def vS:Nat->Int->Int
 | 0,X=>X
 | k+1,X=>zI (vS k X)
def rF (s:Int):Int:=IntKind.u64.wrap (IntKind.u64.wrap (IntKind.u64.wrap s*2862933555777941757)+3037000493)
def qO (X:Int) (k:Nat):UInt8:=byte (vS (k+1) X / 16777216 % 256).toNat
theorem Ll:qO (rF 4) 0≠0:=by decide +kernel
theorem Lm:qO (rF 4) 64≠0:=by decide +kernel
theorem Ln {A M:iz}(hA:A.length=64) (_:M.length=32) (h:∀ j,j<64+32->(kT A M).toArray[2+j]?=some (iy (qO (rF 4) j).toNat)):A[0]?≠some 0/\M[0]?≠some 0:=by
 have e:(kT A M)=[iw 10,iw 100]++(aQ A++aQ M):=rfl;have b:=h 0 om;have a:=h 64 om;rw[aV,e,aL sm] at b a;simp only[bj,List.length_nil] at b a;rw[aX (by rw[km];omega)] at b;rw[aL (by rw[km];omega),km,hA] at a;refine⟨λc=>?_,λc=>?_⟩
 ·rw[aQ,bf,show (2+0 - (0+1+1))=0 from rfl,c] at b;simp only[IJ,dr,u8,dP] at b;refine Ll (gF ?_);have:((0:UInt8).toNat:Int)=((qO (rF 4) 0).toNat:Int):=b;omega
 ·rw[aQ,bf,show (2+64 - (0+1+1) - 64)=0 from rfl,c] at a;simp only[IJ,dr,u8,dP] at a;refine Lm (gF ?_);have:((0:UInt8).toNat:Int)=((qO (rF 4) 64).toNat:Int):=a;omega
theorem Lo (s:Int) (n:Nat) (hn:0<n) (hn2:n<=10000) (w:World):Calls prog 43 #[iw s,iw n] w λe w'=>∃ v l,e=.returned v/\l.length=n/\(∀ j,j<n->l[j]?=some (qO (rF s) j))/\Bytes w' (λg=>w.heap.size<=g) v l/\Below w.heap.size w w':=by
 have B:∀ u:World,_:=λu=>ui u n (n:Int) rfl om
 obtain⟨c,a⟩:=Ex (rF s);rw[<-a];replace a:=LH a;go_enter func43,ntmps43;go_wp2;rw[show IntKind.u64.wrap (IntKind.u64.wrap (IntKind.u64.wrap s*2862933555777941757)+3037000493)=c from a.o.symm];generalize IntKind.u64.wrap (IntKind.u64.wrap s*2862933555777941757)=A2;generalize IntKind.u64.wrap s=A1
 go_loopw [5,7] (λx i wr=>∃ k:Nat,k<=n/\i=iw k/\x=.int .u64 (vS k c)/\Below w.heap.size w wr/\w.heap.size<wr.heap.size/\∃ l:iz,l.length=n/\Hd (ke wr w.heap.size 5 l)/\Hd (∀ j,j<k->l[j]?=some (qO c j)))
  (λ_ i _=>n - (intOf i).toNat)
 case atStart=>exact⟨0,by omega,rfl,rfl,(ag _ _).alloc (ae _) _,by simp,List.replicate n 0,aK,aj w _,λj r=>absurd r (dH j)⟩
 case round=>
  obtain⟨k,hk,rfl,rfl,b,f,l,q,m,y⟩:=hrel;obtain⟨X,d⟩:=Ex (vS k c);rw[<-d];replace d:=LH d;replace b:=LH b;by_cases A:k<n
  ·have f0:=m.o.frozen k;have c0:=m.o.cell k om;go_wp2;go_roundw
   case rel=>
    have key:∀ Y:Int,Y=zI X->∃ t:iz,t.length=n/\Hd (ke (wr.setCell (iu w.heap.size k) (iy (Y / 16777216 % 256))) w.heap.size 5 t)/\Hd (∀ j,j<k+1->t[j]?=some (qO c j)):=by
     intro Y z;refine⟨l.set k (byte (Y / 16777216 % 256).toNat),bg.trans q,?_,λj r=>?_⟩
     ·have h:=m.o.set k (byte (Y / 16777216 % 256).toNat);rw[lM om,gx om] at h;exact h
     ·rw[ej];by_cases e:k=j
      ·subst e;rw[ak rfl,ak om,z,d.o];rfl
      ·rw[ah e];exact y.o j om
    exact⟨k+1,by omega,by go_num,by rw[show vS (k+1) c=zI X by rw[d.o];rfl];rfl,b.o.setCell (p:=iu w.heap.size k) (ae _) _,by simpa using f,key _ rfl⟩
   case measure=>simp[intOf];omega
  ·go_wp2;go_ret;refine⟨ir w.heap.size n n,l,rfl,q,λj r=>y.o j om,?_,b.o⟩;rw[Bytes,q];refine⟨by simp[km,q],_,n,rfl,by omega,by unfold maxLen;omega,λh=>(by simp at h),.inr ⟨w.heap.size,0,rfl,ae _,f,λj u hu=>?_⟩⟩;rw[aw,cell_of m.o]
   simpa using hu
def tG (w:World) (q ub uo:Nat) (B:Nat->UInt8) (n:Nat) (wr:World):Prop:=Below w.heap.size w wr/\wr.heap[q]?=some (.cells Tryz.zeroCells39 39 (0,0))/\(∃ cs,sH cs/\(∀ j,j<n->cs[2+j]?=some (iy (B j).toNat))/\wr.heap[q+1]?=some (.cells cs 39 (0,0)))/\∀ j,j<96->wr.cell? (iu ub (uo+j))=some (iy (B j).toNat)
theorem tG.set {w wr:World}{q ub uo n:Nat}{B:Nat->UInt8}(h:tG w q ub uo B n wr) (hq:w.heap.size<=q) (hne:ub≠q+1) (hn:n<96):tG w q ub uo B (n+1) (wr.setCell (iu (q+1) (2+n)) (iy (B n).toNat)):=by
 obtain⟨h1,c,⟨cs,b,d,a⟩,f⟩:=h;refine⟨h1.setCell (p:=iu (q+1) (2+n)) (by show w.heap.size<=q+1;omega) _,(kD _ _ _ (by show q≠q+1;omega)).trans c,⟨_,b.set n (B n),λj g=>?_,lz a _ _⟩,λi hi=>(az (kD _ _ _ hne)).trans (f i hi)⟩;by_cases e:j=n
 ·subst e;rw[dM (by rw[b.1];omega)]
 ·rw[bH om];exact d j om
theorem Lp (w:World):Calls prog 12 #[] w λe w'=>∃ A M:iz,A.length=64/\M.length=32/\(A[0]?≠some 0/\M[0]?≠some 0)/\e=.returned (.agg (kT A M).toArray)/\Below w.heap.size w w':=by
 obtain⟨q,G⟩:=Ex w.heap.size;obtain⟨w0,b⟩:=Ex ((w.alloc (.cells Tryz.zeroCells39 39)).alloc (.cells Tryz.zeroCells39 39));have b0:Below w.heap.size w w0:=by rw[b];exact ((ag _ _).alloc (ae _) _).alloc sm _
 have y0:w0.heap[q]?=some (.cells Tryz.zeroCells39 39 (0,0)):=by rw[b,G];exact (aB _ _ _ sm).trans (aj w _)
 have y1:w0.heap[q+1]?=some (.cells Tryz.zeroCells39 39 (0,0)):=by rw[b,G];have h:=aj (w.alloc (.cells Tryz.zeroCells39 39)) (.cells Tryz.zeroCells39 39);simp only[aN] at h;exact h
 have a:=mf (P:=prog) (ty:=39) (x:=kT (List.replicate 64 0) (List.replicate 32 0)) y1 (by rw[oC rfl rfl];exact rv) kr ux;obtain⟨Y,c⟩:=Ex (w0.setRow (q+1) sI);have b1:Below w.heap.size w Y:=by rw[c];exact below_setRow b0 om _
 have L:Y.heap[q]?=some (.cells Tryz.zeroCells39 39 (0,0)):=by rw[c];exact (aG _ _ _ _ om).trans y0
 have I:Y.heap[q+1]?=some (.cells sI 39 (0,0)):=by rw[c];exact aJ _ _ _ _ _ _ y1
 have hT:=LH (λw3=>Lo 4 96 de de w3);have Q:=LH CU;replace a:(Instr.storeAt 39 (iq (q+1)) (.agg sI)).run prog w0=.ok () Y:=by rw[c];exact a
 rw[G,b] at a;refine G6 b1 L I a b c ?_;clear b1 L I a b c;intro b1 L I a b c;have H:=LH G;clear b0 y0 y1 G;go_enter func12,ntmps12
 go_wp2_with (first|(refine vH rfl 39 _ rfl _ rfl _ (Q.o _) ?_)|(refine kI rfl 39 _ _ rfl _ _ rfl rfl a.o ?_)|fail)
 refine (hT.o _).mono ?_;rintro e w2 ⟨u,l,rfl,hl,hP,hu,D⟩;rw[<-H.o];have G:=H.o;have R:=b1.o.trans (D.mono b1.o.size);have z0:=(D.block q (dC L.o)).trans L.o;have z1:=(D.block (q+1) (dC I.o)).trans I.o;obtain⟨V,X,uc,rfl,a7,an,ax,aa,U⟩:=Cells.at hu om;have a8:V≠q+1:=by have:=dC I.o;omega
 rw[hl];have f:tG w q V X (qO (rF 4)) 0 w2:=⟨R,z0,⟨_,CV,λj hj=>absurd hj (dH j),z1⟩,λj hj=>U j _ (by rw[aQ,bf,hP j hj];rfl)⟩;have t:=LH (λ(wr:World) n (h:tG w q V X (qO (rF 4)) n wr) (hn:n<96)=>h.set om a8 hn);obtain⟨TB,B⟩:=Ex (qO (rF 4));rw[<-B] at f t;replace B:=LH B;clear hP;replace f:=LH f;clear R D hu U hT Q a L I z0 z1 b1 G aa hl a7;go_wp2
 go_loopg [3] 64 (λg i wr=>∃ k:Nat,k+g=64/\i=iw k/\Hd (tG w q V X TB k wr))
 case atStart=>exact⟨0,by omega,rfl,f.o⟩
 case round=>
  obtain⟨k,E,rfl,y⟩:=hrel;clear f;by_cases F:k<64
  ·obtain⟨g1,rfl⟩:∃ i,gk=i+1:=⟨gk - 1,by omega⟩;have a1:(k:Int)<64:=om;obtain⟨-,-,⟨cs,r,-,hg⟩,O⟩:=y.o;have hb:=O k om;obtain⟨b0,p⟩:=r.2.2.2 k om;have c0:=(cell_of hg (2+k)).trans p;have f0:=kY hg (2+k);have d:=LH (t.o wr k y.o om);clear O r hg y p;go_wp2;go_roundg g1
   case measure=>omega
   case rel=>exact⟨k+1,by omega,by go_num,d.o⟩
  ·obtain rfl:gk=0:=om;obtain rfl:k=64:=om;clear E F;obtain⟨wo,rfl⟩:=Ex (wr:World);go_wp2
   go_loopg [4] 32 (λg i wr=>∃ k:Nat,k+g=32/\i=iw k/\Hd (tG w q V X TB (64+k) wr))
   case atStart=>exact⟨0,by omega,rfl,y.o⟩
   case round=>
    obtain⟨k,E,rfl,y⟩:=hrel;by_cases F:k<32
    ·obtain⟨g1,rfl⟩:∃ i,gk=i+1:=⟨gk - 1,by omega⟩;have a1:(k:Int)<32:=om;obtain⟨-,-,⟨cs,r,-,hg⟩,O⟩:=y.o;obtain⟨m,hm⟩:=Ex (64+k);have ad:(64:Int)+k=m:=om;have a6:=LH (show 64+(k+1)=m+1 by omega);have af:(m:Int)<96:=om;have hb:=O m om;obtain⟨b0,p⟩:=r.2.2.2 m om;have c0:=(cell_of hg (2+m)).trans p;have f0:=kY hg (2+m);have d:=t.o wr m (hm ▸ y.o) om;rw[show 2+m=66+k by omega] at c0 f0 d;replace d:=LH d;replace hm:=LH hm;clear O r hg y p;go_wp2;go_roundg g1
     case measure=>omega
     case rel=>exact⟨k+1,by omega,by go_num,by rw[a6.o];exact d.o⟩
    ·obtain rfl:gk=0:=om;obtain rfl:k=32:=om;clear E F;obtain⟨h1,Z,⟨cs,h3,S,h4⟩,h5⟩:=y.o;obtain⟨A,M,J,K,rfl⟩:=h3.list;have hZ:=LH (Ln J K (by rw[<-B.o];exact S));clear S;have s:=mE (P:=prog) (w:=wr) (g:=q+1) (off:=0) (ty:=39) (x:=kT A M) underlying39 (by rw[oC J K];exact rv) (λj v hv=>by rw[aw,cell_of h4];simpa using hv);have a:=mf (P:=prog) (ty:=39) (x:=kT A M) Z (by rw[oC J K];exact rv) (by rw[oC J K];kernel_rfl) ux;have W:(wr.setRow q (kT A M).toArray).heap[q]?=some (.cells (kT A M).toArray 39 (0,0)):=aJ _ _ _ _ _ _ Z;have N:Below w.heap.size w (wr.setRow q (kT A M).toArray):=below_setRow h1 (by have:=H.o;omega) _;have T:=oC J K;obtain⟨C,hC⟩:=Ex ((kT A M).toArray);have z:(prog.info? 39).map (·.size)=some C.size:=by rw[hC,aT,T];exact rv
     rw[<-hC] at s a W N;refine G6 s a W N hC z ?_;clear s a W N hC z;intro s a W N hC z;clear h1 Z h3 h4 h5 y T
     go_wp2_with (first|(refine kQ rfl 39 _ rfl _ _ rfl s.o ?_)|(refine kI rfl 39 _ _ rfl _ _ rfl rfl a.o ?_)|fail)
     refine aI (bd results12 _ _ q 39 _ (0,0) _ rfl W.o underlying39 rfl z.o) rfl ⟨A,M,J,K,hZ.o,by rw[hC.o],N.o⟩
def sd (l:iz):Value:=.string ⟨l.toArray⟩
def uQ (w:World) (q B i:Nat):Prop:=∃ (dv hv:Value) (hs:List Bool),w.heap[q]?=some (.cells #[iw 10,iw 100,dv,hv,.bool false] 91 (0,0))/\w.ownsRow B 9 1 dv i (List.replicate i (sd nA))/\w.ownsRow B 4 1 hv 50 (hs.map Value.bool)/\B<=q
def oF (w:World) (q B:Nat) (c:Nat->iz):Prop:=∃ (dv hv:Value) (hs:List Bool),w.heap[q]?=some (.cells #[iw 10,iw 100,dv,hv,.bool false] 91 (0,0))/\w.ownsRow B 9 1 dv 50 ((List.range 50).map λp=>sd (c p))/\w.ownsRow B 4 1 hv 50 (hs.map Value.bool)
theorem LM:(prog.info? 9).map (λi=>(i.zero,i.size,i.bytes))=some (some (.string ByteArray.empty),1,16):=kr
section
variable {w w':World}{q B:Nat}{c:Nat->iz}
theorem oF.dB (h:oF w q B c) (hk:∀ (g:Nat) (cs:Array Value) (t:TypeId),(t=91\/t=9\/t=4)->w.heap[g]?=some (.cells cs t (0,0))->w'.heap[g]?=w.heap[g]?):oF w' q B c:=by
 obtain⟨dv,hv,hs,h1,a,b⟩:=h;refine⟨dv,hv,hs,(hk _ _ _ (.inl rfl) h1).trans h1,dE a (λg hg=>?_),dE b (λg hg=>?_)⟩
 ·obtain⟨cur,hc⟩:=kA a hg;exact hk _ _ _ (.inr (.inl rfl)) hc
 ·obtain⟨cur,hc⟩:=kA b hg;exact hk _ _ _ (.inr (.inr rfl)) hc
theorem oF.after (h:oF w q B c) (hb:Below w.heap.size w w'):oF w' q B c:=h.dB (λg _ _ _ hg=>hb.block g (dC hg))
theorem oF.cells (h:oF w q B c):∃ dg dc hg hc,w.cell? (iu q 2)=some (ir dg 50 dc)/\w.cell? (iu q 3)=some (ir hg 50 hc)/\∀ p,p<50->w.cell? (iu dg p)=some (sd (c p)):=by obtain⟨dv,hv,hs,h1,d,f⟩:=h;obtain⟨dg,dc,rfl,_⟩:=kz d om;obtain⟨hg,hc,rfl,_⟩:=kz f om;refine⟨dg,dc,hg,hc,cell_of h1 2,cell_of h1 3,λp hp=>?_⟩;obtain⟨db,b,a,e,_,_,_,_,hd⟩:=Cells.at (Cells.own d) om;simp only[IJ] at e;obtain⟨⟨rfl,rfl,_⟩,-,-⟩:=e;have:=hd p (sd (c p)) (by rw[bf,fh hp];rfl);rw[aw] at this;exact this
end
def vT (c:Nat->iz) (i:Nat):Nat->iz
 | 0=>[]
 | n+1=>vT c i n++c (i+n)
theorem uQ.dB {w w':World}{q B i:Nat}(h:uQ w q B i) (hb:aA No w w'):uQ w' q B i:=by obtain⟨dv,hv,hs,h1,a,b,c⟩:=h;exact⟨dv,hv,hs,(hb.block q (dC h1) id).trans h1,dE a (λg hg=>hb.block g (kt a g hg) id),dE b (λg hg=>hb.block g (kt b g hg) id),c⟩
theorem uQ.push {w w3:World}{q B i:Nat}(h:uQ w q B i) (hB:B<=w.heap.size) (hi:i<1000) (hR:aA No w w3){x:Value}(hx:Cells w3 (λ_=>True) x 1 1 [sd nA]):
  ∃ dv v' w4,w.cell? (iu q 2)=some dv/\(Builtin.append_ #[89,89] 89 #[dv,x]).run prog w3=.ok v' w4/\w4.cell? (iu q 2)=some dv/\w4.frozen? (iu q 2)=false/\(∃ g cp,v'=ir g (i+1) cp)/\uQ (w4.setCell (iu q 2) v') q B (i+1)/\aA (λg=>B<=g) w (w4.setCell (iu q 2) v'):=by
 obtain⟨dv,hv,hs,h1,c,j,s⟩:=h;obtain⟨v',w4,hr,l,o,A⟩:=tS (P:=prog) (bytes:=16) (t:=89) underlying89 LM rfl de c hB hR hx (by simp[sd,Value.oneCell']) mx om 89;have y:=dE c (λg hg=>hR.block g (kt c g hg) id)
 have a:w4.heap[q]?=some (.cells #[iw 10,iw 100,dv,hv,.bool false] 91 (0,0)):=by
  rw[o.block q (dC h1) (λe=>by obtain⟨cur,hc⟩:=kA c e;rw[h1] at hc;simp only[IJ] at hc;exact absurd hc.2.1 de)]
  exact h1
 have f:∀ {e:TypeId}{n:Nat}{u:Value}{xs:List Value},w4.ownsRow B e 1 u n xs->e≠91->∀ g,u.ownBlock=some g->(w4.setCell (iu q 2) v').heap[g]?=w4.heap[g]?:=λ{e n u xs} z k g hg=>kD _ _ _ (by rintro rfl;obtain⟨cur,hc⟩:=kA z hg;rw[a] at hc;simp only[IJ] at hc;exact k hc.2.1.symm)
 have d:w4.ownsRow B 4 1 hv 50 (hs.map Value.bool):=dE j (λg hg=>o.block g (kt j g hg) (λe=>by obtain⟨cur,hc⟩:=kA j hg;obtain⟨r,b⟩:=kA c e;rw[hc] at b;simp only[IJ] at b;exact absurd b.2.1 de))
 refine⟨dv,v',w4,cell_of h1 2,hr,cell_of a 2,kY a _,?_,⟨v',hv,hs,?_,?_,?_,s⟩,?_⟩
 ·obtain⟨v,cp,e,_⟩:=kz l om;exact⟨v,cp,e⟩
 ·exact lz a 2 v'
 ·have:=dE l (f l de);rw[<-ij (n:=i) (m:=1)];exact this
 ·exact dE d (f d de)
 ·exact (aA.mono o (λg _ e=>kJ c g e)).setCell (p:=iu q 2) (λ_=>s) _
variable {w:World}{B dg dc hg hc:Nat}
theorem oF.rows {q:Nat}{c:Nat->iz}(h:oF w q B c)(h2:w.cell? (iu q 2)=some (ir dg 50 dc)) (h3:w.cell? (iu q 3)=some (ir hg 50 hc)):(B<=dg/\w.frozen? (iu dg 0)=false/\50<=dc/\dc<=maxLen)/\(B<=hg/\50<=hc/\hc<=maxLen)/\(∀ p,p<50->w.frozen? (iu dg p)=false/\w.frozen? (iu hg p)=false/\(∃ u,w.cell? (iu dg p)=some (.string u))/\∃ u,w.cell? (iu hg p)=some u):=by
 obtain⟨dv,hv,hs,l,j,i⟩:=h;rw[cell_of l] at h2 h3;simp at h2 h3;subst h2 h3;obtain⟨cur,a⟩:=kA j (g:=dg) rfl;obtain⟨k,b⟩:=kA i (g:=hg) rfl;obtain⟨_,_,f1,f2,f3⟩:=kz j om;obtain⟨_,_,f4,f5,f6⟩:=kz i om;simp only[IJ] at f1 f4;obtain⟨-,-,rfl⟩:=f1;obtain⟨-,-,rfl⟩:=f4;refine⟨⟨kJ j dg rfl,kY a 0,f2,f3⟩,⟨kJ i hg rfl,f5,f6⟩,λp hp=>⟨kY a p,kY b p,?_,?_⟩⟩
 ·obtain⟨db,f,d,e,_,_,_,_,hd⟩:=Cells.at (Cells.own j) om;simp only[IJ] at e;obtain⟨⟨rfl,rfl,_⟩,-,-⟩:=e;have:=hd p (sd (c p)) (by rw[bf,fh hp];rfl);rw[aw] at this;exact⟨_,this⟩
 ·obtain⟨db,f,d,e,_,_,_,_,hd⟩:=Cells.at (Cells.own i) om;simp only[IJ] at e;obtain⟨⟨rfl,rfl,_⟩,-,-⟩:=e;have m:(hs.map Value.bool).length=50:=by have:=i.1;omega
  have:=hd p _ (av (show p<(hs.map Value.bool).length by omega));rw[aw] at this;exact⟨_,this⟩
end Go.Proofs.YthmcbgidehjlbaaGreat.Fd

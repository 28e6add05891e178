/-
 Parts of the proof. No condition beyond what each theorem names.
-/
import Derived.Lib.AppendStr
import Derived.Test.YthmcbgidehjlbaaGreatOpAg
import Derived.Test.YthmcbgidehjlbaaGreatOpAh
import Derived.Test.YthmcbgidehjlbaaGreatOpAm
import Derived.Test.YthmcbgidehjlbaaGreatOpAx
set_option maxRecDepth 100000
set_option maxHeartbeats 16000000
namespace Go.Proofs.YthmcbgidehjlbaaGreat.Fd
open _root_.Go.Proofs.Tryz
open Go Go.RowKit K
theorem Kw:uE (.new 120):=⟨λp hp _=>by simp only[D.Dk.at,D.Dk.new,List.drop_replicate,List.take_replicate];congr 1;omega,λq a=>absurd (show q ∈ ([]:List (Nat×iz)) from a) (bL)⟩
theorem Kx {w:World}{F:Nat->Prop}{d sb:Nat}{X:D.Dk}(h:D.At w F d X) (hs:uG w d sb):F sb:=by obtain⟨n,c,hc⟩:=hs;obtain⟨⟨sv,pv,pcs,h1,_,_,_,_,_,a,_⟩,_⟩:=h;refine a sb (.inl ?_);rw[cell_of h1] at hc;simp at hc;rw[hc];rfl
structure xI (B:Nat) (w:World) (d v m s b sb t r:Nat) (xs:List Value) (A M:iz) (tp:Option Addr) (X:D.Dk) (n:Nat) (gs:Nat->Nat) (Ls:List iz):Prop where
 kC:kI w v m (List.replicate 7 0) [] false
 base:oD xs d s b ⟨#[119]⟩ A M
 box:w.heap[v]?=some (.cells (ph xs t m 0 r).toArray 104 (0,0))
 su:kV w s none tp
 tree:lx w t b b gs M Ls []
 l4:Ls.length=4
 marks:ly w m (List.replicate 7 0) b
 br:b<=r
 ring:ou w r d s b ⟨#[119]⟩ A M 0
 nE:mj w d sb X
 low:uE X
 mu:n<=400
 book:Bk w b n
 al:A.length=64
 ml:M.length=32
 hd:B<=d/\d<b
 nK:B<=sb/\sb<b
 hs:B<=s/\s<b
 bv:b<=v
theorem Ky (w:World):Bytes w (λ_=>False) (.slice none 0 0) []:=Cells.nil _ _ 1
theorem Dd (w:World):Calls prog 9 #[] w λe w'=>∃ d v m,e=.returned (.tuple #[iq d,iq v,.bool true])/\(∃ s b sb t r xs A M tp X n gs Ls,xI w.heap.size w' d v m s b sb t r xs A M tp X n gs Ls)/\w.heap.size<=v/\w.heap.size<=m/\(∀ g,kF w' v g->w.heap.size<=g)/\Below w.heap.size w w':=by
 have R:=LH (D.oS.new 120 om om w);go_enter func9,ntmps9
 go_wp2_with fail
 refine R.o.mono ?_;rintro e w1 ⟨d,rfl,W⟩;replace W:=LH W;have ht:=LH (Fw (Ky w1) sm);clear R
 go_wp2_with fail
 refine ht.o.mono ?_;rintro e w2 ⟨p,bv,rfl,-,-,K⟩;replace K:=LH K;have hr:=LH (Fx (some (iu p 0)) w2);clear ht
 go_wp2_with fail
 refine hr.o.mono ?_;rintro e w3 ⟨s,rfl,N,l,L⟩;revert N l L;refine H3 ?_;intro N l L;have hh:=LH (zA w3);clear hr
 go_wp2_with fail
 refine hh.o.mono ?_;rintro e S ⟨A,M,hA,hM,rfl,h⟩;revert hA hM h;refine H3 ?_;intro hA hM h;obtain⟨H,hH⟩:=Ex ((k9 A M).toArray);rw[<-hH];replace hH:=LH hH;have hc:=LH (Kt S);clear hh
 go_wp2_with fail
 refine hc.o.mono ?_;rintro e w5 ⟨rfl,af,b4⟩;have x:Below S.heap.size S w5:=by rw[b4];exact (ag _ _).alloc (ae _) _
 obtain⟨F,V,a,Z⟩:=W.o;have E:=Z.trans (K.o.mono Z.size);have U:=E.trans (L.o.mono E.size);have G:=U.trans (h.o.mono U.size);have j:=G.trans (x.mono G.size);have O:Below w1.heap.size w1 w2:=K.o;have ad:=O.trans (L.o.mono O.size);have P:=ad.trans (h.o.mono ad.size);have b6:=P.trans (x.mono P.size);have aa:Below w3.heap.size w3 S:=h.o;have b5:=aa.trans (x.mono aa.size);have u:D.At w5 F d (.new 120):=V.kj (aQ.dE b6 No) (λ_ _=>id);have J:kV w5 s none (some (iu p 0)):=(b5.block s (dD l.o)).trans l.o;have Y:=V.lim;have a6:¬ F s:=λe=>by have:=Y s e;have:=N.o;have:=O.size;omega
 have I:∀ g,F g->g<S.heap.size:=λg hg=>by have:=Y g hg;have:=P.size;omega
 obtain⟨sb,nK⟩:=IY u;have a1:=u.self;have B:=Kx u nK;have b2:=Ex S.heap.size;obtain⟨b,y⟩:=b2
 have f:(w.heap.size<=d/\d<b)/\(w.heap.size<=sb/\sb<b)/\(w.heap.size<=s/\s<b):=by rw[y];have e1:=a d a1;have e2:=I d a1;have e3:=a sb B;have e4:=I sb B;have e5:=N.o;have e6:=dD l.o;have e7:=h.o.size;have e8:=E.size;exact⟨⟨e1,e2⟩,⟨e3,e4⟩,by omega,by omega⟩
 have C:∀ T,aQ (λg=>F g\/lH w5 S.heap.size g) w5 T->kV T s none (some (iu p 0)):=λT hC=>(hC.block s (dD J) (λe=>e.elim a6 (λe=>by have:=e.ge;have:=dD l.o;have:=h.o.size;omega))).trans J
 replace f:=LH f;replace C:=LH C;have q:=I7 (ke:=⟨#[119]⟩) u (k:=0) ⟨⟨rfl,rfl⟩,by kernel_rfl,by simp[D.Dk.new],Kw⟩ om J a6 af om I nK hA.o hM.o;rw[<-hH.o] at q;have c:S.heap.size<=w5.heap.size:=x.size;rw[<-y] at q C c ⊢;revert j q c;refine H3 ?_;intro j q c;have i:=G.size;rw[<-y] at i;revert a y i;refine H3 ?_;intro a y i;clear hc b4 x E U G O ad P b6 aa b5 u J a6 I Y af Z V a1 B
 go_wp2_with fail
 refine q.o.mono ?_;rintro e T ⟨v,rfl,a7,⟨m,b3,hV,xs,t,r,hx,a8,ay,⟨gs,Ls,hT,b8⟩,⟨b7,hR⟩,⟨X',ax,Q⟩,n',ba,an⟩,hC⟩;have hX:xI w.heap.size T d v m s b sb t r xs A M (some (iu p 0)) X' n' gs Ls:=⟨hV,hx,a8,C.o T hC,hT.lower c.o,b8,ay,b7,hR,ax,Q,by omega,an,hA.o,hM.o,f.o.1,f.o.2.1,f.o.2.2,am c.o a7⟩
 have z:Below w.heap.size w T:=j.o.trans (hC.below j.o.size (λg hg e=>by
  rcases e with e|e
  ·have:=a.o g e;omega
  ·have:=e.ge;have:=i.o;omega))
 have h1:w.heap.size<=v:=am j.o.size a7;have h2:w.heap.size<=m:=am j.o.size b3
 have h3:∀ g,kF T v g->w.heap.size<=g:=λg hg=>by
  rcases hg with rfl|⟨n,pc,hc⟩
  ·exact h1
  ·rw[cell_of a8,aV,ph,aL (by rw[hx.len];omega),hx.len] at hc;cases hc
 revert hX z h3;refine H3 ?_;intro hX z h3;clear hC q a7 b3 hx a8 ay hT hR ax Q an hV C;go_wp2
 go_ret3
 exact⟨_,_,m,rfl,⟨_,_,_,_,_,_,_,_,_,_,_,_,_,hX.o⟩,h1,h2,h3.o,z.o⟩
theorem Kz (w:World):Calls prog 9 #[] w λe w'=>∃ d v m,e=.returned (.tuple #[iq d,iq v,.bool true])/\w.heap.size<=v/\w.heap.size<=m/\kI w' v m (List.replicate 7 0) [] false/\(∀ g,kF w' v g->w.heap.size<=g)/\Below w.heap.size w w':=(Dd w).mono λ_ _ ⟨d,v,m,h1,⟨_,_,_,_,_,_,_,_,_,_,_,_,_,a⟩,b,c,f,h⟩=>⟨d,v,m,h1,b,c,a.kC,f,h⟩
end Go.Proofs.YthmcbgidehjlbaaGreat.Fd
namespace Go.Proofs.YthmcbgidehjlbaaGreat.P
open _root_.Go.Proofs.Tryz
open Go Go.RowKit K
theorem KA (w:World) (x x':Operand) (a b c d:Int) (r:Bool) (h:(!(decide (a=c) && decide (b=d)))=r):((do eqGuard .neq 27 x x' (.agg #[iw a,iw b]) (.agg #[iw c,iw d]);binOp .neq 27 (.agg #[iw a,iw b]) (.agg #[iw c,iw d])):Sem Value).run prog w=.ok (.bool r) w:=by have f:prog.underlying 27=some (.struct (prog.fieldsOf 27)):=kr;have hp:prog.stoodInHeld 27=false:=kr;have hm:prog.eqGuardType prog.depth 27=false:=kr;have g:=underlying3;have a3:=Tryz.isAgg3;have z3:=Tryz.sizeOf3;rw[aM,run_eqGuard_agg _ _ _ _ _ _ _ hm,bu,run_neq_struct,show (10000:Nat)=9999+1 from rfl,run_equalIn_agg w 9999 27 _ _ f hp];simp only[Program.fieldsOf,underlying27];go_simp;subst h;by_cases h1:a=c<;>by_cases e:b=d<;>simp[h1,e]
theorem De (w:World) (x x':Operand) (u v:Array Value) (op:BinOp):(eqGuard op 27 x x' (.agg u) (.agg v)).run prog w=.ok () w:=run_eqGuard_agg _ _ _ _ _ _ _ kr
theorem KB (w:World) (a b c d:Int):(binOp .neq 27 (.agg #[iw a,iw b]) (.agg #[iw c,iw d])).run prog w=.ok (.bool (!(decide (a=c) && decide (b=d)))) w:=by have h:=KA w (.tmp 0) (.tmp 0) a b c d _ rfl;rw[aM,De,bu] at h;exact h
theorem KC (w:World) (l:List Ar) (h:l.length<=1000):Cells (w.alloc (.cells (lP l).toArray 27)) (·=w.heap.size) (ir w.heap.size l.length l.length) l.length 2 (lP l):=by
 refine⟨rF l,_,_,rfl,ae _,by unfold maxLen;omega,λh=>(by cases h),.inr ⟨_,0,rfl,rfl,by simp,λj u hu=>?_⟩⟩;rw[aw,cell_of (aj _ _)]
 simpa using hu
end Go.Proofs.YthmcbgidehjlbaaGreat.P
namespace Go.Proofs.YthmcbgidehjlbaaGreat.Fd
open _root_.Go.Proofs.Tryz
open Go Go.RowKit K
theorem KD (w:World):Calls prog 34 #[.pointer none] w λe w'=>e=.returned (.agg #[iw 0,iw 0])/\Below w.heap.size w w':=by
 have b:(w.alloc (.cells #[iw 0,iw 0] 27)).heap[w.heap.size]?=some (.cells #[iw 0,iw 0] 27 (0,0)):=aj w _;have a:=mF (P:=prog) (ty:=27) (x:=[iw 0,iw 0]) b kr rfl (by simp[Value.oneCell']);have c:((w.alloc (.cells #[iw 0,iw 0] 27)).setRow w.heap.size ([iw 0,iw 0]:List Value).toArray).heap[w.heap.size]?=some (.cells #[iw 0,iw 0] 27 (0,0)):=aJ _ _ _ _ _ _ b;have hb:Below w.heap.size w ((w.alloc (.cells #[iw 0,iw 0] 27)).setRow w.heap.size ([iw 0,iw 0]:List Value).toArray):=below_setRow ((ag _ _).alloc (ae _) _) (ae _) _;revert a c hb;refine H3 ?_;intro a c hb;clear b;go_enter func34,ntmps34
 go_wp2_with (first|(refine kN rfl 27 _ _ rfl _ _ rfl rfl a.o ?_)|fail)
 refine aI (bd results34 _ _ w.heap.size 27 _ (0,0) _ rfl c.o underlying27 rfl kr) rfl ⟨rfl,hb.o⟩
theorem KF (w:World):Calls prog 28 #[.pointer none,iw 0,iw 48] w λe w'=>e=.returned (.tuple #[.agg #[iw 0,iw 0],iw 3])/\Below w.heap.size w w':=by
 obtain⟨n0,j⟩:=Ex w.heap.size;obtain⟨A,l⟩:=Ex (w.alloc (.cells #[iw 0,iw 0] 27));have b1:Below w.heap.size w A:=by rw[l];exact (ag _ _).alloc (ae _) _
 have v:A.heap[n0]?=some (.cells #[iw 0,iw 0] 27 (0,0)):=by rw[l,j];exact aj w _
 have E:=LH (KD A);have z:=LH (λd=>P.BR (x:=0) (y:=0) (p:=0) (q:=48) (f:=0) (c:=0) (b:=false) de de d);replace b1:=LH b1;replace v:=LH v;go_enter func28,ntmps28;have F:=LH l;subst l
 go_wp2_with fail
 refine E.o.mono ?_;rintro e w2 ⟨rfl,g⟩;replace g:=LH g;clear E
 go_wp2_with fail
 refine (z.o w2).mono ?_;rintro e d ⟨rfl,t⟩;rw[<-j];have h:=g.o.trans (t.mono g.o.size);have B:=(h.block n0 (dD v.o)).trans v.o;have i:Below w.heap.size w d:=b1.o.trans (h.mono b1.o.size);have G:(d.alloc (.cells #[iw 0,iw 0] 27)).heap[d.heap.size]?=some (.cells #[iw 0,iw 0] 27 (0,0)):=aj d _;have a:=mF (P:=prog) (ty:=27) (x:=[iw 0,iw 0]) G kr rfl (by simp[Value.oneCell']);obtain⟨u,m⟩:=Ex ((d.alloc (.cells #[iw 0,iw 0] 27)).setRow d.heap.size #[iw 0,iw 0]);have r:Below d.heap.size d u:=by rw[m];exact below_setRow ((ag _ _).alloc (ae _) _) (ae _) _
 have D:=(r.block n0 (dD B)).trans B;have n:Below w.heap.size w u:=i.trans (r.mono i.size);rw[<-show u=(d.alloc (.cells #[iw 0,iw 0] 27)).setRow d.heap.size ([iw 0,iw 0]:List Value).toArray from m] at a;have k:=mF (P:=prog) (ty:=27) (x:=[iw 0,iw 0]) D kr rfl (by simp[Value.oneCell']);have C:(u.setRow n0 ([iw 0,iw 0]:List Value).toArray).heap[n0]?=some (.cells #[iw 0,iw 0] 27 (0,0)):=aJ _ _ _ _ _ _ D;have s:Below w.heap.size w (u.setRow n0 ([iw 0,iw 0]:List Value).toArray):=below_setRow n (by rw[j];exact ae _) _;revert j a m k C s;refine H6 ?_;intro j a m k C s;clear h g t B i G r b1 v D n
 go_wp2_with (first|(refine kN rfl 27 _ _ rfl _ _ rfl rfl a.o ?_)|(refine kN rfl 27 _ _ rfl _ _ rfl rfl k.o ?_)|fail)
 refine aI (sL results28 _ _ n0 27 _ (0,0) _ rfl C.o underlying27 rfl kr) rfl ⟨rfl,s.o⟩
theorem kF.lt {w:World}{v m:Nat}{L:iz}{ks:List (Nat×iz)}{ki:Bool}(h:kI w v m L ks ki){g:Nat}(hg:kF w v g):g<w.heap.size:=by obtain⟨cs,t,h1,_⟩:=kF.type h hg;exact dD h1
theorem KG (i:Nat){l:iz}(hl:l.length=64):lU i l 1=[(i,l)]:=by
 have h:(l.drop 0).take 64=l:=by rw[fA,bh om]
 show [(i+0,(l.drop (0*64)).take 64)]=_;rw[Nat.zero_mul,h,dY]
theorem KH (w:World):Calls prog 8 #[] w λe w'=>e=.returned (.bool true)/\Below w.heap.size w w':=by
 have a6:=P.De;have a8:=P.KB;have hf:=LH (Kz w);have Z:rD (lp (List.replicate 7 0) []) 2 48=(62,48):=by decide +kernel
 have r2:rC (lp (List.replicate 7 0) []) 2 48=0:=by decide +kernel
 have r3:rD (lp (List.replicate 7 0) []) 2 49=(0,0):=by decide +kernel
 have r4:rC (lp (List.replicate 7 0) []) 2 49=3:=by decide +kernel
 revert Z r2 r3 r4;refine H4 ?_;intro Z r2 r3 r4;go_enter func8,ntmps8
 go_wp2_with fail
 refine hf.o.mono ?_;rintro e w1 ⟨d,v,m,rfl,K,V,j,f,B⟩;have y:=CK j 2 48;rw[Z.o,r2.o] at y;dsimp only at y;revert K j f B y;refine H5 ?_;intro K j f B y;clear hf V
 go_wp2_with fail
 refine y.o.mono ?_;rintro e w2 ⟨rfl,hb⟩;have c:=hb.alloc hb.size (.cells #[iw (62),iw (48)] 27);replace B:=LH (B.o.trans (c.mono B.o.size));have i:=λg=>kF.back (g:=g) j.o (aQ.dE c No) id
 replace f:=LH (λg hg=>f.o g (i g hg));replace j:=LH (j.o.after c);have l:=LH (P.Hz w2 (62) (48));clear hb c i y
 go_wp2_with fail
 obtain⟨p4,O⟩:=Ex w2.heap.size;rw[<-O] at l ⊢;clear O;generalize w2.alloc (.cells #[iw 62,iw 48] 27)=W2 at*;have y:=CK j.o 2 49;rw[r3.o,r4.o] at y;refine y.mono ?_;rintro e q ⟨rfl,hb⟩;have c:=hb.alloc hb.size (.cells #[iw (0),iw (0)] 27);replace B:=LH (B.o.trans (c.mono B.o.size));have i:=λg=>kF.back (g:=g) j.o (aQ.dE c No) id
 replace f:=LH (λg hg=>f.o g (i g hg));replace j:=LH (j.o.after c);replace l:=LH (l.o.dC c);clear hb c i y
 go_wp2_with fail
 generalize q.alloc (.cells #[iw 0,iw 0] 27)=W3 at*;refine (KF W3).mono ?_;rintro e C ⟨rfl,hb⟩;have c:=hb.alloc hb.size (.cells #[iw (0),iw (0)] 27);replace B:=LH (B.o.trans (c.mono B.o.size));have i:=λg=>kF.back (g:=g) j.o (aQ.dE c No) id
 replace f:=LH (λg hg=>f.o g (i g hg));replace j:=LH (j.o.after c);replace l:=LH (l.o.dC c);have c0:=l.o.c0;have c1:=l.o.c1;have Y:=l.o.lt;clear hb c i
 go_wp2_with fail
 have I:=P.KC (C.alloc (.cells #[iw 0,iw 0] 27)) [(62,48),(0,0)] de;rw[aN,show ([(62,48),(0,0)]:List P.Ar).length=2 from rfl,show (P.lP [(62,48),(0,0)]).toArray=#[iw 62,iw 48,iw 0,iw 0] from rfl] at I;have J:=Ki v I de;obtain⟨n4,z⟩:=Ex C.heap.size;have F:(C.alloc (.cells #[iw 0,iw 0] 27)).heap.size=n4+1:=by rw[aN,z]
 rw[<-z] at J ⊢;clear I c0 c1 Y;generalize C.alloc (.cells #[iw 0,iw 0] 27)=W4 at*;replace F:=LH F;replace z:=LH z;refine J.mono ?_;clear J;rintro e w5 ⟨k,rfl,N,n,hb⟩;have U:=LH (show w.heap.size<=k from am B.o.size (am sm N));clear N;have c:Below W4.heap.size W4 w5:=((ag _ _).alloc (ae _) _).trans (hb.mono sm);replace B:=LH (B.o.trans (c.mono B.o.size));have i:=λg=>kF.back (g:=g) j.o (aQ.dE c No) id
 replace f:=LH (λg hg=>f.o g (i g hg));replace j:=LH (j.o.after c);replace l:=LH (l.o.dC c);rw[show ([(62,48),(0,0)]:List P.Ar).filter P.kR=[(62,48)] from rfl] at n;replace n:=LH n;have c0:=l.o.c0;have c1:=l.o.c1;have Y:=l.o.lt;clear hb c i
 go_wp2_with fail
 refine (Kl n.o de).mono ?_;rintro e w6 ⟨g6,c6,rfl,hb⟩;replace B:=LH (B.o.trans (hb.mono B.o.size));have i:=λg=>kF.back (g:=g) j.o (aQ.dE hb No) id
 replace f:=LH (λg hg=>f.o g (i g hg));replace j:=LH (j.o.after hb);replace n:=LH (n.o.after hb);clear hb i c0 c1 Y l
 go_wp2_with fail
 refine (D.xj _ _).mono ?_;rintro e w7 ⟨rfl,hs,hb⟩
 have x:∀ g,g=w6.heap.size->¬ kF w7 v g:=λg e G=>by have:=kF.lt j.o (kF.back j.o (aQ.dE hb No) id G);omega
 replace B:=LH (B.o.trans (hb.mono B.o.size));have i:=λg=>kF.back (g:=g) j.o (aQ.dE hb No) id
 replace f:=LH (λg hg=>f.o g (i g hg));replace j:=LH (j.o.after hb);replace n:=LH (n.o.after hb);have hw:=Dc n.o j.o hs x 0 1 (D.uA _) om om sm sm;rw[KG 0 (D.uA _)] at hw;replace hw:=LH hw;clear hb i hs x
 go_wp2_with fail
 refine hw.o.mono ?_;rintro e w8 (⟨-,rfl,hV8,hK8,hC,hN⟩|⟨h,-⟩)
 rotate_left
 ·exact absurd h de
 have E:∀ g,kF w8 v g->w.heap.size<=g:=λg hg=>(hN g hg).elim (f.o g) (λe=>am B.o.size e)
 replace B:=LH (B.o.trans (hC.below B.o.size (λg hg G=>by have:=f.o g G;omega)));obtain⟨KS,t⟩:=Ex ([]++[(0,D.sec [97])]:List (Nat×iz));rw[<-t] at hV8;have H:KS.length=1:=by rw[t];rfl
 replace t:=LH t;replace H:=LH H;replace j:=LH hV8;replace n:=LH hK8;replace f:=LH E;clear hV8 hK8 E hC hN hw
 go_wp2_with fail
 refine (D.xj _ _).mono ?_;rintro e w9 ⟨rfl,hs,hb⟩
 have x:∀ g,g=w8.heap.size->¬ kF w9 v g:=λg e G=>by have:=kF.lt j.o (kF.back j.o (aQ.dE hb No) id G);omega
 replace B:=LH (B.o.trans (hb.mono B.o.size));have i:=λg=>kF.back (g:=g) j.o (aQ.dE hb No) id
 replace f:=LH (λg hg=>f.o g (i g hg));replace j:=LH (j.o.after hb);replace n:=LH (n.o.after hb);have hw:=Dc n.o j.o hs x 2 1 (D.uA _) om om (by rw[H.o];omega) sm;replace hw:=LH hw;clear hb i hs x
 go_wp2_with fail
 refine hw.o.mono ?_;rintro e aa (⟨h,-⟩|⟨-,rfl,hV8,hK8,hC⟩)
 ·exact absurd h de
 have a7:w.heap.size<=k:=U.o;replace B:=LH (B.o.trans (hC.below B.o.size (λg hg G=>G.elim (λe=>by have:=K.o;omega) (λe=>by omega))));replace j:=LH hV8;replace n:=LH hK8;clear hV8 hK8 hC hw f
 go_wp2_with fail
 refine (D.xj _ _).mono ?_;rintro e a1 ⟨rfl,-,hb⟩;replace B:=LH (B.o.trans (hb.mono B.o.size));replace j:=LH (j.o.after hb);replace n:=LH (n.o.after hb);clear hb
 go_wp2_with fail
 refine (Kq n.o j.o 0 _ _ _).mono ?_;rintro e ad ⟨rfl,rfl⟩;have L:a1.cell? (iu k 0)=some (iq v):=by obtain⟨g,cap,h1,_⟩:=n.o;exact cell_of h1 0
 have Q:=LH (Kb j.o 0 1 om (λp hp=>by
  have:∀ p,p<50->nB (List.replicate 7 0) p=false:=by decide +kernel
  exact this p hp))
 go_wp2_with fail
 refine Q.o.mono ?_;rintro e s ⟨u,rfl,hu,hb⟩;rw[show sg KS 0 1=D.sec [97] by rw[t.o];kernel_rfl] at hu
 have A:Bytes s (λ_=>True) u (D.sec [97]):=by show Cells _ _ _ (D.sec [97]).length 1 _;rw[D.uA];exact (Cells.own hu).mono (λ_ _ _=>trivial)
 replace B:=LH (B.o.trans (hb.mono B.o.size));replace j:=LH (j.o.after hb);replace n:=LH (n.o.after hb);replace A:=LH A;have W:∃ ua un uc,u=.slice ua un uc:=by obtain⟨ua,uc,e,_⟩:=A.o.shape;exact⟨_,_,_,e⟩
 obtain⟨ua,un,uc,rfl⟩:=W;clear hb hu Q L;have L:s.cell? (iu k 0)=some (iq v):=by obtain⟨g,cap,h1,_⟩:=n.o;exact cell_of h1 0
 replace L:=LH L
 go_wp2_with fail
 have r:=Dr s
 replace r:=LH r;have S:=LH (λq (h:aQ No s.drew q)=>(((r.o _ h).cell (p:=iu k 0) (kZ L.o) id).trans L.o));have T:=LH (λq (h:aQ No s.drew q)=>Kj (n.o.after (r.o _ h).no));have X:=LH (λq (h:aQ No s.drew q)=>vG (j.o.after (r.o _ h).no));refine RA.rt (aQ No) [1,1,1,1,1,1,1,1,1,1,1,1,4,1,1,1,1,1,1,4,1,1,1,1,1,1,1,1,3,1,1,1,1,1,4,1,1,1,1,4,1,1,1,1] [] (λ_=>True) trivial (λ_=>aQ.refl _ _) (λ_ _ _ h k=>h.trans k) (h:=?_);intro cx
 repeat (first|refine RA.qq ?_|refine RA.eq true (hr:=by rfl) (h:=?_)|refine RA.pt kr rf rf rf ?_|refine RA.es true (hr:=by simp) (h:=?_)|refine RA.nt (h:=?_))
 refine RA.kc (P:=prog) [iq k] (.bool true) (hr:=λq hp hH=>(T.o q hp.1).mono (by rintro e C ⟨rfl,rfl⟩;exact⟨rfl,aQ.refl _ _,trivial⟩)) (hn:=?_)
 repeat (first|refine RA.qq ?_|refine RA.eq true (hr:=by rfl) (h:=?_)|refine RA.pt kr rf rf rf ?_|refine RA.es true (hr:=by simp) (h:=?_)|refine RA.nt (h:=?_))
 refine RA.fk prog k 0 (h:=?_);refine RA.lk prog (iq v) (hc:=λq hp=>by exact S.o _ hp.1) (h:=?_);refine RA.kc (P:=prog) [iq v] (.bool true) (hr:=λq hp hH=>(X.o q hp.1).mono (by rintro e C ⟨rfl,rfl⟩;exact⟨rfl,aQ.refl _ _,trivial⟩)) (hn:=?_)
 repeat (first|refine RA.qq ?_|refine RA.eq true (hr:=by rfl) (h:=?_)|refine RA.pt kr rf rf rf ?_|refine RA.es true (hr:=by simp) (h:=?_)|refine RA.nt (h:=?_))
 refine RA.cv (hr:=λq hp=>by exact qC _ _ _ _ underlying42 underlying5 underlying9 _ _ _ (A.o.kj (r.o _ hp.1) (λ_ _ _=>id))) (h:=?_);refine RA.qc (P:=prog) [.string ⟨#[97]⟩] (λv q=>∃ g,v=ir g 64 64/\Bytes q (λ_=>True) v (D.sec [97])) (hs:=λv a b h R=>by obtain⟨g,h3,h4⟩:=R;exact⟨g,h3,h4.kj h (λ_ _ _=>id)⟩) (hr:=λq hp hH=>(D.xj _ _).mono (by rintro e C ⟨rfl,h1,R⟩;exact⟨_,rfl,aQ.dE R _,⟨_,rfl,h1.mono (λ_ _ _=>trivial)⟩,trivial⟩)) (hn:=λu=>?_);refine RA.cv (hr:=λq hp=>by obtain⟨g,hg,hb⟩:=hp.fact 0 rfl kr;exact qC _ _ _ _ underlying42 underlying5 underlying9 _ _ _ hb) (h:=?_)
 repeat (first|refine RA.qq ?_|refine RA.eq true (hr:=by rfl) (h:=?_)|refine RA.pt kr rf rf rf ?_|refine RA.es true (hr:=by simp) (h:=?_)|refine RA.nt (h:=?_))
 refine RA.kc (P:=prog) [.pointer none] (.bool false) (hr:=λq hp hH=>(Kk _).mono (by rintro e C ⟨rfl,rfl⟩;exact⟨rfl,aQ.refl _ _,trivial⟩)) (hn:=?_)
 repeat (first|refine RA.qq ?_|refine RA.eq true (hr:=by rfl) (h:=?_)|refine RA.pt kr rf rf rf ?_|refine RA.es true (hr:=by simp) (h:=?_)|refine RA.nt (h:=?_))
 refine RA.kc (P:=prog) [.pointer none] (.slice none 0 0) (hr:=λq hp hH=>(Km _).mono (by rintro e C ⟨rfl,rfl⟩;exact⟨rfl,aQ.refl _ _,trivial⟩)) (hn:=?_);refine RA.vk prog (iw 0) (h:=?_)
 repeat (first|refine RA.qq ?_|refine RA.eq true (hr:=by rfl) (h:=?_)|refine RA.pt kr rf rf rf ?_|refine RA.es true (hr:=by simp) (h:=?_)|refine RA.nt (h:=?_))
 refine RA.RA.done rfl (λaf hR hF hH=>?_);clear hF hH;simp only[RA.RP,cx]
 try simp only[cn]
 try simp only[cG]
 have M:=LH (B.o.trans ((r.o _ hR).no.mono B.o.size));clear hR;go_wp2;go_ret;exact⟨rfl,M.o⟩
end Go.Proofs.YthmcbgidehjlbaaGreat.Fd
namespace Go.Proofs.YthmcbgidehjlbaaGreat.Fd
open Go Go.RowKit K
theorem zB:∀ (ks:List (Nat×iz)) (L:iz) (i:Nat),L.length=7->(∀ k ∈ ks,k.1<50)->nB (lp L ks) i=(nB L i || ks.any (λk=>decide (i=k.1)))
 | [],L,i,_,_=>by simp[lp]
 | k::ks,L,i,hL,hk=>by have h1:=hk k (cq ..);have ih:=zB ks (pV L k.1) i (by rw[yK];exact hL) (λx a=>hk x (fc _ a));rw[show lp L (k::ks)=lp (pV L k.1) ks from rfl,ih,Hb om,List.any_cons,Bool.or_assoc]
theorem Df (i:Nat):nB (List.replicate 7 0) i=false:=by
 have h:(List.replicate 7 (0:UInt8)).getD (i / 8) 0=0:=by generalize (7:Nat)=n;rw[List.getD,eC];split<;>rfl
 unfold nB;rw[h];simp
end Go.Proofs.YthmcbgidehjlbaaGreat.Fd
namespace Go.Proofs.YthmcbgidehjlbaaGreat.Fd
open _root_.Go.Proofs.Tryz
open Go Go.RowKit K
theorem KP {w:World}{S:Nat->Prop}{ad:Addr}{cap:Nat}{m:Nat}{vs:List Value}(hb:Cells w S (.slice (some ad) m cap) m 2 vs) (h1:∀ u ∈ vs,u.oneCell'=true) (hl:m<=1000000):
  Calls prog 53 #[.slice (some ad) m cap] w λe w'=>∃ g c,e=.returned (ir g m c)/\w.heap.size<=g/\w'.ownsRow w.heap.size 111 2 (ir g m c) m vs/\Below w.heap.size w w':=by
 obtain⟨hlen,a,n,hv,j,f,p,q⟩:=hb;simp only[IJ,dP] at hv;obtain⟨rfl,rfl⟩:=hv;have i:=ch (base:=w.heap.size) (e:=111) (size:=2) w #[] 0 (ae _) mx rfl;have h:Cells (w.alloc (.cells #[] 111)) S (.slice (some ad) m cap) m 2 vs:=Cells.dC ⟨hlen,some ad,cap,rfl,j,f,p,q⟩ sm (λb _ hb=>aB w _ b hb);have he:=Lib.run_eql_slice_nil (P:=prog) w 102 111 (some ad) m cap 0 0 underlying102;have H:=LH h;have H1:=LH h1;clear h q p h1 f;go_enter func53,ntmps53
 go_wp2_with (at_builtin;(refine K.append rfl _ _ 102 rfl w.heap.size 111 (.agg #[iw 0,.slice none 0 0]) 2 32 underlying102 xy rfl de _ 0 [] rfl i S _ m vs rfl H.o H1.o ?m ?b sm ?k))
 case m=>unfold maxLen;omega
 case b=>omega
 case k=>
  intro v' w' r hg s t
  have l:∃ g c,v'=ir g m c/\w.heap.size<=g:=by
   rcases r.2 with ⟨e,_⟩|⟨g,c,cur,e,d,_⟩
   ·exact absurd e s
   ·exact⟨g,c,by simpa using e,d⟩
  obtain⟨g,c,rfl,d⟩:=l;go_wp2;go_ret;exact⟨g,c,rfl,d,by simpa using r,(((ag _ _).alloc (ae _) _).grown hg sm (λk hk=>by simp[Value.ownBlock] at hk;omega))⟩
def mz (i n:Int):Bool:=decide (0<=n/\n<=50/\0<=i/\i<=50 - n)
def lN (ki:Bool) (i:Int) (N:Nat):Int:=if ki=true then 6 else if N % 64≠0\/64<N / 64 then 1 else if mz i (N / 64:Nat)=true then 0 else 3
section
variable {w w':World}{v m:Nat}{L:iz}{ks:List (Nat×iz)}{ki:Bool}
theorem DD (h:kI w v m L ks ki) (i n:Int):Calls prog 48 #[iq v,iw i,iw n] w λe w'=>e=.returned (.bool (mz i n))/\Below w.heap.size w w':=by
 have hs:=LH (uH h);have l:=LH (λb (hb:Below w.heap.size w b)=>uH (h.after hb));clear h;by_cases j:0<=n
 rotate_left
 ·rw[show mz i n=false from dt (λe=>j e.1)];go_enter func48,ntmps48;go_wp2;go_ret;exact⟨rfl,ag _ _⟩
 by_cases h1:n<=50
 rotate_left
 ·rw[show mz i n=false from dt (λe=>h1 e.2.1)];go_enter func48,ntmps48
  go_wp2_with fail
  refine hs.o.mono ?_;rintro e b ⟨rfl,hb⟩;replace hb:=LH hb;go_wp2;go_ret;exact⟨rfl,hb.o⟩
 by_cases k:0<=i
 rotate_left
 ·rw[show mz i n=false from dt (λe=>k e.2.2.1)];go_enter func48,ntmps48
  go_wp2_with fail
  refine hs.o.mono ?_;rintro e b ⟨rfl,hb⟩;replace hb:=LH hb;go_wp2;go_ret;exact⟨rfl,hb.o⟩
 obtain⟨D,c⟩:=Ex (50 - n:Int);have p:(50:Int) - n=D:=c.symm
 have d:mz i n=decide (i<=D):=by unfold mz;rw[c];exact gE.2 ⟨λe=>e.2.2.2,λe=>⟨j,h1,k,e⟩⟩
 rw[d];replace c:=LH c;replace d:=LH d;go_enter func48,ntmps48
 go_wp2_with fail
 refine hs.o.mono ?_;rintro e b ⟨rfl,hb⟩;have g:=LH (l.o b hb);replace hb:=LH hb
 go_wp2_with fail
 refine g.o.mono ?_;rintro e w2 ⟨rfl,a⟩;have f:=LH (hb.o.trans (a.mono hb.o.size));clear a;go_wp2;go_ret;exact⟨rfl,f.o⟩
theorem DF (h:kI w v m L ks ki) (i:Int) (da:Option Addr) (N dc:Nat) (hN:N<=maxLen):Calls prog 44 #[iq v,iw i,.slice da N dc] w λe w'=>e=.returned (iw (lN ki i N))/\Below w.heap.size w w':=by
 cases ki with
 | true=>refine (Cr h i da N dc).mono ?_;rintro e w' ⟨rfl,rfl⟩;exact⟨rfl,ag _ _⟩
 | false=>
  have hr:=LH (vG h);obtain⟨n,d⟩:=Ex (N / 64:Nat);obtain⟨r,a⟩:=Ex (N % 64:Nat);have hw:=LH (DD h i n);have k:(N:Int) / 64=n:=om;have l:(N:Int) % 64=r:=om;have c:lN false i N=if r≠0\/64<n then 1 else if mz i n=true then 0 else 3:=by unfold lN;rw[ah de,<-a,<-d]
  rw[c];have g:(N:Int)<=9223372036854775807:=by have:=hN;unfold maxLen at this;omega
  revert hN d a c;refine H4 ?_;intro hN d a c;clear h;by_cases c1:r=0
  rotate_left
  ·have f:¬ (r:Int)=0:=om;rw[ak (.inl c1)];go_enter func44,ntmps44
   go_wp2_with (first|(go_at_call 22;refine hr.o.mono ?_;rintro e w' ⟨rfl,rfl⟩)|fail)
   go_ret;exact⟨rfl,ag _ _⟩
  by_cases c2:64<n
  ·have b:(64:Int)<n:=om;rw[ak (.inr c2)];subst c1;go_enter func44,ntmps44
   go_wp2_with (first|(go_at_call 22;refine hr.o.mono ?_;rintro e w' ⟨rfl,rfl⟩)|fail)
   go_ret;exact⟨rfl,ag _ _⟩
  have b:¬ (64:Int)<n:=om;rw[ah (by rintro (e|e);exact e c1;exact c2 e)];subst c1;cases hb0:mz i n with
  | true=>
   rw[hb0] at hw;rw[ak rfl];go_enter func44,ntmps44
   go_wp2_with (first|(go_at_call 22;refine hr.o.mono ?_;rintro e w' ⟨rfl,rfl⟩)|fail)
   refine hw.o.mono ?_;rintro e j ⟨rfl,hb⟩;replace hb:=LH hb;go_wp2;go_ret;exact⟨rfl,hb.o⟩
  | false=>
   rw[hb0] at hw;rw[ah de];go_enter func44,ntmps44
   go_wp2_with (first|(go_at_call 22;refine hr.o.mono ?_;rintro e w' ⟨rfl,rfl⟩)|fail)
   refine hw.o.mono ?_;rintro e j ⟨rfl,hb⟩;replace hb:=LH hb;go_wp2;go_ret;exact⟨rfl,hb.o⟩
end
section
variable {w w':World}{v m:Nat}{L:iz}{ks:List (Nat×iz)}{ki:Bool}
end
def mP (l:iz):Value:=.string ⟨l.toArray⟩
def rJ (w:World) (q B i:Nat):Prop:=∃ (dv hv:Value) (hs:List Bool),w.heap[q]?=some (.cells #[iw 10,iw 100,dv,hv,.bool false] 91 (0,0))/\w.ownsRow B 9 1 dv i (List.replicate i (mP lZ))/\w.ownsRow B 4 1 hv 50 (hs.map Value.bool)/\B<=q
def l5 (w:World) (q B:Nat) (c:Nat->iz):Prop:=∃ (dv hv:Value) (hs:List Bool),w.heap[q]?=some (.cells #[iw 10,iw 100,dv,hv,.bool false] 91 (0,0))/\w.ownsRow B 9 1 dv 50 ((List.range 50).map λp=>mP (c p))/\w.ownsRow B 4 1 hv 50 (hs.map Value.bool)
theorem DM:(prog.info? 9).map (λi=>(i.zero,i.size,i.bytes))=some (some (.string ByteArray.empty),1,16):=kr
theorem DN:(prog.info? 4).map (λi=>(i.zero,i.size,i.bytes))=some (some (.bool false),1,1):=kr
section
variable {w w':World}{q B:Nat}{c:Nat->iz}
theorem l5.dC (h:l5 w q B c) (hk:∀ (g:Nat) (cs:Array Value) (t:TypeId),(t=91\/t=9\/t=4)->w.heap[g]?=some (.cells cs t (0,0))->w'.heap[g]?=w.heap[g]?):l5 w' q B c:=by
 obtain⟨dv,hv,hs,h1,a,b⟩:=h;refine⟨dv,hv,hs,(hk _ _ _ (.inl rfl) h1).trans h1,gF a (λg hg=>?_),gF b (λg hg=>?_)⟩
 ·obtain⟨cur,hc⟩:=kx a hg;exact hk _ _ _ (.inr (.inl rfl)) hc
 ·obtain⟨cur,hc⟩:=kx b hg;exact hk _ _ _ (.inr (.inr rfl)) hc
theorem l5.after (h:l5 w q B c) (hb:Below w.heap.size w w'):l5 w' q B c:=h.dC (λg _ _ _ hg=>hb.block g (dD hg))
theorem l5.cells (h:l5 w q B c):∃ dg dc hg hc,w.cell? (iu q 2)=some (ir dg 50 dc)/\w.cell? (iu q 3)=some (ir hg 50 hc)/\∀ p,p<50->w.cell? (iu dg p)=some (mP (c p)):=by obtain⟨dv,hv,hs,h1,d,f⟩:=h;obtain⟨dg,dc,rfl,_⟩:=kz d om;obtain⟨hg,hc,rfl,_⟩:=kz f om;refine⟨dg,dc,hg,hc,cell_of h1 2,cell_of h1 3,λp hp=>?_⟩;obtain⟨db,b,a,e,_,_,_,_,hd⟩:=Cells.at (Cells.own d) om;simp only[IJ] at e;obtain⟨⟨rfl,rfl,_⟩,-,-⟩:=e;have:=hd p (mP (c p)) (by rw[bf,fh hp];rfl);rw[aw] at this;exact this
end
theorem DO {w:World}{q B:Nat}{c:Nat->iz}(h:l5 w q B c) (i:Int) (da:Option Addr) (N dc:Nat) (hN:N<=maxLen):Calls prog 14 #[iq q,iw i,.slice da N dc] w λe w'=>e=.returned (iw (lN false i N))/\w=w':=by
 obtain⟨s,j,hg,hc,c2,c3,_⟩:=h.cells;clear h;obtain⟨n,f⟩:=Ex (N / 64:Nat);obtain⟨r,a⟩:=Ex (N % 64:Nat);have t:(N:Int) / 64=n:=om;have u:(N:Int) % 64=r:=om;have d:lN false i N=if r≠0\/64<n then 1 else if mz i n=true then 0 else 3:=by unfold lN;rw[ah de,<-a,<-f]
 rw[d];have k:(N:Int)<=9223372036854775807:=by have:=hN;unfold maxLen at this;omega
 revert hN f a d;refine H4 ?_;intro hN f a d;clear c3;by_cases c1:r=0
 rotate_left
 ·have g:¬ (r:Int)=0:=om;rw[ak (.inl c1)];clear c2;go_enter func14,ntmps14;go_wp2;go_ret;exact⟨rfl,rfl⟩
 by_cases c4:64<n
 ·have b:(64:Int)<n:=om;rw[ak (.inr c4)];subst c1;clear c2;go_enter func14,ntmps14;go_wp2;go_ret;exact⟨rfl,rfl⟩
 have b:¬ (64:Int)<n:=om;rw[ah (by rintro (e|e);exact e c1;exact c4 e)];subst c1;by_cases l:i<0
 ·rw[ah (by unfold mz;simp only[cL];omega)];go_enter func14,ntmps14;go_wp2;go_ret;exact⟨rfl,rfl⟩
 by_cases m:50<i
 ·rw[ah (by unfold mz;simp only[cL];omega)];go_enter func14,ntmps14;go_wp2;go_ret;exact⟨rfl,rfl⟩
 obtain⟨D,v⟩:∃ D:Int,(50:Int) - i=D:=⟨_,rfl⟩;have o:0<=i:=om;have p:i<=50:=om;by_cases hd:D<n
 ·rw[ah (by unfold mz;simp only[cL];omega)];go_enter func14,ntmps14;go_wp2;go_ret;exact⟨rfl,rfl⟩
 ·rw[ak (by unfold mz;simp only[cL];omega)];go_enter func14,ntmps14;go_wp2;go_ret;exact⟨rfl,rfl⟩
def pn (c:Nat->iz) (i:Nat):Nat->iz
 | 0=>[]
 | n+1=>pn c i n++c (i+n)
theorem LY {w:World}{q B:Nat}{c:Nat->iz}(h:l5 w q B c) (hc:∀ p,p<50->(c p).length=64) (i n:Int):Calls prog 19 #[iq q,iw i,iw n] w λe w'=>((mz i n=false/\e=.returned (.tuple #[.slice none 0 0,iw 3]))\/(mz i n=true/\∃ u,e=.returned (.tuple #[u,iw 0])/\w'.ownsRow w.heap.size 5 1 u (n.toNat*64) (dB (pn c i.toNat n.toNat))))/\Below w.heap.size w w':=by
 obtain⟨U,T,hg,Y,c2,c3,a⟩:=h.cells;have d:Below w.heap.size w w:=ag _ _;clear h c3;by_cases h1:n<0
 ·have b:mz i n=false:=by unfold mz;exact dt om
  replace a:=LH a;replace hc:=LH hc;replace b:=LH b;go_enter func19,ntmps19;go_wp2;go_ret2;exact⟨.inl ⟨b.o,rfl⟩,d⟩
 by_cases O:64<n
 ·have b:mz i n=false:=by unfold mz;exact dt om
  replace a:=LH a;replace hc:=LH hc;replace b:=LH b;go_enter func19,ntmps19;go_wp2;go_ret2;exact⟨.inl ⟨b.o,rfl⟩,d⟩
 by_cases Q:i<0
 ·have b:mz i n=false:=by unfold mz;exact dt om
  replace a:=LH a;replace hc:=LH hc;replace b:=LH b;go_enter func19,ntmps19;go_wp2;go_ret2;exact⟨.inl ⟨b.o,rfl⟩,d⟩
 by_cases R:50<i
 ·have b:mz i n=false:=by unfold mz;exact dt om
  replace a:=LH a;replace hc:=LH hc;replace b:=LH b;go_enter func19,ntmps19;go_wp2;go_ret2;exact⟨.inl ⟨b.o,rfl⟩,d⟩
 obtain⟨D,hD⟩:∃ D:Int,(50:Int) - i=D:=⟨_,rfl⟩;have Z:0<=i:=om;have a1:i<=50:=om;by_cases h5:D<n
 ·have b:mz i n=false:=by unfold mz;exact dt om
  replace a:=LH a;replace hc:=LH hc;replace b:=LH b;go_enter func19,ntmps19;go_wp2;go_ret2;exact⟨.inl ⟨b.o,rfl⟩,d⟩
 have b:mz i n=true:=by unfold mz;exact dN om
 obtain⟨I,rfl⟩:∃ I:Nat,i=I:=⟨i.toNat,by omega⟩;obtain⟨M,rfl⟩:∃ M:Nat,n=M:=⟨n.toNat,by omega⟩;have W:I+M<=50:=om;have X:=LH (λ(j:Nat)=>(show pn c I (j+1)=pn c I j++c (I+j) from rfl));have V:=LH (show pn c I 0=[] from rfl);have F:=LH (kZ (a 0 om));have K:=LH (kZ c2);have E:=LH c2
 have t:∃ i:TypeInfo,prog.info? 5=some i/\i.zero=some (iy 0)/\i.size=1/\i.bytes=1:=by obtain⟨i,h1,O,Q,R⟩:=cw (P:=prog) np;exact⟨i,h1,O,Q,R⟩
 refine G4 t a hc b ?_;clear t a hc b;intro t a hc b;go_enter func19,ntmps19;go_wp2;clear c2
 go_loopg [8,9] M (λg o ix wr=>∃ j:Nat,j+g=M/\ix=iw j/\Hd (wr.ownsRow w.heap.size 5 1 o (j*64) (dB (pn c I j)))/\Hd (Below w.heap.size w wr))
 case atStart=>exact⟨0,by omega,rfl,by show World.ownsRow _ _ _ _ _ _ _;rw[V.o];exact aS _ _ _ _,d⟩
 case round=>
  obtain⟨j,G,rfl,C,y⟩:=hrel;by_cases J:j<M
  ·obtain⟨g1,rfl⟩:∃ i,gk=i+1:=⟨gk - 1,by omega⟩;have H:(j:Int)<M:=om;obtain⟨p,hp⟩:=Ex (I+j);have a6:(I:Int)+j=p:=om;have z:p<50:=om;have d2:=(y.o.cell (p:=iu q 2) K.o).trans E.o;have A:=(y.o.cell (p:=iu U p) F.o).trans (a.o p z);have f:=X.o j;have m:=hc.o p z;rw[<-hp] at f;obtain⟨PP,r⟩:=Ex (c p);rw[<-r] at A f m;unfold mP at A;refine G4 r f m hp ?_;clear r f m hp;intro r f m hp;have x:=y.o.size;have l:(⟨PP.toArray⟩:ByteArray).size=64:=by show PP.toArray.size=64;rw[aT];exact m.o
   obtain⟨N,s⟩:=Ex (⟨PP.toArray⟩:ByteArray);rw[<-s] at A l;replace s:=LH s;replace l:=LH l
   go_wp2_with (at_builtin;refine Lib.wpList_append_own_string _ ?_ (.tmp 45) (.tmp 54) 42 9 ?_ w.heap.size 5 t.o.choose underlying42 underlying9 t.o.choose_spec.1 t.o.choose_spec.2.1 t.o.choose_spec.2.2.1 t.o.choose_spec.2.2.2 _ (j*64) _ ?_ C.o N ?_ (by rw[l.o];unfold maxLen;omega) (by rw[l.o];omega) x ?_)
   all_goals (try (first|rfl|omega))
   intro v3 S y1 y2 y3;have v:Below w.heap.size w S:=y.o.grown y2 x (λk hk=>kK C.o k hk)
   have L:S.ownsRow w.heap.size 5 1 v3 ((j+1)*64) (dB (pn c I (j+1))):=by rw[l.o,show Lib.strCells N=dB PP by rw[s.o];rfl] at y1;rw[f.o,nH,show (j+1)*64=j*64+64 by omega];exact y1
   replace L:=LH L;replace v:=LH v;clear y1 y2 y3 d2 A x;go_wp2;go_roundg g1
   case measure=>omega
   case rel=>exact⟨j+1,by omega,by go_num,L.o,v.o⟩
  ·obtain rfl:gk=0:=om;obtain rfl:j=M:=om;have H:¬ (j:Int)<j:=om;clear G J;go_wp2;go_ret2;exact⟨.inr ⟨b.o,_,rfl,C.o⟩,y.o⟩
theorem DP (w:World):Calls prog 13 #[.agg #[iw 10,iw 100]] w λe w'=>e=.returned (.agg #[iw 60,iw 50])/\Below w.heap.size w w':=P.Hu (10,100) de w
theorem rJ.dC {w w':World}{q B i:Nat}(h:rJ w q B i) (hb:aQ No w w'):rJ w' q B i:=by obtain⟨dv,hv,hs,h1,a,b,c⟩:=h;exact⟨dv,hv,hs,(hb.block q (dD h1) id).trans h1,gF a (λg hg=>hb.block g (kp a g hg) id),gF b (λg hg=>hb.block g (kp b g hg) id),c⟩
theorem LZ (n:Nat) (b:Bool):(madeCells #[.bool b] n).toList=(List.replicate n b).map Value.bool:=by
 rw[il];refine b9 (λi=>?_);rw[eC];by_cases h:i<n
 ·rw[ak h,cZ,madeCells,Array.getElem?_map,Array.getElem?_range,ak h];simp[Nat.mod_one]
 ·rw[ah h,cB (by rw[dj,fG];omega)]
theorem rJ.push {w w3:World}{q B i:Nat}(h:rJ w q B i) (hB:B<=w.heap.size) (hi:i<1000) (hR:aQ No w w3){x:Value}(hx:Cells w3 (λ_=>True) x 1 1 [mP lZ]):
  ∃ dv v' w4,w.cell? (iu q 2)=some dv/\(Builtin.append_ #[89,89] 89 #[dv,x]).run prog w3=.ok v' w4/\w4.cell? (iu q 2)=some dv/\w4.frozen? (iu q 2)=false/\(∃ g cp,v'=ir g (i+1) cp)/\rJ (w4.setCell (iu q 2) v') q B (i+1)/\aQ (λg=>B<=g) w (w4.setCell (iu q 2) v'):=by
 obtain⟨dv,hv,hs,h1,c,j,s⟩:=h;obtain⟨v',w4,hr,l,o,A⟩:=tV (P:=prog) (bytes:=16) (t:=89) underlying89 DM rfl de c hB hR hx (by simp[mP,Value.oneCell']) mx om 89;have y:=gF c (λg hg=>hR.block g (kp c g hg) id)
 have a:w4.heap[q]?=some (.cells #[iw 10,iw 100,dv,hv,.bool false] 91 (0,0)):=by
  rw[o.block q (dD h1) (λe=>by obtain⟨cur,hc⟩:=kx c e;rw[h1] at hc;simp only[IJ] at hc;exact absurd hc.2.1 de)]
  exact h1
 have f:∀ {e:TypeId}{n:Nat}{u:Value}{xs:List Value},w4.ownsRow B e 1 u n xs->e≠91->∀ g,u.ownBlock=some g->(w4.setCell (iu q 2) v').heap[g]?=w4.heap[g]?:=λ{e n u xs} z k g hg=>kA _ _ _ (by rintro rfl;obtain⟨cur,hc⟩:=kx z hg;rw[a] at hc;simp only[IJ] at hc;exact k hc.2.1.symm)
 have d:w4.ownsRow B 4 1 hv 50 (hs.map Value.bool):=gF j (λg hg=>o.block g (kp j g hg) (λe=>by obtain⟨cur,hc⟩:=kx j hg;obtain⟨r,b⟩:=kx c e;rw[hc] at b;simp only[IJ] at b;exact absurd b.2.1 de))
 refine⟨dv,v',w4,cell_of h1 2,hr,cell_of a 2,lh a _,?_,⟨v',hv,hs,?_,?_,?_,s⟩,?_⟩
 ·obtain⟨v,cp,e,_⟩:=kz l om;exact⟨v,cp,e⟩
 ·exact lr a 2 v'
 ·have:=gF l (f l de);rw[<-ij (n:=i) (m:=1)];exact this
 ·exact gF d (f d de)
 ·exact (aQ.mono o (λg _ e=>kK c g e)).setCell (p:=iu q 2) (λ_=>s) _
theorem L5 (w:World):Calls prog 11 #[.agg #[iw 10,iw 100]] w λe w'=>∃ q,e=.returned (iq q)/\w.heap.size<=q/\l5 w' q w.heap.size (λ_=>lZ)/\Below w.heap.size w w':=by
 have D:=LH (DP (w.alloc (.cells #[iw 10,iw 100] 27)));have J:=Co 60 50;have d:Below w.heap.size w (w.alloc (.cells #[iw 10,iw 100] 27)):=(ag _ _).alloc (ae _) _;have F:(w.alloc (.cells #[iw 10,iw 100] 27)).heap[w.heap.size]?=some (.cells #[iw 10,iw 100] 27 (0,0)):=aj w _;replace d:=LH d;replace F:=LH F;go_enter func11,ntmps11
 go_wp2_with fail
 refine D.o.mono ?_;rintro e w2 ⟨rfl,v⟩;obtain⟨n0,l⟩:=Ex w.heap.size;have t:=(v.block _ (dD F.o)).trans F.o;have a:=d.o.trans (v.mono d.o.size);rw[<-l] at t a ⊢;have d0:=cell_of t 0;have d1:=cell_of t 1;have M:∀ u:World,(Instr.makeSlice 88 (iw 50) (iw 50)).run prog u=.ok (ir u.heap.size 50 50) (u.alloc (.cells (madeCells #[.bool false] 50) 4)):=λu=>vP (P:=prog) u underlying88 DN rfl 50 50 rfl om om
 have B:(w2.alloc (.cells (madeCells #[.bool false] 50) 4)).heap[n0]?=some (.cells #[iw 10,iw 100] 27 (0,0)):=(aB _ _ _ (dD t)).trans t;have T:=cell_of B 0;have U:=cell_of B 1;refine G4 B t a l ?_;clear B t a l;intro B t a l;clear v D d F;go_wp2
 go_region
 clear d0 d1 T U M;obtain⟨q,C⟩:=Ex (w2.heap.size+1);obtain⟨E,b⟩:=Ex (((w2.alloc (.cells (madeCells #[.bool false] 50) 4)).alloc (.cells #[iw 10,iw 100,.slice none 0 0,ir w2.heap.size 50 50,.bool false] 91)).drew);have a:Hd (Below w.heap.size w w2):=LH (by rw[<-l.o];exact a.o);have A:w.heap.size<=w2.heap.size:=a.o.size
 have n:Below w.heap.size w E:=by rw[b];exact ((a.o.alloc A _).alloc (by simp;omega) _).drew
 have m:rJ E q w.heap.size 0:=by
  refine⟨.slice none 0 0,ir w2.heap.size 50 50,List.replicate 50 false,?_,aS _ _ _ _,?_,by omega⟩
  ·rw[b,C];have h:=aj (w2.alloc (.cells (madeCells #[.bool false] 50) 4)) (.cells #[iw 10,iw 100,.slice none 0 0,ir w2.heap.size 50 50,.bool false] 91);rw[aN] at h;exact h
  ·have h:=Bz w2 (madeCells #[.bool false] 50) 4 50 1 (by rw[fG]) mx A;rw[LZ] at h;rw[b];exact gF h (λg hg=>aB _ _ _ (kp h g hg))
 rw[<-C,<-b];have Q:=LH (show w.heap.size<=q by omega);refine G4 C b n m ?_;clear C b n m;intro C b n m;clear A a B t J;go_wp2
 go_loopg [5] 50 (λg ix wr=>∃ j:Nat,j+g=50/\ix=iw j/\Hd (rJ wr q w.heap.size j)/\Hd (Below w.heap.size w wr))
 case atStart=>exact⟨0,by omega,rfl,m.o,n.o⟩
 case round=>
  obtain⟨j,K,rfl,I,G⟩:=hrel;by_cases L:j<50
  ·obtain⟨g1,rfl⟩:∃ i,gk=i+1:=⟨gk - 1,by omega⟩;have Y:(j:Int)<50:=om;obtain⟨H,rfl⟩:=Ex (wr:World)
   obtain⟨dv,c2⟩:∃ dv,H.cell? (iu q 2)=some dv:=by obtain⟨dv,_,_,h1,_⟩:=I.o;exact⟨dv,cell_of h1 2⟩
   have O:=LH (kZ c2);have R:=LH G.o.size;have r:=Dr H
   replace r:=LH r;replace c2:=LH c2;have Z:=LH (λu:World=>tq u 64 64 rfl om);go_wp2;refine RA.rt (aQ No) [5,1,1,1,1,3,1,3,6,5,5,7] [8,11] (λ_=>True) trivial (λ_=>aQ.refl _ _) (λ_ _ _ h k=>h.trans k) (h:=?_);intro cx;refine RA.pq ?_
   repeat refine RA.qq ?_
   refine RA.fk prog q 2 (h:=?_);refine RA.lk prog (dv) (hc:=λc hp=>by exact ((r.o _ hp.1).cell (p:=iu q 2) O.o id).trans c2.o) (h:=?_)
   refine RA.bq (λx c=>Bytes c (λ_=>True) x lZ) (hs:=λ_ _ _ h k=>k.kj h (λ_ _ _=>id)) (he:=λ_ _ _ _ _=>trivial) (hr:=λc hp _=>by refine⟨_,_,RA.yQ rf rf (Z.o c),(aQ.refl _ _).alloc _,?_,trivial⟩;exact l9 c (dB (List.replicate 64 0)).toArray 5 64 1 (by simp[kn]) mx) (hn:=λx=>?_)
   refine RA.cv (y':=mP lZ) (hr:=λc hp=>by exact qC _ _ _ _ underlying42 underlying5 underlying9 _ _ _ (hp.fact 0 rfl kr)) (h:=?_)
   refine RA.bq (λx c=>Cells c (λ_=>True) x 1 1 [mP lZ]) (hs:=λ_ _ _ h k=>k.kj h (λ_ _ _=>id)) (he:=λ_ _ _ _ _=>trivial) (hr:=λc hp _=>by refine⟨ir c.heap.size 1 1,c.alloc (.cells #[mP lZ] 9),?_,(aQ.refl _ _).alloc _,l9 c #[mP lZ] 9 1 1 rfl mx,trivial⟩;clear hp;unfold mP;generalize (⟨lZ.toArray⟩:ByteArray)=ZZ;show (execOp _ _).run prog c=_;go_simp) (hn:=λy=>?_)
   refine RA.oG (λv' s=>s.cell? (iu q 2)=some dv/\s.frozen? (iu q 2)=false/\(∃ g cp,v'=ir g (j+1) cp)/\rJ (s.setCell (iu q 2) v') q w.heap.size (j+1)/\aQ (λg=>w.heap.size<=g) H (s.setCell (iu q 2) v')) (hr:=λc N _=>by have hp:=N.first kr;obtain⟨pv,v',s,S,q2,q3,q4,q5,q6,q7⟩:=I.o.push R.o om (r.o _ hp.1) (hp.fact 0 rfl kr);rw[c2.o] at S;obtain rfl:=aF S;exact⟨v',s,RA.nP rf rf q2,q3,q4,q5,q6,q7⟩) (hn:=λv'=>?_)
   refine RA.pq ?_;refine RA.pk prog q 2 (h:=?_)
   refine RA.lj (λE=>rJ E q w.heap.size (j+1)/\aQ (λg=>w.heap.size<=g) H E) (hr:=λs _ hH=>by obtain⟨f1,f2,⟨V,cp,rfl⟩,f3,f4⟩:=hH;refine⟨_,RA.kL rf rf (w':=s.setCell (iu q 2) (ir V (j+1) cp)) ?_,f3,f4⟩;clear f3 f4;show (Instr.storeAt _ _ _).run prog s=_;go_simp) (hn:=?_)
   refine RA.RA.kW (λw6 hH=>?_);simp only[RA.RP,cx];obtain⟨z1,z2⟩:=hH;have z:Below w.heap.size w w6:=G.o.trans (z2.below G.o.size (λi hi e=>by omega));replace z1:=LH z1;replace z:=LH z;clear z2;go_wp2;go_roundg g1
   case measure=>omega
   case rel=>exact⟨j+1,by omega,by go_num,z1.o,z.o⟩
  ·obtain rfl:gk=0:=om;obtain rfl:j=50:=om;clear L K
   have f:l5 wr q w.heap.size (λ_=>lZ):=by obtain⟨dv,hv,hs,h1,W,X,_⟩:=I.o;refine⟨dv,hv,hs,h1,?_,X⟩;rw[List.map_const',List.length_range];exact W
   replace f:=LH f;go_wp2;go_ret;exact⟨q,rfl,Q.o,f.o,G.o⟩
variable {w:World}{B dg dc hg hc:Nat}
theorem DQ {e:TypeId}{g n cap:Nat}{xs:List Value}(h:w.ownsRow B e 1 (ir g n cap) n xs) (p:Nat) (u:Value):(w.setCell (iu g p) u).ownsRow B e 1 (ir g n cap) n (xs.set p u):=by
 refine⟨by rw[bg];exact h.1,?_⟩;rcases h.2 with ⟨a,_⟩|⟨l,b,cur,a,c,d,f,i,j,k⟩
 ·cases a
 ·simp only[IJ] at a;obtain⟨⟨rfl,-,-⟩,-,rfl⟩:=a;refine .inr ⟨g,cap,_,rfl,c,lr d p u,f,i,by simpa using j,?_⟩;rw[eB,fe,k]
theorem l5.L6 {q p:Nat}{c:Nat->iz}(h:l5 w q B c)(hd:w.cell? (iu q 2)=some (ir dg 50 dc)) (hp:p<50) (z:iz):l5 (w.setCell (iu dg p) (mP z)) q B (λx=>if x=p then z else c x):=by
 obtain⟨dv,hv,hs,h1,f,j⟩:=h;rw[cell_of h1] at hd;simp at hd;subst hd;obtain⟨cur,a⟩:=kx f (g:=dg) rfl
 have b:∀ (g:Nat) (cs:Array Value) (t:TypeId),t≠9->w.heap[g]?=some (.cells cs t (0,0))->(w.setCell (iu dg p) (mP z)).heap[g]?=w.heap[g]?:=λg cs t ht hg=>kA _ _ _ (by rintro rfl;rw[a] at hg;simp only[IJ] at hg;exact ht hg.2.1.symm)
 refine⟨_,hv,hs,(b _ _ _ de h1).trans h1,?_,gF j (λg hg=>?_)⟩
 ·have:=DQ f p (mP z);rw[show ((List.range 50).map λx=>mP (if x=p then z else c x))=(((List.range 50).map λx=>mP (c x)).set p (mP z)) from ?_]
  ·exact this
  ·refine b9 (λi=>?_);rw[ej];by_cases e:p=i
   ·subst e;rw[ak rfl,ak (by simpa using hp),bf,fh hp];simp
   ·rw[ah e,bf,bf];by_cases hi:i<50
    ·rw[fh hi];simp[bY e]
    ·rw[cB (by simpa using hi)];rfl
 ·obtain⟨d,hc⟩:=kx j hg;exact b _ _ _ de hc
theorem l5.L7 {q p:Nat}{c:Nat->iz}(h:l5 w q B c)(hd:w.cell? (iu q 3)=some (ir hg 50 hc)) (u:Bool):l5 (w.setCell (iu hg p) (.bool u)) q B c:=by
 obtain⟨dv,hv,hs,h1,f,i⟩:=h;rw[cell_of h1] at hd;simp at hd;subst hd;obtain⟨cur,b⟩:=kx i (g:=hg) rfl
 have d:∀ (g:Nat) (cs:Array Value) (t:TypeId),t≠4->w.heap[g]?=some (.cells cs t (0,0))->(w.setCell (iu hg p) (.bool u)).heap[g]?=w.heap[g]?:=λg cs t ht a=>kA _ _ _ (by rintro rfl;rw[b] at a;simp only[IJ] at a;exact ht a.2.1.symm)
 refine⟨dv,_,hs.set p u,(d _ _ _ de h1).trans h1,gF f (λg a=>?_),by rw[ei];exact DQ i p (.bool u)⟩;obtain⟨e,hc⟩:=kx f a;exact d _ _ _ de hc
theorem l5.rows {q:Nat}{c:Nat->iz}(h:l5 w q B c)(h2:w.cell? (iu q 2)=some (ir dg 50 dc)) (h3:w.cell? (iu q 3)=some (ir hg 50 hc)):(B<=dg/\w.frozen? (iu dg 0)=false/\50<=dc/\dc<=maxLen)/\(B<=hg/\50<=hc/\hc<=maxLen)/\(∀ p,p<50->w.frozen? (iu dg p)=false/\w.frozen? (iu hg p)=false/\(∃ u,w.cell? (iu dg p)=some (.string u))/\∃ u,w.cell? (iu hg p)=some u):=by
 obtain⟨dv,hv,hs,l,j,i⟩:=h;rw[cell_of l] at h2 h3;simp at h2 h3;subst h2 h3;obtain⟨cur,a⟩:=kx j (g:=dg) rfl;obtain⟨k,b⟩:=kx i (g:=hg) rfl;obtain⟨_,_,f1,f2,f3⟩:=kz j om;obtain⟨_,_,f4,f5,f6⟩:=kz i om;simp only[IJ] at f1 f4;obtain⟨-,-,rfl⟩:=f1;obtain⟨-,-,rfl⟩:=f4;refine⟨⟨kK j dg rfl,lh a 0,f2,f3⟩,⟨kK i hg rfl,f5,f6⟩,λp hp=>⟨lh a p,lh b p,?_,?_⟩⟩
 ·obtain⟨db,f,d,e,_,_,_,_,hd⟩:=Cells.at (Cells.own j) om;simp only[IJ] at e;obtain⟨⟨rfl,rfl,_⟩,-,-⟩:=e;have:=hd p (mP (c p)) (by rw[bf,fh hp];rfl);rw[aw] at this;exact⟨_,this⟩
 ·obtain⟨db,f,d,e,_,_,_,_,hd⟩:=Cells.at (Cells.own i) om;simp only[IJ] at e;obtain⟨⟨rfl,rfl,_⟩,-,-⟩:=e;have m:(hs.map Value.bool).length=50:=by have:=i.1;omega
  have:=hd p _ (av (show p<(hs.map Value.bool).length by omega));rw[aw] at this;exact⟨_,this⟩
theorem L8 {w:World}{q B:Nat}{c:Nat→iz}(h:l5 w q B c){Sx:Nat→Prop}{da:Option Addr}{N dcap:Nat}{l:iz}(hd:Bytes w Sx (.slice da N dcap) l) (hSx:∀ g,Sx g→g≠q) (i n:Nat) (hl:l.length=n*64) (hin:i+n≤50):
  Calls prog 16 #[.pointer (some ⟨q,0,none⟩),.int .i64 i,.slice da N dcap] w λe w'=>e=.returned (.int .i64 0)∧l5 w' q 0 (λp=>kQ (lU i l n) p (c p))∧aQ (λg=>g=q) w w':=by
 have hNl:N=l.length:=by obtain⟨a,c,e,_⟩:=hd.shape;simp only[aC] at e;exact e.2.1
 have hdc:N≤dcap∧N≤maxLen:=by obtain⟨a,c,e,h1,h2⟩:=hd.shape;simp only[aC] at e;obtain⟨rfl,h3,rfl⟩:=e;exact⟨by omega,by omega⟩
 have hmay:=DO h i da N dcap hdc.2
 have hm0:lN false i N=0:=by unfold lN;rw[ah (by decide),ah (by rintro (e|e)<;>omega),ak];exact dN ⟨by omega,by omega,by omega,by omega⟩
 rw[hm0] at hmay;replace hmay:=LH hmay;have e1:(N:Int) / 64=n:=by omega
 have hNn:N=n*64:=by omega
 have hn50:n≤50:=by omega
 obtain⟨dv,hv,hs,h1,h2,h3⟩:=h;have hql:=dD h1;obtain⟨DL,hDL⟩:∃ DL,DL=(List.range 50).map λp=>mP (c p):=⟨_,rfl⟩
 rw[← hDL] at h2;obtain⟨HL,hHL⟩:=Ex (hs.map Value.bool);rw[← hHL] at h3;replace hHL:=LH hHL;have hr1:=ch (base:=w.heap.size) (e:=9) (size:=1) w #[] 0 (ae _) (by unfold maxLen;omega) rfl;have hc1:Cells (w.alloc (.cells #[] 9)) (λ_=>True) dv 50 1 DL:=(Cells.own h2).dC (by simp) (λb _ hb=>aB w _ b hb) |>.mono (λ_ _ _=>trivial)
 have c2:=cell_of h1 2;have z2:(Value.string ByteArray.empty).cells.size=1:=rfl;have z3:(Value.bool false).cells.size=1:=rfl
 have ho1:∀ u ∈ DL,u.oneCell'=true:=λu hu=>by rw[hDL] at hu;obtain⟨p,_,rfl⟩:=aO.1 hu;rfl
 replace hDL:=LH hDL;replace hr1:=LH hr1;replace hc1:=LH hc1;replace ho1:=LH ho1;replace h2:=LH h2;replace h3:=LH h3;replace h1:=LH h1;replace hNl:=LH hNl;replace hNn:=LH hNn;replace hl:=LH hl;replace hdc:=LH hdc;replace hd:=LH hd;replace hSx:=LH hSx;replace hm0:=LH hm0;obtain⟨n0,hn0⟩:=Ex w.heap.size;go_enter func16,ntmps16
 go_wp2_with fail
 refine hmay.o.mono ?_;rintro e w' ⟨rfl,rfl⟩;clear hmay
 go_wp2_with (at_builtin;refine K.append ?_ (.tmp 17) (.tmp 21) 89 ?_ w.heap.size 9 _ 1 16 underlying89 DM z2 (by decide) _ 0 [] ?_ hr1.o (λ_=>True) _ 50 _ ?_ hc1.o ho1.o (by unfold maxLen;omega) (by omega) (by simp) ?_)
 all_goals (try (first|rfl|omega))
 intro v3 w4 y1 y2 y3 y4;have q4:w4.heap[q]?=some (.cells #[.int .i64 10,.int .i64 100,dv,hv,.bool false] 91 (0,0)):=(y2.block q (by simp;omega) (by simp[Value.ownBlock];omega)).trans ((aB _ _ _ hql).trans h1.o);have y1':w4.ownsRow w.heap.size 9 1 v3 50 DL:=by simpa using y1
 obtain⟨dg,dc,rfl,hdc1,hdc2⟩:=kz y1' (by omega);have hc4:aQ (λg=>g=q) w w4:=((aQ.refl _ w).alloc _).grown y2 (λk hk hl=>by simp[Value.ownBlock] at hk;omega);obtain⟨w5,hw5⟩:=Ex (w4.setCell ⟨q,2,none⟩ (.slice (some ⟨dg,0,none⟩) 50 dc));have q5:w5.heap[q]?=some (.cells #[.int .i64 10,.int .i64 100,.slice (some ⟨dg,0,none⟩) 50 dc,hv,.bool false] 91 (0,0)):=by rw[hw5];exact lr q4 2 _
 have hne:∀ (g:Nat) (cs:Array Value) (t:TypeId),t≠91→w4.heap[g]?=some (.cells cs t (0,0))→w5.heap[g]?=w4.heap[g]?:=λg cs t ht hg=>by
  rw[hw5]
  exact kA _ _ _ (by rintro rfl;rw[q4] at hg;simp only[ao,aA] at hg;exact ht hg.2.1.symm)
 have y5:w5.ownsRow w.heap.size 9 1 (.slice (some ⟨dg,0,none⟩) 50 dc) 50 DL:=gF y1' (λg hg=>by obtain⟨cur,hcc⟩:=kx y1' hg;exact hne _ _ _ (by decide) hcc)
 have hc5:aQ (λg=>g=q) w w5:=by rw[hw5];exact hc4.setCell (p:=⟨q,2,none⟩) (λ_=>rfl) _
 have hqt:∀ g,hv.ownBlock=some g→g≠q:=λg hg e=>by obtain⟨cur,hcc⟩:=kx h3.o hg;rw[e,h1.o] at hcc;simp only[ao,aA] at hcc;exact absurd hcc.2.1 (by decide)
 have h35:w5.ownsRow B 4 1 hv 50 HL:=gF h3.o (λg hg=>hc5.block g (kp h3.o g hg) (hqt g hg));have hr5:=ch (base:=w.heap.size) (e:=4) (size:=1) w5 #[] 0 hc5.size (by unfold maxLen;omega) rfl;have hc6:Cells (w5.alloc (.cells #[] 4)) (λ_=>True) hv 50 1 HL:=(Cells.own h35).dC (by simp) (λb _ hb=>aB w5 _ b hb) |>.mono (λ_ _ _=>trivial)
 have ho6:∀ u ∈ HL,u.oneCell'=true:=λu hu=>by rw[hHL.o] at hu;obtain⟨b,_,rfl⟩:=aO.1 hu;rfl
 have hql4:q<w4.heap.size:=dD q4
 have q6:((w4.setCell ⟨q,2,none⟩ (.slice (some ⟨dg,0,none⟩) 50 dc)).alloc (.cells #[] 4)).heap[q]?=some (.cells #[.int .i64 10,.int .i64 100,.slice (some ⟨dg,0,none⟩) 50 dc,hv,.bool false] 91 (0,0)):=by rw[← hw5];exact (aB _ _ _ (dD q5)).trans q5
 have e6:=cell_of q6 3;replace q6:=LH q6;have f2:=lh q4 2;have d2:=cell_of q4 2;have d3:=cell_of q4 3;have e3:=cell_of q5 3;have hql5:=aH hql hc5.size;have hw5s:=hc5.size;replace hr5:=LH hr5;replace hc6:=LH hc6;replace ho6:=LH ho6;rw[hw5] at e3 hr5 hc6 hw5s;replace q5:=LH q5;replace y5:=LH y5;replace hc5:=LH hc5;replace hne:=LH hne;have hw5':=LH hw5;replace q4:=LH q4;replace h35:=LH h35;clear y1 y2 y3 y4 hc4 y1' hw5
 go_wp2_with (at_builtin;refine K.append ?_ (.tmp 26) (.tmp 30) 88 ?_ w.heap.size 4 _ 1 1 underlying88 DN z3 (by decide) _ 0 [] ?_ hr5.o (λ_=>True) _ 50 _ ?_ hc6.o ho6.o (by unfold maxLen;omega) (by omega) (by rw[aN];omega) ?_)
 all_goals (try (first|rfl|omega))
 intro v6 w6 y1 y2 y3 y4;rw[← hw5'.o] at y2;have p6:w6.heap[q]?=some (.cells #[.int .i64 10,.int .i64 100,.slice (some ⟨dg,0,none⟩) 50 dc,hv,.bool false] 91 (0,0)):=(y2.block q (by simp;omega) (by simp[Value.ownBlock];rw[← ff (w:=w4),← hw5'.o];omega)).trans ((aB _ _ _ hql5).trans q5.o);have y1':w6.ownsRow w.heap.size 4 1 v6 50 HL:=by simpa using y1
 obtain⟨hg,hcp,rfl,hcp1,hcp2⟩:=kz y1' (by omega)
 have hc6':aQ (λg=>g=q) w w6:=(hc5.o.alloc _).grown y2 (λk hk hl=>by have:=hc5.o.size;simp[Value.ownBlock] at hk;rw[← ff (w:=w4),← hw5'.o] at hk;omega)
 have y6:w6.ownsRow w.heap.size 9 1 (.slice (some ⟨dg,0,none⟩) 50 dc) 50 DL:=gF y5.o (λg hg=>by have hl:=kp y5.o g hg;rw[y2.block g (by simp;omega) (by simp[Value.ownBlock];rw[← ff (w:=w4),← hw5'.o];omega)];exact aB _ _ _ hl)
 obtain⟨w7,hw7⟩:=Ex (w6.setCell ⟨q,3,none⟩ (.slice (some ⟨hg,0,none⟩) 50 hcp))
 have hQ7:l5 w7 q w.heap.size c:=by
  have hne7:∀ (g:Nat) (cs:Array Value) (t:TypeId),t≠91→w6.heap[g]?=some (.cells cs t (0,0))→w7.heap[g]?=w6.heap[g]?:=λg cs t ht hg=>by
   rw[hw7]
   exact kA _ _ _ (by rintro rfl;rw[p6] at hg;simp only[ao,aA] at hg;exact ht hg.2.1.symm)
  refine⟨_,_,hs,by rw[hw7];exact lr p6 3 _,?_,?_⟩
  ·rw[← hDL.o]
   exact gF y6 (λg hg=>by obtain⟨cur,hcc⟩:=kx y6 hg;exact hne7 _ _ _ (by decide) hcc)
  ·rw[← hHL.o]
   exact gF y1' (λg hg=>by obtain⟨cur,hcc⟩:=kx y1' hg;exact hne7 _ _ _ (by decide) hcc)
 have hC7:aQ (λg=>g=q) w w7:=by rw[hw7];exact hc6'.setCell (p:=⟨q,3,none⟩) (λ_=>rfl) _
 have f3:=lh p6 3;have d6:=cell_of p6 3;replace hQ7:=LH hQ7;replace hC7:=LH hC7;replace p6:=LH p6;have hNz:=LH (show ∀ x:World,aQ (λg=>g=q) w x→Bytes x (λg=>g<w.heap.size∧g≠q) (.slice da N dcap) l from λx hx=>(Bytes.mono (S':=λg=>g<w.heap.size∧g≠q) hd.o (λg hg hx=>⟨hg,hSx.o g hx⟩)).kj hx (λg _ hg=>hg.2));clear y1 y2 y3 y4 y1' hc6' y6 d2 d3 e3 e6 f2 hr5 hc6 ho6 hr1 hc1 ho1 hw5s hql4;go_wp2;rw[← hw7];replace hw7:=LH hw7;clear f3 d6
 go_loopg [8] n (λg ix wr=>∃ j:Nat,j+g=n∧ix=.int .i64 j∧Hd (l5 wr q w.heap.size (λp=>kQ (lU i l j) p (c p)))∧Hd (aQ (λg=>g=q) w wr))
 case atStart=>exact⟨0,by omega,rfl,by show l5 _ _ _ _;simpa [lU,kQ] using hQ7.o,hC7.o⟩
 case round=>
  obtain⟨j,hjg,rfl,HQ,HC⟩:=hrel;by_cases hlt:j<n
  ·obtain⟨g1,rfl⟩:∃ i,gk=i+1:=⟨gk - 1,by omega⟩;have hlI:(j:Int)<n:=by omega
   obtain⟨wo,rfl⟩:=Ex (wr:World);have hNn':=hNn.o;have hNl':=hNl.o;have hbw:=hNz.o wo HC.o;obtain⟨db,doff,dc',e5,hdc1,hdc2,hSb,hdl,hdcl⟩:=Cells.at hbw (by omega);simp only[aC] at e5;obtain⟨rfl,-,rfl⟩:=e5;obtain⟨Y,hY⟩:=Ex (i+j);have hYI:(i:Int)+j=Y:=by omega
   obtain⟨LO,hLO⟩:=Ex (j*64);obtain⟨HI,hHI⟩:=Ex ((j+1)*64);have hLOI:(j:Int)*64=LO:=by omega
   have hHII:((j:Int)+1)*64=HI:=by omega
   have hLH:HI - LO=64:=by omega
   have hHN:HI≤N:=by omega
   have hNdc:=hdc.o.1;have i1:(LO:Int)≤HI:=by omega
   have i2:(HI:Int)≤dcap:=by omega
   have i3:(0:Int)≤LO:=by omega
   have hY5:Y<50:=by omega
   have hY5I:(Y:Int)<50:=by omega
   obtain⟨Z,hZ⟩:=Ex ((l.drop (j*64)).take 64);have hZl:Z.length=64:=by rw[hZ,aR,bM];omega
   have hcut:∀ w3,aQ No wo w3→Bytes w3 (λ_=>True) (.slice (some ⟨db,doff+LO,none⟩) 64 (dcap - LO)) Z:=λw3 hc=>by
    refine⟨by rw[kn,aY],_,_,by rw[hZl],by omega,by omega,λh=>(by cases h),.inr ⟨db,doff+LO,rfl,trivial,aH hdl hc.size,λk u hu=>?_⟩⟩;have hk:k<64:=by have:=(aD.1 hu).1;rw[kn,hZl] at this;exact this
    rw[cy,hc.cell (p:=⟨db,doff+(LO+k),none⟩) hdl id];refine hdcl _ _ ?_;rw[← hu,hZ,hLO];simp[dB,hk]
   have hsl:∀ w3,(Instr.sliceAt 42 (.slice (some ⟨db,doff,none⟩) N dcap) (some (.int .i64 LO)) (some (.int .i64 HI)) none).run prog w3=.ok (.slice (some ⟨db,doff+LO,none⟩) 64 (dcap - LO)) w3:=λw3=>by have h1:=uO (P:=prog) w3 underlying42 D.uz (some ⟨db,doff,none⟩) N dcap LO HI (by omega) (by omega);rw[po _ _ _ _ _ _ (by omega)] at h1;simp only[hLH,aY] at h1;exact h1
   replace hsl:=LH hsl;replace hcut:=LH hcut;obtain⟨dg1,dc1,hg1,hc1,c2,c3,_⟩:=HQ.o.cells;obtain⟨⟨r1,_,r2,r3⟩,⟨r4,r5,r6⟩,r7⟩:=HQ.o.rows c2 c3;have hql1:=LH (kZ c2);have hdr:∀ w3,aQ No wo.drew w3→aQ No wo w3:=λw3 h=>⟨h.os,h.tape,h.output,h.size,h.block⟩
   replace hdr:=LH hdr;have hdc1I:(50:Int)≤dc1:=by omega
   obtain⟨cj,hcj⟩:=Ex (λp=>kQ (lU i l j) p (c p):Nat→iz)
   have hc':(λp=>kQ (lU i l (j+1)) p (c p))=λx=>if x=Y then Z else cj x:=by
    funext p
    rw[zf,zl,hcj];simp only[← hY,← hZ];by_cases e:p=Y
    ·rw[ak e,ak e.symm]
    ·rw[ah e,ah (bY e)]
   rw[← hcj] at HQ;have HDY:=LH (r7 Y hY5);replace hcj:=LH hcj;replace hc':=LH hc';replace c2:=LH c2;replace c3:=LH c3;replace r7:=LH r7;replace hZ:=LH hZ;replace hY:=LH hY;replace hLO:=LH hLO;replace hHI:=LH hHI;replace hLH:=LH hLH;replace hdcl:=LH hdcl;replace hSb:=LH hSb;have hr1':=LH r1;clear hbw hNn' hNl' r1;go_wp2;refine RA.rt (aQ No) [1,1,1,1,1,1,1,1,1,1,1,1,1,1,1,1,7] [16] (λ_=>True) (trivial) (λ_=>aQ.refl _ _) (λ_ _ _ h k=>h.trans k) (h:=?_);intro cx
   repeat refine RA.qq (h:=?_)
   refine RA.fk prog (q) (2) (h:=?_);refine RA.lk prog (.slice (some ⟨dg1,0,none⟩) 50 dc1) (hc:=λw3 hp=>by exact ((hdr.o _ hp.1).cell (p:=⟨q,2,none⟩) hql1.o id).trans c2.o) (h:=?_)
   repeat refine RA.qq (h:=?_)
   refine RA.vw prog (.int .i64 Y) (h:=?_)
   repeat refine RA.qq (h:=?_)
   refine RA.vw prog (.int .i64 LO) (h:=?_)
   repeat refine RA.qq (h:=?_)
   refine RA.vw prog (.int .i64 (j+1:Nat)) (h:=?_);refine RA.vw prog (.int .i64 HI) (h:=?_);refine RA.uS (by kernel_rfl) (by rfl) (by rfl) (by rfl) (by rfl) (y':=.slice (some ⟨db,doff+LO,none⟩) 64 (dcap - LO)) (λw3 hp=>hsl.o w3) ?_;refine RA.cv (by kernel_rfl) (by rfl) (by rfl) (y':=mP Z) (λw3 hp=>by exact qC _ _ _ _ underlying42 underlying5 underlying9 _ _ _ (hcut.o w3 (hdr.o _ hp.1))) ?_;refine RA.ik prog (dg1) (Y) (h:=?_)
   refine RA.lj (λw5=>l5 w5 q w.heap.size (λx=>if x=Y then Z else cj x)∧aQ (λg=>g=q) w w5) (by rfl) (by rfl) (by kernel_rfl) (λ_ _ h k=>h ▸ k) (λw4 hp0 _=>by have hp:=hp0.first (by kernel_rfl);have hk:=hdr.o _ hp.1;have hQ4:=HQ.o.after hk.no;have k2:=(hk.cell (p:=⟨q,2,none⟩) hql1.o id).trans c2.o;have k3:=(hk.cell (p:=⟨q,3,none⟩) hql1.o id).trans c3.o;have hq5:=hQ4.L6 k2 hY5 Z;obtain⟨k4,k5,⟨u,k6⟩,k7⟩:=(hQ4.rows k2 k3).2.2 Y hY5;have hcg:aQ (λg=>g=q) w (w4.setCell ⟨dg1,Y,none⟩ (mP Z)):=(HC.o.trans (aQ.mono hk (λ_ _ e=>e.elim))).setCell (p:=⟨dg1,Y,none⟩) (λe=>absurd (show dg1<w.heap.size from e) (by have:=hr1'.o;omega)) _;refine⟨_,RA.kL (by rfl) (by rfl) (w':=w4.setCell ⟨dg1,Y,none⟩ (mP Z)) ?_,hq5,hcg⟩;clear hq5 hcg hp hp0 hk hQ4 k2 k3;unfold mP;generalize (⟨Z.toArray⟩:ByteArray)=ZZ;show (Instr.storeAt _ _ _).run prog w4=_;go_simp) ?_
   refine RA.RA.kW (λw5 hH=>?_);simp only[RA.put,List.foldr_cons,List.foldr_nil,cx,Act.put,ar,aq,au];obtain⟨z1,z2⟩:=hH;obtain⟨dg2,dc2,hg2,hc2,b2,b3,_⟩:=z1.cells;obtain⟨-,⟨s4,s5,s6⟩,s7⟩:=z1.rows b2 b3;obtain⟨-,t1,-,⟨t2,t3⟩⟩:=s7 Y hY5;have hc2I:(50:Int)≤hc2:=by omega
   have hfin:l5 (w5.setCell ⟨hg2,Y,none⟩ (.bool true)) q w.heap.size (λp=>kQ (lU i l (j+1)) p (c p)):=by rw[hc'.o];exact z1.L7 b3 true
   have hfc:aQ (λg=>g=q) w (w5.setCell ⟨hg2,Y,none⟩ (.bool true)):=z2.setCell (p:=⟨hg2,Y,none⟩) (λe=>absurd (show hg2<w.heap.size from e) (by omega)) _;replace z1:=LH z1;replace z2:=LH z2;replace hfin:=LH hfin;replace hfc:=LH hfc;replace s7:=LH s7;replace b2:=LH b2;go_wp2;go_roundg g1
   case measure=>omega
   case rel=>exact⟨j+1,by omega,by go_num,hfin.o,hfc.o⟩
  ·obtain rfl:gk=0:=by omega
   obtain rfl:j=n:=by omega
   have hlI:¬ (j:Int)<j:=by omega
   clear hlt hjg
   have hfin:l5 wr q 0 (λp=>kQ (lU i l j) p (c p)):=by obtain⟨dv',hv',hs',g1,g2,g3⟩:=HQ.o;exact⟨dv',hv',hs',g1,kT g2 (aW _),kT g3 (aW _)⟩
   replace hfin:=LH hfin;go_wp2;go_ret;exact⟨rfl,hfin.o,HC.o⟩
theorem D7 {A M:iz}(w:World):(Instr.field 39 (.agg (k9 A M).toArray) 0).run prog w=.ok (.agg #[iw 10,iw 100]) w:=by
 have h:(part 27 (k9 A M).toArray 0).run prog w=.ok (.agg #[iw 10,iw 100]) w:=by
  have a3:=Tryz.isAgg27;have z3:=Tryz.sizeOf27;have e:(k9 A M).toArray.extract 0 2=#[iw 10,iw 100]:=by simp[k9]
  unfold part;simp only[aM,a3,z3,bu,ea,aw,e];rfl
 unfold Instr.field;simp only[aM,bb underlying39,bu];exact h
end Go.Proofs.YthmcbgidehjlbaaGreat.Fd

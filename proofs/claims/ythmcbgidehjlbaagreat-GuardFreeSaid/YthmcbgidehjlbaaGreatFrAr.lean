/-
 Parts of the proof. No condition beyond what each theorem names.
-/
import Derived.Laws.Externs
import Derived.Lib.AppendZerosOnto
import Derived.Test.YthmcbgidehjlbaaGreatFrAm
import Derived.Test.YthmcbgidehjlbaaGreatFrAo
import Derived.Test.YthmcbgidehjlbaaGreatFrAq
set_option maxRecDepth 100000
set_option maxHeartbeats 8000000
namespace Go.Proofs.YthmcbgidehjlbaaGreat.Fd
open _root_.Go.Proofs.Tryz
open Go Go.RowKit K
def pR:Array Value:=#[.string ⟨#[]⟩,.string ⟨#[]⟩,iy 0,iy 0,iy 0,iy 0,iy 0,iy 0,iy 0,iy 0,iy 0,iy 0,iy 0,iy 0,iy 0,iy 0,iy 0,iy 0,iy 0,iy 0,iy 0,iy 0,iy 0,iy 0,iy 0,iy 0,iy 0,iy 0,iy 0,iy 0,iy 0,iy 0,iy 0,iy 0,.bool false]
theorem Bp:(prog.info? 223).map (λi=>(i.zero,i.size,i.bytes))=some (some (.agg pR),35,72):=kr
structure nO (w:World) (b:Nat) (lv:Value) (n:Nat):Prop where
 box:w.heap[b]?=some (.cells #[lv] 145 (0,0))
 row:∃ xs,w.ownsRow b 223 35 lv n xs
 mL:n<=1000000
def nU (b:Nat) (lv:Value):Nat->Prop:=λg=>g=b\/lv.ownBlock=some g
section
variable {w w':World}{b n:Nat}{lv:Value}
theorem nO.dB (h:nO w b lv n) (hk:∀ g,nU b lv g->w'.heap[g]?=w.heap[g]?):nO w' b lv n:=by obtain⟨xs,a⟩:=h.row;exact⟨(hk b (.inl rfl)).trans h.box,⟨xs,dE a (λg hg=>hk g (.inr hg))⟩,h.mL⟩
theorem nO.lt (h:nO w b lv n){g:Nat}(hg:nU b lv g):g<w.heap.size:=by
 obtain⟨xs,a⟩:=h.row;rcases hg with rfl|hg
 ·exact dC h.box
 ·exact (a.lt g hg).2
theorem nO.after (h:nO w b lv n) (hb:Below w.heap.size w w'):nO w' b lv n:=h.dB (λg hg=>hb.block g (h.lt hg))
theorem nO.push {w3:World}(h:nO w b lv n) (hR:aA No w w3) (hn:n<1000000){u:Value}{xs:List Value}(hu:Cells w3 (λ_=>True) u 1 35 xs) (h1:∀ v ∈ xs,v.oneCell'=true):
  ∃ v' w4,(Builtin.append_ #[143,143] 143 #[lv,u]).run prog w3=.ok v' w4/\w4.cell? (iu b 0)=some lv/\w4.frozen? (iu b 0)=false/\(∃ g cp,v'=ir g (n+1) cp)/\
   nO (w4.setCell (iu b 0) v') b v' (n+1)/\aA (nU b lv) w (w4.setCell (iu b 0) v')/\(v'.ownBlock=lv.ownBlock\/∃ g,v'.ownBlock=some g/\w.heap.size<=g):=by
 obtain⟨o,c⟩:=h.row;obtain⟨v',w4,hr,j,k,l⟩:=tS (P:=prog) (bytes:=72) underlying143 Bp rfl de c (am (cE (dC h.box)) (ae _)) hR hu h1 mx om 143;have f:=dC h.box;have d:¬ lv.ownBlock=some b:=o6 c h.box de;have a:=(k.block b f d).trans h.box
 have i:v'.ownBlock≠some b:=by
  rcases l with e|⟨g,e,hl⟩
  ·rw[e];exact d
  ·rw[e];intro m;simp at m;omega
 refine⟨v',w4,hr,?_,kY a 0,?_,⟨?_,⟨_,dE j (λg hg=>kD _ _ _ (by rintro rfl;exact i hg))⟩,by omega⟩,?_,l⟩
 ·rw[cell_of a];rfl
 ·obtain⟨g,cp,h1,_,_⟩:=kz j om;exact⟨g,cp,h1⟩
 ·rw[lz a];rfl
 ·exact (k.mono (λ_ _ e=>.inr e)).setCell (λ_=>.inl rfl) _
end
theorem Bq {w:World}{b n:Nat}{lv:Value}(h:nO w b lv n) (hn:n<1000000) (c:Array Value) (hc:c.size=35) (hc1:∀ v ∈ c.toList,v.oneCell'=true):
  Calls prog 135 #[iq b,.agg c] w λe w'=>e=.returned (.tuple #[])/\∃ lv',nO w' b lv' (n+1)/\aA (nU b lv) w w'/\(lv'.ownBlock=lv.ownBlock\/∃ g,lv'.ownBlock=some g/\w.heap.size<=g):=by
 obtain⟨la,lc,rfl⟩:∃ a c,lv=.slice a n c:=by obtain⟨xs,J⟩:=h.row;obtain⟨a,c,e,_⟩:=(Cells.own J).shape;exact⟨a,c,e⟩
 obtain⟨s,r⟩:=Ex (w.alloc (.cells c 223));have z:Below w.heap.size w s:=by rw[r];exact (ag _ _).alloc (ae _) _
 have d:s.heap[w.heap.size]?=some (.cells c 223 (0,0)):=by rw[r];exact aj w _
 have h1:=h.after z;have l:aA No w s:=aA.dD z _;have c0:s.cell? (iu b 0)=some (.slice la n lc):=cell_of h1.box 0;have H:=dC h1.box;obtain⟨q,D⟩:=Ex w.heap.size;rw[<-D] at d
 have t:∀ f,aA No s f->(Instr.loadAt 223 (iq q)).run prog f=.ok (.agg c) f:=λf F=>
  mE (x:=c.toList) underlying223 (by rw[dj,hc];kernel_rfl) (λj v hv=>by
   rw[aw,cell_of ((F.block q (dC d) id).trans d)]
   simpa using hv)
 have i:=Dr s
 refine G9 i t c0 h1 l d hc hc1 h ?_;clear i t c0 h1 l d hc hc1 h;intro i t c0 h1 l d hc hc1 h;clear z;go_enter func135,ntmps135;go_wp2;rw[<-r,<-D];replace D:=LH D;replace r:=LH r;refine RA.rt (aA No) [5,1,1,1,1,1,3,6,5,5,7] [7,10] (λ_=>True) trivial (λ_=>aA.refl _ _) (λ_ _ _ h k=>h.trans k) (h:=?_);intro cx;refine RA.pq ?_
 repeat refine RA.qq ?_
 refine RA.fk prog b 0 (h:=?_);refine RA.lk prog (.slice la n lc) (hc:=λf hp=>by exact ((i.o _ hp.1).cell (p:=iu b 0) H id).trans c0.o) (h:=?_);refine RA.ld (y':=.agg c) (hr:=λf hp=>t.o f (i.o _ hp.1)) (h:=?_)
 refine RA.bq (λx f=>Cells f (λ_=>True) x 1 35 c.toList) (hs:=λ_ _ _ h k=>k.ki h (λ_ _ _=>id)) (he:=λ_ _ _ _ _=>trivial) (hr:=λf hp _=>by refine⟨ir f.heap.size 1 1,f.alloc (.cells c 223),?_,(aA.refl _ _).alloc _,mC f c 223 1 35 (by rw[hc.o]) mx,trivial⟩;exact wT (RA.kH rf) underlying143 (by rw[hc.o];exact Bp) (by rw[hc.o];omega) (by rw[hc.o];omega) (by rw[hc.o];rfl)) (hn:=λx=>?_)
 refine RA.oH (λv' u=>u.cell? (iu b 0)=some (.slice la n lc)/\u.frozen? (iu b 0)=false/\(∃ g cp,v'=ir g (n+1) cp)/\
   nO (u.setCell (iu b 0) v') b v' (n+1)/\aA (nU b (.slice la n lc)) s (u.setCell (iu b 0) v')/\(v'.ownBlock=(Value.slice la n lc).ownBlock\/∃ g,v'.ownBlock=some g/\s.heap.size<=g)) (hr:=λf G _=>by
  have hp:=G.first kr;obtain⟨v',u,K,L⟩:=h1.o.push (i.o _ hp.1) hn (hp.fact 0 rfl kr) hc1.o;exact⟨v',u,RA.nS rf rf K,L⟩) (hn:=λv'=>?_)
 refine RA.pq ?_;refine RA.pk prog b 0 (h:=?_)
 refine RA.lr (λE=>nO E b v' (n+1)/\aA (nU b (.slice la n lc)) s E/\(v'.ownBlock=(Value.slice la n lc).ownBlock\/∃ g,v'.ownBlock=some g/\s.heap.size<=g)) (hr:=λu _ hH=>by obtain⟨f1,f2,⟨I,cp,rfl⟩,f3,f4,f5⟩:=hH;refine⟨_,RA.kL rf rf (w':=u.setCell (iu b 0) (ir I (n+1) cp)) ?_,f3,f4,f5⟩;clear f3 f4 f5;show (Instr.storeAt _ _ _).run prog u=_;go_simp) (hn:=?_)
 refine RA.RA.kZ (λE hH=>?_);simp only[RA.RP,cx];obtain⟨y,B,C⟩:=hH;have m:aA (nU b (.slice la n lc)) w E:=(l.o.mono (λ_ _ e=>e.elim)).trans B
 have A:v'.ownBlock=(Value.slice la n lc).ownBlock\/∃ g,v'.ownBlock=some g/\w.heap.size<=g:=by
  rcases C with e|⟨g,e,hg⟩
  ·exact .inl e
  ·exact .inr ⟨g,e,am l.o.size hg⟩
 replace y:=LH y;replace m:=LH m;replace A:=LH A;clear B C;go_wp2;go_end0;exact⟨rfl,v',y.o,m.o,A.o⟩
def rQ (n:Nat):iz:=[byte (n % 256),byte (n / 256 % 256),byte (n / 65536 % 256),byte (n / 16777216 % 256)]
def mu (parts:List iz):iz:=parts.flatMap λp=>rQ p.length++p
def pS (parts:List iz) (k:Nat):iz:=mu (parts.take k)
theorem Br {parts:List iz}{k:Nat}(h:k<parts.length):pS parts (k+1)=pS parts k++rQ (parts.getD k []).length++parts.getD k []:=by unfold pS mu;rw[bP h,gY,List.flatMap_singleton,cC];simp[List.getD,av h]
theorem GK {parts:List iz}(hl:∀ x ∈ parts,x.length<=100000):∀ k,k<=parts.length->(pS parts k).length<=k*100004:=by
 intro k
 induction k with
 | zero=>intro _;simp[pS,mu]
 | succ k ih=>
  intro h;rw[Br om,aE,aE];have h1:=ih om
  have a:(parts.getD k []).length<=100000:=by rw[List.getD,av om];exact hl _ (bK _)
  have b:(rQ (parts.getD k []).length).length=4:=rfl;omega
theorem GL {a b c d:Nat}(ha:a<256) (hb:b<256) (hc:c<256) (hd:d<256):aQ [byte a,byte b,byte c,byte d]=[iy a,iy b,iy c,iy d]:=by simp[aQ,u8,lM ha,lM hb,lM hc,lM hd]
theorem GM {w:World}{S:Nat->Prop}{pv:Value}{parts:List iz}(hp:kP w S pv parts) (hfew:parts.length<=10) (hlen:∀ x ∈ parts,x.length<=100000):
  Calls prog 158 #[pv] w λe w'=>∃ v,e=.returned v/\w'.ownsRow w.heap.size 5 1 v (mu parts).length (aQ (mu parts))/\Below w.heap.size w w':=by
 have a7:(iy 0).cells.size=1:=rfl;obtain⟨n,Q⟩:=Ex parts.length;obtain⟨vs,hc,a6⟩:=hp.row;rw[<-Q] at hc hfew;obtain⟨pa,a8,rfl,b6,Y⟩:=hc.shape;unfold maxLen at Y;have c:mu parts=pS parts n:=by rw[pS,Q,cS]
 rw[c];have t:=GK hlen;rw[<-Q] at t
 have C:∀ k,(parts.getD k []).length<=100000:=λk=>by
  rw[List.getD];cases h:parts[k]? with
  | none=>simp
  | some x=>exact hlen x (aZ h)
 have a:∀ k,k<n->pS parts (k+1)=pS parts k++rQ (parts.getD k []).length++parts.getD k []:=λk hk=>Br om
 have s:∀ p,Below w.heap.size w p->Cells p S (.slice pa n a8) n 1 vs:=λp G=>hc.dB G.size (λg _ hg=>G.block g hg)
 have E:∀ p,Below w.heap.size w p->∀ j v,vs[j]?=some v->Bytes p S v (parts.getD j []):=λp G j v hv=>Cells.dB (a6 j v hv) G.size (λg _ hg=>G.block g hg)
 have B:pS parts 0=[]:=rfl;refine G8 c t C a s E B Q ?_;clear c t C a s E B Q;intro c t C a s E B Q;clear hp hc a6 hlen;go_enter func158,ntmps158;go_wp2
 go_loopg [2,8] n (λg o i wr=>∃ k:Nat,k+g=n/\i=iw k/\Hd (wr.ownsRow w.heap.size 5 1 o (pS parts k).length (aQ (pS parts k)))/\Hd (Below w.heap.size w wr))
 case atStart=>exact⟨0,by omega,rfl,by show World.ownsRow _ _ _ _ _ _ _;rw[B.o];exact aS _ _ _ _,ag _ _⟩
 case round=>
  obtain⟨k,ay,rfl,N,b⟩:=hrel;by_cases W:k<n
  ·obtain⟨g1,rfl⟩:∃ i,gk=i+1:=⟨gk - 1,by omega⟩;obtain⟨pg,b8,pc,hv,_,_,_,bl,V⟩:=Cells.at (s.o wr b.o) om;simp only[IJ] at hv;obtain⟨rfl,_,rfl⟩:=hv;have bz:vs.length=n:=by have:=(s.o wr b.o).1;omega
   obtain⟨q,hq⟩:∃ q,vs[k]?=some q:=⟨vs[k]'om,av om⟩;have ax:=V k q hq;have a1:=E.o;obtain⟨P,O⟩:=Ex (parts.getD k []);have f:∀ p,Below w.heap.size w p->Bytes p S q P:=λp G=>O ▸ a1 p G k q hq
   have T:P.length<=100000:=O ▸ C.o k;have l:=a.o k W;rw[<-O] at l;have F:=f wr b.o;obtain⟨qa,ba,rfl,b3,b4⟩:=F.shape;obtain⟨m,hm⟩:=Ex P.length;rw[<-hm] at f b3 ax T;obtain⟨I,u⟩:=Ex (m % 256);obtain⟨J,y⟩:=Ex (m / 256 % 256);obtain⟨L,z⟩:=Ex (m / 65536 % 256);obtain⟨M,A⟩:=Ex (m / 16777216 % 256);obtain⟨FK,r⟩:=Ex (pS parts k);obtain⟨FL,d⟩:=Ex FK.length;have b5:FL<=1000040:=by have:=t.o k om;rw[<-r,<-d] at this;omega
   rw[<-r] at N l;rw[<-d] at N
   have D:aQ (rQ m)=[iy I,iy J,iy L,iy M]:=by rw[u,y,z,A];exact GL om om om om
   have c0:IntKind.u8.wrap (m:Int)=(I:Int):=by rw[ez];omega
   have c1:IntKind.u8.wrap ((m:Int) / 256)=(J:Int):=by rw[ez];omega
   have c2:IntKind.u8.wrap ((m:Int) / 65536)=(L:Int):=by rw[ez];omega
   have c3:IntKind.u8.wrap ((m:Int) / 16777216)=(M:Int):=by rw[ez];omega
   have X:(wr.alloc (.cells #[iy I,iy J,iy L,iy M] 5)).ownsRow _ _ _ _ _ _:=dE N.o (λg hg=>aB _ _ _ (kt N.o g hg));have af:=LH X;have ad:=LH (mC wr #[iy I,iy J,iy L,iy M] 5 4 1 rfl mx);have aa:=LH (λg=>kJ N.o g);have bp:=b.o.size;have b2:(k:Int)<n:=om;refine G7 u y z A r d D ?_;clear u y z A r d D;intro u y z A r d D;refine G4 l hm O f ?_;clear l hm O f;intro l hm O f;unfold maxLen at b4;clear X a1 F V hq
   go_wp2_with (at_builtin;refine K.append ?_ (.tmp 14) (.tmp 26) 42 ?_ w.heap.size 5 (iy 0) 1 1 underlying42 nu a7 om _ FL _ ?_ af.o (λ_=>True) _ 4 [iy I,iy J,iy L,iy M] ?_ ad.o (by simp[Value.oneCell']) mx om ?_ ?_)
   ·rfl
   ·rfl
   ·omega
   intro v' w2 x1 x2 x3 x4;have X1:=LH x1;have U:Below w.heap.size w (wr.alloc (.cells #[iy I,iy J,iy L,iy M] 5)):=b.o.alloc b.o.size _;have H:=LH ((aA.dD U No).grown x2 (λg hg hl=>absurd (aa.o g hg) om)).no;have R:=LH (λg=>kJ X1.o g);have Z:=LH (f.o w2 H.o);have b7:=H.o.size;clear x1 x2 x3 x4 U
   go_wp2_with (at_builtin;refine K.append ?_ (.tmp 28) (.tmp 29) 42 ?_ w.heap.size 5 (iy 0) 1 1 underlying42 nu a7 om _ (FL+4) _ ?_ X1.o S _ m (aQ P) ?_ (by rw[hm.o];exact Z.o) (by simp[aQ,u8,Value.oneCell']) mx om ?_ ?_)
   any_goals (first|rfl|omega)
   intro v3 p y1 y2 y3 y4;have Y1:=LH y1;have an:=LH ((aA.dD H.o No).grown y2 (λg hg hl=>absurd (R.o g hg) om)).no;clear y1 y2 y3 y4;go_wp2;go_roundg g1
   case measure=>omega
   case rel=>refine⟨k+1,by omega,by go_num,?_,an.o⟩;show World.ownsRow _ _ _ _ _ _ _;have h:=Y1.o;rw[l.o,<-hm.o,nI,nI,aE,aE,D.o,<-d.o,<-hm.o,cC];exact h
  ·obtain rfl:gk=0:=om;obtain rfl:k=n:=om;have b2:¬ (k:Int)<k:=om;clear ay W;go_wp2;go_ret;exact⟨_,rfl,N.o,b.o⟩
theorem Bt (n:Nat) (hn:n<=1000000) (w:World):
  Calls prog 142 #[.slice none 0 0,iw n] w λe w'=>∃ v,e=.returned v/\w'.ownsRow w.heap.size 5 1 v 0 []/\Below w.heap.size w w':=by
 by_cases u:n=0
 ·subst u;go_enter func142,ntmps142;go_wp2;go_ret;exact⟨_,rfl,aS _ _ _ _,ag _ _⟩
 ·obtain⟨i,q,r,x,g⟩:=cw nu;obtain⟨G,t⟩:=Ex (grownCap w n 0 5);have y:n<=G:=t ▸ eF w n 0 5;have l:G<=maxLen:=t ▸ fw w n 0 5 mx;obtain⟨c,a⟩:=Ex ((#[]:Array Value)++Builtin.zeroCells (iy 0).cells n++Builtin.zeroCells (iy 0).cells (G - n))
  have p:c.size=G:=by rw[a];have e:(iy 0).cells.size=1:=rfl;simp only[fx,fy,e];simp;omega
  obtain⟨N,m⟩:=Ex w.heap.size;obtain⟨s,d⟩:=Ex (w.drew.alloc (.cells c 5))
  have j:∀ ty,(Builtin.append_ #[42,3] ty #[.slice none 0 0,iw (n:Int)]).run prog w=.ok (ir N n G) s:=by intro ty;have h:=Lib.run_append_grow_zeros (P:=prog) w 42 3 ty 5 i _ .i64 .i64 underlying42 underlying3 q r none 0 0 [] (by simp[Builtin.firstCells]) n om om om om (by rw[g];omega) (by rw[g,aw];exact ew om om);rw[aw,<-t,<-a,<-d,<-m] at h;exact h
  have k:s.heap[N]?=some (.cells c 5 (0,0)):=by rw[d,m];exact aj w.drew _
  have f:Below N w s:=by rw[d];have u:Below N w w.drew:=(ag _ _).drew;exact u.alloc (by simp[m]) _
  have b:s.ownsRow N 5 1 (ir N 0 G) 0 []:=⟨by simp,.inr ⟨N,G,c,rfl,ae _,k,aW _,l,by rw[p,aY],by simp⟩⟩;rw[<-m];unfold maxLen at l;have z:(0:Int)<(n:Int):=om;revert j f b;refine H3 ?_;intro j f b;clear k p a d t q r x g m;go_enter func142,ntmps142
  go_wp2_with (at_builtin;refine Lib.wpList_append_run _ rfl (.tmp 20) (.tmp 21) 42 3 rfl _ _ rfl rfl _ _ (j.o _) ?_)
  go_ret;exact⟨_,rfl,b.o,f.o⟩
def ny (parts:List iz) (k:Nat):iz:=(parts.take k).flatten
theorem wW {parts:List iz}{k:Nat}(h:k<parts.length):ny parts (k+1)=ny parts k++parts.getD k []:=by unfold ny;rw[bP h,List.flatten_append];simp[List.getD,av h]
theorem GN {parts:List iz}(hl:∀ x ∈ parts,x.length<=100000):∀ k,k<=parts.length->(ny parts k).length<=k*100000:=by
 intro k
 induction k with
 | zero=>intro _;simp[ny]
 | succ k ih=>
  intro h;rw[wW om,aE];have h1:=ih om
  have a:(parts.getD k []).length<=100000:=by rw[List.getD,av om];exact hl _ (bK _)
  omega
theorem vq {w:World}{S:Nat->Prop}{pv:Value}{parts:List iz}(hp:kP w S pv parts) (hfew:parts.length<=10) (hlen:∀ x ∈ parts,x.length<=100000):
  Calls prog 117 #[pv] w λe w'=>∃ v,e=.returned v/\w'.ownsRow w.heap.size 5 1 v parts.flatten.length (aQ parts.flatten)/\Below w.heap.size w w':=by
 have ax:(iy 0).cells.size=1:=rfl;obtain⟨n,L⟩:=Ex parts.length;obtain⟨vs,hc,Y⟩:=hp.row;rw[<-L] at hc hfew;obtain⟨pa,Z,rfl,b2,V⟩:=hc.shape;unfold maxLen at V;have f:parts.flatten=ny parts n:=by rw[ny,L,cS]
 rw[f];have C:=GN hlen;rw[<-L] at C
 have u:∀ k,(parts.getD k []).length<=100000:=λk=>by
  rw[List.getD];cases h:parts[k]? with
  | none=>simp
  | some x=>exact hlen x (aZ h)
 have b:∀ k,k<n->ny parts (k+1)=ny parts k++parts.getD k []:=λk hk=>wW om
 have B:∀ E,Below w.heap.size w E->Cells E S (.slice pa n Z) n 1 vs:=λE N=>hc.dB N.size (λg _ hg=>N.block g hg)
 have D:∀ E,Below w.heap.size w E->∀ j v,vs[j]?=some v->Bytes E S v (parts.getD j []):=λE N j v hv=>Cells.dB (Y j v hv) N.size (λg _ hg=>N.block g hg)
 have F:ny parts 0=[]:=rfl;have d:vs.length=n:=by have:=hc.1;omega
 refine G9 d f C u b B D F L ?_;clear d f C u b B D F L;intro d f C u b B D F L;clear hp hc Y hlen;go_enter func117,ntmps117;go_wp2
 go_loopg [3,11] n (λg t i wr=>∃ k T:Nat,k+g=n/\i=iw k/\t=iw T/\T<=k*100000/\wr=w)
 case atStart=>exact⟨0,0,by omega,rfl,rfl,by omega,rfl⟩
 case round=>
  obtain⟨k,T,an,rfl,rfl,hT,rfl⟩:=hrel;by_cases c:k<n
  ·obtain⟨g1,rfl⟩:∃ i,gk=i+1:=⟨gk - 1,by omega⟩;obtain⟨pg,a1,pc,hv,_,_,_,ad,A⟩:=Cells.at (B.o wr (ag _ _)) om;simp only[IJ] at hv;obtain⟨rfl,_,rfl⟩:=hv;obtain⟨q,J⟩:∃ q,vs[k]?=some q:=⟨vs[k]'(by rw[d.o];exact c),av (by rw[d.o];exact c)⟩;have I:=A k q J;have a:=D.o wr (ag _ _) k q J;obtain⟨P,s⟩:=Ex (parts.getD k []);rw[<-s] at a;have y:P.length<=100000:=s ▸ u.o k;obtain⟨qa,a6,rfl,W,X⟩:=a.shape;obtain⟨m,hm⟩:=Ex P.length;rw[<-hm] at I y;have R:(k:Int)<n:=om;obtain⟨U,hU⟩:=Ex (T+m);have hs:((T:Int)+m)=(U:Int):=om;have b3:¬ (U:Int)<0:=om;have b4:U<=10000000:=om;have a8:U<=(k+1)*100000:=om;replace hU:=LH hU;replace hm:=LH hm;replace s:=LH s;clear a A J;go_wp2;go_roundg g1
   case measure=>omega
   case rel=>exact⟨k+1,U,by omega,by go_num,rfl,a8,by simp⟩
  ·obtain rfl:gk=0:=om;obtain rfl:k=n:=om;have O:T<=1000000:=om;obtain⟨wo,rfl⟩:=Ex (wr:World);have Q:=LH (Bt T O wo);clear an c
   go_wp2_with fail
   refine Q.o.mono ?_;rintro e w1 ⟨gv,rfl,G,H⟩;replace G:=LH G;replace H:=LH H;clear Q hT O;go_wp2
   go_loopg [6,27] k (λg o i E=>∃ j:Nat,j+g=k/\i=iw j/\Hd (E.ownsRow wo.heap.size 5 1 o (ny parts j).length (aQ (ny parts j)))/\Hd (Below wo.heap.size wo E))
   case atStart=>exact⟨0,by omega,rfl,by show World.ownsRow _ _ _ _ _ _ _;rw[F.o];exact G.o,H.o⟩
   case round=>
    obtain⟨j,af,rfl,M,z⟩:=hrel;clear G H;by_cases c:j<k
    ·obtain⟨g2,rfl⟩:∃ i,gk=i+1:=⟨gk - 1,by omega⟩;obtain⟨pg,a1,pc,hv,_,_,_,ad,A⟩:=Cells.at (B.o wr z.o) om;simp only[IJ] at hv;obtain⟨rfl,_,rfl⟩:=hv;obtain⟨q,J⟩:∃ q,vs[j]?=some q:=⟨vs[j]'(by rw[d.o];exact c),av (by rw[d.o];exact c)⟩;have I:=A j q J;have a:=D.o wr z.o j q J;obtain⟨P,s⟩:=Ex (parts.getD j []);rw[<-s] at a;have y:P.length<=100000:=s ▸ u.o j;have p:=b.o j c;rw[<-s] at p;obtain⟨qa,a6,rfl,W,X⟩:=a.shape;obtain⟨m,hm⟩:=Ex P.length;rw[<-hm] at I y W a;obtain⟨FK,r⟩:=Ex (ny parts j);obtain⟨FL,l⟩:=Ex FK.length;have ay:FL<=1000000:=by have:=C.o j om;rw[<-r,<-l] at this;omega
     rw[<-r] at M p;rw[<-l] at M;have R:(j:Int)<k:=om;have a7:=LH (λg=>kJ M.o g);have b5:=z.o.size;refine G6 a p hm s r l ?_;clear a p hm s r l;intro a p hm s r l;unfold maxLen at X;clear A J
     go_wp2_with (at_builtin;refine K.append ?_ (.tmp 31) (.tmp 32) 42 ?_ wo.heap.size 5 (iy 0) 1 1 underlying42 nu ax om _ FL _ ?_ M.o S _ m (aQ P) ?_ (by rw[hm.o];exact a.o) (K.nJ P) mx om ?_ ?_)
     any_goals (first|rfl|omega)
     intro v3 E y1 y2 y3 y4;have Y1:=LH y1;have aa:=LH ((aA.dD z.o No).grown y2 (λg hg hl=>absurd (a7.o g hg) om)).no;clear y1 y2 y3 y4;go_wp2;go_roundg g2
     case measure=>omega
     case rel=>refine⟨j+1,by omega,by go_num,?_,aa.o⟩;show World.ownsRow _ _ _ _ _ _ _;have h:=Y1.o;rw[p.o,nI,aE,<-l.o,<-hm.o];exact h
    ·obtain rfl:gk=0:=om;obtain rfl:j=k:=om;have R:¬ (j:Int)<j:=om;clear af c;go_wp2;go_ret;exact⟨_,rfl,M.o,z.o⟩
theorem Bu {l:iz}(h:l.length=32):(prog.info? 209).map (·.size)=some l.length:=by rw[h];kernel_rfl
theorem GO {w:World}{S S':Nat->Prop}{kv pv:Value}{key:iz}{parts:List iz}(hk:Bytes w S kv key) (hl:key.length<=64) (hp:kP w S' pv parts) (h0:0<parts.length) (hfew:parts.length<=7) (hlen:∀ x ∈ parts,x.length<=100000):
  Calls prog 159 #[kv,pv] w λe w'=>e=.returned (.agg (aQ (oM key parts)).toArray)/\Below w.heap.size w w':=by
 obtain⟨n,y⟩:=Ex w.heap.size;have C:=LH y;obtain⟨t,d⟩:=Ex (w.alloc (.cells (aQ (List.replicate 32 0)).toArray 209));have G:t.heap.size=n+1:=by rw[d,y];simp
 have f:Below w.heap.size w t:=by rw[d];exact (ag _ _).alloc (ae _) _
 have v:ke t n 209 (List.replicate 32 0):=by rw[d,y];exact aj w _
 have q:Bytes t S kv key:=Cells.dB hk f.size (λg _ hg=>f.block g hg);have h:kP t S' pv parts:=hp.dB f.size (λg _ hg=>f.block g hg);obtain⟨T,l⟩:=Ex (oM key parts);have m:T.length=32:=l ▸ rk;have i:=LH (Gp q hl);rw[<-l];revert hlen G f v h l;refine H6 ?_;intro hlen G f v h l;have F:=LH d;subst d;clear y q hk hp;go_enter func159,ntmps159
 go_wp2_with fail
 rw[<-C.o];refine i.o.mono ?_;rintro e A ⟨p,s,iv,ov,rfl,E,a⟩;have r:kP A S' pv parts:=h.o.dB a.size (λg _ hg=>a.block g hg);have c:=LH (GJ E r h0 hfew hlen.o);have u:ke A n 209 (List.replicate 32 0):=v.o.dB (a.block n (dC v.o));have b1:Below w.heap.size w A:=f.o.trans (a.mono f.o.size);rw[<-l.o] at c;replace u:=LH u;replace b1:=LH b1;clear E r a i v f h
 go_wp2_with fail
 refine c.o.mono ?_;rintro e w2 ⟨rfl,j⟩;have B:ke w2 n 209 (List.replicate 32 0):=u.o.dB (j.block n (dC u.o));have D:Below w.heap.size w w2:=b1.o.trans (j.mono b1.o.size);have z:=LH (th B m);have b:ke (w2.setRow n (aQ T).toArray) n 209 T:=B.setRow T;have k:Below w.heap.size w (w2.setRow n (aQ T).toArray):=below_setRow D (by rw[C.o];omega) _;replace b:=LH b;replace k:=LH k;clear c u b1 j B D
 go_wp2_with (first|(refine kI rfl 209 _ _ rfl _ _ rfl rfl z.o ?_)|fail)
 refine aI (bd results159 _ _ n 209 _ (0,0) _ rfl b.o underlying209 rfl (by rw[Bu m];simp[km])) rfl ⟨rfl,k.o⟩
theorem yF {h:iz}(hl:h.length=32) (w:World):Calls prog 120 #[.agg (aQ h).toArray] w λe w'=>e=.returned (.agg (aQ (h.take 16)).toArray)/\Below w.heap.size w w':=by
 obtain⟨n,k⟩:=Ex w.heap.size;have s:=LH k;obtain⟨V,l⟩:=Ex ((aQ h).toArray);obtain⟨T,i⟩:=Ex (h.take 16);have b:T.length=16:=by rw[i,aR];omega
 obtain⟨w2,g⟩:=Ex ((w.alloc (.cells V 209)).alloc (.cells #[iy 0,iy 0,iy 0,iy 0,iy 0,iy 0,iy 0,iy 0,iy 0,iy 0,iy 0,iy 0,iy 0,iy 0,iy 0,iy 0] 179));have r:w2.heap[n]?=some (.cells V 209 (0,0)):=by rw[g,k];exact (aB _ _ _ sm).trans (aj w _)
 have p:ke w2 (n+1) 179 (List.replicate 16 0):=by rw[g,k];have h:=aj (w.alloc (.cells V 209)) (.cells #[iy 0,iy 0,iy 0,iy 0,iy 0,iy 0,iy 0,iy 0,iy 0,iy 0,iy 0,iy 0,iy 0,iy 0,iy 0,iy 0] 179);simp only[aN] at h;exact h
 have q:Below w.heap.size w w2:=by rw[g];exact ((ag _ _).alloc (ae _) _).alloc sm _
 have d:(Instr.loadAt 179 (iq n)).run prog w2=.ok (.agg (aQ T).toArray) w2:=
  tW (x:=aQ T) underlying179 (by rw[km];exact kV b) (λj v hv=>by
   rw[aw,cell_of r,l];have t:j<16:=by have:=(aD.1 hv).1;rw[km,b] at this;exact this
   rw[<-hv,i];simp[aQ,t])
 have f:=nn p aK T b;have a:ke (w2.setRow (n+1) (aQ T).toArray) (n+1) 179 T:=p.setRow T;have c:Below w.heap.size w (w2.setRow (n+1) (aQ T).toArray):=below_setRow q om _;have m:(Instr.arrayAt 179 (ir n 16 32)).run prog w2=.ok (iq n) w2:=run_arrayAt _ _ _;rw[<-l,<-i];revert l i d f a c;refine H6 ?_;intro l i d f a c;clear r p q;subst g;rw[k] at d f a c m;clear k s;go_enter func120,ntmps120
 go_wp2_with (first|(refine kQ rfl 179 _ rfl _ _ rfl d.o ?_)|(refine kI rfl 179 _ _ rfl _ _ rfl rfl f.o ?_)|fail)
 refine aI (bd results120 _ _ (w.heap.size+1) 179 _ (0,0) _ rfl a.o underlying179 rfl (by rw[kV b];simp[km])) rfl ⟨rfl,c.o⟩
end Go.Proofs.YthmcbgidehjlbaaGreat.Fd
namespace Go.Proofs.YthmcbgidehjlbaaGreat.K
open _root_.Go.Proofs.Tryz
open Go Go.RowKit
theorem wX {P:Program}{t:TypeId}{fs:Array Field}{places:List (Nat×Nat)}{z:Value}(hu:P.underlying t=some (.struct fs)) (hz:(P.info? t).map (λi=>i.zero)=some (some z)) (hp:fs.toList.mapM (λf=>(P.info? f.type).map λi=>(f.offset,i.size))=some places) (parts:List (Nat×Value)):
  P.built t parts=Instr.fill (places.toArray[·]?) z.cells parts:=by
 unfold Program.built;cases hi:P.info? t with
 | none=>simp[hi] at hz
 | some i=>simp only[hi,dr,ao] at hz;simp only[hu,hz,hp]
theorem mf {P:Program}{w:World}{g:Nat}{t ty:TypeId}{cs:Array Value}{x:List Value}(h:w.heap[g]?=some (.cells cs t (0,0))) (hi:(P.info? ty).map (·.size)=some x.length) (hl:cs.size=x.length) (h1:∀ v ∈ x,v.oneCell'=true):
  (Instr.storeAt ty (iq g) (.agg x.toArray)).run P w=.ok () (w.setRow g x.toArray):=by
 simp only[Instr.storeAt,Instr.sureAddr,aM,Sem.run_pure,Result.andThen];rw[gi w g t ty _ _ h (by simpa using hi) (by simpa using hl) (by rw[List.all_toArray];exact bU.2 h1)]
end Go.Proofs.YthmcbgidehjlbaaGreat.K
namespace Go.Proofs.YthmcbgidehjlbaaGreat.RA
open _root_.Go.Proofs.Tryz
open Go
variable {xs:List (Nat×Operand)}{ys:List (Nat×Value)}
theorem GP {c:Cx}{K:List (Nat×Value)}(h:xs.map (λp=>(p.1,ky c K p.2))=ys.map (λp=>(p.1,some p.2))):xs.map (λp=>(p.1,ev c.a0 K p.2))=ys:=by
 induction xs generalizing ys with
 | nil=>cases ys with
  | nil=>rfl
  | cons y ys=>cases h
 | cons x xs ih=>cases ys with
  | nil=>cases h
  | cons y ys=>simp only[bt,List.cons.injEq,fE] at h ⊢;obtain⟨⟨h1,a⟩,b⟩:=h;refine⟨?_,ih b⟩;rw[h1,kH a]
theorem GQ {c:Cx}{K:List (Nat×Value)}{P:Program}{t:TypeId}{cells:Array Value}{ds:Option Nat}{ty:TypeId}{ps:String}{af:Array Edge}{gu:Option (Nat×Bool)}{w:World}
  (hx:xs.map (λp=>(p.1,ky c K p.2))=ys.map (λp=>(p.1,some p.2))) (hr:(Instr.build t ys.toArray).run P w=.ok (.agg cells) w):
  (execOp (ev c.a0 K) ⟨ds,.build t xs.toArray,ty,ps,af,gu⟩).run P w=.ok (.value (.agg cells)) w:=by
 unfold execOp;simp only[cI];rw[show (xs.map λx=>match x with|(i,x)=>(i,ev c.a0 K x))=ys from GP hx,];simp[hr,Result.andThen]
end Go.Proofs.YthmcbgidehjlbaaGreat.RA
namespace Go.Proofs.YthmcbgidehjlbaaGreat.Fd
open _root_.Go.Proofs.Tryz
open Go Go.RowKit K
variable {g:iz}
def oq (a b:ByteArray) (g:iz) (m:Bool):List Value:=[.string a,.string b]++aQ g++[.bool m]
theorem uh {a b:ByteArray}{m:Bool}(hg:g.length=32):(oq a b g m).length=35:=by simp[oq,km,hg]
theorem wY {a b:ByteArray}{m:Bool}:∀ v ∈ oq a b g m,v.oneCell'=true:=by
 intro v hv;simp only[oq,bw,bi,bL,bS] at hv;rcases hv with ((rfl|rfl)|hv)|rfl
 ·rfl
 ·rfl
 ·exact nJ g v hv
 ·rfl
theorem GR (a b:ByteArray)(hg:g.length=32) (w:World):(Instr.build 223 #[(0,.string a),(1,.string b),(2,.agg (aQ g).toArray)]).run prog w=.ok (.agg (oq a b g false).toArray) w:=by refine e9 w _ _ _ ?_;rw[wX (places:=[(0,1),(1,1),(2,32),(34,1)]) (z:=.agg pR) underlying223 kr kr];show Instr.fill _ pR [(0,.string a),(1,.string b),(2,.agg (aQ g).toArray)]=_;rw[pC (off:=0) (size:=1) rfl rfl (cF rfl),pC (off:=1) (size:=1) rfl rfl (cF rfl),pC (off:=2) (size:=32) rfl (by simp[Value.cells,km,hg]) (cF rfl),Instr.fill];congr 2;show List.take 2 _++(aQ g++List.drop (2+(aQ g).length) _)=_;rw[km,hg];rfl
theorem Bv {w:World}{S S':Nat->Prop}{kv pv:Value}{key:iz}{parts:List iz}(hk:Bytes w S kv key) (hl:key.length<=64) (hp:kP w S' pv parts) (hfew:parts.length<=10) (hlen:∀ x ∈ parts,x.length<=100000) (hfl:(mu parts).length<=100000):
  Calls prog 133 #[kv,pv] w λe w'=>e=.returned (.agg (oq ⟨key.toArray⟩ ⟨(mu parts).toArray⟩ (oM key [mu parts]) false).toArray)/\Below w.heap.size w w':=by
 obtain⟨n,hn⟩:=Ex w.heap.size;have V:=LH hn;obtain⟨O,kc,rfl,K,a1⟩:=hk.shape;obtain⟨T,E⟩:=Ex (mu parts);obtain⟨G,A⟩:=Ex (oM key [T]);have s:G.length=32:=A ▸ rk;obtain⟨U,z⟩:=Ex (w.alloc (.cells pR 223));have r:Below w.heap.size w U:=by rw[z];exact (ag _ _).alloc (ae _) _
 have B:U.heap[n]?=some (.cells pR 223 (0,0)):=by rw[z,hn];exact aj w _
 have l:Bytes U S (.slice O key.length kc) key:=Cells.dB hk r.size (λg _ hg=>r.block g hg);have i:=GM (hp.dB r.size (λg _ hg=>r.block g hg)) hfew hlen;rw[<-E] at hfl i ⊢;rw[<-A];obtain⟨W,a⟩:=Ex key.length;rw[<-a] at l hl ⊢;refine G7 i r B l A E a ?_;clear i r B l A E a;intro i r B l A E a;subst z;clear hn hk hp hlen K;go_enter func133,ntmps133
 go_wp2_with fail
 rw[<-V.o];refine i.o.mono ?_;rintro e I ⟨tv,rfl,M,p⟩;obtain⟨F,H,rfl,_,_⟩:=(Cells.own M).shape;have f:Bytes I (λ_=>True) (.slice F T.length H) T:=(Cells.own M).mono (λ_ _ _=>trivial)
 have q:Bytes I S (.slice O W kc) key:=by have h:=Cells.dB l.o p.size (λg _ hg=>p.block g hg);exact h
 have D:=(p.block n (dC B.o)).trans B.o;have b1:Below w.heap.size w I:=r.o.trans (p.mono r.o.size);have L:=LH (dC D);obtain⟨J,c⟩:=Ex T.length;rw[<-c] at f hfl ⊢;refine G5 c f q D b1 ?_;clear c f q D b1;intro c f q D b1;clear M p l B r i;have d:=Dr I
 replace d:=LH d;go_wp2;refine RA.rt (aA No) [1,1,1,1,1,1,3,4,1,7] [9] (λ_=>True) trivial (λ_=>aA.refl _ _) (λ_ _ _ h k=>h.trans k) (h:=?_);intro cx
 repeat refine RA.qq ?_
 refine RA.cv (y':=.string ⟨key.toArray⟩) (hr:=λm hp=>by exact sK _ _ _ _ underlying42 underlying5 underlying9 S _ _ (by have h:=q.o.ki (d.o _ hp.1) (λ_ _ _=>id);rw[a.o] at h;rw[a.o];exact h)) (h:=?_)
 repeat refine RA.qq ?_
 refine RA.cv (y':=.string ⟨T.toArray⟩) (hr:=λm hp=>by exact sK _ _ _ _ underlying42 underlying5 underlying9 (λ_=>True) _ _ (by have h:=f.o.ki (d.o _ hp.1) (λ_ _ _=>id);rw[c.o] at h;rw[c.o];exact h)) (h:=?_)
 repeat refine RA.qq ?_
 refine RA.bq (λx m=>kP m (λ_=>True) x [T]) (hs:=λ_ _ _ h k=>k.dB h.size (λb _ hb=>h.block b hb id)) (he:=λ_ _ _ _ _=>trivial) (hr:=λm hp _=>by have C:=f.o.ki ((d.o _ hp.1).trans ((aA.refl No m).alloc (.cells #[.slice F J H] 42))) (λ_ _ _=>id);refine⟨ir m.heap.size 1 1,m.alloc (.cells #[.slice F J H] 42),?_,(aA.refl _ _).alloc _,kP.cons (vs:=[]) (parts:=[]) (mC m #[.slice F J H] 42 1 1 rfl mx) rfl C (λj v hv=>by simp at hv),trivial⟩;clear C;show (execOp _ _).run prog m=_;go_simp) (hn:=λx=>?_)
 refine RA.kc (P:=prog) [.slice O W kc,x] (.agg (aQ G).toArray) (hr:=λm hp hH=>(GO (key:=key) (parts:=[T]) (S:=S) (S':=λ_=>True) (by have h:=q.o.ki (d.o _ hp.1) (λ_ _ _=>id);rw[a.o] at h;rw[a.o];exact h) (by rw[<-a.o];exact hl) (hp.fact 0 rfl kr) sm sm (by intro y X;simp at X;subst X;rw[<-c.o];exact hfl)).mono (by rintro e Q ⟨rfl,Z⟩;exact⟨by rw[A.o],aA.dD Z _,trivial⟩)) (hn:=?_)
 refine RA.vk prog (.agg (oq ⟨key.toArray⟩ ⟨T.toArray⟩ G false).toArray) (hr:=λm hp=>by exact RA.GQ rf (GR ⟨key.toArray⟩ ⟨T.toArray⟩ s m)) (h:=?_)
 refine RA.lr (λR=>R.heap[n]?=some (.cells (oq ⟨key.toArray⟩ ⟨T.toArray⟩ G false).toArray 223 (0,0))/\Below w.heap.size w R) (hr:=λQ N hH=>by have hp:=N.first kr;have hc:=d.o _ hp.1;have Y:=(hc.block n L.o id).trans D.o;refine⟨Q.setRow n (oq ⟨key.toArray⟩ ⟨T.toArray⟩ G false).toArray,RA.kL rf rf (mf Y (by rw[uh s];kernel_rfl) (by rw[uh s];rfl) wY),?_,below_setRow (b1.o.trans (hc.no.mono b1.o.size)) (by rw[V.o];omega) _⟩;exact aJ Q n _ _ _ _ Y) (hn:=?_)
 refine RA.RA.kZ (λR hH=>?_);simp only[RA.RP,cx];obtain⟨u,t⟩:=hH;replace u:=LH u;replace t:=LH t;go_wp2;refine aI (bd results133 _ _ n 223 _ (0,0) _ rfl u.o underlying223 rfl (by rw[aT,uh s];kernel_rfl)) rfl ⟨rfl,t.o⟩
end Go.Proofs.YthmcbgidehjlbaaGreat.Fd
namespace Go.Proofs.YthmcbgidehjlbaaGreat.Fd
open Go Go.RowKit K
def mw (w:World) (b g:Nat):Prop:=∃ n c,w.cell? (iu b 0)=some (ir g n c)
def kn (w:World) (b:Nat):Nat->Prop:=λg=>g=b\/(b<=g/\mw w b g)
theorem kn.ge {w:World}{b g:Nat}(h:kn w b g):b<=g:=h.elim (λe=>by omega) (λe=>e.1)
structure kf (C:Nat->Prop) (b:Nat) (w w':World):Prop extends aA (λg=>C g\/kn w b g) w w' where
 row:∀ g,g<w.heap.size->b<=g->mw w' b g->mw w b g
def Bk (w:World) (b n:Nat):Prop:=∃ lv,nO w b lv n
def lH (w:World) (b:Nat):Nat->Prop:=λg=>g=b\/(b<=g/\∃ cs m,w.heap[g]?=some (.cells cs 223 m))
theorem lH.ge {w:World}{b g:Nat}(h:lH w b g):b<=g:=h.elim (λe=>by omega) (λe=>e.1)
def mT (C:Nat->Prop) (b:Nat) (w w':World):Prop:=aA (λg=>C g\/lH w b g) w w'
section
variable {C:Nat->Prop}{b n:Nat}{w w' w2:World}
theorem Bk.box (h:Bk w b n):∃ lv,w.heap[b]?=some (.cells #[lv] 145 (0,0)):=by obtain⟨lv,h⟩:=h;exact⟨lv,h.box⟩
theorem Bk.after (h:Bk w b n) (hb:Below w.heap.size w w'):Bk w' b n:=by obtain⟨lv,h⟩:=h;exact⟨lv,h.after hb⟩
theorem yG {lv:Value}(h:nO w b lv n){g:Nat}(hg:lv.ownBlock=some g):mw w b g:=by
 obtain⟨xs,c⟩:=h.row;rcases c.2 with ⟨a,d⟩|⟨e,cap,cur,a,_⟩
 ·rw[a] at hg;simp[Value.ownBlock] at hg
 ·rw[a] at hg;simp[Value.ownBlock] at hg;subst hg;exact⟨_,_,by rw[cell_of h.box,a];rfl⟩
theorem wZ {lv:Value}(h:nO w b lv n){g:Nat}(hg:mw w b g):lv.ownBlock=some g:=by obtain⟨k,c,e⟩:=hg;rw[cell_of h.box] at e;simp at e;subst e;rfl
theorem nU.yH {lv:Value}(h:nO w b lv n){g:Nat}(hg:nU b lv g):kn w b g:=by
 rcases hg with rfl|hg
 ·exact .inl rfl
 ·obtain⟨xs,a⟩:=h.row;exact .inr ⟨kJ a g hg,yG h hg⟩
theorem kn.Bw {lv:Value}(h:nO w b lv n){g:Nat}(hg:kn w b g):nU b lv g:=hg.imp id (λe=>wZ h e.2)
theorem kn.lt (h:Bk w b n){g:Nat}(hg:kn w b g):g<w.heap.size:=by obtain⟨lv,h⟩:=h;exact h.lt (kn.Bw h hg)
theorem kn.lU (h:Bk w b n){g:Nat}(hg:kn w b g):lH w b g:=by
 obtain⟨lv,h⟩:=h;rcases kn.Bw h hg with rfl|e
 ·exact .inl rfl
 ·obtain⟨xs,a⟩:=h.row;obtain⟨cur,hc⟩:=kA a e;exact .inr ⟨kJ a g e,cur,_,hc⟩
theorem Bk.dB (h:Bk w b n) (hk:∀ g,kn w b g->g<w.heap.size->w'.heap[g]?=w.heap[g]?):Bk w' b n:=by obtain⟨lv,h⟩:=h;exact⟨lv,h.dB (λg hg=>hk g (nU.yH h hg) (h.lt hg))⟩
theorem mw.below (hb:Below w.heap.size w w'){g:Nat}(hg:g<w.heap.size) (hbg:b<=g) (h:mw w' b g):mw w b g:=by obtain⟨k,c,e⟩:=h;exact⟨k,c,by rw[hb.cell (p:=iu b 0) (by show b<_;omega)] at e;exact e⟩
theorem mw.block (hk:w'.heap[b]?=w.heap[b]?){g:Nat}(h:mw w' b g):mw w b g:=by obtain⟨k,c,e⟩:=h;exact⟨k,c,by rw[az (w:=w) (a:=iu b 0) hk] at e;exact e⟩
theorem kf.ki (h:kf C b w w'):aA (λg=>C g\/kn w b g) w w':=h.toaA
theorem kf.refl:kf C b w w:=⟨aA.refl _ _,λ_ _ _ h=>h⟩
theorem kf.back (h:kf C b w w'){g:Nat}(hg:g<w.heap.size) (h2:kn w' b g):kn w b g:=h2.imp id (λe=>⟨e.1,h.row g hg e.1 e.2⟩)
theorem kf.trans (h:kf C b w w') (k:kf C b w' w2):kf C b w w2:=⟨aA.then h.toaA k.toaA (λ_ hg a=>a.imp id (λe=>h.back hg e)),λg hg hb e=>h.row g hg hb (k.row g (aH hg h.size) hb e)⟩
theorem kf.mono {C':Nat->Prop}(h:kf C b w w') (hc:∀ g,g<w.heap.size->C g->C' g):kf C' b w w':=⟨aA.mono h.toaA (λg hg a=>a.imp (hc g hg) id),h.row⟩
theorem kf.dD (h:Below w.heap.size w w'):kf C b w w':=⟨aA.dD h _,λ_ hg hb e=>mw.below h hg hb e⟩
theorem kf.mh (h:aA C w w') (hb:b<w.heap.size->¬ C b):kf C b w w':=⟨aA.mono h (λ_ _ a=>.inl a),λg hg c e=>mw.block (h.block b om (hb om)) e⟩
theorem kf.ti {D:Nat->Prop}(h:aA No w w'):kf D b w w':=kf.dD h.no
theorem kf.xb (h:kf C b w w'):kf C b w w'.drew:=⟨h.toaA.drew,h.row⟩
theorem kf.drew (h:kf C b w.drew w'):kf C b w w':=⟨⟨h.os,h.tape,h.output,h.size,h.block⟩,h.row⟩
theorem kf.then {C D:Nat->Prop}(h:kf C b w w') (k:aA D w' w2) (hd:∀ g,g<w.heap.size->D g->C g) (hb:b<w'.heap.size->¬ D b):kf C b w w2:=⟨aA.then h.toaA k (λg hg e=>.inl (hd g hg e)),λg hg a e=>h.row g hg a (mw.block (k.block b (by have:=h.size;omega) (hb (by have:=h.size;omega))) e)⟩
theorem kf.at (h:kf C b w w') (hb:Bk w b n){g:Nat}{cs:Array Value}{t:TypeId}{m:Nat×Nat}(hg:w.heap[g]?=some (.cells cs t m)) (hC:¬ C g) (h1:t≠223) (h2:t≠145):w'.heap[g]?=some (.cells cs t m):=by
 rw[h.block g (dC hg) ?_]
 ·exact hg
 ·rintro (h3|h3)
  ·exact hC h3
  ·rcases kn.lU hb h3 with rfl|⟨_,cs',m',h3⟩
   ·obtain⟨lv,a⟩:=hb.box;rw[hg] at a;simp only[IJ] at a;exact h2 a.2.1
   ·rw[hg] at h3;simp only[IJ] at h3;exact h1 h3.2.1
theorem lH.type (hb:Bk w b n){g:Nat}{cs:Array Value}{t:TypeId}{m:Nat×Nat}(hg:w.heap[g]?=some (.cells cs t m)) (h1:t≠223) (h2:t≠145):¬ lH w b g:=by
 rintro (rfl|⟨_,cs',m',h3⟩)
 ·obtain⟨lv,a⟩:=hb.box;rw[hg] at a;simp only[IJ] at a;exact h2 a.2.1
 ·rw[hg] at h3;simp only[IJ] at h3;exact h1 h3.2.1
theorem kn.type (hb:Bk w b n){g:Nat}{cs:Array Value}{t:TypeId}{m:Nat×Nat}(hg:w.heap[g]?=some (.cells cs t m)) (h1:t≠223) (h2:t≠145):¬ kn w b g:=λh=>lH.type hb hg h1 h2 (kn.lU hb h)
theorem kn.obj (hb:Bk w b n){g:Nat}(h:kn w b g):∃ cs t m,w.heap[g]?=some (.cells cs t m)/\(t=223\/t=145):=by
 rcases kn.lU hb h with rfl|⟨_,cs',m',h3⟩
 ·obtain⟨lv,a⟩:=hb.box;exact⟨_,_,_,a,.inr rfl⟩
 ·exact⟨_,_,_,h3,.inl rfl⟩
theorem kf.own (h:kf C b w w') (hb:Bk w b n){base:Nat}{e:TypeId}{sz:Nat}{v:Value}{k:Nat}{xs:List Value}(ho:w.ownsRow base e sz v k xs) (hC:∀ g,v.ownBlock=some g->¬ C g) (h1:e≠223) (h2:e≠145):w'.ownsRow base e sz v k xs:=by refine dE ho (λg hg=>?_);obtain⟨cur,hc⟩:=kA ho hg;rw[hc];exact h.at hb hc (hC g hg) h1 h2
theorem kf.cells (h:kf C b w w'){S:Nat->Prop}{v:Value}{k sz:Nat}{xs:List Value}(hc:Cells w S v k sz xs) (hS:∀ g,g<w.heap.size->S g->¬ C g/\¬ kn w b g):Cells w' S v k sz xs:=Cells.ki hc h.toaA (λg hg a e=>e.elim (hS g hg a).1 (hS g hg a).2)
theorem kf.lU (h:kf C b w w') (hb:Bk w b n):mT C b w w':=aA.mono h.toaA (λ_ _ e=>e.imp id (λe=>kn.lU hb e))
theorem lH.back (h:mT C b w w'){g:Nat}(hg:g<w.heap.size) (hC:¬ C g) (h2:lH w' b g):lH w b g:=by
 refine gZ λa=>?_
 rcases h2 with rfl|⟨hle,cs,m,h2⟩
 ·exact a (.inl rfl)
 ·rw[h.block g hg (λe=>e.elim hC a)] at h2;exact a (.inr ⟨hle,cs,m,h2⟩)
theorem mT.trans (h:mT C b w w') (k:mT C b w' w2):mT C b w w2:=aA.then h k (λg hg a=>by
 by_cases hC:C g
 ·exact .inl hC
 ·exact a.elim .inl (λc=>.inr (lH.back h hg hC c)))
theorem mT.mono {C':Nat->Prop}(h:mT C b w w') (hc:∀ g,g<w.heap.size->C g->C' g):mT C' b w w':=aA.mono h (λg hg a=>a.imp (hc g hg) id)
theorem mT.dD (h:Below w.heap.size w w'):mT C b w w':=aA.dD h _
theorem mT.at (h:mT C b w w') (hb:Bk w b n){g:Nat}{cs:Array Value}{t:TypeId}{m:Nat×Nat}(hg:w.heap[g]?=some (.cells cs t m)) (hC:¬ C g) (h1:t≠223) (h2:t≠145):w'.heap[g]?=some (.cells cs t m):=by rw[h.block g (dC hg) (λe=>e.elim hC (lH.type hb hg h1 h2))];exact hg
end
end Go.Proofs.YthmcbgidehjlbaaGreat.Fd
namespace Go.Proofs.YthmcbgidehjlbaaGreat.Fd
open _root_.Go.Proofs.Tryz
open Go Go.RowKit K
theorem GS (a b:ByteArray){g:iz}(hg:g.length=32):(oq a b g false).toArray.setIfInBounds 34 (.bool true)=(oq a b g true).toArray:=by
 apply fC;have e:([Value.string a,.string b]++aQ g).length=34:=by simp[km,hg]
 simp only[oq,ar,gr];rw[fv _ _ om,e];rfl
theorem Bx {a b:ByteArray}{g:iz}{m:Bool}{j:Nat}{v:Value}(h:(aQ g)[j]?=some v):(oq a b g m).toArray[2+j]?=some v:=by
 have c:j<(aQ g).length:=(aD.1 h).1;rw[aV,oq,cC,aL sm,aX (by simp;omega)]
 simpa using h
theorem vr {w:World}{b n:Nat}{S S':Nat->Prop}{kv pv:Value}{key:iz}{parts:List iz}(hb:Bk w b n) (hn:n<1000000) (hk:Bytes w S kv key) (hl:key.length<=64) (hp:kP w S' pv parts) (hfew:parts.length<=10) (hlen:∀ x ∈ parts,x.length<=100000) (hfl:(mu parts).length<=100000):
  Calls prog 121 #[iq b,kv,pv] w λe w'=>e=.returned (.agg (aQ (oM key [mu parts])).toArray)/\Bk w' b (n+1)/\kf No b w w':=by
 obtain⟨lv,s⟩:=hb;obtain⟨n0,I⟩:=Ex w.heap.size;have HN:=LH I;obtain⟨T,hT⟩:=Ex (mu parts);obtain⟨G,hG⟩:=Ex (oM key [T]);have a:G.length=32:=hG ▸ rk;obtain⟨wA,W⟩:=Ex (w.alloc (.cells (aQ (List.replicate 32 0)).toArray 209));have z:Below w.heap.size w wA:=by rw[W];exact (ag _ _).alloc (ae _) _
 have xA:ke wA n0 209 (List.replicate 32 0):=by rw[W,I];exact aj w _
 have c:=Bv (Cells.dB hk z.size (λg _ hg=>z.block g hg):Bytes wA S kv key) hl (hp.dB z.size (λg _ hg=>z.block g hg)) hfew hlen hfl;rw[<-hT] at c hfl ⊢;rw[<-hG] at c ⊢;obtain⟨C,hC⟩:=Ex (oq ⟨key.toArray⟩ ⟨T.toArray⟩ G false);obtain⟨C',k⟩:=Ex (oq ⟨key.toArray⟩ ⟨T.toArray⟩ G true);have B:C.length=35:=hC ▸ uh a;have d:C'.length=35:=k ▸ uh a;have O:∀ v ∈ C,v.oneCell'=true:=hC ▸ wY;have p:∀ v ∈ C',v.oneCell'=true:=k ▸ wY;have Q:C.toArray.setIfInBounds 34 (.bool true)=C'.toArray:=by rw[hC,k];exact GS _ _ a
 have R:∀ j v,(aQ G)[j]?=some v->C'.toArray[2+j]?=some v:=λj v h=>by rw[k];exact Bx h
 have M:C.toArray[34]?=some (.bool false):=by rw[hC,aV,oq,aL (by simp[km,a])];simp[km,a]
 rw[<-hC] at c;have hA:=s.after z;have u:∀ g,nU b lv g->g<n0:=λg hg=>by rw[I];exact s.lt hg
 have D:∀ g,nU b lv g->kn w b g:=λg hg=>nU.yH s hg
 have r:∀ g,lv.ownBlock=some g->mw w b g:=λg hg=>yG s hg
 revert hT hG z xA c hC k B d;refine H9 ?_;intro hT hG z xA c hC k B d;revert O p Q R M hA u D r;refine H9 ?_;intro O p Q R M hA u D r;subst W;clear I hk hp hlen s;go_enter func121,ntmps121
 go_wp2_with fail
 rw[<-HN.o];refine c.o.mono ?_;rintro e i ⟨rfl,E⟩;have h1:=hA.o.after E;have x1:ke i n0 209 (List.replicate 32 0):=xA.o.dB (E.block n0 (dC xA.o));have b1:Below w.heap.size w i:=z.o.trans (E.mono z.o.size);obtain⟨q,hq⟩:=Ex i.heap.size;have V:n0<q:=hq ▸ dC x1;have xq:(i.alloc (.cells pR 223)).heap[q]?=some (.cells pR 223 (0,0)):=by rw[hq];exact aj i _
 obtain⟨m,l⟩:=Ex ((i.alloc (.cells pR 223)).setRow q C.toArray)
 have J:(Instr.storeAt 223 (iq q) (.agg C.toArray)).run prog (i.alloc (.cells pR 223))=.ok () m:=by rw[l];exact mf xq (by rw[B.o];kernel_rfl) (by rw[B.o];rfl) O.o
 have x2:m.heap[q]?=some (.cells C.toArray 223 (0,0)):=by rw[l];exact aJ _ q _ _ _ _ xq
 have b2:Below w.heap.size w m:=by rw[l];exact below_setRow (b1.alloc b1.size _) (by rw[<-HN.o];omega) _
 have Y:Below i.heap.size i m:=by rw[l];exact below_setRow ((ag _ _).alloc (ae _) _) om _
 have ad:m.cell? (iu q 34)=some (.bool false):=by rw[cell_of x2];exact M.o
 have f34:m.frozen? (iu q 34)=false:=kY x2 34;have X:=lz x2 34 (.bool true);rw[Q.o] at X;have L:Below i.heap.size i (m.setCell (iu q 34) (.bool true)):=Y.setCell (by simp[hq]) _;have Z:Below w.heap.size w (m.setCell (iu q 34) (.bool true)):=b2.setCell (by simp;rw[<-HN.o];omega) _;have h3:=h1.after L;have y3:ke (m.setCell (iu q 34) (.bool true)) n0 209 (List.replicate 32 0):=x1.dB (L.block n0 (dC x1))
 have H:(Instr.loadAt 223 (iq q)).run prog (m.setCell (iu q 34) (.bool true))=.ok (.agg C'.toArray) (m.setCell (iu q 34) (.bool true)):=mE (x:=C') underlying223 (by rw[d.o];kernel_rfl) (λj v hv=>by rw[aw,cell_of X];simpa using hv)
 have f:=Bq h3 hn C'.toArray (by simp[d.o]) (by simpa using p.o);revert V l J X Z y3 H f;refine H8 ?_;intro V l J X Z y3 H f;clear E h1 x1 b1 xq x2 b2 Y L h3 c z xA hA;subst hq
 go_wp2_with (first|(refine kI rfl 223 _ _ rfl _ _ rfl rfl J.o ?_)|(refine kQ rfl 223 _ rfl _ _ rfl H.o ?_)|fail)
 refine f.o.mono ?_;rintro e K ⟨rfl,aa,U,F,a7⟩;have a6:∀ g,nU b lv g->g<i.heap.size:=λg hg=>Nat.lt_trans (u.o g hg) V.o
 have x4:=(F.block i.heap.size (dC X.o) (λh=>absurd (a6 _ h) (Nat.lt_irrefl _))).trans X.o;have y4:ke K n0 209 (List.replicate 32 0):=y3.o.dB (F.block n0 (dC y3.o) (λh=>absurd (u.o _ h) (Nat.lt_irrefl _)))
 have t:(Instr.loadAt 209 (.pointer (some (iu i.heap.size 2)))).run prog K=.ok (.agg (aQ G).toArray) K:=tW (x:=aQ G) underlying209 (by rw[km,a];kernel_rfl) (λj v hv=>by rw[cell_of x4];exact R.o j v hv)
 have y:=th y4 a;have y5:ke (K.setRow n0 (aQ G).toArray) n0 209 G:=y4.setRow G;have A:Bk K b (n+1):=⟨aa,U⟩;have N:Bk (K.setRow n0 (aQ G).toArray) b (n+1):=A.dB (λg hg hl=>aG _ _ _ _ (λe=>kn.type A y4 de de (e ▸ hg)));have a1:aA (nU b lv) w K:=(aA.dD Z.o _).trans F;have a8:b≠n0:=λe=>kn.type A y4 de de (.inl e.symm)
 have P:kf No b w (K.setRow n0 (aQ G).toArray):=⟨(a1.setRow (λh=>absurd h (by rw[<-HN.o];omega)) _).mono (λg _ h=>.inr (D.o g h)),λg hg af e=>by
  have e4:=wZ U (mw.block (aG _ _ _ _ a8) e);rcases a7 with e5|⟨g',e5,hl⟩
  ·exact r.o g (by rw[<-e5];exact e4)
  ·rw[e4] at e5;obtain rfl:=aF e5;have:=Z.o.size;omega⟩
 revert t y y5 N P;refine H5 ?_;intro t y y5 N P;clear U F a7 a6 x4 y4 A a1 f J H X y3 Z u D
 go_wp2_with (first|(refine kQ rfl 209 _ rfl _ _ rfl t.o ?_)|(refine kI rfl 209 _ _ rfl _ _ rfl rfl y.o ?_)|fail)
 refine aI (bd results121 _ _ n0 209 _ (0,0) _ rfl y5.o underlying209 rfl (by rw[Bu a];simp[km])) rfl ⟨rfl,N.o,P.o⟩
variable {w:World}{m:Nat}{L:iz}
theorem ui (w:World) (n:Nat) (m:Int) (hm:m=n) (hn:n<=1000000):(Instr.makeSlice 42 (iw m) (iw m)).run prog w=.ok (ir w.heap.size n n) (w.alloc (.cells (aQ (List.replicate n 0)).toArray 5)):=by
 have h:=xS (P:=prog) w underlying42 nu rfl n m hm om om;have e:madeCells #[iy 0] n=(aQ (List.replicate n 0)).toArray:=by rw[<-wI]
 rw[e] at h;exact h
theorem GU (w:World) (c:Array Value) (e:TypeId) (n sz:Nat) (hc:c.size=n*sz) (hn:n<=maxLen){B:Nat}(hB:B<=w.heap.size):(w.alloc (.cells c e)).ownsRow B e sz (ir w.heap.size n n) n c.toList:=⟨by rw[dj,hc],.inr ⟨w.heap.size,n,c,rfl,hB,aj w _,ae _,hn,by rw[hc],by rw[<-hc,<-dj,cS]⟩⟩
def mj (w:World) (m:Nat) (L:iz):Prop:=∃ sv,w.heap[m]?=some (.cells #[iw 50,sv] 195 (0,0))/\w.ownsRow 0 5 1 sv 7 (aQ L)
def nf (L:iz) (i:Nat):Bool:=decide ((L.getD (i / 8) 0).toNat / 2 ^ (i % 8) % 2≠0)
theorem mj.len (h:mj w m L):L.length=7:=by obtain⟨sv,_,a⟩:=h;have b:=a.1;rw[km] at b;omega
theorem mj.dB {w':World}(h:mj w m L) (hk:∀ g,g<w.heap.size->(∃ cs t,(t=195\/t=5)/\w.heap[g]?=some (.cells cs t (0,0)))->w'.heap[g]?=w.heap[g]?):mj w' m L:=by obtain⟨sv,h1,a⟩:=h;refine⟨sv,(hk m (dC h1) ⟨_,_,.inl rfl,h1⟩).trans h1,dE a (λg hg=>?_)⟩;obtain⟨cur,hc⟩:=kA a hg;exact hk g (dC hc) ⟨_,_,.inr rfl,hc⟩
theorem mj.after {w':World}(h:mj w m L) (hb:Below w.heap.size w w'):mj w' m L:=h.dB (λg hg _=>hb.block g hg)
theorem mj.cells (h:mj w m L):∃ g cap,w.cell? (iu m 0)=some (iw 50)/\w.cell? (iu m 1)=some (ir g 7 cap)/\(∀ j,j<7->w.cell? (iu g j)=some (iy (L.getD j 0).toNat))/\7<=cap/\cap<=maxLen:=by have l:=h.len;obtain⟨sv,h1,b⟩:=h;obtain⟨g,cap,rfl,d,e⟩:=kz b om;refine⟨g,cap,cell_of h1 0,cell_of h1 1,λj k=>?_,d,e⟩;obtain⟨i,off,f,hv,_,_,_,_,a⟩:=Cells.at (Cells.own b) om;simp only[IJ] at hv;obtain⟨⟨rfl,rfl,_⟩,_,_⟩:=hv;have c:=a j _ (pI L j om);rw[aw] at c;rw[c];simp[List.getD,show j<L.length by omega]
theorem yI (h:mj w m L):Calls prog 95 #[iq m] w λe w'=>e=.returned (iw 50)/\w=w':=by obtain⟨g,cap,a,h1,b,_⟩:=h.cells;clear h;go_enter func95,ntmps95;go_wp2;go_ret;exact⟨rfl,rfl⟩
theorem xd (h:mj w m L) (i:Nat) (hi:i<50):Calls prog 71 #[iq m,iw i] w λe w'=>e=.returned (.bool (nf L i))/\w=w':=by
 have hs:=LH (yI h);obtain⟨g,cap,s,h1,k,t,u⟩:=h.cells;clear h;obtain⟨D,c⟩:=Ex (i / 8);obtain⟨R,j⟩:=Ex (i % 8);have d:D<7:=om;have p:R<8:=om;have hd:(i:Int) / 8=(D:Int):=om;have hr:(i:Int) % 8=(R:Int):=om;have hc:=k D d;obtain⟨B,a⟩:=Ex ((L.getD D 0).toNat);have b:B<256:=a ▸ (L.getD D 0).toNat_lt;rw[<-a] at hc;have q:(0:Int)<=i:=om;have r:(i:Int)<50:=om;unfold nf;rw[<-c,<-j,<-a];revert c j a;refine H3 ?_;intro c j a;clear k;go_enter func71,ntmps71
 go_wp2_with (go_at_call 95;refine hs.o.mono ?_;rintro e w' ⟨rfl,rfl⟩)
 have n:((B:Int) / 2 ^ R)=((B / 2 ^ R:Nat):Int):=by norm_cast
 obtain⟨Q,l⟩:=Ex (B / 2 ^ R);have f:Q<256:=by rw[l];exact cQ (ey _ _) b
 have hb:bits .and .u8 (Q:Int) 1=((Q % 2:Nat):Int):=by have h:=fV Q 1 f om;rw[nat_mask1] at h;exact h
 rw[<-l] at n ⊢;rw[n,hb];go_ret;refine⟨bV Ending.returned (show Value.bool _=_ from bV Value.bool ?_),rfl⟩;rw[eI];simp;omega
def uj (L:iz) (f c i:Nat):Bool:=nf L i && decide (f<=i) && decide (i - f<c)
def tj (L:iz) (f c:Nat):Bool:=(List.range 50).any (uj L f c)
theorem GV (h:mj w m L) (f c:Nat) (hf:f<=50) (hc:c<=50):Calls prog 59 #[iq m,iw f,iw c] w λe w'=>e=.returned (.bool (tj L f c))/\w=w':=by
 have hs:=LH (yI h);have s:=LH (λi hi=>xd h i hi);clear h;go_enter func59,ntmps59
 go_wp2_with (go_at_call 95;refine hs.o.mono ?_;rintro e w' ⟨rfl,rfl⟩)
 go_loopg [10] 50 (λg i wr=>∃ k:Nat,k+g=50/\i=iw k/\Hd (∀ j,j<k->uj L f c j=false)/\wr=w)
 case atStart=>exact⟨0,by omega,rfl,λ_ h=>absurd h (dH _),rfl⟩
 case round=>
  obtain⟨k,p,rfl,d,rfl⟩:=hrel;by_cases a:k<50
  ·obtain⟨g1,rfl⟩:∃ i,gk=i+1:=⟨gk - 1,by omega⟩;have t:(k:Int)<50:=om;have hk:=LH (s.o k a);cases hb:nf L k with
   | false=>
    rw[hb] at hk
    go_wp2_with (go_at_call 71;refine hk.o.mono ?_;rintro e w' ⟨rfl,rfl⟩)
    go_roundg g1
    case measure=>omega
    case rel=>exact⟨k+1,by omega,by go_num,λj b=>(dO.1 b).elim (d.o j) (λe=>by subst e;simp[uj,hb]),rfl⟩
   | true=>
    rw[hb] at hk;by_cases h1:f<=k
    ·have l:(f:Int)<=k:=om;have v:IntKind.u64.wrap (k:Int)=k:=by simp[IntKind.wrap,IntKind.bits,IntKind.signed];omega
     have w2:IntKind.u64.wrap (f:Int)=f:=by simp[IntKind.wrap,IntKind.bits,IntKind.signed];omega
     have y:IntKind.u64.wrap (c:Int)=c:=by simp[IntKind.wrap,IntKind.bits,IntKind.signed];omega
     have z:IntKind.u64.wrap ((k:Int) - f)=(k:Int) - f:=by simp[IntKind.wrap,IntKind.bits,IntKind.signed];omega
     by_cases r:k - f<c
     ·have n:(k:Int) - f<c:=om
      go_wp2_with (go_at_call 71;refine hk.o.mono ?_;rintro e w' ⟨rfl,rfl⟩)
      go_ret;refine⟨?_,rfl⟩;rw[show tj L f c=true from bQ.2 ⟨k,by simpa using a,by simp[uj,hb,h1,r]⟩];rfl
     ·have n:¬ (k:Int) - f<c:=om
      go_wp2_with (go_at_call 71;refine hk.o.mono ?_;rintro e w' ⟨rfl,rfl⟩)
      go_roundg g1
      case measure=>omega
      case rel=>exact⟨k+1,by omega,by go_num,λj b=>(dO.1 b).elim (d.o j) (λe=>by subst e;simp[uj,r]),rfl⟩
    ·have l:¬ (f:Int)<=k:=om
     go_wp2_with (go_at_call 71;refine hk.o.mono ?_;rintro e w' ⟨rfl,rfl⟩)
     go_roundg g1
     case measure=>omega
     case rel=>exact⟨k+1,by omega,by go_num,λj b=>(dO.1 b).elim (d.o j) (λe=>by subst e;simp[uj,h1]),rfl⟩
  ·obtain rfl:gk=0:=om;obtain rfl:k=50:=om
   have q:tj L f c=false:=by unfold tj;rw[eo];intro x u;rw[d.o x (by simpa using u)];simp
   clear p a;go_wp2;go_ret;exact⟨by rw[q];rfl,rfl⟩
theorem mj.bytes (h:mj w m L):∃ S sv,w.cell? (iu m 1)=some sv/\Bytes w S sv L:=by have c:=h.len;obtain⟨sv,h1,b⟩:=h;have a:=Cells.own b;rw[<-c] at a;exact⟨_,sv,cell_of h1 1,a⟩
theorem yJ (h:mj w m L):Calls prog 116 #[iq m] w λe w'=>∃ v,e=.returned v/\w'.ownsRow w.heap.size 5 1 v 7 (aQ L)/\Below w.heap.size w w':=by
 have a:=h.len;obtain⟨S,sv,h1,d⟩:=h.bytes;have hc:=LH (q0 d om);rw[a] at hc;replace a:=LH a;clear h d;go_enter func116,ntmps116
 go_wp2_with fail
 refine hc.o.mono ?_;rintro e f ⟨v,rfl,b,c,-⟩;replace b:=LH b;replace c:=LH c;go_wp2;go_ret;exact⟨_,rfl,b.o,c.o⟩
def qj (L:iz) (k:Nat):iz:=L.set (k / 8) (byte ((L.getD (k / 8) 0).toNat ||| 2 ^ (k % 8)))
theorem By {a r:Nat}(ha:a<256) (hr:r<8):a ||| 2 ^ r<256:=fp (n:=8) ha (by have:2 ^ r<=2 ^ 7:=gl om om;omega)
theorem Bz {k:Nat}:(qj L k).length=L.length:=by simp[qj]
theorem GW {k i:Nat}(hk:k / 8<L.length):nf (qj L k) i=(nf L i || decide (i=k)):=by
 have ht:∀ x r:Nat,decide (x / 2 ^ r % 2≠0)=x.testBit r:=λx r=>by rw[Nat.testBit_eq_decide_div_mod_eq,eI];simp
 unfold nf qj;rw[ht,ht];by_cases h:i / 8=k / 8
 ·have e:(L.set (k / 8) (byte ((L.getD (k / 8) 0).toNat ||| 2 ^ (k % 8)))).getD (i / 8) 0=byte ((L.getD (k / 8) 0).toNat ||| 2 ^ (k % 8)):=by rw[h];simp[List.getD,hk]
  rw[e,lM (By (L.getD (k / 8) 0).toNat_lt om),Nat.testBit_or,h,gP];congr 1;rw[eI];simp;omega
 ·have e:(L.set (k / 8) (byte ((L.getD (k / 8) 0).toNat ||| 2 ^ (k % 8)))).getD (i / 8) 0=L.getD (i / 8) 0:=by simp[List.getD,eT (bY h)]
  have a:i≠k:=λe=>h (by rw[e])
  rw[e];simp[a]
def rR (l i c:Nat):List Value:=(List.range c).flatMap λj=>[iw l,iw (i+j:Nat)]
theorem yK (l i c:Nat):rR l i (c+1)=rR l i c++[iw l,iw (i+c:Nat)]:=by simp[rR,dF]
theorem GX (l i c:Nat):(rR l i c).length=c*2:=by
 induction c with
 | zero=>rfl
 | succ c ih=>rw[yK,aE,ih];simp;omega
theorem BA:(prog.info? 193).map (λi=>(i.zero,i.size,i.bytes))=some (some (.agg #[iw 0,iw 0]),2,16):=kr
theorem vt (k:Int):kp k<=50:=by
 unfold kp
 repeat' split
 all_goals omega
theorem GY (k:Int) (h:0<k):kp k<=13:=by
 unfold kp;rw[ah om]
 repeat' split
 all_goals omega
theorem GZ (l i:Nat) (hl:l<3) (hi:i<kp (l+1:Nat)):4*i<kp l:=by
 obtain rfl|rfl|rfl:l=0\/l=1\/l=2:=om
 ·have e:kp ((0+1:Nat):Int)=13:=by unfold kp;rfl
  have a:kp ((0:Nat):Int)=50:=by unfold kp;rfl
  omega
 ·have e:kp ((1+1:Nat):Int)=4:=by unfold kp;rfl
  have a:kp ((1:Nat):Int)=13:=by unfold kp;rfl
  omega
 ·have e:kp ((2+1:Nat):Int)=1:=by unfold kp;rfl
  have a:kp ((2:Nat):Int)=4:=by unfold kp;rfl
  omega
theorem G0 (l i:Nat) (hl:l<3) (hi:i<kp (l+1:Nat)) (w:World):Calls prog 157 #[iw 50,.agg #[iw (l+1:Nat),iw i]] w λe w'=>∃ v,e=.returned v/\∃ c:Nat,c<=4/\4*i+c<=kp l/\w'.ownsRow w.heap.size 193 2 v c (rR l (4*i) c)/\Below w.heap.size w w':=by
 have a6:i<13:=aH hi (GY _ om);have I:=GZ l i hl hi;obtain⟨Z,A⟩:=Ex (kp (l+1:Nat));obtain⟨F,r⟩:=Ex (kp l);have n:=λt=>vh (l+1:Nat) t
 have u:=λt=>vh l t
 rw[<-A] at n;rw[<-r] at u;have aa:F<=50:=r ▸ vt _;rw[<-A] at hi;rw[<-r] at I;obtain⟨X,J⟩:=Ex (4*i);rw[<-J] at I;have ad:(4:Int)*i=X:=om;rw[<-r,<-J];replace J:=LH J;obtain⟨m,hm⟩:=Ex (l+1);rw[<-hm] at n ⊢;replace n:=LH n;replace u:=LH u;have b4:((m:Int) - 1)=(l:Int):=om;have T:decide ((i:Int)<0)=false:=by simp
 have U:decide ((Z:Int)<=(i:Int))=false:=by simpa using hi
 have W:((m:Int) == 0)=false:=by simp;omega
 obtain⟨q,L⟩:=Ex w.heap.size;have b1:Below w.heap.size w (w.alloc (.cells #[iw m,iw i] 193)):=(ag _ _).alloc (ae _) _;obtain⟨y,x⟩:=Ex (w.alloc (.cells #[iw m,iw i] 193));have C:y.heap[q]?=some (.cells #[iw m,iw i] 193 (0,0)):=by rw[x,L];exact aj w _
 rw[<-x] at b1;have b:=Dr y
 replace b:=LH b;have c0:=LH (cell_of C 0);have c1:=LH (cell_of C 1);have s:=LH (dC C);revert A r hm b1 C;refine H5 ?_;intro A r hm b1 C;go_enter func157,ntmps157;go_wp2;rw[<-x,<-L];replace L:=LH L;replace x:=LH x;refine RA.rt (aA No) [1,1,1,1,1,1,1,1,1,4,1,1,1,1,1,1,1] [] (λ_=>True) trivial (λ_=>aA.refl _ _) (λ_ _ _ h k=>h.trans k) (h:=?_);intro cx;refine RA.fk prog q 1 (h:=?_);refine RA.lk prog (iw i) (hc:=λt hp=>by exact ((b.o _ hp.1).cell (p:=iu q 1) s.o id).trans c1.o) (h:=?_);refine RA.vk prog (.bool false) (h:=?_)
 repeat (first|refine RA.mv (h:=?_)|refine RA.as rf rf rf ?_|refine RA.pt rf rf rf rf ?_|refine RA.pf rf rf rf rf ?_)
 refine RA.fk prog q 1 (h:=?_);refine RA.lk prog (iw i) (hc:=λt hp=>by exact ((b.o _ hp.1).cell (p:=iu q 1) s.o id).trans c1.o) (h:=?_)
 repeat (first|refine RA.mv (h:=?_)|refine RA.as rf rf rf ?_|refine RA.pt rf rf rf rf ?_|refine RA.pf rf rf rf rf ?_)
 refine RA.fk prog q 0 (h:=?_);refine RA.lk prog (iw m) (hc:=λt hp=>by exact ((b.o _ hp.1).cell (p:=iu q 0) s.o id).trans c0.o) (h:=?_);refine RA.kc (P:=prog) [iw 50,iw m] (iw Z) (hr:=λt hp hH=>(n.o t).mono (by rintro e G ⟨rfl,h2⟩;exact⟨rfl,aA.dD h2 _,trivial⟩)) (hn:=?_);refine RA.vk prog (.bool false) (h:=?_)
 repeat (first|refine RA.mv (h:=?_)|refine RA.as rf rf rf ?_|refine RA.pt rf rf rf rf ?_|refine RA.pf rf rf rf rf ?_)
 refine RA.fk prog q 0 (h:=?_);refine RA.lk prog (iw m) (hc:=λt hp=>by exact ((b.o _ hp.1).cell (p:=iu q 0) s.o id).trans c0.o) (h:=?_);refine RA.vk prog (.bool false) (h:=?_)
 repeat (first|refine RA.mv (h:=?_)|refine RA.as rf rf rf ?_|refine RA.pt rf rf rf rf ?_|refine RA.pf rf rf rf rf ?_)
 refine RA.RA.done rfl (λw2 hR hF hH=>?_);clear hF hH;simp only[RA.RP,cx]
 try simp only[cn]
 try simp only[cG]
 have b2:=LH (b.o _ hR).no;clear hR T U W b n;replace c0:=LH (λt (hb:Below y.heap.size y t)=>((aA.dD hb No).cell (p:=iu q 0) s.o id).trans c0.o);replace c1:=LH (λt (hb:Below y.heap.size y t)=>((aA.dD hb No).cell (p:=iu q 1) s.o id).trans c1.o);go_wp2
 go_loopg [4,24] 4 (λg o ix wr=>∃ j c:Nat,j+g=4/\ix=iw j/\c<=j/\(c=j\/F<=X+c)/\X+c<=F/\Hd (wr.ownsRow y.heap.size 193 2 o c (rR l X c))/\Hd (Below y.heap.size y wr))
 case atStart=>exact⟨0,0,by omega,rfl,by omega,by omega,by omega,aS _ _ _ _,b2.o⟩
 case round=>
  obtain⟨j,c,ay,rfl,ax,an,R,E,f⟩:=hrel;by_cases b3:j<4
  ·obtain⟨g1,rfl⟩:∃ i,gk=i+1:=⟨gk - 1,by omega⟩;have V:(j:Int)<4:=om;have d0:=c0.o wr f.o;have d1:=c1.o wr f.o;obtain⟨Y,D⟩:=Ex (X+j);have af:(X:Int)+j=Y:=om;by_cases a1:Y<F
   ·have S:(Y:Int)<F:=om;obtain rfl:c=j:=om;have H:=LH (u.o wr);replace D:=LH D
    go_wp2_with (first|(go_at_call 98;refine H.o.mono ?_)|fail)
    rintro e G rfl d;have a:=f.o.trans (d.mono f.o.size);have a7:=c0.o G a;have a8:=c1.o G a;have z:=LH (dE E.o (λg hg=>d.block g (kt E.o g hg)));have O:=LH (dE z.o (λg hg=>aB G (.cells #[iw l,iw Y] 193) _ (kt z.o g hg)));have N:=LH (mC G #[iw l,iw Y] 193 1 2 rfl mx);have M:=LH (λg=>kJ E.o g);have b5:=a.size;have B:=LH (a.alloc a.size (.cells #[iw l,iw Y] 193));clear d0 d1 d H a
    go_wp2_with (at_builtin;refine K.append ?_ (.tmp 39) (.tmp 45) 233 ?_ y.heap.size 193 (.agg #[iw 0,iw 0]) 2 16 underlying233 BA rfl om _ c _ ?_ O.o (λ_=>True) _ 1 [iw l,iw Y] ?_ N.o (by simp[Value.oneCell']) mx om ?_ ?_)
    any_goals (first|rfl|omega|exact B.o.size)
    intro v' w2 C x2 x3 x4;have X1:=LH C;have Q:=LH ((aA.dD B.o No).grown x2 (λg hg hl=>absurd (M.o g hg) om)).no;clear C x2 x3 x4;go_wp2;go_roundg g1
    case measure=>omega
    case rel=>refine⟨c+1,c+1,by omega,by go_num,by omega,by omega,by have:=D.o;omega,?_,Q.o⟩;show World.ownsRow _ _ _ _ _ _ _;rw[yK,<-D.o];exact X1.o
   ·have S:¬ (Y:Int)<F:=om;have H:=LH (u.o wr);replace D:=LH D
    go_wp2_with (first|(go_at_call 98;refine H.o.mono ?_)|fail)
    rintro e G rfl d;have a:=LH (f.o.trans (d.mono f.o.size));have z:=LH (dE E.o (λg hg=>d.block g (kt E.o g hg)));clear d H d0 d1;go_wp2;go_roundg g1
    case measure=>omega
    case rel=>have:=D.o;exact⟨j+1,c,by omega,by go_num,by omega,by omega,by omega,z.o,a.o⟩
  ·obtain rfl:gk=0:=om;have V:¬ (j:Int)<4:=om;go_wp2;go_ret;exact⟨_,rfl,c,by omega,R,kU E.o b1.o.size,b1.o.trans (f.o.mono b1.o.size)⟩
variable {gs cs:Nat->Nat}
def oN (gs cs:Nat->Nat) (n:Nat):List Value:=(List.range n).map λk=>ir (gs k) (kp k) (cs k)
theorem uk {n k:Nat}(h:k<n):(oN gs cs n)[k]?=some (ir (gs k) (kp k) (cs k)):=by simp[oN,h]
theorem BB {n:Nat}:oN gs cs (n+1)=oN gs cs n++[ir (gs n) (kp n) (cs n)]:=by simp[oN,dF]
theorem BC:(prog.info? 190).map (λi=>(i.zero,i.size,i.bytes))=some (some (.slice none 0 0),1,24):=kr
def ll (w:World) (t b:Nat) (gs:Nat->Nat) (key:iz) (Ls:List iz):Prop:=
 ∃ kv lv mv cs,w.heap[t]?=some (.cells #[iq b,kv,lv,mv] 189 (0,0))/\w.ownsRow b 5 1 kv 32 (aQ key)/\w.ownsRow b 190 1 lv Ls.length (oN gs cs Ls.length)/\
  (∀ k L,Ls[k]?=some L->ke w (gs k) 179 L/\L.length=cs k*16/\kp k<=cs k)/\(∀ j k,j<Ls.length->k<Ls.length->gs j=gs k->j=k)
def tk (t:TypeId):Prop:=t=189\/t=5\/t=190\/t=179
section
variable {w w':World}{t b n:Nat}{gs:Nat->Nat}{key:iz}{Ls:List iz}
theorem ll.dB (h:ll w t b gs key Ls) (hk:∀ (g:Nat) (cs:Array Value) (ty:TypeId),tk ty->w.heap[g]?=some (.cells cs ty (0,0))->w'.heap[g]?=w.heap[g]?):ll w' t b gs key Ls:=by
 obtain⟨kv,lv,mv,cs,h1,d,e,a,f⟩:=h;refine⟨kv,lv,mv,cs,(hk t _ _ (.inl rfl) h1).trans h1,dE d (λg hg=>?_),dE e (λg hg=>?_),λk L c=>⟨(a k L c).1.dB (hk _ _ _ (.inr (.inr (.inr rfl))) (a k L c).1),(a k L c).2⟩,f⟩
 ·obtain⟨cur,hc⟩:=kA d hg;exact hk g _ _ (.inr (.inl rfl)) hc
 ·obtain⟨cur,hc⟩:=kA e hg;exact hk g _ _ (.inr (.inr (.inl rfl))) hc
theorem ll.after (h:ll w t b gs key Ls) (hb:Below w.heap.size w w'):ll w' t b gs key Ls:=h.dB (λg _ _ _ hg=>hb.block g (dC hg))
theorem tk.ne {ty:TypeId}(h:tk ty):ty≠223/\ty≠145:=by rcases h with rfl|rfl|rfl|rfl<;>exact⟨by decide,by decide⟩
theorem ll.bk (h:ll w t b gs key Ls) (hB:Bk w b n) (hb:kf No b w w'):ll w' t b gs key Ls:=h.dB (λg cs ty a hg=>by rw[hg];exact hb.at hB hg id a.ne.1 a.ne.2)
theorem ll.cells (h:ll w t b gs key Ls) (h0:0<Ls.length):∃ (lg cap:Nat) (kv:Value) (cs:Nat->Nat),w.cell? (iu t 0)=some (iq b)/\w.cell? (iu t 1)=some kv/\Bytes w (λ_=>True) kv key/\key.length=32/\w.cell? (iu t 2)=some (ir lg Ls.length cap)/\Ls.length<=cap/\cap<=maxLen/\
  ∀ k,k<Ls.length->w.cell? (iu lg k)=some (ir (gs k) (kp k) (cs k))/\kp k<=cs k:=by
 obtain⟨kv,lv,mv,cs,h1,e,f,g,n⟩:=h;obtain⟨lg,cap,rfl,i,j⟩:=kz f h0;have c:key.length=32:=by have:=e.1;rw[km] at this;omega
 refine⟨lg,cap,kv,cs,cell_of h1 0,cell_of h1 1,?_,c,cell_of h1 2,i,j,λk hk=>?_⟩
 ·have a:=(Cells.own e).mono (S':=λ_=>True) (λ_ _ _=>trivial);rw[<-c] at a;exact a
 ·obtain⟨m,off,l,hv,_,_,_,_,d⟩:=Cells.at (Cells.own f) om;simp only[IJ] at hv;obtain⟨⟨rfl,rfl,_⟩,_,_⟩:=hv;have a:=d k _ (uk hk);rw[aw] at a;exact⟨a,(g k _ (av hk)).2.2⟩
theorem ll.level (h:ll w t b gs key Ls){k:Nat}(hk:k<Ls.length):∃ L,Ls[k]?=some L/\ke w (gs k) 179 L/\kp k*16<=L.length:=by obtain⟨kv,lv,mv,cs,h1,d,g,c,i⟩:=h;obtain⟨a,e,f⟩:=c k _ (av hk);exact⟨Ls[k],av hk,a,by rw[e];exact fR _ f⟩
theorem ll.lt (h:ll w t b gs key Ls):t<w.heap.size:=by obtain⟨kv,lv,mv,cs,h1,_⟩:=h;exact dC h1
theorem xe {g:Nat}{L:iz}(h:ke w g 179 L){i:Nat}(hi:i*16+16<=L.length):(Instr.loadAt 179 (.pointer (some (iu g (i*16))))).run prog w=.ok (.agg (aQ ((L.drop (i*16)).take 16)).toArray) w:=
 tW (x:=aQ ((L.drop (i*16)).take 16)) underlying179 (by rw[km];exact kV (by simp;omega)) (λj v hv=>by
  rw[cell_of h];have a:j<16:=by have:=(aD.1 hv).1;rw[km,aR] at this;omega
  rw[<-hv];simp[aQ,a])
theorem yL {L:iz}{i:Nat}(hi:i*16+16<=L.length):((L.drop (i*16)).take 16).length=16:=by simp;omega
end
theorem vu {w:World}{t b:Nat}{key:iz}{Ls:List iz}(h:ll w t b gs key Ls) (h0:0<Ls.length):Calls prog 132 #[iq t] w λe w'=>e=.returned (iw 50)/\w=w':=by
 obtain⟨g,cap,kv,cs,c0,c1,_,_,c2,h1,d,c3⟩:=h.cells h0;have c4:=(c3 0 h0).1;have hw:kp (0:Nat)=50:=by unfold kp;rfl
 rw[hw] at c4;obtain⟨n,a⟩:=Ex Ls.length;rw[<-a] at c2 h0 h1;have f:((n:Int) == 0)=false:=by simp;omega
 have c:(0:Int)<n:=om;replace a:=LH a;clear h c3 hw;go_enter func132,ntmps132;go_wp2;go_ret;exact⟨rfl,rfl⟩
def BD:Value->Value
 | .slice _ n _=>.int .i64 n
 | _=>undef
theorem G3 (l i:Nat):∀ c j:Nat,j<c->(rR l i c)[j*2]?=some (iw l)/\(rR l i c)[j*2+1]?=some (iw (i+j:Nat)):=by
 intro c
 induction c with
 | zero=>intro j h;omega
 | succ c ih=>
  intro j h;rw[yK];have b:=GX l i c;by_cases a:j<c
  ·rw[aX om,aX om];exact ih j a
  ·obtain rfl:j=c:=om;rw[aL om,aL om,b];simp
theorem Ha {w:World}{t b:Nat}{gs:Nat->Nat}{key:iz}{Ls:List iz}(h:ll w t b gs key Ls) (l i:Nat) (hl:l<3) (hi:i<kp (l+1:Nat)) (h0:l<Ls.length):
  Calls prog 131 #[iq t,.agg #[iw (l+1:Nat),iw i]] w λe w'=>∃ v,e=.returned v/\∃ c bl,c<=4/\bl.length=c*16/\w'.ownsRow w.heap.size 179 16 v c (aQ bl)/\Below w.heap.size w w':=by
 obtain⟨m,hm⟩:=Ex (l+1);obtain⟨q,hq⟩:=Ex w.heap.size;obtain⟨S,E⟩:=Ex (w.alloc (.cells #[iw m,iw i] 193));have b1:Below w.heap.size w S:=by rw[E];exact (ag _ _).alloc (ae _) _
 have x1:S.heap[q]?=some (.cells #[iw m,iw i] 193 (0,0)):=by rw[E,hq];exact aj w _
 have HS:=LH (λd (hc:aA No S d)=>vu (h.after (b1.trans (hc.no.mono b1.size))) om);have U:=λd=>G0 l i hl hi d
 rw[<-hm] at U ⊢;replace U:=LH U;have f:=Dr S
 replace f:=LH f
 have r:=LH (λd (hc:aA No S d)=>mE (P:=prog) (w:=d) (g:=q) (off:=0) (ty:=193) (x:=[iw m,iw i]) underlying193 kr (λj v hv=>by
  rw[aw,cell_of ((hc.block q (dC x1) id).trans x1)]
  simpa using hv))
 replace h:=LH h;replace b1:=LH b1;replace hm:=LH hm;clear x1;go_enter func131,ntmps131;go_wp2;rw[<-E,<-hq];replace hq:=LH hq;replace E:=LH E;refine RA.rt (aA No) [1,4,1,3,1,1] [] (λ_=>True) trivial (λ_=>aA.refl _ _) (λ_ _ _ h k=>h.trans k) (h:=?_);intro cx
 repeat refine RA.qq ?_
 refine RA.kc (P:=prog) [iq t] (iw 50) (hr:=λd hp hH=>(HS.o d (f.o _ hp.1)).mono (by rintro e T ⟨rfl,rfl⟩;exact⟨rfl,aA.refl _ _,trivial⟩)) (hn:=?_);refine RA.ld (y':=.agg #[iw m,iw i]) (hr:=λd hp=>r.o d (f.o _ hp.1)) (h:=?_)
 refine RA.qc (P:=prog) [iw 50,.agg #[iw m,iw i]] (λv d=>∃ c:Nat,c<=4/\4*i+c<=kp l/\d.ownsRow S.heap.size 193 2 v c (rR l (4*i) c)) (hs:=λv a b h h2=>by
  obtain⟨c,k1,k2,H⟩:=h2;exact⟨c,k1,k2,dE H (λg hg=>h.block g (kt H g hg) id)⟩) (hr:=λd hp hH=>by
  refine (U.o d).mono ?_;rintro e T ⟨v,rfl,c,k1,k2,H,k4⟩;exact⟨v,rfl,aA.dD k4 _,⟨c,k1,k2,kU H (f.o _ hp.1).size⟩,trivial⟩) (hn:=λu=>?_)
 refine RA.vk prog (BD u) (hr:=λd hp=>by obtain⟨c,_,_,H⟩:=hp.fact 0 rfl kr;obtain⟨a,cap,rfl,_⟩:=(Cells.own H).shape;clear hp H;go_simp;rfl) (h:=?_)
 repeat refine RA.qq ?_
 refine RA.RA.done rfl (λw2 hR hF hH=>?_);clear hH;simp only[RA.RP,cx];obtain⟨c,ay,bC,ho⟩:=hF _ (cq ..);have J:=f.o _ hR;clear hF hR;obtain⟨pa,bz,rfl,ba,bp⟩:=(Cells.own ho).shape;simp only[BD];have I:=LH J.no;have af:=LH (h.o.after (b1.o.trans (J.no.mono b1.o.size)))
 have D:∀ j,j<c->∃ pg,pa=some (iu pg 0)/\∀ d,Below w2.heap.size w2 d->d.cell? (iu pg (j*2))=some (iw l)/\d.cell? (iu pg (j*2+1))=some (iw (4*i+j:Nat)):=by intro j hj;obtain⟨pg,cp,hv,_,_⟩:=kz ho om;simp only[IJ] at hv;obtain⟨rfl,_,_⟩:=hv;refine⟨pg,rfl,λd hb=>?_⟩;obtain⟨g',off,c',aa,_,_,_,M,a6⟩:=Cells.at (Cells.own ho) om;simp only[IJ] at aa;obtain⟨⟨rfl,rfl,_⟩,_,_⟩:=aa;obtain⟨e1,e2⟩:=G3 l (4*i) c j hj;have f1:=a6 _ _ e1;have f2:=a6 _ _ e2;rw[aw] at f1 f2;have X:=aA.dD hb No;exact⟨(X.cell (p:=iu pg (j*2)) M id).trans f1,(X.cell (p:=iu pg (j*2+1)) M id).trans f2⟩
 replace ho:=LH ho;replace D:=LH D;clear J HS U f r h;go_wp2
 go_loopg [4,12] c (λg o ix wr=>∃ j:Nat,∃ bl:iz,j+g=c/\ix=iw j/\bl.length=j*16/\Hd (wr.ownsRow w2.heap.size 179 16 o j (aQ bl))/\Hd (Below w2.heap.size w2 wr))
 case atStart=>exact⟨0,[],by omega,rfl,rfl,aS _ _ _ _,ag _ _⟩
 case round=>
  obtain⟨j,bl,bR,rfl,a1,HO,G⟩:=hrel;by_cases b4:j<c
  ·obtain⟨g1,rfl⟩:∃ i,gk=i+1:=⟨gk - 1,by omega⟩;have b3:(j:Int)<c:=om;obtain⟨pg,rfl,C⟩:=D.o j b4;obtain⟨d0,d1⟩:=C wr G.o;obtain⟨Y,hY⟩:=Ex (4*i+j);rw[<-hY] at d1;clear C;have an:Y<kp l:=om;obtain⟨W,Q⟩:=Ex (kp l);rw[<-Q] at an;obtain⟨w5,s⟩:=Ex (wr.alloc (.cells #[iw l,iw Y] 193));obtain⟨R,B⟩:=Ex wr.heap.size;have x6:w5.heap[R]?=some (.cells #[iw l,iw Y] 193 (0,0)):=by rw[s,B];exact aj wr _
   have O:Below w2.heap.size w2 w5:=by rw[s];exact G.o.alloc G.o.size _
   have y:w5.ownsRow _ _ _ _ _ _:=dE HO.o (λg hg=>by rw[s];exact aB wr _ _ (kt HO.o g hg));have T5:=af.o.after O;obtain⟨lg,cap,kv,cs,_,_,_,_,c2,b2,bB,c3⟩:=T5.cells om;obtain⟨c4,a7⟩:=c3 l h0;obtain⟨CW,K⟩:=Ex (cs l);rw[<-K] at c4;replace K:=LH K;clear a7;rw[<-Q] at c4;obtain⟨L,hL,V,Z⟩:=T5.level h0;rw[<-Q] at Z;have hblk:=xe V (i:=Y) om;have n:=yL (L:=L) (i:=Y) om;obtain⟨F,A⟩:=Ex ((L.drop (Y*16)).take 16);rw[<-A] at n hblk;obtain⟨N,hN⟩:=Ex Ls.length;rw[<-hN] at c2 b2;have bW:(l:Int)<N:=om;have bA:(Y:Int)<W:=om;have b7:=LH (lq c2);have a8:=LH (lq c4);have M:=LH (dC V);have C:=LH (dC x6);have e0:=LH (cell_of x6 0);have e1:=LH (cell_of x6 1);have ad:=LH (λg=>kJ y g);have b8:R=wr.heap.size:=B;have f:=Dr w5
   have r:∀ d,aA No w5 d->(Instr.loadAt 179 (.pointer (some (iu (gs l) (Y*16))))).run prog d=.ok (.agg (aQ F).toArray) d:=λd hc=>by rw[A];exact xe (V.dB (hc.block _ (dC V) id)) om
   have bD:j<4:=om;have ax:=LH O.size;refine G7 f r y O c2 c4 Q ?_;clear f r y O c2 c4 Q;intro f r y O c2 c4 Q;refine G4 hY hN A n ?_;clear hY hN A n;intro hY hN A n;clear T5 V hL Z hblk c3 x6;go_wp2;rw[<-B] at*;rw[<-s];replace s:=LH s;replace B:=LH B;refine RA.rt (aA No) [5,1,1,1,1,1,1,1,1,1,1,1,1,3,6,5] [14] (λ_=>True) trivial (λ_=>aA.refl _ _) (λ_ _ _ h k=>h.trans k) (h:=?_);intro cx;refine RA.pq ?_
   repeat refine RA.qq ?_
   refine RA.fk prog t 2 (h:=?_);refine RA.lk prog (ir lg N cap) (hc:=λd hp=>by exact ((f.o _ hp.1).cell (p:=iu t 2) b7.o id).trans c2.o) (h:=?_);refine RA.fk prog R 0 (h:=?_);refine RA.lk prog (iw l) (hc:=λd hp=>by exact ((f.o _ hp.1).cell (p:=iu R 0) C.o id).trans e0.o) (h:=?_);refine RA.ik prog lg l (h:=?_);refine RA.lk prog (ir (gs l) W CW) (hc:=λd hp=>by exact ((f.o _ hp.1).cell (p:=iu lg l) a8.o id).trans c4.o) (h:=?_);refine RA.fk prog R 1 (h:=?_);refine RA.lk prog (iw Y) (hc:=λd hp=>by exact ((f.o _ hp.1).cell (p:=iu R 1) C.o id).trans e1.o) (h:=?_);refine RA.ik prog (gs l) (Y*16) (h:=?_);refine RA.ld (y':=.agg (aQ F).toArray) (hr:=λd hp=>r.o d (f.o _ hp.1)) (h:=?_)
   refine RA.bq (λx d=>Cells d (λ_=>True) x 1 16 (aQ F)) (hs:=λ_ _ _ h k=>k.ki h (λ_ _ _=>id)) (he:=λ_ _ _ _ _=>trivial) (hr:=(λd hp _=>by
    have z:(aQ F).toArray.size=16:=by rw[aT,km,n.o]
    refine⟨ir d.heap.size 1 1,d.alloc (.cells (aQ F).toArray 179),?_,(aA.refl _ _).alloc _,mC d (aQ F).toArray 179 1 16 (by rw[z]) mx,trivial⟩;exact wT (RA.kH rf) underlying190 (by rw[z];exact vo) (by rw[z];omega) (by rw[z];omega) (by rw[z];rfl))) (hn:=λx=>?_)
   refine RA.oH (λv' T=>T.ownsRow w2.heap.size 179 16 v' (j+1) (aQ bl++aQ F)/\Below w2.heap.size w2 T) (hr:=λd b6 _=>by have hp:=b6.first kr;obtain⟨v',T,k1,k2,H,_⟩:=tS (P:=prog) (bytes:=16) underlying190 vo rfl de y.o ax.o (f.o _ hp.1) (hp.fact 0 rfl kr) (nJ F) mx om 190;exact⟨v',T,RA.nS rf rf k1,k2,Gf (ae _) O.o H ad.o⟩) (hn:=λv'=>?_)
   refine RA.pq ?_;refine RA.RA.kZ (λw6 hH=>?_);simp only[RA.RP,cx];obtain⟨y1,y2⟩:=hH;replace y1:=LH y1;replace y2:=LH y2;go_wp2;go_roundg g1
   case measure=>omega
   case rel=>exact⟨j+1,bl++F,by omega,by go_num,by rw[aE,n.o,a1];omega,by show World.ownsRow _ _ _ _ _ _ _;rw[nI];exact y1.o,y2.o⟩
  ·obtain rfl:gk=0:=om;have b3:¬ (j:Int)<c:=om;obtain rfl:j=c:=om;go_wp2;go_ret;exact⟨_,rfl,j,ay,bl,a1,kU HO.o (am b1.o.size I.o.size),b1.o.trans ((I.o.mono b1.o.size).trans (G.o.mono (am b1.o.size I.o.size)))⟩
end Go.Proofs.YthmcbgidehjlbaaGreat.Fd
namespace Go.Proofs.YthmcbgidehjlbaaGreat.K
open Go Go.RowKit
variable {a b:World}
def Mk (n:Nat) (a b:World):Prop:=Below n a b/\∀ (g:Nat) (C:Array Value) (t:TypeId) (m:Nat×Nat),a.heap[g]?=some (.cells C t m)->∃ m',b.heap[g]?=some (.cells C t m')
theorem Mk.refl (n:Nat) (a:World):Mk n a a:=⟨ag _ _,λ_ _ _ m h=>⟨m,h⟩⟩
theorem Mk.trans {n:Nat}{a b c:World}(h:Mk n a b) (k:Mk n b c):Mk n a c:=⟨h.1.trans k.1,λg C t m hg=>by obtain⟨m',h'⟩:=h.2 g C t m hg;exact k.2 g C t m' h'⟩
theorem Mk.mh {n:Nat}(h:aA No a b) (hn:n<=a.heap.size):Mk n a b:=⟨h.no.mono hn,λg _ _ m hg=>⟨m,(h.block g (dC hg) id).trans hg⟩⟩
theorem Mk.dD {n:Nat}(h:Below a.heap.size a b) (hn:n<=a.heap.size):Mk n a b:=Mk.mh (aA.dD h _) hn
theorem Mk.alloc {n:Nat}{a b:World}(h:Mk n a b) (hn:n<=a.heap.size) (o:Obj):Mk n a (b.alloc o):=h.trans (Mk.mh ((aA.refl No b).alloc o) (am hn h.1.size))
theorem Mk.cell {n:Nat}(h:Mk n a b){p:Addr}{v:Value}(hp:a.cell? p=some v):b.cell? p=some v:=by
 unfold World.cell? at hp ⊢;cases hg:a.heap[p.block]? with
 | none=>simp[hg] at hp
 | some o=>
  cases o with
  | cells C t m=>obtain⟨m',h'⟩:=h.2 _ _ _ _ hg;rw[hg] at hp;rw[h'];exact hp
  | _=>simp[hg] at hp
theorem Mk.cells {n:Nat}(h:Mk n a b){S:Nat->Prop}{v:Value}{k sz:Nat}{xs:List Value}(hc:Cells a S v k sz xs):Cells b S v k sz xs:=by obtain⟨m,p,cap,hv,h1,e,d,f⟩:=hc;refine⟨m,p,cap,hv,h1,e,d,f.imp id λ⟨g,off,l,i,hb,c⟩=>⟨g,off,l,i,aH hb h.1.size,λj u hu=>h.cell (c j u hu)⟩⟩
def mJ (n:Nat) (l:iz) (e:TypeId) (v:Value) (w:World):Prop:=∃ g m,v=ir g l.length l.length/\n<=g/\l.length<=maxLen/\w.heap[g]?=some (.cells (aQ l).toArray e m)
theorem mJ.mk {n:Nat}{l:iz}{e:TypeId}{v:Value}(h:mJ n l e v a) (hm:Mk n a b):mJ n l e v b:=by obtain⟨g,m,h1,c,d,f⟩:=h;obtain⟨m',i⟩:=hm.2 g _ _ _ f;exact⟨g,m',h1,c,d,i⟩
theorem mJ.bytes {n:Nat}{l:iz}{e:TypeId}{v:Value}{w:World}(h:mJ n l e v w):Bytes w (λ_=>True) v l:=by
 obtain⟨g,m,h1,c,b,a⟩:=h;refine⟨by rw[km,aY],_,_,h1,ae _,b,λh=>(by cases h),.inr ⟨g,0,rfl,trivial,dC a,λj u hu=>?_⟩⟩;rw[aw,cell_of a]
 simpa using hu
section
variable {P:Program}
theorem vv {w:World}{n:Nat}{l:iz}{t e:TypeId}{v:Value}(ht:P.underlying t=some (.slice e)) (he:P.underlying e=some (.int .u8)) (h:mJ n l e v w):∃ w',(convert t t v).run P w=.ok v w'/\Mk n w w'/\mJ n l e v w':=by
 obtain⟨g,m,rfl,s,u,q⟩:=h
 have d:w.shape? g=some (e,(aQ l).toArray.size):=by unfold World.shape?;rw[q]
 obtain⟨k,hk⟩:=Ex ((aQ l).toArray.size);rw[<-hk] at d;obtain⟨w',a⟩:=Ex (w.freeze (iu g k) 1)
 have x:∃ f:Obj->Obj,w'.heap=w.heap.modify g f/\(∀ C t m,∃ m',f (.cells C t m)=.cells C t m'):=by
  rw[a];unfold World.freeze;rw[ah de]
  refine⟨λo=>match o with
   | .cells c e (lo,hi)=>.cells c e (if lo == hi then (k,k+1) else (min lo k,max hi (k+1)))
   | o=>o,rfl,?_⟩
  rintro C t ⟨lo,hi⟩;exact⟨_,rfl⟩
 obtain⟨f,b,i⟩:=x
 have r:Mk n w w':=by
  refine⟨⟨by rw[a];unfold World.freeze;rw[ah de],by rw[a];unfold World.freeze;rw[ah de],by rw[a];unfold World.freeze;rw[ah de],by rw[b];simp,λj p=>?_⟩,λj C t m p=>?_⟩
  ·rw[b,dW,ah om]
  ·rw[b,dW];split
   ·rw[p];obtain⟨m',h'⟩:=i C t m;exact⟨m',by simp[h']⟩
   ·exact⟨m,p⟩
 refine⟨w',?_,r,mJ.mk ⟨g,m,rfl,s,u,q⟩ r⟩;simp[convert,bb ht,bb he,markStringish,d,<-a]
end
end Go.Proofs.YthmcbgidehjlbaaGreat.K
namespace Go.Proofs.YthmcbgidehjlbaaGreat.Fd
open Go Go.RowKit K
theorem Mk.parts {n:Nat}{a b:World}(h:Mk n a b){S:Nat->Prop}{pv:Value}{parts:List iz}(hp:kP a S pv parts):kP b S pv parts:=by obtain⟨vs,h1,c⟩:=hp.row;exact⟨vs,h.cells h1,λj v hv=>h.cells (c j v hv)⟩
theorem rl {w:World}{S:Nat->Prop}{vs:List Value}{parts:List iz}(hl:vs.length=parts.length) (hm:parts.length<=maxLen) (h:∀ j v,vs[j]?=some v->Bytes w S v (parts.getD j [])):kP (w.alloc (.cells vs.toArray 42)) (λ_=>True) (ir w.heap.size parts.length parts.length) parts:=by have hc:=mC w vs.toArray 42 parts.length 1 (by simp[hl]) hm;refine⟨vs,hc,λj v hv=>?_⟩;exact (Cells.ki (h j v hv) ((aA.refl No w).alloc _) (λ_ _ _=>id)).mono (λ_ _ _=>trivial)
theorem sw {w:World}{g:Nat}{t:TypeId}{l:iz}(h:ke w g t l){n:Nat}(hl:l.length=n) (hn:n<=maxLen):Cells w (λ_=>True) (ir g n n) n 1 (aQ l):=by
 refine⟨by rw[km,hl,aY],_,_,rfl,ae _,hn,λh=>(by cases h),.inr ⟨g,0,rfl,trivial,dC h,λj u hu=>?_⟩⟩;rw[aw,cell_of h]
 simpa using hu
end Go.Proofs.YthmcbgidehjlbaaGreat.Fd
namespace Go.Proofs.YthmcbgidehjlbaaGreat.RA
open _root_.Go.Proofs.Tryz
open Go
theorem xf {c:Cx}{K:List (Nat×Value)}{P:Program}{t t':TypeId}{x:Operand}{y z:Value}{ds:Option Nat}{ty:TypeId}{ps:String}{af:Array Edge}{gu:Option (Nat×Bool)}{w w':World}
  (hx:ky c K x=some y) (hr:(convert t t' y).run P w=.ok z w'):
  (execOp (ev c.a0 K) ⟨ds,.convert t t' x,ty,ps,af,gu⟩).run P w=.ok (.value z) w':=by
 simp[execOp,kH hx,hr,Result.andThen]
section
variable {c:Cx}{Z:Act->World->Prop}{os:List Oper}{i:Nat}{K:List (Nat×Value)}{G:List (Nat×(World->Prop))}{U:List Nat}{H:World->Prop}{ty:TypeId}{ps:String}{af:Array Edge}{gu:Option (Nat×Bool)}
theorem pU {P:Program}{d:Nat}{f:FuncId}{xs:List Operand}{ats:Array TypeId}(ys:List Value) (hf:∀ args w,(callFunc f args).run P w=.ok (.enter f args) w)
  (hk:kl c i=2) (hg:gd c.ops c.a0 K ⟨some d,.call ⟨.value (.func f),xs.toArray,ats⟩,ty,ps,af,gu⟩=true) (ha:xs.map (ky c K)=ys.map some) (hs:∀ v,lR c.R (c.nj i v)) (hP:c.P=P)
  (hr:∀ w,lJ c i G w->Calls P f ys.toArray w λe w'=>∃ v,e=.returned v/\c.E w w'/\c.nj i v w')
  (h:∀ u,RA c Z os (i+1) ((d,u)::K) ((i,c.nj i u)::G) (i::U) H):RA c Z (⟨some d,.call ⟨.value (.func f),xs.toArray,ats⟩,ty,ps,af,gu⟩::os) i K G U H:=
 RA.free hk hg hs (λw hp=>uV (by rw[hP,vZ ha];exact hf _ w) (by rw[hP];exact (hr w hp).mono λe w' ⟨v,h1,a,b⟩=>⟨v,h1,a,b⟩)) h
end
end Go.Proofs.YthmcbgidehjlbaaGreat.RA
namespace Go.Proofs.YthmcbgidehjlbaaGreat.Fd
open _root_.Go.Proofs.Tryz
open Go Go.RowKit K
theorem pV {w:World}{B:Nat}{v:Value}{n:Nat}(h:w.ownsRow B 5 1 v 8 (aQ (kj n))):Bytes w (λ_=>True) v (kj n):=by have a:=(Cells.own h).mono (S':=λ_=>True) (λ_ _ _=>trivial);show Cells w _ v (kj n).length 1 _;rw[nF];exact a
theorem Hb {w:World}{S:Nat->Prop}{bv:Value}{c:Nat}{bl:iz}(l i:Nat) (hl:l<=1000) (hi:i<=1000) (hb:Cells w S bv c 16 (aQ bl)) (hbl:bl.length=c*16) (hc:c<=4):
  Calls prog 130 #[.agg #[iw l,iw i],bv] w λe w'=>∃ v,e=.returned v/\kP w' (λ_=>True) v [[110,111,100,101],kj l,kj i,bl]/\Below w.heap.size w w':=by
 obtain⟨ba,Q,rfl,ax,ay⟩:=hb.shape;obtain⟨q,hq⟩:=Ex w.heap.size;obtain⟨u,z⟩:=Ex (w.alloc (.cells #[iw l,iw i] 193));have b1:Below w.heap.size w u:=by rw[z];exact (ag _ _).alloc (ae _) _
 have x1:u.heap[q]?=some (.cells #[iw l,iw i] 193 (0,0)):=by rw[z,hq];exact aj w _
 have H:∀ d,Below u.heap.size u d->Cells d S (.slice ba c Q) c 16 (aQ bl):=λd h3=>(Cells.ki hb (aA.dD b1 No) (λ_ _ _=>id)).ki (aA.dD h3 No) (λ_ _ _=>id)
 have an:(iy 0).cells.size=1:=rfl;revert b1 x1 H;refine H3 ?_;intro b1 x1 H;clear hb;go_enter func130,ntmps130;go_wp2;rw[<-z,<-hq];replace hq:=LH hq;replace z:=LH z
 go_loopg [5,10] c (λg o ix wr=>∃ j:Nat,∃ s:iz,∃ ov:Value,ov=o/\j+g=c/\ix=iw j/\s.length=j*16/\Hd (s=bl.take (j*16))/\Hd (wr.ownsRow u.heap.size 5 1 ov (j*16) (aQ s))/\Hd (Below u.heap.size u wr))
 case atStart=>exact⟨0,[],_,rfl,by omega,rfl,rfl,by show _=_;simp,aS _ _ _ _,ag _ _⟩
 case round=>
  obtain⟨j,s,ov,rfl,aa,rfl,V,I,M,p⟩:=hrel;by_cases af:j<c
  ·obtain⟨g1,rfl⟩:∃ i,gk=i+1:=⟨gk - 1,by omega⟩;have ad:(j:Int)<c:=om;obtain⟨pg,off,cp,hv,_,_,_,b2,U⟩:=Cells.at (H.o wr p.o) om;simp only[IJ] at hv;obtain⟨rfl,_,rfl⟩:=hv;obtain⟨B,y⟩:=Ex ((bl.drop (j*16)).take 16);have m:B.length=16:=by rw[y];exact yL om
   have J:(Instr.loadAt 179 (.pointer (some (iu pg (off+j*16))))).run prog wr=.ok (.agg (aQ B).toArray) wr:=
    tW (x:=aQ B) underlying179 (by rw[km];exact kV m) (λk v hv=>by
     rw[cy];refine U _ _ ?_;have hk:k<16:=by have:=(aD.1 hv).1;rw[km,m] at this;exact this
     rw[<-hv,y];simp[aQ,hk])
   obtain⟨p7,X⟩:=Ex wr.heap.size;have xA:ke (wr.alloc (.cells #[iy 0,iy 0,iy 0,iy 0,iy 0,iy 0,iy 0,iy 0,iy 0,iy 0,iy 0,iy 0,iy 0,iy 0,iy 0,iy 0] 179)) p7 179 (List.replicate 16 0):=by rw[X];exact aj wr _
   have F:=nn xA aK B m;obtain⟨w5,A⟩:=Ex ((wr.alloc (.cells #[iy 0,iy 0,iy 0,iy 0,iy 0,iy 0,iy 0,iy 0,iy 0,iy 0,iy 0,iy 0,iy 0,iy 0,iy 0,iy 0] 179)).setRow p7 (aQ B).toArray);have x5:ke w5 p7 179 B:=by rw[A];exact xA.setRow B
   have b5:Below wr.heap.size wr w5:=by rw[A];exact below_setRow ((ag _ _).alloc (ae _) _) om _
   have D:Below u.heap.size u w5:=p.o.trans (b5.mono p.o.size);have O:=LH (dE M.o (λg hg=>b5.block g (kt M.o g hg)));have a6:=LH (sw x5 m mx);have a1:=LH (λg=>kJ M.o g);have b3:=D.size;have a7:j*16<=64:=om;obtain⟨FL,r⟩:=Ex (j*16);rw[<-A] at F;rw[<-r] at a7 O;revert y J F A D r;refine H6 ?_;intro y J F A D r;clear U xA x5 b5;subst X
   go_wp2_with (first|(refine kQ rfl 179 _ rfl _ _ rfl J.o ?_)|(refine kI rfl 179 _ _ rfl _ _ rfl rfl F.o ?_)|(at_builtin;refine K.append ?_ (.tmp 14) (.tmp 15) 42 ?_ u.heap.size 5 (iy 0) 1 1 underlying42 nu an om _ FL _ ?_ O.o (λ_=>True) _ 16 (aQ B) ?_ a6.o (K.nJ B) mx om ?_ ?_))
   any_goals (first|rfl|omega)
   intro v' w2 y1 y2 y3 y4;have Y1:=LH y1;have a8:=LH ((aA.dD D.o No).grown y2 (λg hg hl=>absurd (a1.o g hg) om)).no;clear y1 y2 y3 y4;go_wp2;go_roundg g1
   case measure=>omega
   case rel=>
    refine⟨j+1,s++B,_,rfl,by omega,by go_num,by rw[aE,m,V];omega,?_,?_,a8.o⟩
    ·show _=_;rw[I.o,y.o,show (j+1)*16=j*16+16 by omega,fF]
    ·show World.ownsRow _ _ _ _ _ _ _;rw[nI,show (j+1)*16=FL+16 by rw[r.o];omega];exact Y1.o
  ·obtain rfl:gk=0:=om;have ad:¬ (j:Int)<c:=om;obtain rfl:j=c:=om;have W:s=bl:=by rw[I.o,<-hbl,cS]
   subst W;obtain⟨L,rfl⟩:=Ex (wr:World)
   have E:Bytes L (λ_=>True) ov s:=by have h:=(Cells.own M.o).mono (S':=λ_=>True) (λ_ _ _=>trivial);rw[<-V] at h;exact h
   obtain⟨oa,oc,rfl,_,_⟩:=E.shape;obtain⟨CL,C⟩:=Ex s.length;obtain⟨N,hN⟩:=Ex L.heap.size;have f:∀ d,Mk N L.drew d->Mk N L d:=λd h=>⟨⟨h.1.os,h.1.tape,h.1.output,h.1.size,h.1.block⟩,h.2⟩
   have y1:=(p.o.block q (dC x1.o)).trans x1.o;have c0:=LH (cell_of y1 0);have c1:=LH (cell_of y1 1);have n:∀ d,Mk N L d->N<=d.heap.size:=λd h=>hN ▸ h.1.size
   revert E f n;refine H3 ?_;intro E f n;have R:=LH (show ∀ d,Mk N L d->Below u.heap.size u d from λd h=>p.o.trans (h.1.mono (by rw[hN];exact p.o.size)));rw[<-C];replace C:=LH C;replace hN:=LH hN;clear M p y1 I af aa;go_wp2;refine RA.region (Mk N) (Mk N) [2,2,1,1,2,1,1,2,1,3,1] (λk v d=>match k with|4=>Bytes d (λ_=>True) v (kj l)|7=>Bytes d (λ_=>True) v (kj i)|_=>mJ N [110,111,100,101] 5 v d) (λ_=>True) kr (Mk.refl _ _) (λ_ _ h=>h) (λ_ _ _ h k=>h.trans k) (λ_ _ _ _=>trivial) trivial kr ?_;intro cx
   refine RA.fr (hs:=λv a b h G=>G.mk h) (hr:=λd hp=>⟨ir d.heap.size 4 4,d.alloc (.cells (aQ [110,111,100,101]).toArray 5),by show (execOp _ _).run prog d=_;go_simp;rfl,Mk.mh ((aA.refl _ _).alloc _) (n.o _ (f.o _ hp.1)),⟨d.heap.size,(0,0),rfl,n.o _ (f.o _ hp.1),by unfold maxLen;exact cF rfl,aj d _⟩⟩) (h:=λu0=>?_)
   refine RA.fr (hs:=λv a b h G=>G.mk h) (hr:=λd hp=>by obtain⟨w4,Y,Z,k3⟩:=vv (P:=prog) (t:=42) underlying42 underlying5 (show mJ N [110,111,100,101] _ u0 d from hp.fact 0 rfl kr);refine⟨u0,w4,?_,Z,k3⟩;exact RA.xf rf Y) (h:=λu1=>?_)
   refine RA.fk prog q 0 (h:=?_);refine RA.lk prog (iw l) (hc:=λd hp=>by exact (f.o _ hp.1).cell c0.o) (h:=?_)
   refine RA.pU (P:=prog) [iw l] (λ_ _=>by go_simp) kr rf rf (λv a b h G=>Mk.cells h G) rfl (λd hp=>(oL l om d).mono (by rintro e w4 ⟨v,rfl,Y,Z⟩;exact⟨v,rfl,Mk.dD Z (n.o _ (f.o _ hp.1)),pV Y⟩)) (λu2=>?_)
   refine RA.fk prog q 1 (h:=?_);refine RA.lk prog (iw i) (hc:=λd hp=>by exact (f.o _ hp.1).cell c1.o) (h:=?_)
   refine RA.pU (P:=prog) [iw i] (λ_ _=>by go_simp) kr rf rf (λv a b h G=>Mk.cells h G) rfl (λd hp=>(oL i om d).mono (by rintro e w4 ⟨v,rfl,Y,Z⟩;exact⟨v,rfl,Mk.dD Z (n.o _ (f.o _ hp.1)),pV Y⟩)) (λu3=>?_)
   repeat refine RA.qq ?_
   refine RA.bq (λx d=>kP d (λ_=>True) x [[110,111,100,101],kj l,kj i,s]) (hs:=λ_ _ _ h k=>Mk.parts h k) (he:=λ_ _ _ _ _=>trivial) (hr:=(λd hp _=>by
    have f1:=(show mJ N [110,111,100,101] _ u1 d from hp.fact 2 rfl kr).bytes;have f2:=(show Bytes d (λ_=>True) u2 (kj l) from hp.fact 1 rfl kr);have f3:=(show Bytes d (λ_=>True) u3 (kj i) from hp.fact 0 rfl kr);have f4:Bytes d (λ_=>True) (.slice oa CL oc) s:=by rw[C.o];exact (f.o _ hp.1).cells E.o
    have T:=n.o _ (f.o _ hp.1)
    have hP:=rl (w:=d) (S:=λ_=>True) (vs:=[u1,u2,u3,.slice oa CL oc]) (parts:=[[110,111,100,101],kj l,kj i,s]) rfl (by unfold maxLen;simp) (by
     intro j v hv
     match j with
     | 0=>cases hv;exact f1
     | 1=>cases hv;exact f2
     | 2=>cases hv;exact f3
     | 3=>cases hv;exact f4
     | _+4=>simp at hv)
    refine⟨_,d.alloc (.cells #[u1,u2,u3,.slice oa CL oc] 42),?_,Mk.mh ((aA.refl _ _).alloc _) T,hP,trivial⟩;obtain⟨_,_,rfl,_⟩:=f1.shape;obtain⟨_,_,rfl,_⟩:=f2.shape;obtain⟨_,_,rfl,_⟩:=f3.shape;clear f1 f2 f3 f4 hP hp T;show (execOp _ _).run prog d=_;go_simp)) (hn:=λx=>?_)
   repeat refine RA.qq ?_
   refine RA.RA.done rfl (λw5 hR hF hH=>?_);clear hH;simp only[RA.RP,cx];have hP:=LH (show kP w5 (λ_=>True) x [[110,111,100,101],kj l,kj i,s] from hF _ (cq ..));have hB:=LH (R.o _ (f.o _ hR));clear hF hR;go_wp2;go_ret;exact⟨_,rfl,hP.o,b1.o.trans (hB.o.mono b1.o.size)⟩
variable {L:iz}{i:Nat}
def oA (L:iz) (i:Nat):iz:=if i*16+16<=L.length then (L.drop (i*16)).take 16 else List.replicate 16 0
theorem um:(oA L i).length=16:=by
 unfold oA;split
 ·exact yL (by assumption)
 ·simp
theorem Hc {W:Nat}(hW:W*16<=L.length) (hi:i<W):oA (L.take (W*16)) i=(L.drop (i*16)).take 16:=by rw[oA,ak (by rw[aR];omega),fl,fj,dh om]
theorem He {W:Nat}(hi:W<=i):oA (L.take (W*16)) i=List.replicate 16 0:=by rw[oA,ah (by rw[aR];omega)]
theorem BG {w:World}{t b:Nat}{gs:Nat→Nat}{key:iz}{Ls:List iz}(h:ll w t b gs key Ls) (l i:Nat) (_:i≤1000) (hl:l<Ls.length):
  Calls prog 136 #[.pointer (some ⟨t,0,none⟩),.agg #[.int .i64 l,.int .i64 i]] w λe w'=>e=.returned (.agg (aQ (oA ((Ls.getD l []).take (kp l*16)) i)).toArray)∧Below w.heap.size w w':=by
 obtain⟨L,hL,hA,hLl⟩:=h.level hl;have hLg:Ls.getD l []=L:=by simp[List.getD,hL]
 rw[hLg];obtain⟨K1,hK1⟩:=Ex (oA (L.take (kp l*16)) i);have hK1l:K1.length=16:=hK1 ▸ um;rw[← hK1];obtain⟨q,hq⟩:=Ex w.heap.size;have HQ:=LH hq;obtain⟨w1,hw1⟩:=Ex ((w.alloc (.cells #[.int .i64 l,.int .i64 i] 193)).alloc (.cells #[.int .u8 0,.int .u8 0,.int .u8 0,.int .u8 0,.int .u8 0,.int .u8 0,.int .u8 0,.int .u8 0,.int .u8 0,.int .u8 0,.int .u8 0,.int .u8 0,.int .u8 0,.int .u8 0,.int .u8 0,.int .u8 0] 179));have b1:Below w.heap.size w w1:=by rw[hw1];exact ((ag _ _).alloc (ae _) _).alloc (by simp) _
 have x1:w1.heap[q]?=some (.cells #[.int .i64 l,.int .i64 i] 193 (0,0)):=by rw[hw1,hq];exact (aB _ _ _ (by simp)).trans (aj w _)
 have x2:ke w1 (q+1) 179 (List.replicate 16 0):=by rw[hw1,hq];have h:=aj (w.alloc (.cells #[.int .i64 l,.int .i64 i] 193)) (.cells #[.int .u8 0,.int .u8 0,.int .u8 0,.int .u8 0,.int .u8 0,.int .u8 0,.int .u8 0,.int .u8 0,.int .u8 0,.int .u8 0,.int .u8 0,.int .u8 0,.int .u8 0,.int .u8 0,.int .u8 0,.int .u8 0] 179);simp only[aN] at h;exact h
 have T1:=h.after b1;obtain⟨W,hW⟩:=Ex (kp l);rw[← hW] at hLl hK1;have HS:=LH (λw3 (hc:aA No w1 w3)=>vu (T1.after hc.no) (by omega));have HW:=λw3=>vh l w3
 rw[← hW] at HW;replace HW:=LH HW;have hdr:∀ w3,aA No w1.drew w3→aA No w1 w3:=λw3 h=>⟨h.os,h.tape,h.output,h.size,h.block⟩
 replace hdr:=LH hdr;have hql:=LH (dC x1);have c0:=LH (cell_of x1 0);have c1:=LH (cell_of x1 1);have hi0:decide ((i:Int)<0)=false:=by simp
 replace b1:=LH b1;replace x2:=LH x2;replace T1:=LH T1;replace hLl:=LH hLl;replace hW:=LH hW;clear x1 h hLg hA;go_enter func136,ntmps136;go_wp2;rw[← hq];rw[← hw1];replace hw1:=LH hw1;replace hq:=LH hq;by_cases hlt:i<W
 ·have hi1:decide ((W:Int)≤(i:Int))=false:=by simpa using hlt
  refine RA.rt (aA No) [1,1,1,1,1,1,1,4,1,1,4,1,1] [] (λ_=>True) trivial (λ_=>aA.refl _ _) (λ_ _ _ h k=>h.trans k) (h:=?_);intro cx;refine RA.fk prog (q) (1) (h:=?_);refine RA.lk prog (.int .i64 i) (hc:=λw3 hp=>by exact ((hdr.o _ hp.1).cell (p:=⟨q,1,none⟩) hql.o id).trans c1.o) (h:=?_);refine RA.vk prog (.bool false) (h:=?_)
  repeat (first|refine RA.mv (by rfl) (by rfl) (by rfl) ?_|refine RA.as (by rfl) (by rfl) (by rfl) ?_|refine RA.pt (by rfl) (by rfl) (by rfl) (by rfl) ?_|refine RA.pf (by rfl) (by rfl) (by rfl) (by rfl) ?_)
  refine RA.fk prog (q) (1) (h:=?_);refine RA.lk prog (.int .i64 i) (hc:=λw3 hp=>by exact ((hdr.o _ hp.1).cell (p:=⟨q,1,none⟩) hql.o id).trans c1.o) (h:=?_)
  repeat (first|refine RA.mv (by rfl) (by rfl) (by rfl) ?_|refine RA.as (by rfl) (by rfl) (by rfl) ?_|refine RA.pt (by rfl) (by rfl) (by rfl) (by rfl) ?_|refine RA.pf (by rfl) (by rfl) (by rfl) (by rfl) ?_)
  refine RA.kc (P:=prog) [.pointer (some ⟨t,0,none⟩)] (.int .i64 50) (λ_=>True) (λ_ _=>by go_simp) (by kernel_rfl) (by rfl) (by rfl) (by kernel_rfl) (λ_ _ _ h=>h) rfl (λw3 hp hH=>(HS.o w3 (hdr.o _ hp.1)).mono (by rintro e w4 ⟨rfl,rfl⟩;exact⟨rfl,aA.refl _ _,trivial⟩)) ?_;refine RA.fk prog (q) (0) (h:=?_);refine RA.lk prog (.int .i64 l) (hc:=λw3 hp=>by exact ((hdr.o _ hp.1).cell (p:=⟨q,0,none⟩) hql.o id).trans c0.o) (h:=?_);refine RA.kc (P:=prog) [.int .i64 50,.int .i64 l] (.int .i64 W) (λ_=>True) (λ_ _=>by go_simp) (by kernel_rfl) (by rfl) (by rfl) (by kernel_rfl) (λ_ _ _ h=>h) rfl (λw3 hp hH=>(HW.o w3).mono (by rintro e w4 ⟨rfl,h2⟩;exact⟨rfl,aA.dD h2 _,trivial⟩)) ?_;refine RA.vk prog (.bool false) (h:=?_)
  repeat (first|refine RA.mv (by rfl) (by rfl) (by rfl) ?_|refine RA.as (by rfl) (by rfl) (by rfl) ?_|refine RA.pt (by rfl) (by rfl) (by rfl) (by rfl) ?_|refine RA.pf (by rfl) (by rfl) (by rfl) (by rfl) ?_)
  refine RA.RA.done rfl (λw2 hR hF hH=>?_);clear hF hH;simp only[RA.put,List.foldr_cons,List.foldr_nil,cx,Act.put,ar,aq,au]
  try simp only[cn]
  try simp only[cG]
  have hC2:=hdr.o _ hR;have hB2:=hC2.no;have hKz:K1=(L.drop (i*16)).take 16:=by rw[hK1,Hc hLl.o (by omega)]
  have T2:=T1.o.after hB2;have x3:ke w2 (q+1) 179 (List.replicate 16 0):=x2.o.dB (hC2.block _ (dC x2.o) id);obtain⟨lg,cap,kv,cs,_,_,_,_,c2,hc5,hc6,c3⟩:=T2.cells (by omega);obtain⟨c4,hcsl⟩:=c3 l hl;obtain⟨CW,hCW⟩:=Ex (cs l);rw[← hCW] at c4;replace hCW:=LH hCW;clear hcsl;have hWo:=hW.o;rw[← hWo] at c4;obtain⟨L',hL',hA2,_⟩:=T2.level hl;obtain rfl:L=L':=by rw[hL] at hL';exact aF hL'
  obtain⟨N,hN⟩:=Ex Ls.length;rw[← hN] at c2 hc5;have hlN:(l:Int)<N:=by omega
  have hiW:(i:Int)<W:=by omega
  have htl:=LH (lq c2);have hlgl:=LH (lq c4)
  have hld:∀ w3,aA No w2 w3→(Instr.loadAt 179 (.pointer (some ⟨gs l,i*16,none⟩))).run prog w3=.ok (.agg (aQ K1).toArray) w3:=λw3 hc=>by rw[hKz];exact xe (hA2.dB (hc.block _ (dC hA2) id)) (by have:=hLl.o;omega)
  have hql2:=LH (aH hql.o hB2.size);have e0:=LH ((hC2.cell (p:=⟨q,0,none⟩) hql.o id).trans c0.o);have e1:=LH ((hC2.cell (p:=⟨q,1,none⟩) hql.o id).trans c1.o);have hq1l:=LH (dC x3);have hb2:=LH (b1.o.trans (hB2.mono b1.o.size));have hdr2:∀ w3,aA No w2.drew w3→aA No w2 w3:=λw3 h=>⟨h.os,h.tape,h.output,h.size,h.block⟩
  replace hdr2:=LH hdr2;replace hld:=LH hld;replace x3:=LH x3;replace c2:=LH c2;replace c4:=LH c4;replace hN:=LH hN;clear hR hC2 hB2 T2 hA2 c3 hWo hi0 hi1 HS HW hKz hdr x2;go_wp2;refine RA.rt (aA No) [1,1,1,1,1,1,1,1,1,1,1,1,7] [12] (λ_=>True) (trivial) (λ_=>aA.refl _ _) (λ_ _ _ h k=>h.trans k) (h:=?_);intro cx
  repeat refine RA.qq (h:=?_)
  refine RA.fk prog (t) (2) (h:=?_);refine RA.lk prog (.slice (some ⟨lg,0,none⟩) N cap) (hc:=λw3 hp=>by exact ((hdr2.o _ hp.1).cell (p:=⟨t,2,none⟩) htl.o id).trans c2.o) (h:=?_);refine RA.fk prog (q) (0) (h:=?_);refine RA.lk prog (.int .i64 l) (hc:=λw3 hp=>by exact ((hdr2.o _ hp.1).cell (p:=⟨q,0,none⟩) hql2.o id).trans e0.o) (h:=?_);refine RA.ik prog (lg) (l) (h:=?_);refine RA.lk prog (.slice (some ⟨gs l,0,none⟩) W CW) (hc:=λw3 hp=>by exact ((hdr2.o _ hp.1).cell (p:=⟨lg,l,none⟩) hlgl.o id).trans c4.o) (h:=?_);refine RA.fk prog (q) (1) (h:=?_);refine RA.lk prog (.int .i64 i) (hc:=λw3 hp=>by exact ((hdr2.o _ hp.1).cell (p:=⟨q,1,none⟩) hql2.o id).trans e1.o) (h:=?_);refine RA.ik prog (gs l) (i*16) (h:=?_);refine RA.ld (by kernel_rfl) (by rfl) (by rfl) (y':=.agg (aQ K1).toArray) (λw3 hp=>hld.o w3 (hdr2.o _ hp.1)) ?_
  refine RA.lr (λw5=>ke w5 (q+1) 179 K1∧Below w.heap.size w w5) (by kernel_rfl) (by rfl) (by kernel_rfl) (λ_ _ h k=>h ▸ k) (λw4 hp0 hH=>by have hp:=hp0.first (by kernel_rfl);have hc:=hdr2.o _ hp.1;have x4:ke w4 (q+1) 179 (List.replicate 16 0):=x3.o.dB (hc.block _ hq1l.o id);exact⟨w4.setRow (q+1) (aQ K1).toArray,RA.kL (by rfl) (by rfl) (nn x4 aK K1 hK1l),x4.setRow K1,below_setRow (hb2.o.trans (hc.no.mono hb2.o.size)) (by rw[← HQ.o];omega) _⟩) ?_
  refine RA.RA.kZ (λw5 hH=>?_);simp only[RA.put,List.foldr_cons,List.foldr_nil,cx,Act.put,ar,aq,au];obtain⟨hT5,hC5⟩:=hH;replace hT5:=LH hT5;replace hC5:=LH hC5;go_wp2;refine aI (bd results136 _ _ (q+1) 179 _ (0,0) _ rfl hT5.o underlying179 rfl (by rw[kV hK1l];simp[km])) rfl ⟨rfl,hC5.o⟩
 ·have hi1:decide ((W:Int)≤(i:Int))=true:=by simpa using hlt
  refine RA.rt (aA No) [1,1,1,1,1,1,1,4,1,1,4,1,1] [] (λ_=>True) trivial (λ_=>aA.refl _ _) (λ_ _ _ h k=>h.trans k) (h:=?_);intro cx;refine RA.fk prog (q) (1) (h:=?_);refine RA.lk prog (.int .i64 i) (hc:=λw3 hp=>by exact ((hdr.o _ hp.1).cell (p:=⟨q,1,none⟩) hql.o id).trans c1.o) (h:=?_);refine RA.vk prog (.bool false) (h:=?_)
  repeat (first|refine RA.mv (by rfl) (by rfl) (by rfl) ?_|refine RA.as (by rfl) (by rfl) (by rfl) ?_|refine RA.pt (by rfl) (by rfl) (by rfl) (by rfl) ?_|refine RA.pf (by rfl) (by rfl) (by rfl) (by rfl) ?_)
  refine RA.fk prog (q) (1) (h:=?_);refine RA.lk prog (.int .i64 i) (hc:=λw3 hp=>by exact ((hdr.o _ hp.1).cell (p:=⟨q,1,none⟩) hql.o id).trans c1.o) (h:=?_)
  repeat (first|refine RA.mv (by rfl) (by rfl) (by rfl) ?_|refine RA.as (by rfl) (by rfl) (by rfl) ?_|refine RA.pt (by rfl) (by rfl) (by rfl) (by rfl) ?_|refine RA.pf (by rfl) (by rfl) (by rfl) (by rfl) ?_)
  refine RA.kc (P:=prog) [.pointer (some ⟨t,0,none⟩)] (.int .i64 50) (λ_=>True) (λ_ _=>by go_simp) (by kernel_rfl) (by rfl) (by rfl) (by kernel_rfl) (λ_ _ _ h=>h) rfl (λw3 hp hH=>(HS.o w3 (hdr.o _ hp.1)).mono (by rintro e w4 ⟨rfl,rfl⟩;exact⟨rfl,aA.refl _ _,trivial⟩)) ?_;refine RA.fk prog (q) (0) (h:=?_);refine RA.lk prog (.int .i64 l) (hc:=λw3 hp=>by exact ((hdr.o _ hp.1).cell (p:=⟨q,0,none⟩) hql.o id).trans c0.o) (h:=?_);refine RA.kc (P:=prog) [.int .i64 50,.int .i64 l] (.int .i64 W) (λ_=>True) (λ_ _=>by go_simp) (by kernel_rfl) (by rfl) (by rfl) (by kernel_rfl) (λ_ _ _ h=>h) rfl (λw3 hp hH=>(HW.o w3).mono (by rintro e w4 ⟨rfl,h2⟩;exact⟨rfl,aA.dD h2 _,trivial⟩)) ?_;refine RA.vk prog (.bool true) (hr:=λw hp=>by (try go_simp);omega) (h:=?_)
  repeat (first|refine RA.mv (by rfl) (by rfl) (by rfl) ?_|refine RA.as (by rfl) (by rfl) (by rfl) ?_|refine RA.pt (by rfl) (by rfl) (by rfl) (by rfl) ?_|refine RA.pf (by rfl) (by rfl) (by rfl) (by rfl) ?_)
  refine RA.RA.done rfl (λw2 hR hF hH=>?_);clear hF hH;simp only[RA.put,List.foldr_cons,List.foldr_nil,cx,Act.put,ar,aq,au]
  try simp only[cn]
  try simp only[cG]
  have hC2:=hdr.o _ hR;have hKz:K1=List.replicate 16 0:=by rw[hK1,He (by omega)]
  subst hKz;have x3:ke w2 (q+1) 179 (List.replicate 16 0):=x2.o.dB (hC2.block _ (dC x2.o) id);have hst:=nn x3 aK (List.replicate 16 0) hK1l;have hfin:ke (w2.setRow (q+1) (aQ (List.replicate 16 0)).toArray) (q+1) 179 (List.replicate 16 0):=x3.setRow (List.replicate 16 0);have hbf:Below w.heap.size w (w2.setRow (q+1) (aQ (List.replicate 16 0)).toArray):=below_setRow (b1.o.trans (hC2.no.mono b1.o.size)) (by rw[← HQ.o];omega) _;replace hst:=LH hst;replace hfin:=LH hfin;replace hbf:=LH hbf;clear hR hC2 x3 hi0 hi1 HS HW hK1
  go_wp2_with (first|(refine kI rfl 179 _ _ rfl _ _ rfl rfl hst.o ?_)|fail)
  refine aI (bd results136 _ _ (q+1) 179 _ (0,0) _ rfl hfin.o underlying179 rfl (by rw[kV hK1l];simp[km])) rfl ⟨rfl,hbf.o⟩
end Go.Proofs.YthmcbgidehjlbaaGreat.Fd

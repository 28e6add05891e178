/-
 Parts of the proof. No condition beyond what each theorem names.
-/
import Derived.BigQuiet
import Derived.Test.YthmcbgidehjlbaaGreatFrAj
import Derived.Test.YthmcbgidehjlbaaGreatFrAo
import Derived.Test.YthmcbgidehjlbaaGreatFrAs
import Derived.Test.YthmcbgidehjlbaaGreatFrAu
import Derived.Test.YthmcbgidehjlbaaGreatFrAv
import Derived.Test.YthmcbgidehjlbaaGreatFrAy
set_option maxRecDepth 100000
set_option maxHeartbeats 16000000
namespace Go.Proofs.YthmcbgidehjlbaaGreat.Fd
open _root_.Go.Proofs.Tryz
open Go Go.RowKit K Go.Shelf Go.Lib Go.Sort
abbrev SW:=Fin 120×(Nat×Nat)×iz
def fW (x:SW):Nat×Value:=(x.1.val,ir x.2.1.1 64 x.2.1.2)
def pH (x:SW):List Value:=[iw (x.1.val:Nat),ir x.2.1.1 64 x.2.1.2]
def tD (x y:SW):Int:=(x.1.val:Int) - (y.1.val:Int)
theorem zr (x y:SW):ltOf tD x y=decide (x.1.val<y.1.val):=by unfold ltOf tD;congr 1;rw[eq_iff_iff];omega
theorem JL:SWO (ltOf tD) where
 irrefl x:=by rw[zr];simp
 trans x y z h1 h2:=by rw[zr] at *;simp at *;omega
 ntrans x y z h1 h2:=by rw[zr] at *;simp at *;omega
theorem JM (x y:SW) (W:World):Calls prog 87 #[.agg (pH x).toArray,.agg (pH y).toArray] W λe w'=>e=.returned (iw (tD x y))/\∃ q os',w'=grow (W.drewN q) os':=by
 obtain⟨⟨a,i⟩,⟨b,c⟩,_⟩:=x;obtain⟨⟨d,f⟩,⟨g,h⟩,_⟩:=y;simp only[pH,tD];have hw:IntKind.i64.wrap ((a:Int) - d)=a - d:=by rw[bO];omega
 go_enter func87,ntmps87;go_wp2;go_ret;exact⟨rfl,0,_,by rw[alloc_eq_grow,alloc_eq_grow,grow_grow];rfl⟩
theorem JN:∀ w,(isAgg 142).run prog w=.ok true w:=λw=>by simp[isAgg,bb (P:=prog) underlying142]
theorem JO:∀ w,(Go.sizeOf 142).run prog w=.ok 2 w:=λw=>tJ w (P:=prog) kr
theorem JP {w:World}{B g cap:Nat}(ds:List SW) (h0:0<ds.length) (hfew:ds.length<100000) (h:w.ownsRow B 142 2 (ir g ds.length cap) ds.length (ng (ds.map fW))):
  Calls prog 86 #[ir g ds.length cap,.func (.func 87) #[] #[]] w λe w'=>e=.returned (.tuple #[])/\∃ ds':List SW,ds'.Perm ds/\w'.ownsRow B 142 2 (ir g ds.length cap) ds.length (ng (ds'.map fW))/\aA (λx=>x=g) w w':=by
 have r:∀ (l:List SW) (j:Nat),j<l.length*2->(ng (l.map fW))[j]?=some ((pH (l.toArray[j / 2]!))[j % 2]!):=λl j i=>by
  have hi:j / 2<l.length:=om;obtain⟨p,A⟩:=tz (l.map fW) (j / 2) (fW l[j / 2]) (by rw[bf,av hi];rfl);have P:l.toArray[j / 2]! = l[j / 2]:=by simp[hi]
  rw[P];generalize l[j / 2]=y at p A ⊢;have J:j % 2=0\/j % 2=1:=om;rcases J with e|e
  ·rw[show j / 2*2=j by omega] at p;rw[e,p];rfl
  ·rw[show j / 2*2+1=j by omega] at A;rw[e,A];rfl
 obtain⟨cur,d⟩:=kA h (g:=g) rfl;have t:=dC d
 have q:∀ j,j<ds.length*2->w.cell? (iu g j)=some ((pH (ds.toArray[j / 2]!))[j % 2]!):=λj i=>by
  obtain⟨Q,off,Y,hv,_,_,_,_,I⟩:=Cells.at (Cells.own h) h0;simp only[IJ] at hv;obtain⟨⟨rfl,rfl,_⟩,_,_⟩:=hv;have S:=I j _ (r ds j i)
  rwa [aw] at S
 have hH:HoldsK pH 2 w g 0 ds.toArray:=λj i=>by rw[size_flatK,aT] at i;rw[aw];refine⟨?_,kY d j⟩;rw[q j i,get_flatK _ _ _ _ (by rw[aT];exact i)];rfl
 have eg:∀ args w,(callFunc 87 args).run prog w=.ok (.enter 87 args) w:=enters_of func87 kr rfl;have D:CmpLays prog 87 #[] pH 2 tD g 0 ds.toArray.size w:=λm os dk _ x y=>JM x y _
 have o:=AnyQ.slices_SortFunc sortW 2 JN JO pH (λ_=>rfl) (λx v hv=>by simp[pH] at hv;rcases hv with rfl|rfl<;>rfl) tD JL 87 #[] g 0 cap ds.toArray w eg D hH t (by rw[aT];omega);change Calls prog 86 _ _ _ at o;rw[aT] at o;refine o.mono ?_;rintro e w' ⟨rfl,f,n,os,⟨b,_,F⟩,_,rfl⟩;have b:f.size=ds.length:=b.trans sm
 have z:f.toList.Perm ds:=by
  have p:f.extract 0 ds.length=f:=by rw[<-b];simp
  have A:ds.toArray.extract 0 ds.length=ds.toArray:=by simp
  rw[p,A] at F;exact F
 have H:=holdsK_sortWorldK_c pH 2 w g 0 ds.toArray f n os hH t (by rw[aT];exact b)
 have hold:∀ k,k<w.heap.size->k≠g->(sortWorldK pH 2 w g 0 n f os).heap[k]?=w.heap[k]?:=λk hk u=>by unfold sortWorldK;rw[heap_grow_old _ _ (by rw[putRowK,size_putRow];exact hk)];simp[putRowK,putRow,mapBlock,dW,bY u]
 have E:∃ c,c.size=cur.size/\(sortWorldK pH 2 w g 0 n f os).heap[g]?=some (.cells c 142 (0,0)):=by refine⟨putCells id 0 (flatK pH 2 f) cur,by simp[putCells],?_⟩;unfold sortWorldK;rw[heap_grow_old _ _ (by rw[putRowK,size_putRow];exact t)];simp[putRowK,putRow,mapBlock,dW,d,onCells]
 obtain⟨c,K,C⟩:=E;refine⟨rfl,f.toList,z,?_,⟨rfl,rfl,rfl,size_sortWorldK_c pH 2 w g 0 n f os,λk hk u=>hold k hk u⟩⟩;have s:f.toList.length=ds.length:=by simpa using b
 have G:∀ l:List SW,(ng (l.map fW)).length=l.length*2:=λl=>by
  induction l with
  | nil=>rfl
  | cons a l ih=>simp[ng] at ih ⊢;omega
 obtain⟨T,R⟩:=h;rcases R with ⟨p,_⟩|⟨Q,M,N,p,U,L,V,W,X,Z⟩
 ·cases p
 ·simp only[IJ] at p;obtain⟨⟨rfl,_⟩,_,rfl⟩:=p;rw[d] at L;simp only[IJ] at L;obtain⟨rfl,_⟩:=L;refine⟨by rw[G,s],.inr ⟨g,cap,c,rfl,U,C,V,W,by rw[K];exact X,?_⟩⟩;apply b9;intro j;rw[aU];by_cases i:j<ds.length*2
  ·rw[ak i,r f.toList j (by rw[s];exact i)];obtain⟨O,_⟩:=H j (by rw[size_flatK,b];exact i);rw[aw,cell_of C,get_flatK _ _ _ _ (by rw[b];exact i)] at O;rw[cZ,O];rfl
  ·rw[ah i];exact (cB (by rw[G,s];omega)).symm
end Go.Proofs.YthmcbgidehjlbaaGreat.Fd
namespace Go.Proofs.YthmcbgidehjlbaaGreat.Fd
open _root_.Go.Proofs.Tryz
open Go Go.RowKit K
theorem JQ {P:Program}{fn:Func}{p u e:Tmp}{ty te:TypeId}(h:fn.results=#[.cell p ty,.tmp u,.cell e te]) (tmps:Array Value) (w:World) (g ge:Nat) (t:TypeId) (cs:Array Value) (fr:Nat×Nat) (d:TypeDesc) (x:Value)
  (hp:tmps.getD p undef=iq g) (hg:w.heap[g]?=some (.cells cs t fr))
  (hu:P.underlying ty=some d) (hd:(match d with|.struct _|.array _ _=>true|_=>false)=true) (hi:(P.info? ty).map (·.size)=some cs.size)
  (he:tmps.getD e undef=iq ge) (hx:(loadVar te (iu ge 0)).run P w=.ok x w):
  (results fn tmps).run P w=.ok (.tuple #[.agg cs,tmps.getD u undef,x]) w:=by
 have b:tmps[p]?.getD undef=iq g:=by rw[<-hp];simp
 have a:tmps[e]?.getD undef=iq ge:=by rw[<-he];simp
 simp only[results,h];simp[b,a,asAddr,cR w g t ty cs fr d hg hu hd hi,hx,Result.andThen]
def rD (x:SW):mG:=(x.1.val,ir x.2.1.1 64 x.2.1.2,x.2.2)
theorem JR:∀ (D:List mG),(∀ q ∈ D,∃ x,rD x=q)->∃ ds:List SW,D=ds.map rD:=by
 intro D
 induction D with
 | nil=>exact λ_=>⟨[],rfl⟩
 | cons q D ih=>intro h;obtain⟨x,b⟩:=h q sm;obtain⟨ds,a⟩:=ih (λy c=>h y (by simp[c]));exact⟨x::ds,by rw[a,bt,b]⟩
section
variable {w0 wr w':World}{p t m num mg eg mb b n n0 N2:Nat}{gs:Nat->Nat}{key:iz}{Ls:List iz}{Tx:List (Int×Value)}{L:iz}{Cs:List mG}
theorem lS.kx (S:lS w0 wr p t m num mg eg mb b n N2 gs key Ls Tx L Cs) (hB:Bk w0 b n0){v m0:Nat}{L0:iz}{ks:List (Nat×iz)}{kh:Bool}(h:kF w0 v m0 L0 ks kh):kF wr v m0 L0 ks kh:=h.dB (λg cs ty a hg=>by rw[hg];exact S.lU hB hg (by rcases a with rfl|rfl|rfl|rfl<;>decide) (by rcases a with rfl|rfl|rfl|rfl<;>decide))
theorem lS.fix (S:lS w0 wr p t m num mg eg mb b n N2 gs key Ls Tx L Cs) (hB:Bk w0 b n0){v m0:Nat}{L0:iz}{ks:List (Nat×iz)}{kh:Bool}(h:kF w0 v m0 L0 ks kh){ys:List Value}(hF:mP w0 v ys):mP wr v ys:=by obtain⟨⟨cs,pv,h1,_⟩,_⟩:=h;exact hF.kept (λj _ _=>az (w:=w0) (a:=iu v j) ((S.lU hB h1 de de).trans h1.symm))
theorem lS.xI (S:lS w0 wr p t m num mg eg mb b n N2 gs key Ls Tx L Cs) (hc:aA (λg=>g=mb) wr w'){g:Nat}{cs:Array Value}{ty:TypeId}{k:Nat×Nat}(hg:wr.heap[g]?=some (.cells cs ty k)):w'.heap[g]?=some (.cells cs ty k):=by obtain⟨⟨es,c,a,_⟩,_⟩:=S.la.mp;rw[hc.block g (dC hg) (λe=>by rw[e,a] at hg;cases hg),hg]
theorem lS.JS (S:lS w0 wr p t m num mg eg mb b n N2 gs key Ls Tx L Cs) (hc:kf (uJ wr t gs) b wr w'){g:Nat}{cs:Array Value}{ty:TypeId}{k:Nat×Nat}(hg:wr.heap[g]?=some (.cells cs ty k)) (h0:ty≠179) (h1:ty≠223) (h2:ty≠145):w'.heap[g]?=some (.cells cs ty k):=
 hc.at S.bk hg (by
  rintro (⟨j,hj,rfl⟩|e)
  ·obtain⟨M,_,d,_⟩:=S.tr.tree.level (k:=j) (by rw[S.l4];omega);rw[d] at hg;simp only[IJ] at hg;exact h0 hg.2.1.symm
  ·rcases S.tr.dep (.inr (.inr (.inr (.inr e)))) with ⟨_,e⟩|⟨_,_,e⟩|⟨_,e⟩|⟨_,_,_,_,e⟩|⟨_,es,c,e⟩
   all_goals first|(rw[hg] at e;cases e;done)|skip
   all_goals (
    obtain⟨f,_,h,⟨es,c,a,_⟩,_⟩:=S.tr.qI;rename_i i;simp only[h,ao,fL] at*
    subst_vars
    rw[hg] at a;cases a)) h1 h2
theorem lS.su (S:lS w0 wr p t m num mg eg mb b n N2 gs key Ls Tx L Cs) (hB:Bk w0 b n0){s:Nat}{tp:Option Addr}(h:kR w0 s none tp):kR wr s none tp:=S.lU hB h de de
end
theorem JT {w:World}{v t m num r d s b n N B0 q:Nat}{xs:List Value}{gH:ByteArray}{tp:Option Addr}{A M L:iz}{ks:List (Nat×iz)}{kh:Bool}{gs:Nat->Nat}{Ls:List iz}{Tx:List (Int×Value)}(h:kF w v m L ks kh) (hx:ou xs d s b gH A M) (hF:mP w v (mX xs t m num r)) (hs:kR w s none tp)
  (hT:lx w t b N gs M Ls Tx) (hbN:b<=N) (h4:Ls.length=4) (hM:lI w m L B0) (hB:Bk w b n) (hn:n<800000) (hnum:num<900000) (hq:q<=ks.length){pg pc pc':Nat}(hpv:w.cell? (iu v 110)=some (ir pg ks.length pc)):
  Calls prog 51 #[iq v,ir pg q pc'] w λe w'=>∃ t' m' ov gs' Ls' Tx' Cs n',e=.returned (.tuple #[.agg #[iq t',iq m',iw (num+1:Nat)],ov,iw 0])/\
   lx w' t' b w.heap.size gs' M Ls' Tx'/\Ls'.length=4/\lI w' m' (lh L (ks.take q)) w.heap.size/\nX A M Ls Tx ((ks.take q).map Prod.fst) (ks.take q) Ls' Tx' Cs/\(Cs.map λq=>(q.1:Int)).Nodup/\
   w'.ownsRow w.heap.size 142 2 ov Cs.length (ng (Cs.map λq=>(q.1,q.2.1)))/\(∀ q ∈ Cs,q.1<120/\q.2.2.length=64/\w'.ownsRow w.heap.size 5 1 q.2.1 64 (aQ q.2.2))/\n'<=n+5*q+1/\Bk w' b n'/\kf No b w w':=by
 obtain⟨p,hp⟩:=Ex w.heap.size;obtain⟨eg,gv⟩:=Ex (p+1);obtain⟨w1,ec⟩:=Ex ((w.alloc (.cells #[.pointer none,.pointer none,iw 0] 100)).alloc (.cells #[iw 0] 47));have b1:Below w.heap.size w w1:=by rw[ec];exact ((ag _ _).alloc (ae _) _).alloc sm _
 have x1:w1.heap[p]?=some (.cells #[.pointer none,.pointer none,iw 0] 100 (0,0)):=by rw[ec,hp];exact (aB _ _ _ sm).trans (aj w _)
 have y1:w1.heap[eg]?=some (.cells #[iw 0] 47 (0,0)):=by rw[ec,gv,hp];have h:=aj (w.alloc (.cells #[.pointer none,.pointer none,iw 0] 100)) (.cells #[iw 0] 47);simp only[aN] at h;exact h
 have bD:=LH h.mL;have hQ:b<w.heap.size:=by obtain⟨lv,hx⟩:=hB.box;exact dC hx
 obtain⟨bC,cb,cd,iR⟩:=hF.rest hx.len;have jf:=lq bC;have gb:=hT.after hbN b1;have fs:lI w1 m L B0:=hM.dB (λg _ _ _ _ hg=>b1.block g (dC hg));have cr:=hB.after b1;have E:=Dr w1
 have cU:∀ B,aA No w1 B->∀ j x,w.cell? (iu v j)=some x->B.cell? (iu v j)=some x:=λB hc j x hj=>by rw[hc.cell (p:=iu v j) (aH jf b1.size) id,b1.cell (p:=iu v j) jf];exact hj
 have hW:∀ g k c,w.cell? (iu t 1)=some (ir g k c)->g<w.heap.size:=λg k c e=>by
  rcases hT.dep (.inr (.inl ⟨k,c,e⟩)) with ⟨_,e⟩|⟨_,_,e⟩|⟨_,e⟩|⟨_,_,_,_,e⟩|⟨_,_,_,e⟩
  all_goals exact sJ e
 have je:=hT.tree.lt;refine G9 E cU hW b1 x1 y1 gb fs cr ?_;clear E cU hW b1 x1 y1 gb fs cr;intro E cU hW b1 x1 y1 gb fs cr;refine G9 bC cb cd hpv hT hM hF hs hx ?_;clear bC cb cd hpv hT hM hF hs hx;intro bC cb cd hpv hT hM hF hs hx;refine G4 h hB hbN hq ?_;clear h hB hbN hq;intro h hB hbN hq;clear iR;go_enter func51,ntmps51;go_wp2;rw[<-ec,<-hp,<-gv];replace ec:=LH ec;replace hp:=LH hp;replace gv:=LH gv;refine RA.rt (aA No) [1,1,1,1,1,3,1,1,1,1,1,3,1,1,1,1,1,1,1,7] [19] (λ_=>True) trivial (λ_=>aA.refl _ _) (λ_ _ _ h k=>h.trans k) (h:=?_);intro cx
 repeat refine RA.qq ?_
 refine RA.fk prog v 106 (h:=?_);refine RA.fk prog v 106 (h:=?_);refine RA.lk prog (iq t) (hc:=λB hp=>by exact cU.o _ (E.o _ hp.1) _ _ bC.o) (h:=?_)
 repeat refine RA.qq ?_
 refine RA.qc (P:=prog) [iq t] (λv B=>∃ t' gs' Ls',v=iq t'/\lx B t' b w.heap.size gs' M Ls' Tx/\Ls'.length=4/\Alike Ls' Ls/\∀ g k c,B.cell? (iu t' 1)=some (ir g k c)->g<w.heap.size) (hs:=λv a c hc h2=>by
  obtain⟨t',gs',Ls',e1,e2,e3,e4,e5⟩:=h2;refine⟨t',gs',Ls',e1,e2.after (cE hQ) hc.no,e3,e4,λg k cc e=>e5 g k cc ?_⟩;rw[hc.cell (p:=iu t' 1) e2.tree.lt id] at e;exact e) (hr:=λB hp hH=>by
  have hc:=E.o _ hp.1;have jq:=gb.o.after hbN.o hc.no;have jE:=am b1.o.size hc.size;refine (Jr jq om h4).mono ?_;rintro e w4 ⟨t',rfl,⟨gs',Ls',k1,k2,k3,k4⟩,k5⟩
  exact⟨_,rfl,aA.dD k5 _,⟨t',gs',Ls',rfl,k1.lower jE,k2,k3,λg k cc e=>hW.o g k cc (by have e2:=k4 g k cc e;rw[hc.cell (p:=iu t 1) (aH je b1.o.size) id,b1.o.cell (p:=iu t 1) je] at e2;exact e2)⟩,trivial⟩) (hn:=λu1=>?_)
 repeat refine RA.qq ?_
 refine RA.fk prog v 106 (h:=?_);refine RA.fk prog v 107 (h:=?_);refine RA.lk prog (iq m) (hc:=λB hp=>by exact cU.o _ (E.o _ hp.1) _ _ cb.o) (h:=?_)
 repeat refine RA.qq ?_
 refine RA.qc (P:=prog) [iq m] (λv B=>∃ m',v=iq m'/\lI B m' L w.heap.size) (hs:=λv a c hc h2=>by
  obtain⟨m',e1,e2⟩:=h2;exact⟨m',e1,e2.dB (λg _ _ _ _ hg=>hc.block g (dC hg) id)⟩) (hr:=(λB hp hH=>by
  have hc:=E.o _ hp.1;have jo:lI B m L B0:=fs.o.dB (λg _ _ _ _ hg=>hc.block g (dC hg) id);refine (Cq jo.at_).mono ?_;rintro e w4 ⟨m',rfl,k1,k2⟩;exact⟨_,rfl,aA.dD k2 _,⟨m',rfl,k1.lower (am b1.o.size hc.size)⟩,trivial⟩)) (hn:=λu2=>?_)
 repeat refine RA.qq ?_
 refine RA.fk prog v 106 (h:=?_);refine RA.fk prog v 108 (h:=?_);refine RA.lk prog (iw num) (hc:=λB hp=>by exact cU.o _ (E.o _ hp.1) _ _ cd.o) (h:=?_);refine RA.vw prog (iw (num+1:Nat)) (h:=?_)
 refine RA.vk prog (.agg #[u1,u2,iw (num+1:Nat)]) (hr:=λB hp=>by obtain⟨t',gs',Ls',rfl,_⟩:=hp.fact 1 rfl kr;obtain⟨m',rfl,_⟩:=hp.fact 0 rfl kr;clear hp;go_simp) (h:=?_)
 refine RA.lr (λV=>∃ t' gs' Ls' m',V.heap[p]?=some (.cells #[iq t',iq m',iw (num+1:Nat)] 100 (0,0))/\lx V t' b w.heap.size gs' M Ls' Tx/\Ls'.length=4/\Alike Ls' Ls/\(∀ g k c,V.cell? (iu t' 1)=some (ir g k c)->g<w.heap.size)/\lI V m' L w.heap.size/\aA (λg=>g=p) w1 V) (hr:=(λw4 cK hH=>by
  have hp:=cK.first kr;obtain⟨t',gs',Ls',rfl,e2,e3,e4,e5⟩:=hp.fact 1 rfl kr;obtain⟨m',rfl,f2⟩:=hp.fact 0 rfl kr;have hc:=E.o _ hp.1;have x4:=(hc.block p (dC x1.o) id).trans x1.o
  have bp:∀ {g:Nat}{cs:Array Value}{ty:TypeId}{m:Nat×Nat},w4.heap[g]?=some (.cells cs ty m)->ty≠100->g≠p:=λ{g cs ty m} hg jF=>by rintro rfl;rw[x4] at hg;simp only[IJ] at hg;exact jF hg.2.1.symm
  refine⟨w4.setRow p #[iq t',iq m',iw (num+1:Nat)],RA.kL rf rf (mf (P:=prog) (ty:=100) (x:=[iq t',iq m',iw (num+1:Nat)]) x4 kr rfl (by simp[Value.oneCell'])),t',gs',Ls',m',aJ _ _ _ _ _ _ x4,?_,e3,e4,?_,?_,(hc.mono (λ_ _ h=>h.elim)).setRow (g:=p) (C:=λg=>g=p) (λ_=>rfl) _⟩
  ·refine e2.exact (λg hg=>aG _ _ _ _ ?_);rcases e2.dep hg with ⟨_,e⟩|⟨_,_,e⟩|⟨_,e⟩|⟨_,_,_,_,e⟩|⟨_,_,_,e⟩
   ·exact bp e de
   ·exact bp e de
   ·exact bp e de
   ·exact bp e de
   ·rintro rfl;rw[x4] at e;cases e
  ·intro g k c e;obtain⟨ct,ht⟩:=e2.box;rw[az (w:=w4) (a:=iu t' 1) (aG _ _ _ _ (bp ht de))] at e;exact e5 g k c e
  ·refine f2.exact (λg hg=>aG _ _ _ _ ?_);rcases f2.dep hg with ⟨_,e⟩|⟨_,_,_,e⟩
   ·exact bp e de
   ·exact bp e de)) (hn:=?_)
 refine RA.RA.kZ (λV hH=>?_);simp only[RA.RP,cx];obtain⟨t',gs',Ls',m',z1,z2,z3,z4,z5,z6,z7⟩:=hH;have b5:Below w.heap.size w V:=b1.o.trans (z7.below b1.o.size (λg hg e=>by have:=hp.o;omega))
 have B5:Bk V b n:=cr.o.dB (λg hg _=>z7.block g (hg.lt cr.o) (by rintro rfl;exact kn.type cr.o x1.o de de hg))
 have y5:=(z7.block eg (dC y1.o) (by have:=gv.o;omega)).trans y1.o;obtain⟨mb,cA⟩:=Ex V.heap.size;obtain⟨mg,e8⟩:=Ex (mb+1);obtain⟨w6,ed⟩:=Ex ((V.alloc (.map #[] 0)).alloc (.cells #[.map (some mb)] 155));have b6:Below V.heap.size V w6:=by rw[ed];exact ((ag _ _).alloc (ae _) _).alloc sm _
 have x6:w6.heap[mg]?=some (.cells #[.map (some mb)] 155 (0,0)):=by rw[ed,e8,cA];have h:=aj (V.alloc (.map #[] 0)) (.cells #[.map (some V.heap.size)] 155);simp only[aN] at h;exact h
 have m6:k9 w6 mb []:=by
  refine (yM V).dB ?_ |> λh=>cA ▸ h
  rw[ed];exact aB _ _ _ sm
 have S6:lS w w6 p t' m' (num+1) mg eg mb b n mb gs' M Ls' Tx L []:=by
  refine⟨(b6.block p (dC z1)).trans z1,z2.after (cE hQ) b6,z3,z6.dB (λg _ _ _ _ hg=>b6.block g (dC hg)),⟨x6,(b6.block eg (dC y5)).trans y5,m6,λq hq=>by simp at hq,by omega,ae _⟩,B5.after b6,(kf.dD b5).trans (kf.dD b6),⟨by have:=b5.size;omega,by have:=b6.size;omega⟩,hQ,λg k c e=>?_,λg k c e=>?_,?_⟩
  ·rw[b6.cell (p:=iu t' 1) z2.tree.lt] at e;exact z5 g k c e
  ·obtain⟨cm,jv⟩:=z6.box;rw[b6.cell (p:=iu m' 1) (dC jv)] at e;rcases z6.dep (.inr ⟨k,c,e⟩) with ⟨_,e⟩|⟨_,_,_,e⟩
   ·have:=dC e;omega
   ·have:=dC e;omega
  ·rw[b6.cell (p:=iu t' 3) z2.tree.lt];intro e;rcases z2.dep (.inr (.inr (.inr (.inr e)))) with ⟨_,e⟩|⟨_,_,e⟩|⟨_,e⟩|⟨_,_,_,_,e⟩|⟨_,_,_,e⟩
   all_goals (have:=sJ e;omega)
 have F6:nX A M Ls Tx ((ks.take q).map Prod.fst) [] Ls' Tx []:=nX.start z4 om;replace S6:=LH S6;replace F6:=LH F6;have hX:=@fK prog;clear z1 z2 z3 z4 z5 z6 z7 b5 b6 B5 y5 x6 m6 gb fs cr x1 y1 b1 cU E bC cb cd;subst e8 cA;go_wp2;rw[<-ed];replace ed:=LH ed;clear hX;obtain⟨mb,cA⟩:=Ex V.heap.size;rw[<-cA] at S6 ⊢;obtain⟨mg,e8⟩:=Ex (mb+1);rw[<-e8] at S6 ⊢;replace cA:=LH cA;replace e8:=LH e8;obtain⟨all,an⟩:=Ex ((ks.take q).map Prod.fst);rw[<-an] at F6;replace an:=LH an;obtain⟨c,hc⟩:=Ex xs.toArray;replace hc:=LH hc
 have bW:=λ(wr:World) (n':Nat) (b3:Nat->Nat) (T:List iz) (W:List (Int×Value)) (L2:iz) (e7:List mG) (S:lS w wr p t' m' (num+1) mg eg mb b n' mb b3 M T W L2 e7)=>(show kF wr v m L ks kh/\mP wr v (mX xs t m num r)/\kR wr s none tp/\wr.cell? (iu v 110)=some (ir pg ks.length pc) from ⟨S.kx hB.o h.o,S.fix hB.o h.o hF.o,S.su hB.o hs.o,by obtain⟨⟨cs,pv,h1,_⟩,_⟩:=h.o;exact (az (w:=w) (a:=iu v 110) ((S.lU hB.o h1 de de).trans h1.symm)).trans hpv.o⟩)
 replace bW:=LH bW
 go_loopg [40] q (λg ix wr=>∃ (j:Nat) (b3:Nat->Nat) (T:List iz) (W:List (Int×Value)) (e7:List mG) (n2:Nat),j+g=q/\ix=iw j/\n2<=n+5*j/\Hd (lS w wr p t' m' (num+1) mg eg mb b n2 mb b3 M T W (lh L (ks.take j)) e7)/\Hd (nX A M Ls Tx all (ks.take j) T W e7))
 case atStart=>exact⟨0,_,_,_,_,n,by omega,rfl,by omega,S6.o,F6.o⟩
 case round=>
  clear S6 F6;obtain⟨j,b3,T,W,e7,n2,jy,rfl,jU,S,F⟩:=hrel;by_cases ha:j<q
  ·obtain⟨g1,rfl⟩:∃ i,gk=i+1:=⟨gk - 1,by omega⟩;have iN:(j:Int)<q:=om;have h7:j<ks.length:=by have:=hq.o;omega
   have hS:j<1000:=by have:=bD.o;omega
   obtain⟨wo,rfl⟩:=Ex (wr:World);obtain⟨k,hk⟩:∃ k,ks[j]?=some k:=⟨ks[j],av h7⟩;obtain⟨hV,iI,iK,bz⟩:=bW.o wo _ _ _ _ _ _ S.o;obtain⟨pa,jJ,cf,ck⟩:=hV.kC;obtain⟨jK,ug,uc,rfl,j9,c0,c1,da,hU⟩:=ck j k hk;rw[cf] at bz;simp only[IJ] at bz;obtain⟨⟨rfl,_⟩,_,_⟩:=bz;obtain⟨KN,X⟩:=Ex k.1;rw[<-X] at c0;have cX:KN<50:=by rw[X];exact hV.pl k (aZ hk)
   obtain⟨w7,bB⟩:=Ex (wo.alloc (.cells #[iw KN,ir ug 64 uc] 111));obtain⟨p7,c8⟩:=Ex wo.heap.size;have b7:Below wo.heap.size wo w7:=by rw[bB];exact (ag _ _).alloc (ae _) _
   have x7:w7.heap[p7]?=some (.cells #[iw KN,ir ug 64 uc] 111 (0,0)):=by rw[bB,c8];exact aj wo _
   have S7:=S.o.below b7;obtain⟨gf,R,J,_⟩:=bW.o w7 _ _ _ _ _ _ S7;have cj:Bytes w7 (λ_=>True) (ir ug 64 uc) k.2:=Cells.dB hU b7.size (λg _ hg=>b7.block g hg);refine G8 S7 R J cj x7 b7 hk X ?_;clear S7 R J cj x7 b7 hk X;intro S7 R J cj x7 b7 hk X;replace S:=LH (LH S.o);clear hV iI iK ck cf hU gf;obtain⟨Y,hY⟩:=Ex (60+KN);have jt:(60:Int)+KN=Y:=om;have iL:Y<110:=om;have hf:k.2++List.replicate (64 - k.2.length) 0=k.2:=by rw[da];simp
   replace hY:=LH hY;replace hf:=LH hf;have E:∀ B,RT 142 w7.heap.size w7.drew B->RT 142 w7.heap.size w7 B:=λB h=>⟨h.os,h.tape,h.output,h.size,h.lU,h.other,h.box⟩
   have G:∀ B,RT 142 w7.heap.size w7 B->mP B v (mX xs t m num r)/\kR B s none tp/\B.heap[p7]?=some (.cells #[iw KN,ir ug 64 uc] 111 (0,0))/\Bytes B (λ_=>True) (ir ug 64 uc) k.2:=λB hr=>by have hb:=hr.below rfl;exact⟨R.o.after hb,(hb.block s (dC J.o)).trans J.o,(hb.block p7 (dC x7.o)).trans x7.o,Cells.dB cj.o hb.size (λg _ hg=>hb.block g hg)⟩
   replace E:=LH E;replace G:=LH G;obtain⟨Z,hZ⟩:=Ex (nw A Y k.2);have iW:Z.length=64:=by rw[hZ,rj (by rw[da])];exact da
   replace hZ:=LH hZ;go_wp2;rw[<-bB,<-c8];replace bB:=LH bB;replace c8:=LH c8;refine RA.region (RT 142 w7.heap.size) (aA No) [1,1,1,1,1,1,1,1,1,1,1,1,1,1,1,3,1,1,1,2,4,1] (λ_ v B=>∃ q7,v=iq q7/\w7.heap.size<=q7/\∃ C,C.size=2/\B.heap[q7]?=some (.cells C 142 (0,0))) (λ_=>True) kr RT.refl (λ_ _ h=>RT.mh h) (λ_ _ _ h k=>h.trans k) (λ_ _ h k=>trivial) trivial kr ?_;intro cx
   repeat refine RA.qq ?_
   refine RA.fk prog v 0 (h:=?_);refine RA.ld (y':=.agg xs.toArray) (hr:=λB hp=>(G.o _ (E.o _ hp.1)).1.load hx.o.len) (h:=?_)
   repeat refine RA.qq ?_
   refine RA.fk prog v 0 (h:=?_);refine RA.fk prog v 104 (h:=?_);refine RA.fk prog v 104 (h:=?_);refine RA.lk prog (iw 60) (hc:=λB hp=>by exact (G.o _ (E.o _ hp.1)).1.base hx.o.len hx.o.tt) (h:=?_);refine RA.fk prog p7 0 (h:=?_);refine RA.lk prog (iw KN) (hc:=λB hp=>by exact cell_of (G.o _ (E.o _ hp.1)).2.2.1 0) (h:=?_);refine RA.vw prog (iw Y) (h:=?_);refine RA.fk prog p7 1 (h:=?_);refine RA.lk prog (ir ug 64 uc) (hc:=λB hp=>by exact cell_of (G.o _ (E.o _ hp.1)).2.2.1 1) (h:=?_)
   refine RA.qc (P:=prog) [.agg xs.toArray,iw Y,ir ug 64 uc] (λv B=>∃ z,v=.tuple #[.agg #[iw Y,z],iw 0]/\B.ownsRow mb 5 1 z 64 (aQ Z)) (hs:=λv a b h h2=>by
    obtain⟨z,k1,k3⟩:=h2;exact⟨z,k1,h.own k3 de⟩) (hr:=λB hp hH=>by
    have hc:=E.o _ hp.1;obtain⟨_,cT,_,jz⟩:=G.o _ hc;have jd:=vI hx.o cT Y om jz om;rw[hf.o,<-hZ.o] at jd;refine jd.mono ?_;rintro e w4 ⟨z,rfl,k3,k4⟩;exact⟨_,rfl,RT.mh (aA.dD k4 _),⟨z,rfl,kU k3 (by have:=S7.o.n2.2;have:=hc.size;omega)⟩,trivial⟩) (hn:=λu=>?_)
   repeat refine RA.qq ?_
   refine RA.vk prog (kW u 0) (hr:=λB hp=>by obtain⟨z,rfl,_⟩:=hp.fact 0 rfl kr;clear hp;go_simp;rfl) (h:=?_)
   refine RA.vk prog (kW u 1) (hr:=λB hp=>by obtain⟨z,rfl,_⟩:=hp.fact 0 rfl kr;clear hp;go_simp;rfl) (h:=?_)
   refine RA.fr (hs:=λv x y hr hk=>by
    obtain⟨p,h1,h2,C,h3,h4⟩:=hk;obtain⟨C',h5,h6⟩:=hr.box _ _ _ h4;exact⟨p,h1,h2,C',h5.trans h3,h6⟩) (hr:=λw4 hp=>⟨iq w4.heap.size,w4.alloc (.cells #[iw 0,.slice none 0 0] 142),by
    show (execOp _ _).run prog w4=_;go_simp,(aA.refl _ _).alloc _,w4.heap.size,rfl,(E.o _ hp.1).size,_,rfl,aj w4 _⟩) (h:=λu3=>?_)
   refine RA.st (λV=>∃ zg zc q7,u=.tuple #[.agg #[iw Y,ir zg 64 zc],iw 0]/\u3=iq q7/\w7.heap.size<=q7/\V.ownsRow mb 5 1 (ir zg 64 zc) 64 (aQ Z)/\V.heap[q7]?=some (.cells #[iw Y,ir zg 64 zc] 142 (0,0))) (he:=λ_ _ hc hk=>by
    obtain⟨zg,zc,q7,e1,e2,e3,e4,e5⟩:=hk;exact⟨zg,zc,q7,e1,e2,e3,dE e4 (λg hg=>hc.block g (kt e4 g hg) id),(hc.block q7 (dC e5) id).trans e5⟩) (hr:=λw4 hp hH=>by
    obtain⟨q7,rfl,e3,C,iS,x4⟩:=hp.fact 0 rfl kr;obtain⟨z,rfl,k3⟩:=hp.fact 1 rfl kr;obtain⟨vg,vc,rfl,_⟩:=kz k3 om
    exact⟨w4.setRow q7 #[iw Y,ir vg 64 vc],RA.kL rf rf (mf (P:=prog) (ty:=142) (x:=[iw Y,ir vg 64 vc]) x4 kr iS (by simp[Value.oneCell'])),RT.refl.store e3 x4 iS.symm,_,_,q7,rfl,rfl,e3,dE k3 (λg hg=>aG _ _ _ _ (by rintro rfl;exact o6 k3 x4 de hg)),aJ _ _ _ _ _ _ x4⟩) (hn:=?_)
   repeat refine RA.qq ?_
   refine RA.RA.done rfl (λw8 hR hF hH=>?_);clear hF;simp only[RA.RP,cx];have b8:=(E.o _ hR).below rfl;clear hR;obtain⟨zg,zc,q7,rfl,rfl,jV,cV,x8⟩:=hH;simp only[kW,TP];have S8:=S7.o.below b8;have cz:=xH S8.la Y om iW cV;have h9:=mE (P:=prog) (w:=w8) (g:=q7) (off:=0) (ty:=142) (x:=[iw Y,ir zg 64 zc]) underlying142 kr (λj v hv=>by rw[aw,cell_of x8];simpa using hv);have hE:=(b8.block p7 (dC x7.o)).trans x7.o;refine G6 cz h9 S8 x8 hE cV ?_;clear cz h9 S8 x8 hE cV;intro cz h9 S8 x8 hE cV;clear b8 S7 G E R J cj x7
   go_wp2_with (first|(refine kQ rfl 142 _ rfl _ _ rfl h9.o ?_)|fail)
   refine cz.o.mono ?_;rintro e w9 ⟨rfl,iU,fi⟩;have S9:=S8.o.put iU fi;have x9:=S8.o.xI fi x8.o;have y9:=S8.o.xI fi hE.o
   have z9:w9.ownsRow mb 5 1 (ir zg 64 zc) 64 (aQ Z):=dE cV.o (λg hg=>by obtain⟨cur,hc⟩:=kA cV.o hg;exact (S8.o.xI fi hc).trans hc.symm)
   have e6:=JA S9.tr (cE hQ) S9.l4 S9.bk (by have:=bD.o;omega) KN cX (xl:=Z) (by rw[iW];exact z9) om;have d0:=cell_of S9.st 0;have d1:=cell_of y9 0;have d2:=cell_of x9 1;replace e6:=LH e6;replace S9:=LH S9;replace y9:=LH y9;clear iU fi S8 cz h9 x8 hE cV x9 z9
   go_wp2_with fail
   refine e6.o.mono ?_;rintro e a6 ⟨rfl,iQ,n3,k1,k2,k3,k4,k5⟩;have Q:=S9.o.set k1 (by rw[k2.1];exact S9.o.l4) k4 k5;have jM:=S9.o.JS k5 y9.o de de de;have ib:=Cp Q.mr KN cX;have d0:=cell_of Q.st 1;have d1:=cell_of jM 0;have iO:ks.take (j+1)=ks.take j++[k]:=by rw[bP h7];have h8:=hk.o;rw[av h7] at h8;rw[aF h8]
   have a7:nX A M Ls Tx all (ks.take (j+1)) iQ (lZ W KN (.bool true)) (pE e7 (Y,ir zg 64 zc,Z)):=by
    rw[iO];have iV:Z=nw A (60+k.1) k.2:=by rw[hZ.o,hY.o,X.o]
    have js:Y=60+k.1:=by rw[hY.o,X.o]
    have jI:tC k.1 (qo M k.1 (nw A (60+k.1) k.2)) T iQ:=by rw[<-iV,<-X.o];exact k2
    rw[iV,js,X.o];refine F.o.step (λL hL=>?_) (by rw[<-X.o];exact cX) (by rw[an.o];exact aO.2 ⟨k,aZ (i:=j) (by rw[aU,ak ha];exact hk.o),rfl⟩) ?_
    ·obtain⟨L',e1,_,e2⟩:=S9.o.tr.tree.level (k:=0) (by rw[S9.o.l4];omega);rw[hL] at e1;obtain rfl:=aF e1;exact e2
    ·exact jI
   replace a7:=LH a7;replace ib:=LH ib;replace Q:=LH Q;clear k1 k2 k4 k5 S9 e6 y9
   go_wp2_with fail
   refine ib.o.mono ?_;rintro e ad ⟨x,rfl,j1,j2,j3,j4,j5⟩;have hJ:=Q.o.mark j1 j2 j3 j4 j5;have jg:lh L (ks.take (j+1))=qj (lh L (ks.take j)) KN:=by rw[iO,JK,X.o]
   rw[<-jg] at hJ;replace hJ:=LH hJ;clear j1 j2 j4 j5 Q ib jg iO;go_wp2;go_roundg g1
   case measure=>omega
   case rel=>exact⟨j+1,_,_,_,_,n3,by omega,by go_num,by omega,hJ.o,a7.o⟩
  ·obtain rfl:gk=0:=om;obtain rfl:j=q:=om;have iN:¬ (j:Int)<j:=om;clear ha jy;go_wp2
   go_loopg [82] j (λg ix wr=>∃ (i:Nat) (en:List mG),i+g=j/\ix=iw i/\Hd (lS w wr p t' m' (num+1) mg eg mb b n2 mb b3 M T W (lh L (ks.take j)) en)/\Hd (nX A M Ls Tx all (ks.take j) T W en))
   case atStart=>exact⟨0,_,by omega,rfl,S.o,F.o⟩
   case round=>
    clear S F;obtain⟨i,en,jx,rfl,S,F⟩:=hrel;by_cases ha:i<j
    ·obtain⟨g1,rfl⟩:∃ i,gk=i+1:=⟨gk - 1,by omega⟩;have iN:(i:Int)<j:=om;have h7:i<ks.length:=by have:=hq.o;omega
     have hS:i<1000:=by have:=bD.o;omega
     obtain⟨wo,rfl⟩:=Ex (wr:World);obtain⟨k,hk⟩:∃ k,ks[i]?=some k:=⟨ks[i],av h7⟩;obtain⟨hV,iI,iK,bz⟩:=bW.o wo _ _ _ _ _ _ S.o;obtain⟨pa,jJ,cf,ck⟩:=hV.kC;obtain⟨jK,ug,uc,rfl,j9,c0,c1,da,hU⟩:=ck i k hk;rw[cf] at bz;simp only[IJ] at bz;obtain⟨⟨rfl,_⟩,_,_⟩:=bz;obtain⟨KN,X⟩:=Ex k.1;rw[<-X] at c0;have cX:KN<50:=by rw[X];exact hV.pl k (aZ hk)
     have bl:∀ x:Nat,(x=10+KN / 4\/x=23)->(x:Int) ∈ nG (ni all):=λx hx=>zq _ _ (.inr ⟨KN,by rw[an.o,X];exact aO.2 ⟨k,aZ (i:=i) (by rw[aU,ak ha];exact hk),rfl⟩,by
      rcases hx with rfl|rfl
      ·exact .inr (.inl rfl)
      ·exact .inr (.inr rfl)⟩)
     obtain⟨w7,bB⟩:=Ex (wo.alloc (.cells #[iw KN,ir ug 64 uc] 111));obtain⟨p7,c8⟩:=Ex wo.heap.size;have b7:Below wo.heap.size wo w7:=by rw[bB];exact (ag _ _).alloc (ae _) _
     have x7:w7.heap[p7]?=some (.cells #[iw KN,ir ug 64 uc] 111 (0,0)):=by rw[bB,c8];exact aj wo _
     have S7:=S.o.below b7;obtain⟨gf,R,J,_⟩:=bW.o w7 _ _ _ _ _ _ S7;refine G8 S7 R J x7 b7 hk X bl ?_;clear S7 R J x7 b7 hk X bl;intro S7 R J x7 b7 hk X bl;replace S:=LH (LH S.o);clear hV iI iK ck cf hU gf;obtain⟨K4,iJ⟩:=Ex (KN / 4);have jN:(KN:Int).tdiv 4=K4:=by rw[el om];omega
     have jn:(KN:Int).tdiv 512=0:=by rw[el om];omega
     have jO:K4<=12:=om;obtain⟨Y,hY⟩:=Ex (10+K4);have jt:(10:Int)+K4=Y:=om;have iL:Y<23:=om;have jS:IntKind.i64.wrap (K4:Int)=K4:=by rw[bO];omega
     have jR:IntKind.i64.wrap 0=0:=by rw[bO];omega
     replace iJ:=LH iJ;replace hY:=LH hY;have E:=Dr w7
     have G:∀ B,aA No w7 B->mP B v (mX xs t m num r)/\kR B s none tp/\B.heap[p7]?=some (.cells #[iw KN,ir ug 64 uc] 111 (0,0))/\lS w B p t' m' (num+1) mg eg mb b n2 mb b3 M T W (lh L (ks.take j)) en:=λB hr=>by have hb:=hr.no;exact⟨R.o.after hb,(hb.block s (dC J.o)).trans J.o,(hb.block p7 (dC x7.o)).trans x7.o,S7.o.below hb⟩
     replace E:=LH E;replace G:=LH G;go_wp2;rw[<-bB,<-c8];replace bB:=LH bB;replace c8:=LH c8;refine RA.rt (aA No) [1,1,1,1,1,1,1,1,1,1,1,1,1,1,1,1,1,1,1,1,3,3,1,1,6] [24] (λ_=>True) trivial (λ_=>aA.refl _ _) (λ_ _ _ h k=>h.trans k) (h:=?_);intro cx
     repeat refine RA.qq ?_
     refine RA.fk prog v 0 (h:=?_);refine RA.ld (y':=.agg xs.toArray) (hr:=λB hp=>(G.o _ (E.o _ hp.1)).1.load hx.o.len) (h:=?_)
     repeat refine RA.qq ?_
     refine RA.fk prog v 0 (h:=?_);refine RA.fk prog v 102 (h:=?_);refine RA.fk prog v 102 (h:=?_);refine RA.lk prog (iw 10) (hc:=λB hp=>by exact (G.o _ (E.o _ hp.1)).1.base hx.o.len hx.o.uw) (h:=?_);refine RA.fk prog p7 0 (h:=?_);refine RA.lk prog (iw KN) (hc:=λB hp=>by exact cell_of (G.o _ (E.o _ hp.1)).2.2.1 0) (h:=?_);refine RA.vk prog (iw K4) (h:=?_);refine RA.vw prog (iw Y) (h:=?_);refine RA.fk prog p 0 (h:=?_);refine RA.lk prog (iq t') (hc:=λB hp=>by exact cell_of (G.o _ (E.o _ hp.1)).2.2.2.st 0) (h:=?_);refine RA.fk prog p7 0 (h:=?_);refine RA.lk prog (iw KN) (hc:=λB hp=>by exact cell_of (G.o _ (E.o _ hp.1)).2.2.1 0) (h:=?_);refine RA.vk prog (iw K4) (h:=?_)
     refine RA.qc (P:=prog) [iq t',iw K4] (λv B=>∃ l:iz,l.length=64/\Bytes B (λ_=>True) v l) (hs:=λv a b h h2=>by
      obtain⟨l,k1,k2⟩:=h2;exact⟨l,k1,k2.ki h (λ_ _ _=>id)⟩) (hr:=λB hp hH=>by
      have H:=(G.o _ (E.o _ hp.1)).2.2.2;refine (Cc H.tr.tree (by rw[H.l4];omega) K4 om).mono ?_;rintro e w4 ⟨v,rfl,k1,k2⟩;refine⟨v,rfl,aA.dD k2 _,⟨rW ((T.getD 0 []).take (kp (0:Nat)*16)) (4*K4) 4,xt,?_⟩,trivial⟩;have h8:=(Cells.own k1).mono (S':=λ_=>True) (λ_ _ _=>trivial);show Cells w4 _ _ (List.length _) 1 _;rw[xt];exact h8) (hn:=λu=>?_)
     refine RA.qc (P:=prog) [.agg xs.toArray,iw Y,u] (λv B=>∃ z Z,v=.tuple #[.agg #[iw Y,z],iw 0]/\List.length Z=64/\B.ownsRow mb 5 1 z 64 (aQ Z)) (hs:=λv a b h h2=>by
      obtain⟨z,Z,k1,k2,k3⟩:=h2;exact⟨z,Z,k1,k2,dE k3 (λg hg=>h.block g (kt k3 g hg) id)⟩) (hr:=λB hp hH=>by
      obtain⟨_,cT,_,H⟩:=G.o _ (E.o _ hp.1);obtain⟨l,k1,k2⟩:=hp.fact 0 rfl kr;refine (vI hx.o cT Y om k2 om).mono ?_;rintro e w4 ⟨v,rfl,k3,k4⟩;exact⟨_,rfl,aA.dD k4 _,⟨v,_,rfl,by rw[rj (by rw[oP om])];exact oP om,kU k3 H.n2.2⟩,trivial⟩) (hn:=λz=>?_)
     refine RA.vk prog (kW z 0) (hr:=λB hp=>by obtain⟨v,Z,rfl,_⟩:=hp.fact 0 rfl kr;clear hp;go_simp;rfl) (h:=?_)
     refine RA.vk prog (kW z 1) (hr:=λB hp=>by obtain⟨v,Z,rfl,_⟩:=hp.fact 0 rfl kr;clear hp;go_simp;rfl) (h:=?_)
     refine RA.vK (P:=prog) (f:=79) [iq mg,iq eg] [kW z 0,kW z 1] (λ_ w4=>∃ hI,lS w w4 p t' m' (num+1) mg eg mb b n2 mb b3 M T W (lh L (ks.take j)) hI/\nX A M Ls Tx all (ks.take j) T W hI/\w4.heap[p7]?=some (.cells #[iw KN,ir ug 64 uc] 111 (0,0))) (λ_ _=>by go_simp) kr rf rf rf kr (λ_ _ _ h k=>h ▸ k) rfl (λB cK hH=>by have hp:=cK.first kr;obtain⟨_,_,jh,H⟩:=G.o _ (E.o _ hp.1);obtain⟨v,Z,rfl,k2,k3⟩:=hp.fact 0 rfl kr;refine (xH H.la Y om k2 k3).mono ?_;rintro e w4 ⟨rfl,j1,j2⟩;exact⟨_,rfl,_,H.put j1 j2,F.o.low (q:=(Y,v,Z)) (by show Y<25;omega) (bl.o Y (.inl (by rw[hY.o,iJ.o]))),H.xI j2 jh⟩) (λr0=>?_)
     refine RA.RA.kZ (λw8 hH=>?_);simp only[RA.RP,cx];obtain⟨hI,S8,F8,x8⟩:=hH;obtain⟨jr,iC,fz,_⟩:=bW.o w8 _ _ _ _ _ _ S8;have U:=Dr w8
     have b4:∀ B,aA No w8 B->mP B v (mX xs t m num r)/\kR B s none tp/\B.heap[p7]?=some (.cells #[iw KN,ir ug 64 uc] 111 (0,0))/\lS w B p t' m' (num+1) mg eg mb b n2 mb b3 M T W (lh L (ks.take j)) hI:=λB hr=>by have hb:=hr.no;exact⟨iC.after hb,(hb.block s (dC fz)).trans fz,(hb.block p7 (dC x8)).trans x8,S8.below hb⟩
     have hK:=λB=>xk hx.o B
     refine G4 hK U b4 F8 ?_;clear hK U b4 F8;intro hK U b4 F8;clear S8 x8 jr iC fz G E S7 R J x7 b7 F;go_wp2;refine RA.rt (aA No) [1,1,1,1,1,1,1,1,1,4,1,1,1,1,1,1,1,1,1,3,3,1,1,6] [23] (λ_=>True) trivial (λ_=>aA.refl _ _) (λ_ _ _ h k=>h.trans k) (h:=?_);intro cx
     repeat refine RA.qq ?_
     refine RA.fk prog v 0 (h:=?_);refine RA.ld (y':=.agg xs.toArray) (hr:=λB hp=>(b4.o _ (U.o _ hp.1)).1.load hx.o.len) (h:=?_)
     repeat refine RA.qq ?_
     refine RA.fk prog v 0 (h:=?_);refine RA.ld (y':=.agg xs.toArray) (hr:=λB hp=>(b4.o _ (U.o _ hp.1)).1.load hx.o.len) (h:=?_);refine RA.kc (P:=prog) [.agg xs.toArray] (iw 23) (hr:=λB hp hH=>(hK.o B).mono (by rintro e w4 ⟨rfl,h2⟩;exact⟨rfl,aA.dD h2 _,trivial⟩)) (hn:=?_);refine RA.fk prog p7 0 (h:=?_);refine RA.lk prog (iw KN) (hc:=λB hp=>by exact cell_of (b4.o _ (U.o _ hp.1)).2.2.1 0) (h:=?_);refine RA.vk prog (iw 0) (h:=?_);refine RA.vk prog (iw 23) (hr:=λw hp=>by (try go_simp);rfl) (h:=?_);refine RA.fk prog p 1 (h:=?_);refine RA.lk prog (iq m') (hc:=λB hp=>by exact cell_of (b4.o _ (U.o _ hp.1)).2.2.2.st 1) (h:=?_);refine RA.fk prog p7 0 (h:=?_);refine RA.lk prog (iw KN) (hc:=λB hp=>by exact cell_of (b4.o _ (U.o _ hp.1)).2.2.1 0) (h:=?_);refine RA.vk prog (iw 0) (h:=?_)
     refine RA.qc (P:=prog) [iq m',iw 0] (λv B=>Bytes B (λ_=>True) v (lh L (ks.take j))) (hs:=λv a b h h2=>h2.ki h (λ_ _ _=>id)) (hr:=λB hp hH=>by refine (Cd (b4.o _ (U.o _ hp.1)).2.2.2.mr.at_).mono ?_;rintro e w4 ⟨v,rfl,k1,k2⟩;exact⟨v,rfl,aA.dD k2 _,k1,trivial⟩) (hn:=λu=>?_)
     refine RA.qc (P:=prog) [.agg xs.toArray,iw 23,u] (λv B=>∃ z Z,v=.tuple #[.agg #[iw 23,z],iw 0]/\List.length Z=64/\B.ownsRow mb 5 1 z 64 (aQ Z)) (hs:=λv a b h h2=>by
      obtain⟨z,Z,k1,k2,k3⟩:=h2;exact⟨z,Z,k1,k2,dE k3 (λg hg=>h.block g (kt k3 g hg) id)⟩) (hr:=λB hp hH=>by
      obtain⟨_,cT,_,H⟩:=b4.o _ (U.o _ hp.1);have k2:=(show Bytes B (λ_=>True) u (lh L (ks.take j)) from hp.fact 0 rfl kr);have jT:=H.mr.at_.len;refine (vI hx.o cT 23 om k2 om).mono ?_;rintro e w4 ⟨v,rfl,k3,k4⟩;exact⟨_,rfl,aA.dD k4 _,⟨v,_,rfl,by rw[rj (by rw[oP om])];exact oP om,kU k3 H.n2.2⟩,trivial⟩) (hn:=λz=>?_)
     refine RA.vk prog (kW z 0) (hr:=λB hp=>by obtain⟨v,Z,rfl,_⟩:=hp.fact 0 rfl kr;clear hp;go_simp;rfl) (h:=?_)
     refine RA.vk prog (kW z 1) (hr:=λB hp=>by obtain⟨v,Z,rfl,_⟩:=hp.fact 0 rfl kr;clear hp;go_simp;rfl) (h:=?_)
     refine RA.vK (P:=prog) (f:=79) [iq mg,iq eg] [kW z 0,kW z 1] (λ_ w4=>∃ iD,lS w w4 p t' m' (num+1) mg eg mb b n2 mb b3 M T W (lh L (ks.take j)) iD/\nX A M Ls Tx all (ks.take j) T W iD) (λ_ _=>by go_simp) kr rf rf rf kr (λ_ _ _ h k=>h ▸ k) rfl (λB cK hH=>by have hp:=cK.first kr;obtain⟨_,_,jh,H⟩:=b4.o _ (U.o _ hp.1);obtain⟨v,Z,rfl,k2,k3⟩:=hp.fact 0 rfl kr;refine (xH H.la 23 om k2 k3).mono ?_;rintro e w4 ⟨rfl,j1,j2⟩;exact⟨_,rfl,_,H.put j1 j2,F8.o.low (q:=(23,v,Z)) (by show 23<25;omega) (bl.o 23 (.inr rfl))⟩) (λr0=>?_)
     refine RA.RA.kZ (λw9 hH=>?_);simp only[RA.RP,cx];obtain⟨iD,S9,F9⟩:=hH;replace S9:=LH S9;replace F9:=LH F9;clear b4 U F8;go_wp2;go_roundg g1
     case measure=>omega
     case rel=>exact⟨i+1,_,by omega,by go_num,S9.o,F9.o⟩
    ·obtain rfl:gk=0:=om;obtain rfl:i=j:=om;have iN:¬ (i:Int)<i:=om;clear ha jx;obtain⟨wo,rfl⟩:=Ex (wr:World);obtain⟨gf,R,J,_⟩:=bW.o wo _ _ _ _ _ _ S.o;have iG:=S.o.bk;have cu:Bk wo.drew b n2:=iG.dB (λ_ _ _=>rfl);have fu:RB b wo.drew wo.drew:=⟨⟨n2,cu⟩,⟨n2,cu⟩,kf.refl⟩;have E:∀ B,RB b wo.drew B->RB b wo B:=λB h=>⟨⟨n2,iG⟩,h.2.1,h.2.2.drew⟩
     have G:∀ B n3,RB b wo B->Bk B b n3->mP B v (mX xs t m num r)/\kR B s none tp/\lS w B p t' m' (num+1) mg eg mb b n3 mb b3 M T W (lh L (ks.take i)) en:=λB n3 hr hb=>by have H:=S.o.pb hr.2.2 hb;obtain⟨_,h1,h2,_⟩:=bW.o B _ _ _ _ _ _ H;exact⟨h1,h2,H⟩
     have j8:n2<1000000:=by have:=bD.o;have:=hq.o;omega
     refine G4 fu cu E G ?_;clear fu cu E G;intro fu cu E G;clear gf R J iG;go_wp2;refine RA.oz (RB b) (λ_ _=>False) [1,1,1,1,1,1,3,1,1,6] [9] (λ_ _ _=>True) (λB=>Bk B b n2) kr fu.o (λ_ _ h=>h.elim) (λ_ _ _ h k=>h.trans k) (λ_ _ h=>h.elim) cu.o kr kr ?_;intro cx
     repeat refine RA.qq ?_
     refine RA.fk prog v 0 (h:=?_)
     refine RA.ld (y':=.agg xs.toArray) (hr:=λB hp=>by obtain⟨n3,gh⟩:=(E.o _ hp.1).2.1;exact (G.o _ n3 (E.o _ hp.1) gh).1.load hx.o.len) (h:=?_)
     refine RA.ld (y':=.agg #[iq t',iq m',iw (num+1:Nat)]) (hr:=λB hp=>by obtain⟨n3,gh⟩:=(E.o _ hp.1).2.1;have jD:=(G.o _ n3 (E.o _ hp.1) gh).2.2.st;exact mE (P:=prog) (w:=B) (g:=p) (off:=0) (ty:=100) (x:=[iq t',iq m',iw (num+1:Nat)]) underlying100 kr (λj v hv=>by rw[aw,cell_of jD];simpa using hv)) (h:=?_)
     refine RA.qc (P:=prog) [.agg xs.toArray,.agg #[iq t',iq m',iw (num+1:Nat)]] (λv B=>∃ z Z,v=.tuple #[.agg #[iw 24,z],iw 0]/\List.length Z=64/\B.ownsRow mb 5 1 z 64 (aQ Z)) (λ_ B=>Bk B b (n2+1)) (hs:=λv x y hr h2=>by
      obtain⟨z,Z,k1,k2,k3⟩:=h2;obtain⟨⟨n3,gh⟩,_,hG⟩:=hr;exact⟨z,Z,k1,k2,hG.own gh k3 (λ_ _=>id) de de⟩) (he:=λ_ _ _ h=>h.elim) (hr:=λB hp hH=>by
      have hr:=E.o _ hp.1;obtain⟨_,cT,H⟩:=G.o _ n2 hr hH;refine (Cf hx.o cT H.tr.tree H.l4 hH j8 H.mr.at_ (num+1) om).mono ?_;rintro e w4 ⟨z,rfl,⟨Z,k1,k2⟩,k3,k4⟩;exact⟨_,rfl,⟨⟨_,hH⟩,⟨_,k3⟩,k4⟩,⟨z,Z,rfl,k1,kU k2 H.n2.2⟩,k3⟩) (hn:=λz=>?_)
     refine RA.vk prog (kW z 0) (hr:=λB hp=>by obtain⟨v,Z,rfl,_⟩:=hp.fact 0 rfl kr;clear hp;go_simp;rfl) (h:=?_)
     refine RA.vk prog (kW z 1) (hr:=λB hp=>by obtain⟨v,Z,rfl,_⟩:=hp.fact 0 rfl kr;clear hp;go_simp;rfl) (h:=?_)
     refine RA.vK (P:=prog) (f:=79) [iq mg,iq eg] [kW z 0,kW z 1] (λ_ w4=>∃ iE,lS w w4 p t' m' (num+1) mg eg mb b (n2+1) mb b3 M T W (lh L (ks.take i)) iE/\nX A M Ls Tx all (ks.take i) T W iE/\∃ q,q ∈ iE) (λ_ _=>by go_simp) kr rf rf rf kr (λ_ _ _ h=>h.elim) rfl (λB cK hH=>by have hp:=cK.first kr;obtain⟨_,_,H⟩:=G.o _ (n2+1) (E.o _ hp.1) hH;obtain⟨v,Z,rfl,k2,k3⟩:=hp.fact 0 rfl kr;refine (xH H.la 24 om k2 k3).mono ?_;rintro e w4 ⟨rfl,j1,j2⟩;exact⟨_,rfl,_,H.put j1 j2,F.o.low (q:=(24,v,Z)) (by show 24<25;omega) (zq _ _ (.inl rfl)),_,C8 _ _⟩) (λr0=>?_)
     refine RA.RA.kZ (λa6 hH=>?_);simp only[RA.RP,cx];obtain⟨C,Q,a7,jL,jb⟩:=hH;obtain⟨wR,cl,a8,bR⟩:=Q.la.mp.range (t:=155) underlying155;have jk:=cell_of Q.la.box 0;obtain⟨it,h0⟩:=Ex a6.heap.size;rw[<-h0] at cl a8;obtain⟨cnt,cY⟩:=Ex ((mO C).length);rw[<-cY] at a8;refine G6 cY h0 a8 bR Q a7 ?_;clear cY h0 a8 bR Q a7;intro cY h0 a8 bR Q a7;clear G E fu cu S F;go_wp2;clear cl jk
     go_loopg [5] cnt (λg ov wr=>∃ D:List mG,Hd (pZ wr mb it (mO C) (mO D) g)/\Hd (wr.ownsRow a6.heap.size 142 2 ov D.length (ng (D.map λq=>(q.1,q.2.1))))/\Hd (∀ q ∈ D,q ∈ C)/\Hd (Below a6.heap.size a6 wr))
     case atStart=>exact⟨[],a8.o,aS _ _ _ _,λq hq=>(by simp at hq),bR.o⟩
     case round=>
      clear a8 bR;obtain⟨D,a8,dT,bA,fb⟩:=hrel;rcases a8.o.next 0 with ⟨hz,gA,cl⟩|⟨pe,ck,dg,ad,ih,cl,aa,cz,iZ,hC⟩
      ·obtain⟨wo,rfl⟩:=Ex (wr:World)
       have c5:∀ q ∈ C,q ∈ D:=λq hq=>by
        obtain⟨z,hz,e⟩:=aO.1 (gA _ (aO.2 ⟨q,hq,rfl⟩));have jH:=bA.o z hz;have eb:=Q.o.la.mp.nd;rw[mO,cO] at eb;have e1:z.1=q.1:=by have:=bV Prod.fst e;simp at this;omega
        rw[show q=z from ?_]
        ·exact hz
        ·obtain⟨i1,h1⟩:=cM hq;obtain⟨i2,h2⟩:=cM jH;have ja:=eJ.1 eb;obtain⟨l1,r1⟩:=aD.1 h1;obtain⟨l2,r2⟩:=aD.1 h2
         have:i1=i2:=by
          rcases dG i1 i2 with hl|hl|hl
          ·have bp:=ja i1 i2 (by simpa using l1) (by simpa using l2) hl;simp[r1,r2,e1] at bp
          ·exact hl
          ·have bp:=ja i2 i1 (by simpa using l2) (by simpa using l1) hl;simp[r1,r2,e1] at bp
         subst this;exact r1.symm.trans r2
       obtain⟨ds,cg⟩:=JR D (λq hq=>by obtain⟨h1,h2,h3⟩:=Q.o.la.qm q (bA.o q hq);obtain⟨vg,vc,e,_⟩:=kz h3 om;exact⟨(⟨q.1,h1⟩,(vg,vc),q.2.2),by rw[rD];exact Prod.ext rfl (Prod.ext e.symm rfl)⟩)
       have c7:∀ l:List SW,(l.map rD).map (λq=>(q.1,q.2.1))=l.map fW:=λl=>by rw[cO];rfl
       have ig:((mO D).map Prod.fst).Nodup:=by obtain⟨_,_,_,_,_,_,_,_,_,_,_,_,_,_,_,eb,_⟩:=a8.o;exact eb
       have iX:0<ds.length:=by
        have:=c5 jL jb;rw[cg] at this;have:=gC this
        simpa using this
       have I:=dT.o;rw[cg,c7,df] at I;obtain⟨og,oc,rfl,_⟩:=kz I iX
       have jw:ds.length<4000:=by
        have h1:=zp (m:=(mO C).map Prod.fst) ig (λx hx=>by obtain⟨y,hy,rfl⟩:=aO.1 hx;obtain⟨z,hz,rfl⟩:=aO.1 hy;exact aO.2 ⟨_,aO.2 ⟨z,bA.o z hz,rfl⟩,rfl⟩)
        have h2:=a7.o.mL (by have:=Q.o.la.mp.nd;rw[mO,cO] at this;exact this);have h3:=zo all;have h4:all.length<=1000:=by rw[an.o,df,aR];have:=bD.o;omega
        rw[cg] at h1;simp[mO] at h1;omega
       have hD:=JP ds iX om I;have iT:D.length=ds.length:=by rw[cg,df]
       replace hD:=LH hD;replace cg:=LH cg;replace iT:=LH iT;have jA:=LH (kJ I og rfl);replace c7:=LH c7;replace c5:=LH c5;replace ig:=LH ig;obtain⟨dn,ba⟩:=Ex ds.length;rw[<-ba] at hD ⊢;replace ba:=LH ba;clear I dT gA a8
       go_wp2_with fail
       refine hD.o.mono ?_;rintro e O ⟨rfl,iF,cP,dp,iB⟩;have iA:Below a6.heap.size a6 O:=fb.o.trans (iB.below fb.o.size (λg hg e=>by have:=jA.o;omega));have ay:=Q.o.below iA;have ax:=ay.st;have af:=ay.la.err
       have dc:∀ V,O.drew=V->(Instr.loadAt 100 (iq p)).run prog V=.ok (.agg #[iq t',iq m',iw (num+1:Nat)]) V:=λV e=>by subst e;exact mE (P:=prog) (w:=O.drew) (g:=p) (off:=0) (ty:=100) (x:=[iq t',iq m',iw (num+1:Nat)]) underlying100 kr (λj v hv=>by rw[aw,cell_of (w:=O.drew) ax];simpa using hv)
       have hs0:∀ V,O.drew=V->(Instr.storeAt 100 (iq p) (.agg #[iq t',iq m',iw (num+1:Nat)])).run prog V=.ok () V:=λV e=>by subst e;have h1:=mf (P:=prog) (w:=O.drew) (g:=p) (ty:=100) (x:=[iq t',iq m',iw (num+1:Nat)]) ax kr rfl (by simp[Value.oneCell']);have h2:=fT O.drew p _ _ _ ax;rw[h2] at h1;exact h1
       have hA:∀ V,O.drew=V->(Instr.storeAt 47 (iq eg) (iw 0)).run prog V=.ok () V:=λV e=>by subst e;have f0:O.drew.cell? (iu eg 0)=some (iw 0):=cell_of af 0;have f1:O.drew.frozen? (iu eg 0)=false:=kY af 0;have f2:O.drew.setCell (iu eg 0) (iw 0)=O.drew:=xw (w:=O.drew) af rfl;clear af ax;go_simp
       have p1:∀ V,O.drew=V->V.cell? (iu eg 0)=some (iw 0):=λV e=>by subst e;exact cell_of af 0
       have j0:=LH (ay.fr.mono (λg hg e=>absurd e om):kf No b w O);refine G8 hs0 hA dc p1 ay ax af dp ?_;clear hs0 hA dc p1 ay ax af dp;intro hs0 hA dc p1 ay ax af dp;clear iB iA hD;go_wp2;refine RA.region (·=·) (·=·) [1,1,1,2,1,2] (λ_ _ _=>True) (λ_=>True) kr rfl (λ_ _ h=>h) (λ_ _ _ h k=>h.trans k) (λ_ _ _ _=>trivial) trivial kr ?_;intro cx;refine RA.ld (y':=.agg #[iq t',iq m',iw (num+1:Nat)]) (hr:=λB hp=>dc.o B hp.1) (h:=?_)
       repeat refine RA.qq ?_
       refine RA.lk prog (iw 0) (hc:=λB hp=>by exact p1.o _ hp.1) (h:=?_);refine RA.sg rf rf (λw=>rfl) (λ_ _=>trivial) (λB hp=>RA.kL rf rf (hs0.o B hp.1)) (λu1=>?_)
       repeat refine RA.qq ?_
       refine RA.sg rf rf (λw=>rfl) (λ_ _=>trivial) (λB hp=>RA.kL rf rf (hA.o B hp.1)) (λu2=>?_);refine RA.RA.done rfl (λji hR hF hH=>?_);clear hF hH;simp only[RA.RP,cx]
       try simp only[cn]
       try simp only[cG]
       have aa:O.drew=ji:=hR;clear hR;have hle:=p1.o ji aa;replace aa:=LH aa;go_wp2;obtain rfl:=aa.o
       refine aI (JQ results51 _ _ p eg 100 _ (0,0) _ (iw 0) rfl (show O.drew.heap[p]?=_ from ax.o) underlying100 rfl kr rfl (by clear hs0 hA;have j7:O.drew.cell? (iu eg 0)=some (iw 0):=hle;simp[loadVar,isAgg,bb (P:=prog) underlying47,load,Sem.run,j7])) rfl ?_
       have iY:∀ q ∈ C,q.1<120/\q.2.2.length=64/\O.drew.ownsRow w.heap.size 5 1 q.2.1 64 (aQ q.2.2):=λq hq=>by obtain⟨h1,h2,h3⟩:=ay.o.la.qm q hq;exact⟨h1,h2,kU (dE (w':=O.drew) h3 (λ_ _=>rfl)) ay.o.n2.1⟩
       have dd:∀ q,q ∈ iF.map rD↔q ∈ C:=λq=>by rw[(cP.map rD).mem_iff,<-cg.o];exact⟨bA.o q,c5.o q⟩
       have jG:w.heap.size<=a6.heap.size:=am Q.o.n2.1 Q.o.n2.2;refine⟨t',m',_,b3,T,W,iF.map rD,n2+1,rfl,ay.o.tr.exact (λ_ _=>rfl),ay.o.l4,ay.o.mr.exact (λ_ _=>rfl),?_,?_,?_,λq hq=>iY q ((dd q).1 hq),by omega,ay.o.bk.dB (λ_ _ _=>rfl),j0.o.xb⟩
       ·rw[<-an.o];exact⟨a7.o.tag,a7.o.qI,λp hp=>by obtain⟨u,hu⟩:=a7.o.has p hp;exact⟨u,(dd _).2 hu⟩,λq hq=>a7.o.only q ((dd q).1 hq),λq hq=>a7.o.keys q ((dd q).1 hq)⟩
       ·have h1:=ig.o;rw[cg.o,mO,cO] at h1;have h2:((iF.map rD).map λq=>(q.1:Int)).Perm ((ds.map rD).map λq=>(q.1:Int)):=(cP.map rD).map _;exact h2.nodup_iff.2 h1
       ·rw[c7.o,df,cP.length_eq,<-ba.o];exact kU (dE (w':=O.drew) (ba.o ▸ dp.o) (λ_ _=>rfl)) jG
      ·obtain⟨qs,jc,rfl⟩:=aO.1 ck;obtain⟨jB,jC,hh⟩:=Q.o.la.qm qs jc;obtain⟨qa,qv,qz⟩:=qs;simp only at jB jC hh cl iZ aa dg;obtain⟨vg,vc,rfl,_⟩:=kz hh om;obtain⟨dn,ba⟩:=Ex D.length;have I:=dT.o;rw[<-ba] at I;obtain⟨oa,oc,rfl,_⟩:=(Cells.own I).shape;obtain⟨ia,jZ,ins,ic,c6⟩:=a8.o.iter
       have a1:=dE I (λg hg=>hC.block g (kt I g hg) (by obtain⟨cur,hc⟩:=kA I hg;rintro rfl;rw[c6] at hc;cases hc))
       have b11:Below a6.heap.size a6 ad:=fb.o.trans (hC.below fb.o.size (λg hg e=>by have:=h0.o;omega))
       have jm:dn<4000:=by
        obtain⟨_,_,_,_,_,_,_,_,_,_,_,_,_,_,_,eb,_⟩:=a8.o
        have h1:=zp (m:=(mO C).map Prod.fst) eb (λx hx=>by obtain⟨y,hy,rfl⟩:=aO.1 hx;obtain⟨z,hz,rfl⟩:=aO.1 hy;exact aO.2 ⟨_,aO.2 ⟨z,bA.o z hz,rfl⟩,rfl⟩)
        have h2:=a7.o.mL (by have:=Q.o.la.mp.nd;rw[mO,cO] at this;exact this);have h3:=zo all;have h4:all.length<=1000:=by rw[an.o,df,aR];have:=bD.o;omega
        simp[mO] at h1;omega
       have jQ:=b11.size;obtain⟨W1,hO⟩:=Ex (ad.alloc (.cells #[iw qa,ir vg 64 vc] 142));have er:Below ad.heap.size ad W1:=by rw[hO];exact (ag _ _).alloc (ae _) _
       have iP:W1.heap[ad.heap.size]?=some (.cells #[iw qa,ir vg 64 vc] 142 (0,0)):=by rw[hO];exact aj ad _
       have e0:=cell_of iP 0;have e1:=cell_of iP 1;have o3:=dE a1 (λg hg=>er.block g (kt a1 g hg));have o4:=LH (dE o3 (λg hg=>aB W1 (.cells #[iw qa,ir vg 64 vc] 142) g (kt o3 g hg)));have jj:=LH (mC W1 #[iw qa,ir vg 64 vc] 142 1 2 rfl mx);have ju:a6.heap.size<=(W1.alloc (.cells #[iw qa,ir vg 64 vc] 142)).heap.size:=by rw[aN];have:=er.size;have:=b11.size;omega
       have b2:=LH (er.alloc er.size (.cells #[iw qa,ir vg 64 vc] 142));refine G8 aa hh b11 a1 ba c6 hC dg ?_;clear aa hh b11 a1 ba c6 hC dg;intro aa hh b11 a1 ba c6 hC dg;clear o3 iP er I ck a8 dT;have jP:=LH hO;subst hO
       go_wp2_with (at_builtin;refine K.append ?_ (.tmp 152) (.tmp 154) 105 ?_ a6.heap.size 142 (.agg #[iw 0,.slice none 0 0]) 2 32 underlying105 Cg rfl om _ dn _ ?_ o4.o (λ_=>True) _ 1 [iw qa,ir vg 64 vc] ?_ jj.o (by simp[Value.oneCell']) mx om ?_ ?_)
       any_goals (first|rfl|omega|exact ju)
       intro v' w2 y1 y2 y3 y4;obtain⟨Wx,hP⟩:=Ex ((ad.alloc (.cells #[iw qa,ir vg 64 vc] 142)).alloc (.cells #[iw qa,ir vg 64 vc] 142));have y2:Wx.grownBy w2 (Value.slice oa dn oc).ownBlock:=by rw[hP];exact y2
       have b2:Below ad.heap.size ad Wx:=by rw[hP];exact b2.o
       have iH:aA (λg=>(Value.slice oa dn oc).ownBlock=some g) ad w2:=(aA.dD b2 _).grown y2 (λ_ h _=>h)
       have iM:∀ {g:Nat}{o:Obj},ad.heap[g]?=some o->(∀ cs t m,o≠.cells cs t m)->w2.heap[g]?=ad.heap[g]?:=λ{g o} hg ho=>iH.block g (sJ hg) (λe=>by obtain⟨cur,hc⟩:=kA a1.o e;rw[hg] at hc;exact ho _ _ _ (aF hc))
       obtain⟨em,cm,hX⟩:=aa.o.map;obtain⟨jW,k0,jY,jX,j6⟩:=aa.o.iter
       have hN:pZ w2 mb it (mO C) (mO (D++[(qa,ir vg 64 vc,qz)])) ih:=by
        have h:=aa.o.dB (iM hX sm) (iM j6 sm);have e:mO (D++[(qa,ir vg 64 vc,qz)])=mO D++[((qa:Int),.agg #[iw qa,ir vg 64 vc])]:=by simp[mO]
        rw[e];exact h
       have c9:w2.ownsRow a6.heap.size 142 2 v' (D++[(qa,ir vg 64 vc,qz)]).length (ng ((D++[(qa,ir vg 64 vc,qz)]).map λq=>(q.1,q.2.1))):=by rw[aE,dz,bt,bT,xu,<-ba.o];exact y1
       have ca:∀ q ∈ D++[(qa,ir vg 64 vc,qz)],q ∈ C:=λq hq=>by
        rcases bw.1 hq with hq|hq
        ·exact bA.o q hq
        ·simp only[cD] at hq;rw[hq];exact jc
       have cW:Below a6.heap.size a6 w2:=b11.o.trans (iH.below b11.o.size (λg hg e=>by have:=kJ a1.o g e;omega));obtain⟨k7,k6,rfl,_⟩:=kz y1 om;refine G4 hN c9 ca cW ?_;clear hN c9 ca cW;intro hN c9 ca cW;clear y1 y2 y3 y4 iH iM hX j6 b2 aa a1 bA fb;replace hP:=LH hP;go_wp2;go_roundg ih
       case measure=>exact cz
       case rel=>exact⟨_,hN.o,c9.o,ca.o,cW.o⟩
theorem JU {L:List (Int×Value)}{k:Int}{z:Value}(h:k ∉ nG L):pW L k z=z:=by unfold pW;rw[fH.2 (λp hp e=>h (aO.2 ⟨p,hp,by simpa using e⟩))];rfl
def rY (l:List (Nat×Value)):List (Int×Value):=l.foldl (λS p=>lZ S (p.1:Int) (.bool true)) []
theorem Db (l:List (Nat×Value)) (p:Nat×Value):rY (l++[p])=lZ (rY l) (p.1:Int) (.bool true):=by simp[rY]
theorem JV:∀ (l:List (Nat×Value)) (x:Int),x ∈ nG (rY l)↔∃ p ∈ l,x=(p.1:Int):=by
 suffices h:∀ (l:List (Nat×Value)) (S:List (Int×Value)) (x:Int),x ∈ nG (l.foldl (λS p=>lZ S (p.1:Int) (.bool true)) S)↔x ∈ nG S\/∃ p ∈ l,x=(p.1:Int) by intro l x;rw[rY,h];simp[nG]
 intro l
 induction l with
 | nil=>intro S x;simp
 | cons p l ih=>intro S x;rw[eA,ih,rq];simp only[bi,exists_eq_or_imp];exact or_assoc
def Dc (p:Nat×Value):Prop:=p.1<120/\(p.1<25\/60<=p.1)/\∃ b a,p.2=ir b 64 a
theorem JW {w:World}{F:Nat->Prop}{r d s b num B g n cap:Nat}{X:D.Dk}{gH:ByteArray}{A M:iz}{ws:List (Nat×Value)}(hR:oh w r d s b gH A M num) (hd:D.At w F d X) (hX:X.size=120)
  (hrow:w.ownsRow B 142 2 (ir g n cap) n (ng ws)) (hwl:ws.length=n) (hn:n<=15) (hmay:∀ p ∈ ws,Dc p) (hnd:(ws.map λp=>(p.1:Int)).Nodup):
  Calls prog 88 #[iq r,ir g n cap] w λe w'=>e=.returned (iw 0)/\Below w.heap.size w w':=by
 obtain⟨da,dc,ma,mc,h1,-,-⟩:=hR.cells;obtain⟨st,K⟩:=Ex (mM d s b gH (ir da 64 dc) (ir ma 32 mc));have hm:=Da d s b gH (some (iu da 0)) (some (iu ma 0)) 64 dc 32 mc w;rw[<-K] at hm h1;have bR:st.length=8:=by rw[K];rfl
 have P:(Instr.loadAt 174 (iq r)).run prog w=.ok (.agg st.toArray) w:=mE underlying174 (by rw[K];exact uB) (λj x hj=>by rw[aw,cell_of h1,aV,aX (aD.1 hj).1];exact hj)
 have bz:=dC h1
 have O:∀ L,Below w.heap.size w L->L.cell? (iu r 0)=some (iq d)/\L.cell? (iu r 3)=some (iw 25)/\L.cell? (iu r 4)=some (iw 35):=λL hb=>by have e:=(hb.block r bz).trans h1;rw[cell_of e,cell_of e,cell_of e,K];exact⟨rfl,rfl,rfl⟩
 have E:∀ L,Below w.heap.size w L->Calls prog 93 #[iq d] L λe w'=>e=.returned (iw 120)/\L=w':=λL hb=>by have h:=D.xn (hd.ki (aA.dD hb No) (λ_ _=>id));rw[hX] at h;exact h
 have C:∀ L,Below w.heap.size w L->∀ j p,ws[j]?=some p->L.cell? (iu g (j*2))=some (iw p.1)/\L.cell? (iu g (j*2+1))=some p.2:=λL hb j p hj=>by have J:=(aD.1 hj).1;obtain⟨g',off,c',hv,_,_,_,a8,a7⟩:=Cells.at (Cells.own hrow) om;simp only[IJ] at hv;obtain⟨⟨rfl,rfl,_⟩,_,_⟩:=hv;obtain⟨e1,e2⟩:=tz ws j p hj;have f1:=a7 _ _ e1;have f2:=a7 _ _ e2;rw[aw] at f1 f2;rw[hb.cell (p:=iu g (j*2)) a8,hb.cell (p:=iu g (j*2+1)) a8];exact⟨f1,f2⟩
 obtain⟨c,hc⟩:=Ex st.toArray;rw[<-hc] at P hm;have b8:=@fK prog;refine G9 P hm K hc O E C hmay hnd ?_;clear P hm K hc O E C hmay hnd;intro P hm K hc O E C hmay hnd;have c6:¬ (15:Int)<n:=om;clear h1 hR hrow hd;go_enter func88,ntmps88
 go_wp2_with (first|(refine kQ rfl 174 _ rfl _ _ rfl P.o ?_)|fail)
 refine hm.o.mono ?_;rintro e w1 ⟨rfl,b1⟩;obtain⟨w2,V⟩:=Ex (w1.alloc (.map #[] 0));obtain⟨mb,T⟩:=Ex w1.heap.size;have b2:Below w.heap.size w w2:=by rw[V];exact b1.alloc b1.size _
 have m2:k9 w2 mb []:=by rw[V,T];exact yM w1
 have bC:w.heap.size<=mb:=by rw[T];exact b1.size
 replace b2:=LH b2;replace m2:=LH m2;clear b1 P hm;go_wp2;rw[<-V,<-T];replace V:=LH V;replace T:=LH T;clear b8
 go_loopg [20] n (λg ix wr=>∃ j:Nat,j+g=n/\ix=iw j/\Hd (k9 wr mb (rY (ws.take j)))/\Hd (Below w.heap.size w wr))
 case atStart=>exact⟨0,by omega,rfl,m2.o,b2.o⟩
 case round=>
  clear m2 b2;obtain⟨j,b4,rfl,HM,HB⟩:=hrel;by_cases b6:j<n
  ·obtain⟨g1,rfl⟩:∃ i,gk=i+1:=⟨gk - 1,by omega⟩;have b5:(j:Int)<n:=om;obtain⟨wo,rfl⟩:=Ex (wr:World);have J:j<ws.length:=om;obtain⟨p,hp⟩:∃ p,ws[j]?=some p:=⟨ws[j],av J⟩;obtain⟨ba,bl,vg,vc,ad⟩:=hmay.o p (aZ hp);obtain⟨c0,c1⟩:=C.o wo HB.o j p hp;obtain⟨f,v⟩:=p;simp only at ba bl ad c0 c1;subst ad
   have N:pW (rY (ws.take j)) (f:Int) (.bool false)=.bool false:=JU (λhk=>by
    obtain⟨q,hq,e⟩:=(JV _ _).1 hk;obtain⟨i,hi⟩:=cM hq;rw[aU] at hi;split at hi
    ·rename_i ay;have bp:=eJ.1 hnd.o;have b3:=(aD.1 hi).1;refine bp i j (by simpa using b3) (by simpa using J) ay ?_;have e1:=(aD.1 hi).2;have e2:=(aD.1 hp).2;simp[e1,e2,e.symm]
    ·cases hi)
   obtain⟨Q,W⟩:=Ex (wo.alloc (.cells #[iw f,ir vg 64 vc] 142));obtain⟨p7,Z⟩:=Ex wo.heap.size;have b7:Below wo.heap.size wo Q:=by rw[W];exact (ag _ _).alloc (ae _) _
   have x7:Q.heap[p7]?=some (.cells #[iw f,ir vg 64 vc] 142 (0,0)):=by rw[W,Z];exact aj wo _
   have M7:=HM.o.after b7;have y:=HB.o.trans (b7.mono HB.o.size);have e0:=cell_of x7 0;have e1:=cell_of x7 1;obtain⟨s0,s3,s4⟩:=O.o Q y;have ax:∀ a:Nat,Below w.heap.size w (Q.drewN a):=λa=>⟨y.os,y.tape,y.output,y.size,y.block⟩
   have a1:=LH (show ∀ a b':Nat,Calls prog 93 #[iq d] (Q.drewN (a+b')) λe w'=>e=.returned (iw 120)/\∃ n,w'=Q.drewN (a+n) from λa b'=>(E.o _ (ax _)).mono (λ_ _ h=>⟨h.1,_,h.2.symm⟩))
   have aa:∀ a:Nat,(Instr.lookup 153 (.map (some mb)) (iw f) false).run prog (Q.drewN a)=.ok (.bool false) (Q.drewN a):=λa=>by have h:=(M7.dB (w':=Q.drewN a) rfl).look (t:=153) underlying153 (z:=.bool false) rf (k:=f) (rp om);rw[N] at h;exact h
   refine G5 M7 y x7 N hp ?_;clear M7 y x7 N hp;intro M7 y x7 N hp;clear b7 HM HB;have bA:IntKind.i64.wrap 60=60:=by rw[bO];omega
   go_wp2;rw[<-W,<-Z];replace W:=LH W;replace Z:=LH Z;clear c0 c1;have bD:¬ (f:Int)<0:=om;have bB:¬ (120:Int)<=f:=om;by_cases c5:f<25
   ·have an:¬ (25:Int)<=f:=om
    go_quiet (fail)
    obtain⟨a6,m⟩:=Ex nq;rw[<-m];replace m:=LH m;go_wp2
    go_quiet (first|(go_at_call 93;refine a1.o _ _))
    obtain⟨Y,u⟩:=Ex ((Q.drewN a6).drewN nq);rw[<-u];have I:Y.heap=Q.heap:=by rw[u];rfl
    have G:Below w.heap.size w Y:=by rw[u];exact⟨y.o.os,y.o.tape,y.o.output,y.o.size,y.o.block⟩
    have g0:Y.cell? (iu p7 0)=some (iw f):=cell_of (w:=Y) (by rw[I];exact x7.o) 0;obtain⟨w9,af,S,R,_⟩:=(M7.o.dB (w':=Y) (by rw[I])).put (t:=153) underlying153 (k:=f) (rp om) (.bool true);have H:Below w.heap.size w w9:=G.trans (R.below G.size (λg hg e=>by omega));have U:ws.take (j+1)=ws.take j++[(f,ir vg 64 vc)]:=by rw[bP J];have h8:=hp.o;rw[av J] at h8;rw[aF h8]
    have l:k9 w9 mb (rY (ws.take (j+1))):=by rw[U,Db];exact S
    replace l:=LH l;replace H:=LH H;replace u:=LH u;clear S R I G e0 e1 aa U;go_wp2;go_roundg g1
    case measure=>omega
    case rel=>exact⟨j+1,by omega,by go_num,l.o,H.o⟩
   ·have an:(25:Int)<=f:=om;have bW:¬ (f:Int)<60:=om
    go_quiet (fail)
    obtain⟨a6,m⟩:=Ex nq;rw[<-m];replace m:=LH m;go_wp2
    go_quiet (first|(go_at_call 93;refine a1.o _ _))
    obtain⟨Y,u⟩:=Ex ((Q.drewN a6).drewN nq);rw[<-u];have I:Y.heap=Q.heap:=by rw[u];rfl
    have G:Below w.heap.size w Y:=by rw[u];exact⟨y.o.os,y.o.tape,y.o.output,y.o.size,y.o.block⟩
    have g0:Y.cell? (iu p7 0)=some (iw f):=cell_of (w:=Y) (by rw[I];exact x7.o) 0;obtain⟨w9,af,S,R,_⟩:=(M7.o.dB (w':=Y) (by rw[I])).put (t:=153) underlying153 (k:=f) (rp om) (.bool true);have H:Below w.heap.size w w9:=G.trans (R.below G.size (λg hg e=>by omega));have U:ws.take (j+1)=ws.take j++[(f,ir vg 64 vc)]:=by rw[bP J];have h8:=hp.o;rw[av J] at h8;rw[aF h8]
    have l:k9 w9 mb (rY (ws.take (j+1))):=by rw[U,Db];exact S
    replace l:=LH l;replace H:=LH H;replace u:=LH u;clear S R I G e0 e1 aa U;go_wp2;go_roundg g1
    case measure=>omega
    case rel=>exact⟨j+1,by omega,by go_num,l.o,H.o⟩
  ·obtain rfl:gk=0:=om;obtain rfl:j=n:=om;have b5:¬ (j:Int)<j:=om;clear b6 b4 HM;go_wp2;go_ret;exact⟨rfl,HB.o⟩
end Go.Proofs.YthmcbgidehjlbaaGreat.Fd

/-
 Parts of the proof. No condition beyond what each theorem names.
-/
import Derived.Maps.Keyed
import Derived.Maps.RangeRun
import Derived.Test.YthmcbgidehjlbaaGreatFrAd
import Derived.Test.YthmcbgidehjlbaaGreatFrAn
set_option maxRecDepth 100000
set_option maxHeartbeats 4000000
namespace Go.Proofs.YthmcbgidehjlbaaGreat.K
open _root_.Go.Proofs.Tryz
open Go Go.RowKit
theorem Gf {w x w4:World}{B:Nat}{v:Value}(hB:B<=w.heap.size) (hb:Below B w x) (hc:aA (λg=>v.ownBlock=some g) x w4) (hge:∀ g,v.ownBlock=some g->B<=g):Below B w w4:=hb.trans (hc.below (am hB hb.size) (λg hg e=>by have:=hge g e;omega))
end Go.Proofs.YthmcbgidehjlbaaGreat.K
namespace Go.Proofs.YthmcbgidehjlbaaGreat.Fd
open _root_.Go.Proofs.Tryz
open Go Go.RowKit K
def sr:Nat->Nat->iz
 | 0,_=>[]
 | k+1,n=>byte (n % 256)::sr k (n / 256)
def kj (n:Nat):iz:=sr 8 n
theorem Gg {k:Nat}:∀ {n:Nat},(sr k n).length=k:=by
 induction k with
 | zero=>intro n;rfl
 | succ k ih=>intro n;simp[sr,ih]
theorem nF {n:Nat}:(kj n).length=8:=Gg
theorem Gh {B:Nat}(h:B<256):aQ [byte B]=[iy B]:=by simp[aQ,u8,lM h]
theorem oL (n:Nat) (hn:n<=9223372036854775807) (w:World):
  Calls prog 124 #[iw n] w λe w'=>∃ v,e=.returned v/\w'.ownsRow w.heap.size 5 1 v 8 (aQ (kj n))/\Below w.heap.size w w':=by
 have I:(iy 0).cells.size=1:=rfl;obtain⟨R,q⟩:=Ex (kj n);rw[<-q];replace q:=LH q;go_enter func124,ntmps124;go_wp2
 go_loopg [0,2,3] 8 (λg x o i wr=>∃ m j:Nat,∃ l:iz,x=iw m/\m<=9223372036854775807/\i=iw j/\j+g=8/\l.length=j/\Hd (l++sr g m=R)/\Hd (wr.ownsRow w.heap.size 5 1 o l.length (aQ l))/\Hd (Below w.heap.size w wr))
 case atStart=>exact⟨n,0,[],rfl,hn,rfl,rfl,rfl,q.o.symm,aS _ _ _ _,ag _ _⟩
 case round=>
  obtain⟨m,j,l,rfl,hm,rfl,O,G,p,k,b⟩:=hrel;by_cases P:j<8
  ·obtain⟨g1,rfl⟩:∃ i,gk=i+1:=⟨gk - 1,by omega⟩;obtain⟨B,u⟩:=Ex (m % 256);obtain⟨D,z⟩:=Ex (m / 256)
   have C:Hd ((l++[byte B])++sr g1 D=R):=by rw[u,z,<-p.o,sr,cC];rfl
   have y:B<256:=om;have F:IntKind.u8.wrap (m:Int)=(B:Int):=by rw[ez];omega
   have J:(m:Int) / 256=(D:Int):=om;have A:D<=9223372036854775807:=om;replace u:=LH u;replace z:=LH z;clear p;have H:(j:Int)<8:=om;have f:(wr.alloc (.cells #[iy B] 5)).ownsRow _ _ _ _ _ _:=dE k.o (λg hg=>aB _ _ _ (kt k.o g hg));have t:=LH f;have s:=LH (mC wr #[iy B] 5 1 1 rfl mx);have r:=LH (λg=>kJ k.o g);have Q:=b.o.size;clear f
   go_wp2_with (at_builtin;refine K.append ?_ (.tmp 5) (.tmp 8) 42 ?_ w.heap.size 5 (iy 0) 1 1 underlying42 nu I om _ l.length _ ?_ t.o (λ_=>True) _ 1 [iy B] ?_ s.o (by simp[Value.oneCell']) mx om ?_ ?_)
   ·rfl
   ·rfl
   ·omega
   intro v' w2 L M S T;have N:=LH L;have d:Below w.heap.size w (wr.alloc (.cells #[iy B] 5)):=b.o.alloc b.o.size _;have E:=LH ((aA.dD d No).grown M (λg hg G=>absurd (r.o g hg) om)).no;clear L M S T d;go_wp2;go_roundg g1
   case measure=>omega
   case rel=>refine⟨D,j+1,l++[byte B],rfl,A,by go_num,by omega,by simp[G],C.o,?_,E.o⟩;show World.ownsRow _ _ _ _ _ _ _;rw[nI,aE,Gh y,G];exact N.o
  ·obtain rfl:gk=0:=om;have a:l=R:=by rw[<-p.o,sr,dm]
   have c:l.length=8:=om;replace a:=LH a;replace c:=LH c;have H:¬ (j:Int)<8:=om;clear p;go_wp2;go_ret;refine⟨_,rfl,?_,b.o⟩;have h:=k.o;rw[c.o,a.o] at h;exact h
end Go.Proofs.YthmcbgidehjlbaaGreat.Fd
namespace Go.Proofs.YthmcbgidehjlbaaGreat.K
open Go Go.RowKit
variable {sz:Nat}{xs:List Value}
theorem vm {α:Type}{l x:List α}{o:Nat}(h:o+x.length<=l.length) (j:Nat):(splice l o x)[j]?=if j<o then l[j]? else if j<o+x.length then x[j - o]? else l[j]?:=by
 have a:(l.take o).length=o:=List.length_take_of_le om;unfold splice;split
 ·rw[aX om,aU,ak om]
 ·split
  ·rw[aL om,a,aX om]
  ·rw[aL om,a,aL om,bF];congr 1;omega
theorem Gi (off:Nat):∀ (cs:List Value) (k:Nat) (a:Array Value) (_:off+k+cs.length<=a.size) (j:Nat),((cs.zipIdx k).foldl (λ(a:Array Value) (p:Value×Nat)=>a.setIfInBounds (off+p.2) p.1) a)[j]?=if j<off+k then a[j]? else if j<off+k+cs.length then cs[j - (off+k)]? else a[j]?:=by
 intro cs
 induction cs with
 | nil=>
  intro k a h j;simp only[List.zipIdx_nil,List.foldl_nil,List.length_nil];split
  ·rfl
  ·rw[ah om]
 | cons c cs ih=>
  intro k a h j;simp only[bj] at h;rw[List.zipIdx_cons,eA,ih (k+1) _ (by simp;omega)];simp only[bj];rcases dG j (off+k) with b|b|b
  ·rw[ak (show j<off+(k+1) by omega),ak b,bH om]
  ·subst b;rw[ak (show off+k<off+(k+1) by omega),ah (show ¬ off+k<off+k by omega),ak (show off+k<off+k+(cs.length+1) by omega),dA,dq,dM om]
  ·rw[ah (show ¬ j<off+(k+1) by omega),ah (show ¬ j<off+k by omega)];by_cases d:j<off+(k+1)+cs.length
   ·rw[ak d,ak (show j<off+k+(cs.length+1) by omega)];obtain⟨i,rfl⟩:∃ i,j=off+k+1+i:=⟨j - (off+k+1),by omega⟩;rw[show off+k+1+i - (off+(k+1))=i by omega,show off+k+1+i - (off+k)=i+1 by omega,bX]
   ·rw[ah d,ah (show ¬ j<off+k+(cs.length+1) by omega),bH om]
theorem Gj (off:Nat) (cs:List Value) (k:Nat) (a:Array Value) (h:off+k+cs.length<=a.size):((cs.zipIdx k).foldl (λ(a:Array Value) (p:Value×Nat)=>a.setIfInBounds (off+p.2) p.1) a).toList=splice a.toList (off+k) cs:=by apply b9;intro j;rw[vm (by simpa using h),cZ,Gi off cs k a h j];simp only[cZ]
theorem pC {place:Nat->Option (Nat×Nat)}{cells:Array Value}{i off size:Nat}{v:Value}{rest:List (Nat×Value)}(hp:place i=some (off,size)) (hv:v.cells.size=size) (hl:off+size<=cells.size):
  Instr.fill place cells ((i,v)::rest)=Instr.fill place (splice cells.toList off v.cells.toList).toArray rest:=by
 subst hv;have h:=Gj off v.cells.toList 0 cells (by simpa using hl)
 have e:(v.cells.zipIdx.foldl (λcs (c,j)=>cs.setIfInBounds (off+j) c) cells)=(splice cells.toList off v.cells.toList).toArray:=by rw[<-Array.foldl_toList,Array.toList_zipIdx];apply fC;rw[h];rfl
 rw[Instr.fill,hp];simp only[ne_eq,not_true_eq_false,decide_false,fD,cL];rw[ah om,e]
section
variable {P:Program}
theorem mE {w:World}{g off:Nat}{ty:TypeId}{fs:Array Field}{x:List Value}(hu:P.underlying ty=some (.struct fs)) (hi:(P.info? ty).map (·.size)=some x.length)
  (hx:∀ j v,x[j]?=some v->w.cell? (iu g (off+j))=some v):(Instr.loadAt ty (.pointer (some (iu g off)))).run P w=.ok (.agg x.toArray) w:=by
 have b:(loadCells (iu g off) x.length).run P w=.ok x.toArray w:=gj (P:=P) w (iu g off) x (λj v hv=>by rw[bJ];exact hx j v hv)
 have h:(loadVar ty (iu g off)).run P w=.ok (.agg x.toArray) w:=by
  cases hq:P.info? ty with
  | none=>simp[hq] at hi
  | some i=>
   have hs:i.size=x.length:=by simpa [hq] using hi
   have a:(isAgg ty).run P w=.ok true w:=by unfold isAgg;rw[aM,bb hu w];simp
   simp[loadVar,a,sizeOf,typeInfo,hq,hs,b]
 simp only[Instr.loadAt,Instr.sureAddr,aM,Sem.run_pure,Result.andThen];exact h
theorem Gk {t:TypeId}{z:Value}{i:TypeInfo}(h:P.info? t=some i) (hz:i.zero=some z) (w:World):(zeroValue t).run P w=.ok z w:=by simp[zeroValue,typeInfo,h,hz]
theorem Gl {w:World}{t e:TypeId}{c:Array Value}{z:Value}{bytes:Nat}(ht:P.underlying t=some (.slice e)) (hi:(P.info? e).map (λi=>(i.zero,i.size,i.bytes))=some (some z,c.size,bytes)) (h0:0<c.size) (hm:c.size<=1000) (hz:z.cells.size=c.size):
  (Instr.buildSlice t 1 #[(0,.agg c)]).run P w=.ok (ir w.heap.size 1 1) (w.alloc (.cells c e)):=by
 obtain⟨i,a,b,d,k⟩:=cw hi
 have j:Instr.fill (λi=>some (i*c.size,c.size)) ((Array.range (1*c.size)).map (z.cells[· % z.cells.size]!)) [(0,.agg c)]=some c:=by rw[pC (off:=0) (size:=c.size) sm rfl sm];rw[Instr.fill];congr 1;apply fC;simp[splice,Value.cells]
 have hs:(sizeOf e).run P w=.ok c.size w:=by simp[sizeOf,typeInfo,a,d]
 have h:(zeroValue e).run P w=.ok z w:=Gk a b w;have f:¬ (16777216<c.size):=om;have g:¬ (c=#[]):=by rintro rfl;simp at h0
 rw[Nat.one_mul] at j;simp[Instr.buildSlice,bb ht,hs,f,g,h,j,newRow]
theorem wT {ρ:Operand->Value}{x:Operand}{ds:Option Tmp}{ty:TypeId}{ps:String}{af:Array Edge}{gu:Option (Nat×Bool)}{w:World}{t e:TypeId}{c:Array Value}{z:Value}{bytes:Nat}(hx:ρ x=.agg c) (ht:P.underlying t=some (.slice e)) (hi:(P.info? e).map (λi=>(i.zero,i.size,i.bytes))=some (some z,c.size,bytes)) (h0:0<c.size) (hm:c.size<=1000) (hz:z.cells.size=c.size):
  (execOp ρ ⟨ds,.buildSlice t 1 #[(0,x)],ty,ps,af,gu⟩).run P w=.ok (.value (ir w.heap.size 1 1)) (w.alloc (.cells c e)):=by
 have h:=Gl (P:=P) (w:=w) ht hi h0 hm hz;unfold execOp;simp[hx,h,Result.andThen]
end
theorem kA {w:World}{base:Nat}{e:TypeId}{v:Value}{n:Nat}(h:w.ownsRow base e sz v n xs){g:Nat}(hg:v.ownBlock=some g):∃ cur,w.heap[g]?=some (.cells cur e (0,0)):=by
 rcases h.2 with ⟨rfl,_⟩|⟨b,cap,cur,rfl,_,a,_⟩
 ·cases hg
 ·cases hg
  exact⟨cur,a⟩
theorem o6 {w:World}{base:Nat}{e:TypeId}{v:Value}{n:Nat}(h:w.ownsRow base e sz v n xs){p:Nat}{cs:Array Value}{t:TypeId}{m:Nat×Nat}(hp:w.heap[p]?=some (.cells cs t m)) (hne:e≠t):v.ownBlock≠some p:=by intro hg;obtain⟨cur,hc⟩:=kA h hg;rw[hp] at hc;simp only[IJ] at hc;exact hne hc.2.1.symm
end Go.Proofs.YthmcbgidehjlbaaGreat.K
namespace Go.Proofs.YthmcbgidehjlbaaGreat.Fd
open _root_.Go.Proofs.Tryz
open Go Go.RowKit K Go.Maps
open Go.ChangeMaps (setBlock)
theorem tm:Keyed prog 3:=int_keyed underlying3
abbrev uq (k:Int):Prop:=(Lit.int .i64 k).wf=true
theorem rp {k:Int}(h:-1000000000<=k/\k<=1000000000):uq k:=by have a:IntKind.i64.min=-9223372036854775808:=rfl;have b:IntKind.i64.max=9223372036854775807:=rfl;simp[uq,Lit.wf,a,b];omega
def sy (e:MapEntry):Value×Value:=(e.key,e.val)
structure k9 (w:World) (b:Nat) (L:List (Int×Value)):Prop where
 box:∃ es clock,w.heap[b]?=some (.map es clock)/\es.toList.map sy=L.map (λp=>(iw p.1,p.2))/\(es.toList.map (·.born)).Nodup/\∀ e ∈ es.toList,e.born<clock
 nd:(L.map Prod.fst).Nodup
 ok:∀ p ∈ L,uq p.1
def lZ (L:List (Int×Value)) (k:Int) (v:Value):List (Int×Value):=if L.any (λp=>p.1 == k) then L.map (λp=>if p.1=k then (k,v) else p) else L++[(k,v)]
def pW (L:List (Int×Value)) (k:Int) (z:Value):Value:=((L.find? (λp=>p.1 == k)).map Prod.snd).getD z
section
variable {w w':World}{b:Nat}{L:List (Int×Value)}
theorem k9.dB (h:k9 w b L) (hk:w'.heap[b]?=w.heap[b]?):k9 w' b L:=by obtain⟨⟨es,clock,h1,a⟩,c,d⟩:=h;exact⟨⟨es,clock,hk.trans h1,a⟩,c,d⟩
theorem k9.lt (h:k9 w b L):b<w.heap.size:=by obtain⟨⟨es,clock,h1,a⟩,c,d⟩:=h;exact dC h1
theorem k9.after (h:k9 w b L) (hb:Below w.heap.size w w'):k9 w' b L:=h.dB (hb.block b h.lt)
theorem yM (w:World):k9 (w.alloc (.map #[] 0)) w.heap.size []:=⟨⟨#[],0,aj w _,rfl,by simp,by simp⟩,List.Pairwise.nil,by simp⟩
theorem vy {es:List MapEntry}{L:List (Int×Value)}(h:es.map sy=L.map (λp=>(iw p.1,p.2))){j:Nat}{e:MapEntry}(he:es[j]?=some e):∃ p,L[j]?=some p/\e.key=iw p.1/\e.val=p.2:=by
 have h1:=bV (λl=>l[j]?) h;simp only[bf,he,dr] at h1;cases hp:L[j]? with
 | none=>rw[hp] at h1;cases h1
 | some p=>rw[hp] at h1;simp only[dr,ao,sy,fE] at h1;exact⟨p,rfl,h1.1,h1.2⟩
theorem yN {es:List MapEntry}{L:List (Int×Value)}(h:es.map sy=L.map (λp=>(iw p.1,p.2))){j:Nat}{p:Int×Value}(hp:L[j]?=some p):∃ e,es[j]?=some e/\e.key=iw p.1/\e.val=p.2:=by
 have h1:=bV (λl=>l[j]?) h;simp only[bf,hp,dr] at h1;cases he:es[j]? with
 | none=>rw[he] at h1;cases h1
 | some e=>rw[he] at h1;simp only[dr,ao,sy,fE] at h1;exact⟨e,rfl,h1.1,h1.2⟩
theorem k9.keys {es:Array MapEntry}(h:es.toList.map sy=L.map (λp=>(iw p.1,p.2))) (ok:∀ p ∈ L,uq p.1):∀ e ∈ es.toList,∃ l,keyOf prog 3 e.key=some l:=λe he=>by obtain⟨j,a⟩:=eW.1 he;obtain⟨p,hp,h1,_⟩:=vy h a;rw[h1];exact⟨_,keyOf_int_mk underlying3 (ok p (aZ hp))⟩
theorem k9.len (h:k9 w b L){t e:TypeId}(ht:prog.underlying t=some (.map 3 e)) (ty:TypeId):(Builtin.len_ #[t] ty #[.map (some b)]).run prog w=.ok (iw L.length) w:=by
 obtain⟨⟨es,clock,h1,a,_⟩,d,f⟩:=h
 have c:es.size=L.length:=by
  have:=bV List.length a
  simpa using this
 simp[Builtin.len_,bb ht,fd h1,Result.andThen,c,goInt]
theorem k9.look (h:k9 w b L){t e:TypeId}(ht:prog.underlying t=some (.map 3 e)){z:Value}(hz:(zeroValue e).run prog w=.ok z w){k:Int}(hk:uq k):(Instr.lookup t (.map (some b)) (iw k) false).run prog w=.ok (pW L k z) w:=by
 obtain⟨⟨es,clock,h1,g,_⟩,C,D⟩:=h;have a:=keyOf_int_mk (P:=prog) underlying3 hk;rcases tm.find w a es.toList (k9.keys g D) with ⟨f1,f2⟩|⟨j,H,f1,f2,f3⟩
 ·have G:L.find? (λp=>p.1 == k)=none:=by rw[fH];intro p hp he;obtain⟨j,F⟩:=eW.1 hp;obtain⟨B,l,n,_⟩:=yN g F;refine f2 B (aZ l) ?_;rw[n];simp at he;rw[he]
  simp[Instr.lookup,bb ht,fd h1,tm.check w _ a,f1,hz,Result.andThen,pW,G]
 ·obtain⟨p,hp,c,o⟩:=vy g f2;rw[f3] at c;simp only[ep,dP] at c
  have E:L.find? (λp=>p.1 == k)=some p:=by
   have hm:=aZ hp;cases hq:L.find? (λp=>p.1 == k) with
   | none=>exact absurd (fH.1 hq p hm) (by simp[c])
   | some q=>
    have f:=List.find?_some hq;have r:=List.mem_of_find?_eq_some hq;simp at f;obtain⟨i,hi⟩:=eW.1 r
    have m:i=j:=by
     have y:(L.map Prod.fst)[i]?=some k:=by rw[bf,hi];simp[f]
     have a2:(L.map Prod.fst)[j]?=some k:=by rw[bf,hp];simp[c]
     have b1:=(aD.1 y);have A:=(aD.1 a2);obtain⟨v,s⟩:=b1;obtain⟨x,u⟩:=A;have d:=eJ.1 C;rcases dG i j with h|h|h
     ·exact absurd (s.trans u.symm) (d i j v x h)
     ·exact h
     ·exact absurd (u.trans s.symm) (d j i x v h)
    rw[m] at hi;rw[hi] at hp;exact bV some (aF hp)
  simp[Instr.lookup,bb ht,fd h1,tm.check w _ a,f1,Result.andThen,pW,E,o]
theorem BK {L:List (Int×Value)}{k:Int}{v:Value}:(L.map (λp=>if p.1=k then (k,v) else p)).map Prod.fst=L.map Prod.fst:=by
 rw[cO];refine dZ (λp _=>?_);simp only[Function.comp];split
 ·rename_i h;exact h.symm
 ·rfl
theorem k9.put (h:k9 w b L){t e:TypeId}(ht:prog.underlying t=some (.map 3 e)){k:Int}(hk:uq k) (v:Value):∃ w',(Instr.mapUpdate t (.map (some b)) (iw k) v).run prog w=.ok () w'/\k9 w' b (lZ L k v)/\aA (λg=>g=b) w w'/\w'.heap.size=w.heap.size:=by
 obtain⟨⟨es,clock,h1,A,S,G⟩,H,I⟩:=h;have n:=keyOf_int_mk (P:=prog) underlying3 hk
 have s:∀ o:Obj,aA (λg=>g=b) w (setBlock w b o)/\(setBlock w b o).heap.size=w.heap.size:=λo=>⟨⟨rfl,rfl,rfl,by simp[setBlock],λg _ hg=>by simp only[setBlock];rw[bH (λe=>hg e.symm)]⟩,by simp[setBlock]⟩
 have B:∀ o:Obj,(setBlock w b o).heap[b]?=some o:=λo=>by simp only[setBlock];rw[dM (dC h1)]
 have l:∀ o:Obj,(setObj b o).run prog w=.ok () (setBlock w b o):=λo=>by simp[MapKept.run_setObj_map o h1,setBlock]
 rcases tm.find w n es.toList (k9.keys A I) with ⟨f1,f2⟩|⟨j,x,f1,f2,f3⟩
 ·have m:(L.any (λp=>p.1 == k))=false:=by rw[eo];intro p hp he;obtain⟨j,X⟩:=eW.1 hp;obtain⟨u,d,M,_⟩:=yN A X;refine f2 u (aZ d) ?_;rw[M];simp at he;rw[he]
  refine⟨setBlock w b (.map (es.push { key:=iw k,val:=v,born:=clock }) (clock+1)),?_,?_,(s _).1,(s _).2⟩
  ·simp[Instr.mapUpdate,bb ht,fd h1,tm.check w _ n,f1,Result.andThen,l]
  ·rw[lZ,m];refine⟨⟨_,_,B _,?_,?_,?_⟩,?_,?_⟩
   ·simp[A,sy]
   ·simp only[Array.toList_push,dz,bt,bT];rw[gt];refine⟨S,by simp,λa K c hc=>?_⟩;obtain⟨u,d,rfl⟩:=aO.1 K;have:=G u d;simp at hc;omega
   ·intro u d;simp only[Array.toList_push,bw,cD] at d;rcases d with d|rfl
    ·have:=G u d;omega
    ·show clock<clock+1;omega
   ·simp only[fI,fJ,dz,bt,bT];rw[gt];refine⟨H,by simp,λa K c hc=>?_⟩;obtain⟨p,hp,rfl⟩:=aO.1 K;simp at hc;subst hc;have:=eo.1 m p hp
    simpa using this
   ·intro p hp;simp only[fI,fJ,bw,cD] at hp;rcases hp with hp|rfl
    ·exact I p hp
    ·exact hk
 ·obtain⟨p,hp,z,Y⟩:=vy A f2
  have r:p.1=k:=by rw[f3] at z;simp only[ep,dP] at z;exact z.symm
  have m:(L.any (λp=>p.1 == k))=true:=bQ.2 ⟨p,aZ hp,by simp[r]⟩;have y:es[j]?=some x:=by simpa using f2
  have Q:=tm.stays w n;have D:j<es.size:=(bm.1 y).1;have C:es[j]=x:=(bm.1 y).2;refine⟨setBlock w b (.map (es.modify j λe=>{ e with key:=iw k,val:=v }) clock),?_,?_,(s _).1,(s _).2⟩
  ·simp[Instr.mapUpdate,bb ht,fd h1,tm.check w _ n,f1,Result.andThen,y,f3,Q,l]
  ·rw[lZ,m]
   have W:L.map (λp=>if p.1=k then (k,v) else p)=L.set j (k,v):=by
    apply b9;intro i;rw[bf,ej];by_cases f:j=i
    ·subst f;rw[hp];simp[r,(aD.1 hp).1]
    ·rw[ah f];cases hi:L[i]? with
     | none=>rfl
     | some q=>
      have N:q.1≠k:=λe=>by
       have V:(L.map Prod.fst)[i]?=some k:=by rw[bf,hi];simp[e]
       have a2:(L.map Prod.fst)[j]?=some k:=by rw[bf,hp];simp[r]
       obtain⟨T,R⟩:=aD.1 V;obtain⟨U,F⟩:=aD.1 a2;have E:=eJ.1 H;rcases dG i j with h|h|h
       ·exact absurd (R.trans F.symm) (E i j T U h)
       ·exact f h.symm
       ·exact absurd (F.trans R.symm) (E j i U T h)
      simp[N]
   have J:(es.modify j λe=>{ e with key:=iw k,val:=v }).toList=es.toList.set j { x with key:=iw k,val:=v }:=by
    apply b9;intro i;rw[cZ,dW,ej];by_cases f:j=i
    ·subst f;simp[C,D]
    ·simp[f]
   simp only[ea];refine⟨⟨_,_,B _,?_,?_,?_⟩,?_,?_⟩
   ·rw[J,W,ei,ei,A];rfl
   ·rw[J,ei]
    have F:(es.toList.map (·.born)).set j x.born=es.toList.map (·.born):=by
     apply b9;intro i;rw[ej];by_cases f:j=i
     ·subst f;simp[C,D]
     ·rw[ah f]
    rw[show ({ x with key:=iw k,val:=v }:MapEntry).born=x.born from rfl,F];exact S
   ·intro u d;rw[J] at d;rcases List.mem_or_eq_of_mem_set d with d|rfl
    ·exact G u d
    ·exact G x (aZ f2)
   ·rw[BK];exact H
   ·intro q N;obtain⟨Z,O,rfl⟩:=aO.1 N;split
    ·exact hk
    ·exact I Z O
end
def nG (L:List (Int×Value)):List Int:=L.map Prod.fst
theorem rq {L:List (Int×Value)}{k:Int}{v:Value}{x:Int}:x ∈ nG (lZ L k v)↔x ∈ nG L\/x=k:=by
 unfold lZ nG;split
 ·rename_i h;rw[BK];obtain⟨p,hp,he⟩:=bQ.1 h;simp at he;exact⟨.inl,λe=>e.elim id (λe=>by subst e;exact aO.2 ⟨p,hp,he⟩)⟩
 ·simp
theorem yO {L:List (Int×Value)}{k:Int}{v:Value}:(lZ L k v).length<=L.length+1:=by unfold lZ;split<;>simp
end Go.Proofs.YthmcbgidehjlbaaGreat.Fd
namespace Go.Proofs.YthmcbgidehjlbaaGreat.Fd
open _root_.Go.Proofs.Tryz
open Go Go.RowKit K
open Go.ChangeMaps (setBlock)
def pZ (w:World) (b r:Nat) (L D:List (Int×Value)) (cnt:Nat):Prop:=
 ∃ es clock since seen c0,w.heap[b]?=some (.map es clock)/\es.toList.map sy=L.map (λp=>(iw p.1,p.2))/\(es.toList.map (·.born)).Nodup/\(∀ e ∈ es.toList,e.born<since)/\
  w.heap[r]?=some (.mapIter (some b) since seen c0)/\since<=c0/\since<=clock/\cnt=(leftOf es seen).size/\
  (∀ p ∈ D,∃ e ∈ es.toList,seen.contains e.born=true/\e.key=iw p.1/\e.val=p.2)/\(∀ e ∈ es.toList,seen.contains e.born=true->∃ p ∈ D,e.key=iw p.1/\e.val=p.2)/\(D.map Prod.fst).Nodup/\(L.map Prod.fst).Nodup
section
variable {w w':World}{b r cnt:Nat}{L D:List (Int×Value)}
theorem pZ.dB (h:pZ w b r L D cnt) (hb:w'.heap[b]?=w.heap[b]?) (hr:w'.heap[r]?=w.heap[r]?):pZ w' b r L D cnt:=by obtain⟨es,clock,since,seen,c0,h1,a,c,d,e,f⟩:=h;exact⟨es,clock,since,seen,c0,hb.trans h1,a,c,d,hr.trans e,f⟩
theorem pZ.map (h:pZ w b r L D cnt):∃ es c,w.heap[b]?=some (.map es c):=by obtain⟨es,clock,since,seen,c0,h1,_⟩:=h;exact⟨_,_,h1⟩
theorem pZ.iter (h:pZ w b r L D cnt):∃ a s n c,w.heap[r]?=some (.mapIter a s n c):=by obtain⟨es,clock,since,seen,c0,h1,e,f,g,d,i⟩:=h;exact⟨_,_,_,_,d⟩
theorem k9.range (h:k9 w b L){t e:TypeId}(ht:prog.underlying t=some (.map 3 e)):
  ∃ w',(Instr.range t (.map (some b))).run prog w=.ok (iq w.heap.size) w'/\pZ w' b w.heap.size L [] L.length/\Below w.heap.size w w':=by
 obtain⟨⟨es,clock,h1,c,f,g⟩,i,k⟩:=h;have a:b<w.heap.size:=(bm.1 h1).1;refine⟨_,run_range_map w t 3 e b es clock ht h1,⟨es,clock,clock,#[],clock,(aB _ _ _ a).trans h1,c,f,g,aj w _,ae _,ae _,?_,λp hp=>by simp at hp,λe _ hs=>by simp at hs,by simp,i⟩,(ag _ _).alloc (ae _) _⟩;have d:=bV List.length c;simp at d;have j:leftOf es #[]=es:=by unfold leftOf;exact Array.filter_eq_self.2 (λx _=>by simp)
 rw[j,d]
theorem pZ.next (h:pZ w b r L D cnt) (ty:TypeId):
  (cnt=0/\(∀ p ∈ L,p ∈ D)/\(Instr.next (iq r) false ty).run prog w=.ok (.tuple #[.bool false]) w)\/
  ∃ p ∈ L,p.1 ∉ D.map Prod.fst/\∃ w' cnt',(Instr.next (iq r) false ty).run prog w=.ok (.tuple #[.bool true,iw p.1,p.2]) w'/\pZ w' b r L (D++[p]) cnt'/\cnt'<cnt/\
   (Instr.entry (iq r)).run prog w'=.ok (.tuple #[iw p.1,p.2]) w'/\aA (λg=>g=r) w w':=by
 obtain⟨es,clock,since,seen,c0,h1,M,U,h4,N,h6,h7,h8,h9,C,R,E⟩:=h
 have a6:r≠b:=by rintro rfl;rw[h1] at N;cases N
 rcases run_next_at (P:=prog) w ty r b since c0 seen es clock N h1 h4 h6 with ⟨h0,l⟩|⟨e,he,K,y,l⟩
 ·refine .inl ⟨h8.trans h0,λp hp=>?_,l⟩;obtain⟨j,O⟩:=cM hp;obtain⟨e,he,hk,hv⟩:=yN M O;have d:=aZ he;obtain⟨x,c,o,Q⟩:=C e d (all_seen es seen h0 e d);rw[hk] at o;rw[hv] at Q;simp only[ep,dP] at o;have:p=x:=Prod.ext o Q;rw[this];exact c
 ·obtain⟨d,X⟩:=mem_left he;obtain⟨j,O⟩:=cM d;obtain⟨p,hp,hk,hv⟩:=vy M O;have Z:=aZ hp;have a1:K.heap[r]?=some (.mapIter (some b) since seen c0):=by rcases y with rfl|rfl<;>exact N
  have V:K.heap[b]?=some (.map es clock):=by rcases y with rfl|rfl<;>exact h1
  have m:∀ g,g≠r->(setBlock K r (.mapIter (some b) since (seen.push e.born) clock)).heap[g]?=K.heap[g]?:=λg hg=>by simp[setBlock,bY hg]
  have n:(setBlock K r (.mapIter (some b) since (seen.push e.born) clock)).heap[r]?=some (.mapIter (some b) since (seen.push e.born) clock):=by have:=(bm.1 a1).1;simp[setBlock,this]
  have F:=(m b a6.symm).trans V
  have G:∀ k ∈ es.toList,k.key=iw p.1->k=e:=λk f Y=>by
   obtain⟨J,z⟩:=cM f;obtain⟨x,c,o,Q⟩:=vy M z;rw[Y] at o;simp only[ep,dP] at o;have S:(L.map Prod.fst)[J]?=some p.1:=by rw[bf,c,dr,o]
   have T:(L.map Prod.fst)[j]?=some p.1:=by rw[bf,hp,dr]
   obtain⟨t,q⟩:=aD.1 S;obtain⟨u,s⟩:=aD.1 T;have I:=eJ.1 E
   have:J=j:=by
    rcases dG J j with H|H|H
    ·exact absurd (q.trans s.symm) (I J j t u H)
    ·exact H
    ·exact absurd (s.trans q.symm) (I j J u t H)
   subst this;rw[O] at z;exact (aF z).symm
  have v:p.1 ∉ D.map Prod.fst:=λhd=>by obtain⟨x,c,o⟩:=aO.1 hd;obtain⟨k,f,i,B,_⟩:=h9 x c;rw[o] at B;have:=G k f B;rw[this,X] at i;cases i
  refine .inr ⟨p,Z,v,_,_,by rw[l,hk,hv],⟨es,clock,since,seen.push e.born,clock,F,M,U,h4,n,h7,h7,rfl,λx c=>?_,λk f i=>?_,?_,E⟩,?_,?_,?_⟩
  ·rcases bw.1 c with c|c
   ·obtain⟨k,B,k2,k3⟩:=h9 x c;exact⟨k,B,by rw[gD,k2];rfl,k3⟩
   ·simp only[cD] at c;subst c;exact⟨e,d,by rw[gD];simp,hk,hv⟩
  ·rw[gD] at i;by_cases A:seen.contains k.born=true
   ·obtain⟨x,B,k2⟩:=C k f A;exact⟨x,im _ B,k2⟩
   ·have W:k.born=e.born:=by
     rw[Bool.not_eq_true] at A;rw[A] at i
     simpa using i
    have:=born_inj U f d W;subst this;exact⟨p,by simp,hk,hv⟩
  ·rw[dz]
   exact gt.2 ⟨R,by simp,λa ha b hb=>by simp only[bt,bT,cD] at hb;subst hb;rintro rfl;exact v ha⟩
  ·rw[h8];exact left_shrinks es seen e he
  ·rw[<-hk,<-hv];exact run_entry_at _ r b since seen es clock e n F d U
  ·rcases y with rfl|rfl
   ·exact⟨rfl,rfl,rfl,by simp[setBlock],λg _ hg=>m g hg⟩
   ·exact⟨rfl,rfl,rfl,by simp[setBlock],λg _ hg=>m g hg⟩
end
end Go.Proofs.YthmcbgidehjlbaaGreat.Fd

/-
  The disk, as far as a format needs it; ring.store.put. No condition beyond what each theorem names.
-/
import Derived.Test.YthmcbgidehjlbaaGreatRmGRingPk
import Derived.Test.YthmcbgidehjlbaaGreatRmDiskGPk
namespace Go.Proofs.YthmcbgidehjlbaaGreat.Fd
open _root_.Go.Proofs.Tryz
open Go Go.RowKit K
set_option maxRecDepth 100000
set_option maxHeartbeats 8000000
def DkOk (X:D.Dk) (k:Nat):Prop:=X.plain∧X.size=120∧X.pend.length≤k
def DkTo (w:World) (F:Nat→Prop) (d k:Nat) (w':World):Prop:=∃ F' X',D.At w' F' d X'∧DkOk X' k∧Chg F w w'∧∀ g,F' g→F g∨w.heap.size≤g
theorem DkTo.refl {w:World}{F:Nat→Prop}{d k:Nat}{X:D.Dk}(h:D.At w F d X) (hX:DkOk X k):DkTo w F d k w:=⟨F,X,h,hX,Chg.refl _ _,fun _=>.inl⟩
theorem DkTo.trans {w w1 w2:World}{F F1:Nat→Prop}{d k:Nat}(hc:Chg F w w1) (hF:∀ g,F1 g→F g∨w.heap.size≤g) (h:DkTo w1 F1 d k w2):DkTo w F d k w2:=by
 obtain⟨F',X',h1,h2,h3,h4⟩:=h;exact⟨F',X',h1,h2,hc.then h3 (fun i hi e=>(hF i e).elim id (fun h=>absurd h (by omega))),fun g hg=>(h4 g hg).elim (fun e=>hF g e) (fun e=>.inr (Nat.le_trans hc.size e))⟩
theorem put120 {w:World}{F:Nat→Prop}{d k:Nat}{X:D.Dk}(h:D.At w F d X) (hX:DkOk X k) (hk:k<1000) (n:Nat) (hn:n<120){S:Nat→Prop}{v:Value}{l:List UInt8}(hb:Bytes w S v l) (hl:l.length=64) (hS:∀ g,S g→¬ F g):
  Calls prog 66 #[.pointer (some ⟨d,0,none⟩),.int .i64 n,v] w fun e w'=>e=.returned (.int .i64 0)∧DkTo w F d (k+1) w':=by
 obtain⟨h1,h2,h3⟩:=hX;refine (D.put_plain h h1 (by omega) n (by omega) hb hS hl).mono ?_;rintro e w' ⟨rfl,F',k1,k2,k3⟩;exact⟨rfl,F',_,k1,⟨⟨h1.1,h1.2⟩,h2,by simp;omega⟩,k2,k3⟩
theorem pend_len {w:World}{S:Nat→Prop}:∀ {ps:List (Nat×List UInt8)}{cs:List Value},D.Pend w S ps cs→∀ q ∈ ps,q.2.length=64:=by
 intro ps
 induction ps with
 | nil=>intro cs _ q hq;cases hq
 | cons p ps ih=>
  rintro cs ⟨v,r,rfl,h2,h3,h4⟩ q hq;rcases List.mem_cons.1 hq with rfl|hq
  ·exact h3
  ·exact ih h4 q hq
theorem flush120 {w:World}{F:Nat→Prop}{d k:Nat}{X:D.Dk}(h:D.At w F d X) (hX:DkOk X k):
  Calls prog 67 #[.pointer (some ⟨d,0,none⟩)] w fun e w'=>e=.returned (.int .i64 0)∧DkTo w F d 0 w':=by
 obtain⟨h1,h2,h3⟩:=hX;have hst:=h1.stepped;refine (D.flush_ok h (by rw[hst];exact h1.1)).mono ?_;rintro e w' ⟨rfl,F',k1,k2,k3⟩
 have hp:∀ q ∈ X.pend,q.2.length=64:=by
  obtain⟨sv,pv,pcs,_,_,_,_,_,_,_,hP,_⟩:=h.box;exact pend_len hP
 have hlen:(D.layAll X.sure X.pend).length=64*X.size:=D.layAll_length X.size _ _ h.full.1 (fun q hq=>⟨h.inb q hq,hp q hq⟩);refine⟨rfl,F',_,k1,⟨⟨?_,?_⟩,?_,?_⟩,k2,k3⟩
 ·show X.stepped.dark=false;rw[hst];exact h1.1
 ·show X.stepped.fuse=false;rw[hst];exact h1.2
 ·show (D.layAll X.sure X.pend).length / 64=120;rw[hlen,h2]
 ·simp[D.Dk.flushed]
def PutAt (w:World) (B:Nat) (t:TypeId) (v:Value) (ws:List (Nat×Value)):Prop:=w.ownsRow B t 2 v ws.length (wsL ws)∧∀ p ∈ ws,p.1<120∧∃ Z:List UInt8,Z.length=64∧w.ownsRow B 5 1 p.2 64 (u8s Z)
theorem wsL_get:∀ (ws:List (Nat×Value)) (j:Nat) (p:Nat×Value),ws[j]?=some p→(wsL ws)[j*2]?=some (.int .i64 p.1)∧(wsL ws)[j*2+1]?=some p.2:=by
 intro ws
 induction ws with
 | nil=>intro j p h;simp at h
 | cons q ws ih=>
  intro j p h;have e:wsL (q::ws)=.int .i64 q.1::q.2::wsL ws:=by simp[wsL]
  rw[e];cases j with
  | zero=>
   simp at h;subst h;exact⟨rfl,rfl⟩
  | succ j=>
   simp at h;have h2:=ih j p h;rw[show (j+1)*2=j*2+1+1 by omega];exact h2
theorem PutAt.keep {w w':World}{B:Nat}{t:TypeId}{v:Value}{ws:List (Nat×Value)}(h:PutAt w B t v ws) (hk:∀ g,B≤g→g<w.heap.size→w'.heap[g]?=w.heap[g]?):PutAt w' B t v ws:=
 ⟨owns_keep h.1 (fun g hg=>hk g (owns_ge h.1 g hg) (owns_lt h.1 g hg)),fun p hp=>by
  obtain⟨h1,Z,h2,h3⟩:=h.2 p hp;exact⟨h1,Z,h2,owns_keep h3 (fun g hg=>hk g (owns_ge h3 g hg) (owns_lt h3 g hg))⟩⟩
theorem PutAt.elem {w:World}{B:Nat}{t:TypeId}{v:Value}{ws:List (Nat×Value)}(h:PutAt w B t v ws){j:Nat}(hj:j<ws.length):∃ (g cap:Nat) (p:Nat×Value) (n vg vc:Nat) (Z:List UInt8),v=.slice (some ⟨g,0,none⟩) ws.length cap∧p=(n,Value.slice (some ⟨vg,0,none⟩) 64 vc)∧w.cell? ⟨g,j*2,none⟩=some (.int .i64 n)∧w.cell? ⟨g,j*2+1,none⟩=some (.slice (some ⟨vg,0,none⟩) 64 vc)∧n<120∧Z.length=64∧Bytes w (fun g=>B≤g∧g<w.heap.size) (.slice (some ⟨vg,0,none⟩) 64 vc) Z∧B≤g:=by
 obtain⟨hr,he⟩:=h;obtain⟨g,cap,rfl,_,_⟩:=own_shape hr (by omega);have hp:=List.getElem?_eq_getElem hj;obtain⟨h1,Z,hZ,h3⟩:=he _ (List.getElem_mem hj);obtain⟨vg,vc,hv,_⟩:=own_shape h3 (by omega);obtain⟨g',off,c',hv',_,_,_,_,hcl⟩:=Cells.at (Cells.own hr) (by omega);simp only[Value.slice.injEq,Option.some.injEq,Addr.mk.injEq] at hv';obtain⟨⟨rfl,rfl,_⟩,_,_⟩:=hv';obtain⟨e1,e2⟩:=wsL_get ws j _ hp;have f1:=hcl _ _ e1;have f2:=hcl _ _ e2;rw[Nat.zero_add] at f1 f2;rw[hv] at f2
 have hb:Bytes w (fun g=>B≤g∧g<w.heap.size) (.slice (some ⟨vg,0,none⟩) 64 vc) Z:=by
  rw[← hv];show Cells w _ _ Z.length 1 _;rw[hZ];exact (Cells.own h3).mono (fun g hg hk=>⟨hk.2,hg⟩)
 exact⟨g,cap,(_,_),_,vg,vc,Z,rfl,rfl,f1,f2,h1,hZ,hb,owns_ge hr g rfl⟩
theorem riPut_ok {w:World}{F:Nat→Prop}{d s b k B:Nat}{X:D.Dk}{what:ByteArray}{da ma:Option Addr}{dn dc mn mc:Nat}{pv:Value}{ws:List (Nat×Value)}(h:D.At w F d X) (hX:DkOk X k) (hk:k+ws.length<1000) (hF:∀ g,F g→g<B) (hBw:B≤w.heap.size) (hP:PutAt w B 168 pv ws):
  Calls prog 92 #[.agg (stL d s b what (.slice da dn dc) (.slice ma mn mc)).toArray,pv] w fun e w'=>e=.returned (.int .i64 0)∧DkTo w F d 0 w':=by
 obtain⟨st,hst⟩:∃ st,st=stL d s b what (.slice da dn dc) (.slice ma mn mc):=⟨_,rfl⟩;rw[← hst];obtain⟨q,hq⟩:∃ q,q=w.heap.size:=⟨_,rfl⟩;obtain⟨w1,hw1⟩:∃ w1,w1=w.alloc (.cells st.toArray 174):=⟨_,rfl⟩;have hx:BoxS w1 q st:=by rw[hw1,hq];exact boxS_new w st
 have b1:Below w.heap.size w w1:=by rw[hw1];exact (Below.refl _ _).alloc (Nat.le_refl _) _
 have h1:D.At w1 F d X:=h.chg (Chg.of_below b1 No) (fun _ _=>id);have hP1:PutAt w1 B 168 pv ws:=hP.keep (fun g _ hg=>b1.block g hg);have hFl:∀ g,F g→g<w.heap.size:=fun g hg=>Nat.lt_of_lt_of_le (hF g hg) hBw
 obtain⟨n,hn⟩:∃ n,n=ws.length:=⟨_,rfl⟩;replace hn:=LH hn;obtain⟨pa,pc,rfl,_⟩:=(Cells.own hP1.1).shape;have hn1000:n<1000:=by have:=hn.out;omega
 rw[← hn.out]
 have hg0:∀ w3:World,w3.heap[q]?=w1.heap[q]?→w3.cell? ⟨q,0,none⟩=some (.pointer (some ⟨d,0,none⟩)):=fun w3 e=>by
  rw[cell_of (e.trans hx.at_),hst];rfl
 have hS1:DkTo w1 F d k w1:=DkTo.refl h1 hX;obtain⟨c,hc⟩:∃ c,c=st.toArray:=⟨_,rfl⟩;have hql:=heap_lt hx.at_;rw[← hc] at hw1 ⊢;replace hc:=LH hc;replace hst:=LH hst;replace b1:=LH b1;replace hg0:=LH hg0;replace hP1:=LH hP1;replace hS1:=LH hS1;replace hFl:=LH hFl;replace hF:=LH hF;replace hql:=LH hql;have hB1:=LH (Nat.le_trans hBw b1.out.size);clear h h1 hP hx hX;go_enter func92,ntmps92;go_wp2;rw[← hw1,← hq];replace hw1:=LH hw1;replace hq:=LH hq
 go_loopg [10] n (fun g ix wr=>∃ j:Nat,j+g=n∧ix=.int .i64 j∧Hid (DkTo w1 F d (k+j) wr))
 case atStart=>exact⟨0,by omega,rfl,hS1.out⟩
 case round=>
  obtain⟨j,hjg,rfl,S⟩:=hrel;obtain⟨F',X',s1,s2,s3,s4⟩:=S.out;have hnF:∀ g,B≤g→g<w1.heap.size→¬ F' g:=fun g hg hl e=>(s4 g e).elim (fun e=>by have:=hF.out g e;omega) (fun e=>by omega)
  have hqF:wr.heap[q]?=w1.heap[q]?:=s3.block q hql.out (fun e=>by have:=hFl.out q e;have:=hq.out;omega);have d0:=hg0.out wr hqF;by_cases hlt:j<n
  ·obtain⟨g1,rfl⟩:∃ i,gk=i+1:=⟨gk - 1,by omega⟩;have hlI:(j:Int)<n:=by omega
   obtain⟨pg,cap,p,at',vg,vc,Z,e1,-,c0,c1,hat,hZ,hb0,hpg⟩:=hP1.out.elem (j:=j) (by rw[← hn.out];exact hlt);simp only[Value.slice.injEq] at e1;obtain⟨rfl,-,-⟩:=e1;have hpF:¬ F pg:=fun e=>by have:=hF.out pg e;omega
   replace c0:=(s3.cell (p:=⟨pg,j*2,none⟩) (cell_lt c0) hpF).trans c0;replace c1:=(s3.cell (p:=⟨pg,j*2+1,none⟩) (cell_lt c1) hpF).trans c1;have hb:Bytes wr (fun g=>B≤g∧g<w1.heap.size) (.slice (some ⟨vg,0,none⟩) 64 vc) Z:=Bytes.chg hb0 s3 (fun g _ hg e=>by have:=hF.out g e;omega);obtain⟨w5,hw5⟩:∃ w5,w5=wr.alloc (.cells #[.int .i64 at',.slice (some ⟨vg,0,none⟩) 64 vc] 168):=⟨_,rfl⟩;have c5:Chg No wr w5:=by rw[hw5];exact (Chg.refl _ _).alloc _
   have s5:D.At w5 F' d X':=s1.chg c5 (fun _ _=>id);have d5:w5.cell? ⟨q,0,none⟩=some (.pointer (some ⟨d,0,none⟩)):=(c5.cell (p:=⟨q,0,none⟩) (cell_lt d0) id).trans d0;have x5:w5.heap[wr.heap.size]?=some (.cells #[.int .i64 at',.slice (some ⟨vg,0,none⟩) 64 vc] 168 (0,0)):=by rw[hw5];exact heap_alloc_new wr _
   have f0:=cell_of x5 0;have f1:=cell_of x5 1;have hput:=LH (put120 s5 s2 (by have:=hn.out;omega) at' hat (Bytes.chg hb c5 (fun _ _ _=>id)) hZ (fun g hg=>hnF g hg.1 hg.2));have hc5:Chg F w1 w5:=s3.trans (Chg.mono c5 (fun _ _ e=>e.elim));replace hc5:=LH hc5;replace s4:=LH s4;replace hnF:=LH hnF;clear s1 s2 s3 s5 x5 hb hb0 c5 S hpF;have hw5':=LH hw5;subst hw5
   go_wp2_with fail
   refine hput.out.mono ?_;rintro e w6 ⟨rfl,S6⟩;have S7:DkTo w1 F d (k+(j+1)) w6:=DkTo.trans hc5.out s4.out S6;replace S7:=LH S7;clear S6 hput hc5 d0 d5 f0 f1 c0 c1;go_wp2;go_roundg g1
   case measure=>omega
   case rel=>exact⟨j+1,by omega,by go_num,S7.out⟩
  ·obtain rfl:gk=0:=by omega
   have hlI:¬ (j:Int)<n:=by omega
   have hfl:=LH (flush120 s1 s2);replace s3:=LH s3;replace s4:=LH s4;clear s1 s2 hnF
   go_wp2_with fail
   refine hfl.out.mono ?_;rintro e w6 ⟨rfl,S6⟩;have S7:DkTo w1 F d 0 w6:=DkTo.trans s3.out s4.out S6;have S8:DkTo w F d 0 w6:=DkTo.trans (F:=F) (F1:=F) (Chg.of_below b1.out F) (fun _=>.inl) S7;replace S8:=LH S8;clear S6 S7 hfl;go_wp2;go_ret;exact⟨rfl,S8.out⟩
end Go.Proofs.YthmcbgidehjlbaaGreat.Fd

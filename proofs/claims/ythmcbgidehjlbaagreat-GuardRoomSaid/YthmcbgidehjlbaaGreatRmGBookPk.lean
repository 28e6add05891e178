/-
  Texts of this claim, laid together by a program of mine. No condition beyond what each theorem names.
-/
import Derived.Test.YthmcbgidehjlbaaGreatRmGNumPk
import Derived.Test.YthmcbgidehjlbaaGreatRmTag
import Derived.Lib.AppendZerosOnto
import Derived.Laws.Externs
import Derived.Laws.Tables
import Derived.Test.YthmcbgidehjlbaaGreatRmTapeBPk
/-
  claims.Book: a row of claims; put. No condition beyond what each theorem names.
-/
namespace Go.Proofs.YthmcbgidehjlbaaGreat.Fd
open _root_.Go.Proofs.Tryz
open Go Go.RowKit K
set_option maxRecDepth 100000
set_option maxHeartbeats 4000000
def claimZ:Array Value:=#[.string ⟨#[]⟩,.string ⟨#[]⟩,.int .u8 0,.int .u8 0,.int .u8 0,.int .u8 0,.int .u8 0,.int .u8 0,.int .u8 0,.int .u8 0,.int .u8 0,.int .u8 0,.int .u8 0,.int .u8 0,.int .u8 0,.int .u8 0,.int .u8 0,.int .u8 0,.int .u8 0,.int .u8 0,.int .u8 0,.int .u8 0,.int .u8 0,.int .u8 0,.int .u8 0,.int .u8 0,.int .u8 0,.int .u8 0,.int .u8 0,.int .u8 0,.int .u8 0,.int .u8 0,.int .u8 0,.int .u8 0,.bool false]
theorem infoClaim:(prog.info? 223).map (fun i=>(i.zero,i.size,i.bytes))=some (some (.agg claimZ),35,72):=by kernel_rfl
structure BookAt (w:World) (b:Nat) (lv:Value) (n:Nat):Prop where
 box:w.heap[b]?=some (.cells #[lv] 145 (0,0))
 row:∃ xs,w.ownsRow b 223 35 lv n xs
 few:n≤1000000
def BkC (b:Nat) (lv:Value):Nat→Prop:=fun g=>g=b∨lv.ownBlock=some g
section
variable {w w':World}{b n:Nat}{lv:Value}
theorem BookAt.keep (h:BookAt w b lv n) (hk:∀ g,BkC b lv g→w'.heap[g]?=w.heap[g]?):BookAt w' b lv n:=by
 obtain⟨xs,h2⟩:=h.row;exact⟨(hk b (.inl rfl)).trans h.box,⟨xs,owns_keep h2 (fun g hg=>hk g (.inr hg))⟩,h.few⟩
theorem BookAt.lt (h:BookAt w b lv n){g:Nat}(hg:BkC b lv g):g<w.heap.size:=by
 obtain⟨xs,h2⟩:=h.row;rcases hg with rfl|hg
 ·exact heap_lt h.box
 ·exact (h2.lt g hg).2
theorem BookAt.after (h:BookAt w b lv n) (hb:Below w.heap.size w w'):BookAt w' b lv n:=h.keep (fun g hg=>hb.block g (h.lt hg))
theorem BookAt.push {w3:World}(h:BookAt w b lv n) (hR:Chg No w w3) (hn:n<1000000){u:Value}{xs:List Value}(hu:Cells w3 (fun _=>True) u 1 35 xs) (h1:∀ v ∈ xs,v.oneCell'=true):
  ∃ v' w4,(Builtin.append_ #[143,143] 143 #[lv,u]).run prog w3=.ok v' w4∧w4.cell? ⟨b,0,none⟩=some lv∧w4.frozen? ⟨b,0,none⟩=false∧(∃ g cp,v'=.slice (some ⟨g,0,none⟩) (n+1) cp)∧
   BookAt (w4.setCell ⟨b,0,none⟩ v') b v' (n+1)∧Chg (BkC b lv) w (w4.setCell ⟨b,0,none⟩ v')∧(v'.ownBlock=lv.ownBlock∨∃ g,v'.ownBlock=some g∧w.heap.size≤g):=by
 obtain⟨ys,hrow⟩:=h.row;obtain⟨v',w4,hr,r1,r2,r3⟩:=own_push (P:=prog) (bytes:=72) underlying143 infoClaim rfl (by decide) hrow (Nat.le_trans (Nat.le_of_lt (heap_lt h.box)) (Nat.le_refl _)) hR hu h1 (by unfold maxLen;omega) (by omega) 143;have hpl:=heap_lt h.box;have hpk:¬ lv.ownBlock=some b:=apartT hrow h.box (by decide);have hbox:=(r2.block b hpl hpk).trans h.box
 have hvp:v'.ownBlock≠some b:=by
  rcases r3 with e|⟨g,e,hl⟩
  ·rw[e];exact hpk
  ·rw[e];intro e2;simp at e2;omega
 refine⟨v',w4,hr,?_,frozen_of hbox 0,?_,⟨?_,⟨_,owns_keep r1 (fun g hg=>setCell_heap_ne _ _ _ (by rintro rfl;exact hvp hg))⟩,by omega⟩,?_,r3⟩
 ·rw[cell_of hbox];rfl
 ·obtain⟨g,cp,h1,_,_⟩:=own_shape r1 (by omega);exact⟨g,cp,h1⟩
 ·rw[setCell_block hbox];rfl
 ·exact (r2.mono (fun _ _ e=>.inr e)).setCell (fun _=>.inl rfl) _
end
theorem clPut_ok {w:World}{b n:Nat}{lv:Value}(h:BookAt w b lv n) (hn:n<1000000) (c:Array Value) (hc:c.size=35) (hc1:∀ v ∈ c.toList,v.oneCell'=true):
  Calls prog 135 #[.pointer (some ⟨b,0,none⟩),.agg c] w fun e w'=>e=.returned (.tuple #[])∧∃ lv',BookAt w' b lv' (n+1)∧Chg (BkC b lv) w w'∧(lv'.ownBlock=lv.ownBlock∨∃ g,lv'.ownBlock=some g∧w.heap.size≤g):=by
 obtain⟨la,lc,rfl⟩:∃ a c,lv=.slice a n c:=by obtain⟨xs,h2⟩:=h.row;obtain⟨a,c,e,_⟩:=(Cells.own h2).shape;exact⟨a,c,e⟩
 obtain⟨w1,hw1⟩:∃ w1,w1=w.alloc (.cells c 223):=⟨_,rfl⟩;have hb1:Below w.heap.size w w1:=by rw[hw1];exact (Below.refl _ _).alloc (Nat.le_refl _) _
 have hbox:w1.heap[w.heap.size]?=some (.cells c 223 (0,0)):=by rw[hw1];exact heap_alloc_new w _
 have h1:=h.after hb1;have hC1:Chg No w w1:=Chg.of_below hb1 _;have c0:w1.cell? ⟨b,0,none⟩=some (.slice la n lc):=cell_of h1.box 0;have hpl:=heap_lt h1.box;obtain⟨q,hq⟩:∃ q,q=w.heap.size:=⟨_,rfl⟩;rw[← hq] at hbox
 have hld:∀ w3,Chg No w1 w3→(Instr.loadAt 223 (.pointer (some ⟨q,0,none⟩))).run prog w3=.ok (.agg c) w3:=fun w3 hc3=>
  load_struct (x:=c.toList) underlying223 (by rw[Array.length_toList,hc];kernel_rfl) (fun j v hv=>by
   rw[Nat.zero_add,cell_of ((hc3.block q (heap_lt hbox) id).trans hbox)]
   simpa using hv)
 have hdr:∀ w3,Chg No w1.drew w3→Chg No w1 w3:=fun w3 h=>⟨h.os,h.tape,h.output,h.size,h.block⟩
 replace hdr:=LH hdr;replace hld:=LH hld;replace c0:=LH c0;replace h1:=LH h1;replace hC1:=LH hC1;replace hbox:=LH hbox;replace hc:=LH hc;replace hc1:=LH hc1;replace h:=LH h;clear hb1;go_enter func135,ntmps135;go_wp2;rw[← hw1,← hq];replace hq:=LH hq;replace hw1:=LH hw1;refine RA.rt (Chg No) [5,1,1,1,1,1,3,6,5,5,7] [7,10] (fun _=>True) (trivial) (fun _=>Chg.refl _ _) (fun _ _ _ h k=>h.trans k) (h:=?_);intro cx;refine RA.pq (h:=?_)
 repeat refine RA.qq (h:=?_)
 refine RA.fk prog (b) (0) (h:=?_);refine RA.lk prog (.slice la n lc) (hc:=fun w3 hp=>by exact ((hdr.out _ hp.1).cell (p:=⟨b,0,none⟩) hpl id).trans c0.out) (h:=?_);refine RA.ld (by kernel_rfl) (by rfl) (by rfl) (y':=.agg c) (fun w3 hp=>hld.out w3 (hdr.out _ hp.1)) ?_
 refine RA.bq (fun x w3=>Cells w3 (fun _=>True) x 1 35 c.toList) (fun _ _=>True) (by kernel_rfl) (by rfl) (by kernel_rfl) (fun _ _ _ h k=>k.chg h (fun _ _ _=>id)) (fun _ _ _ _ _=>trivial) (fun w3 hp _=>by
  refine⟨.slice (some ⟨w3.heap.size,0,none⟩) 1 1,w3.alloc (.cells c 223),?_,(Chg.refl _ _).alloc _,lit_cells w3 c 223 1 35 (by rw[hc.out]) (by unfold maxLen;omega),trivial⟩;exact ex_slice1 (RA.evo_ev (by rfl)) underlying143 (by rw[hc.out];exact infoClaim) (by rw[hc.out];omega) (by rw[hc.out];omega) (by rw[hc.out];rfl)) (fun x=>?_)
 refine RA.bqt (fun v' w4=>w4.cell? ⟨b,0,none⟩=some (.slice la n lc)∧w4.frozen? ⟨b,0,none⟩=false∧(∃ g cp,v'=.slice (some ⟨g,0,none⟩) (n+1) cp)∧
   BookAt (w4.setCell ⟨b,0,none⟩ v') b v' (n+1)∧Chg (BkC b (.slice la n lc)) w1 (w4.setCell ⟨b,0,none⟩ v')∧(v'.ownBlock=(Value.slice la n lc).ownBlock∨∃ g,v'.ownBlock=some g∧w1.heap.size≤g)) (by kernel_rfl) (by rfl) (by kernel_rfl) (fun _ _ _ h k=>h ▸ k) (fun w3 hp0 _=>by
  have hp:=hp0.first (by kernel_rfl);obtain⟨v',w4,k1,k2⟩:=h1.out.push (hdr.out _ hp.1) hn (hp.fact 0 rfl (by kernel_rfl)) hc1.out;exact⟨v',w4,RA.ex_append (by rfl) (by rfl) k1,k2⟩) (fun v'=>?_)
 refine RA.pq (h:=?_);refine RA.pk prog (b) (0) (h:=?_)
 refine RA.stt (fun w5=>BookAt w5 b v' (n+1)∧Chg (BkC b (.slice la n lc)) w1 w5∧(v'.ownBlock=(Value.slice la n lc).ownBlock∨∃ g,v'.ownBlock=some g∧w1.heap.size≤g)) (by rfl) (by rfl) (by kernel_rfl) (fun _ _ h k=>h ▸ k) (fun w4 _ hH=>by
  obtain⟨f1,f2,⟨g',cp,rfl⟩,f3,f4,f5⟩:=hH;refine⟨_,RA.ex_store (by rfl) (by rfl) (w':=w4.setCell ⟨b,0,none⟩ (.slice (some ⟨g',0,none⟩) (n+1) cp)) ?_,f3,f4,f5⟩;clear f3 f4 f5;show (Instr.storeAt _ _ _).run prog w4=_;go_simp) ?_
 refine RA.RA.doneT (fun w5 hH=>?_);simp only[RA.put,List.foldr_cons,List.foldr_nil,cx,Act.put,List.setIfInBounds_toArray,List.set_cons_succ,List.set_cons_zero];obtain⟨hT5,hC5,hr5⟩:=hH;have hfin:Chg (BkC b (.slice la n lc)) w w5:=(hC1.out.mono (fun _ _ e=>e.elim)).trans hC5
 have hr6:v'.ownBlock=(Value.slice la n lc).ownBlock∨∃ g,v'.ownBlock=some g∧w.heap.size≤g:=by
  rcases hr5 with e|⟨g,e,hg⟩
  ·exact .inl e
  ·exact .inr ⟨g,e,Nat.le_trans hC1.out.size hg⟩
 replace hT5:=LH hT5;replace hfin:=LH hfin;replace hr6:=LH hr6;clear hC5 hr5;go_wp2;go_end0;exact⟨rfl,v',hT5.out,hfin.out,hr6.out⟩
end Go.Proofs.YthmcbgidehjlbaaGreat.Fd
/-
  mac.Framed: texts, each behind its length. No condition beyond what each theorem names.
-/
namespace Go.Proofs.YthmcbgidehjlbaaGreat.Fd
open _root_.Go.Proofs.Tryz
open Go Go.RowKit K
set_option maxRecDepth 100000
set_option maxHeartbeats 8000000
def len4 (n:Nat):List UInt8:=[byte (n % 256),byte (n / 256 % 256),byte (n / 65536 % 256),byte (n / 16777216 % 256)]
def framedL (parts:List (List UInt8)):List UInt8:=parts.flatMap fun p=>len4 p.length++p
def framedF (parts:List (List UInt8)) (k:Nat):List UInt8:=framedL (parts.take k)
theorem framedF_succ {parts:List (List UInt8)}{k:Nat}(h:k<parts.length):framedF parts (k+1)=framedF parts k++len4 (parts.getD k []).length++parts.getD k []:=by
 unfold framedF framedL;rw[List.take_succ_eq_append_getElem h,List.flatMap_append,List.flatMap_singleton,List.append_assoc];simp[List.getD,List.getElem?_eq_getElem h]
theorem framedF_length {parts:List (List UInt8)}(hl:∀ x ∈ parts,x.length≤100000):∀ k,k≤parts.length→(framedF parts k).length≤k*100004:=by
 intro k
 induction k with
 | zero=>intro _;simp[framedF,framedL]
 | succ k ih=>
  intro h;rw[framedF_succ (by omega),List.length_append,List.length_append];have h1:=ih (by omega)
  have h2:(parts.getD k []).length≤100000:=by
   rw[List.getD,List.getElem?_eq_getElem (by omega)];exact hl _ (List.getElem_mem _)
  have h3:(len4 (parts.getD k []).length).length=4:=rfl;omega
theorem u8s_len4 {a b c d:Nat}(ha:a<256) (hb:b<256) (hc:c<256) (hd:d<256):u8s [byte a,byte b,byte c,byte d]=[.int .u8 a,.int .u8 b,.int .u8 c,.int .u8 d]:=by
 simp[u8s,u8,byte_toNat ha,byte_toNat hb,byte_toNat hc,byte_toNat hd]
theorem framed_ok {w:World}{S:Nat→Prop}{pv:Value}{parts:List (List UInt8)}(hp:PartsAt w S pv parts) (hfew:parts.length≤10) (hlen:∀ x ∈ parts,x.length≤100000):
  Calls prog 158 #[pv] w fun e w'=>∃ v,e=.returned v∧w'.ownsRow w.heap.size 5 1 v (framedL parts).length (u8s (framedL parts))∧Below w.heap.size w w':=by
 have hz1:(Value.int .u8 0).cells.size=1:=rfl;obtain⟨n,hn⟩:∃ n,n=parts.length:=⟨_,rfl⟩;obtain⟨vs,hc,hvs⟩:=hp.row;rw[← hn] at hc hfew;obtain⟨pa,pcap,rfl,hpc1,hpc2⟩:=hc.shape;unfold maxLen at hpc2;have hres:framedL parts=framedF parts n:=by rw[framedF,hn,List.take_length]
 rw[hres];have hfl:=framedF_length hlen;rw[← hn] at hfl
 have hPl:∀ k,(parts.getD k []).length≤100000:=fun k=>by
  rw[List.getD];cases h:parts[k]? with
  | none=>simp
  | some x=>exact hlen x (List.mem_of_getElem? h)
 have hsucc:∀ k,k<n→framedF parts (k+1)=framedF parts k++len4 (parts.getD k []).length++parts.getD k []:=fun k hk=>framedF_succ (by omega)
 have hcr:∀ w3,Below w.heap.size w w3→Cells w3 S (.slice pa n pcap) n 1 vs:=fun w3 h3=>hc.keep h3.size (fun g _ hg=>h3.block g hg)
 have hvr:∀ w3,Below w.heap.size w w3→∀ j v,vs[j]?=some v→Bytes w3 S v (parts.getD j []):=fun w3 h3 j v hv=>Cells.keep (hvs j v hv) h3.size (fun g _ hg=>h3.block g hg)
 have hF0:framedF parts 0=[]:=rfl;replace hres:=LH hres;replace hfl:=LH hfl;replace hPl:=LH hPl;replace hsucc:=LH hsucc;replace hcr:=LH hcr;replace hvr:=LH hvr;replace hF0:=LH hF0;replace hn:=LH hn;clear hp hc hvs hlen;go_enter func158,ntmps158;go_wp2
 go_loopg [2,8] n (fun g o i wr=>∃ k:Nat,k+g=n∧i=.int .i64 k∧Hid (wr.ownsRow w.heap.size 5 1 o (framedF parts k).length (u8s (framedF parts k)))∧Hid (Below w.heap.size w wr))
 case atStart=>exact⟨0,by omega,rfl,by show World.ownsRow _ _ _ _ _ _ _;rw[hF0.out];exact World.ownsRow_nil _ _ _ _,Below.refl _ _⟩
 case round=>
  obtain⟨k,hkg,rfl,HO,hbr⟩:=hrel;by_cases hlt:k<n
  ·obtain⟨g1,rfl⟩:∃ i,gk=i+1:=⟨gk - 1,by omega⟩;obtain⟨pg,poff,pc,hv,_,_,_,hgl,hcl⟩:=Cells.at (hcr.out wr hbr.out) (by omega);simp only[Value.slice.injEq] at hv;obtain⟨rfl,_,rfl⟩:=hv;have hvl:vs.length=n:=by have:=(hcr.out wr hbr.out).1;omega
   obtain⟨q,hq⟩:∃ q,vs[k]?=some q:=⟨vs[k]'(by omega),List.getElem?_eq_getElem (by omega)⟩;have hcq:=hcl k q hq;have hqv:=hvr.out;obtain⟨P,hP⟩:∃ P,P=parts.getD k []:=⟨_,rfl⟩;have hqb:∀ w3,Below w.heap.size w w3→Bytes w3 S q P:=fun w3 h3=>hP ▸ hqv w3 h3 k q hq
   have hPl1:P.length≤100000:=hP ▸ hPl.out k;have hs1:=hsucc.out k hlt;rw[← hP] at hs1;have hqb0:=hqb wr hbr.out;obtain⟨qa,qcap,rfl,hq1,hq2⟩:=hqb0.shape;obtain⟨m,hm⟩:∃ m,m=P.length:=⟨_,rfl⟩;rw[← hm] at hqb hq1 hcq hPl1;obtain⟨A0,hA0⟩:∃ x,x=m % 256:=⟨_,rfl⟩;obtain⟨A1,hA1⟩:∃ x,x=m / 256 % 256:=⟨_,rfl⟩;obtain⟨A2,hA2⟩:∃ x,x=m / 65536 % 256:=⟨_,rfl⟩;obtain⟨A3,hA3⟩:∃ x,x=m / 16777216 % 256:=⟨_,rfl⟩;obtain⟨FK,hFK⟩:∃ x,x=framedF parts k:=⟨_,rfl⟩;obtain⟨FL,hFL⟩:∃ x,x=FK.length:=⟨_,rfl⟩;have hfl1:FL≤1000040:=by have:=hfl.out k (by omega);rw[← hFK,← hFL] at this;omega
   rw[← hFK] at HO hs1;rw[← hFL] at HO
   have hl4:u8s (len4 m)=[.int .u8 A0,.int .u8 A1,.int .u8 A2,.int .u8 A3]:=by
    rw[hA0,hA1,hA2,hA3];exact u8s_len4 (by omega) (by omega) (by omega) (by omega)
   have c0:IntKind.u8.wrap (m:Int)=(A0:Int):=by rw[IntKind.wrap_u8'];omega
   have c1:IntKind.u8.wrap ((m:Int) / 256)=(A1:Int):=by rw[IntKind.wrap_u8'];omega
   have c2:IntKind.u8.wrap ((m:Int) / 65536)=(A2:Int):=by rw[IntKind.wrap_u8'];omega
   have c3:IntKind.u8.wrap ((m:Int) / 16777216)=(A3:Int):=by rw[IntKind.wrap_u8'];omega
   have ho2:(wr.alloc (.cells #[.int .u8 A0,.int .u8 A1,.int .u8 A2,.int .u8 A3] 5)).ownsRow _ _ _ _ _ _:=owns_keep HO.out (fun g hg=>Below.heap_alloc _ _ _ (owns_lt HO.out g hg));have HO2:=LH ho2;have HCB:=LH (lit_cells wr #[.int .u8 A0,.int .u8 A1,.int .u8 A2,.int .u8 A3] 5 4 1 rfl (by unfold maxLen;omega));have HBK:=LH (fun g=>owns_ge HO.out g);have hrs:=hbr.out.size;have hlI:(k:Int)<n:=by omega
   replace hA0:=LH hA0;replace hA1:=LH hA1;replace hA2:=LH hA2;replace hA3:=LH hA3;replace hFK:=LH hFK;replace hFL:=LH hFL;replace hl4:=LH hl4;replace hs1:=LH hs1;replace hm:=LH hm;replace hP:=LH hP;replace hqb:=LH hqb;unfold maxLen at hq2;clear ho2 hqv hqb0 hcl hq
   go_wp2_with (at_builtin;refine K.append ?_ (.tmp 14) (.tmp 26) 42 ?_ w.heap.size 5 (.int .u8 0) 1 1 underlying42 infoByte hz1 (by omega) _ FL _ ?_ HO2.out (fun _=>True) _ 4 [.int .u8 A0,.int .u8 A1,.int .u8 A2,.int .u8 A3] ?_ HCB.out (by simp[Value.oneCell']) (by unfold maxLen;omega) (by omega) ?_ ?_)
   ·rfl
   ·rfl
   ·omega
   intro v' w2 x1 x2 x3 x4;have X1:=LH x1;have hb2:Below w.heap.size w (wr.alloc (.cells #[.int .u8 A0,.int .u8 A1,.int .u8 A2,.int .u8 A3] 5)):=hbr.out.alloc hbr.out.size _;have hb3:=LH ((Chg.of_below hb2 No).grown x2 (fun g hg hl=>absurd (HBK.out g hg) (by omega))).no;have HBK2:=LH (fun g=>owns_ge X1.out g);have hqb2:=LH (hqb.out w2 hb3.out);have hw2s:=hb3.out.size;clear x1 x2 x3 x4 hb2
   go_wp2_with (at_builtin;refine K.append ?_ (.tmp 28) (.tmp 29) 42 ?_ w.heap.size 5 (.int .u8 0) 1 1 underlying42 infoByte hz1 (by omega) _ (FL+4) _ ?_ X1.out S _ m (u8s P) ?_ (by rw[hm.out];exact hqb2.out) (by simp[u8s,u8,Value.oneCell']) (by unfold maxLen;omega) (by omega) ?_ ?_)
   any_goals (first|rfl|omega)
   intro v3 w3 y1 y2 y3 y4;have Y1:=LH y1;have hb4:=LH ((Chg.of_below hb3.out No).grown y2 (fun g hg hl=>absurd (HBK2.out g hg) (by omega))).no;clear y1 y2 y3 y4;go_wp2;go_roundg g1
   case measure=>omega
   case rel=>
    refine⟨k+1,by omega,by go_num,?_,hb4.out⟩;show World.ownsRow _ _ _ _ _ _ _;have h:=Y1.out;rw[hs1.out,← hm.out,u8s_append,u8s_append,List.length_append,List.length_append,hl4.out,← hFL.out,← hm.out,List.append_assoc];exact h
  ·obtain rfl:gk=0:=by omega
   obtain rfl:k=n:=by omega
   have hlI:¬ (k:Int)<k:=by omega
   clear hkg hlt;go_wp2;go_ret;exact⟨_,rfl,HO.out,hbr.out⟩
end Go.Proofs.YthmcbgidehjlbaaGreat.Fd
/-
  slices.Concat: texts, one behind the other. No condition beyond what each theorem names.
-/
namespace Go.Proofs.YthmcbgidehjlbaaGreat.Fd
open _root_.Go.Proofs.Tryz
open Go Go.RowKit K
set_option maxRecDepth 100000
set_option maxHeartbeats 8000000
theorem grow_ok (n:Nat) (hn:n≤1000000) (w:World):
  Calls prog 142 #[.slice none 0 0,.int .i64 n] w fun e w'=>∃ v,e=.returned v∧w'.ownsRow w.heap.size 5 1 v 0 []∧Below w.heap.size w w':=by
 by_cases h0:n=0
 ·subst h0;go_enter func142,ntmps142;go_wp2;go_ret;exact⟨_,rfl,World.ownsRow_nil _ _ _ _,Below.refl _ _⟩
 ·obtain⟨i,hi1,hi2,hi3,hi4⟩:=info_parts infoByte;obtain⟨G,hG⟩:∃ G,G=grownCap w n 0 5:=⟨_,rfl⟩;have hG1:n≤G:=hG ▸ grownCap_ge w n 0 5;have hG2:G≤maxLen:=hG ▸ grownCap_le_maxLen w n 0 5 (by unfold maxLen;omega);obtain⟨ROW,hROW⟩:∃ C,C=(#[]:Array Value)++Builtin.zeroCells (Value.int .u8 0).cells n++Builtin.zeroCells (Value.int .u8 0).cells (G - n):=⟨_,rfl⟩
  have hRs:ROW.size=G:=by
   rw[hROW];have e:(Value.int .u8 0).cells.size=1:=rfl;simp only[Array.size_append,size_zeroCells,e];simp;omega
  obtain⟨N,hN⟩:∃ N,N=w.heap.size:=⟨_,rfl⟩;obtain⟨W1,hW1⟩:∃ W,W=w.drew.alloc (.cells ROW 5):=⟨_,rfl⟩
  have hrz:∀ ty,(Builtin.append_ #[42,3] ty #[.slice none 0 0,.int .i64 (n:Int)]).run prog w=.ok (.slice (some ⟨N,0,none⟩) n G) W1:=by
   intro ty;have h:=Lib.run_append_grow_zeros (P:=prog) w 42 3 ty 5 i _ .i64 .i64 underlying42 underlying3 hi1 hi2 none 0 0 [] (by simp[Builtin.firstCells]) n (by omega) (by omega) (by omega) (by omega) (by rw[hi4];omega) (by rw[hi4,Nat.zero_add];exact growslice_fits (by omega) (by omega));rw[Nat.zero_add,← hG,← hROW,← hW1,← hN] at h;exact h
  have hA1:W1.heap[N]?=some (.cells ROW 5 (0,0)):=by rw[hW1,hN];exact heap_alloc_new w.drew _
  have hB1:Below N w W1:=by
   rw[hW1];have h0:Below N w w.drew:=(Below.refl _ _).drew;exact h0.alloc (by simp[hN]) _
  have hown:W1.ownsRow N 5 1 (.slice (some ⟨N,0,none⟩) 0 G) 0 []:=⟨by simp,.inr ⟨N,G,ROW,rfl,Nat.le_refl _,hA1,Nat.zero_le _,hG2,by rw[hRs,Nat.mul_one],by simp⟩⟩;rw[← hN];unfold maxLen at hG2;have hn0:(0:Int)<(n:Int):=by omega
  replace hrz:=LH hrz;replace hown:=LH hown;replace hB1:=LH hB1;clear hA1 hRs hROW hW1 hG hi1 hi2 hi3 hi4 hN;go_enter func142,ntmps142
  go_wp2_with (at_builtin;refine Lib.wpList_append_run _ rfl (.tmp 20) (.tmp 21) 42 3 rfl _ _ rfl rfl _ _ (hrz.out _) ?_)
  go_ret;exact⟨_,rfl,hown.out,hB1.out⟩
def catF (parts:List (List UInt8)) (k:Nat):List UInt8:=(parts.take k).flatten
theorem catF_succ {parts:List (List UInt8)}{k:Nat}(h:k<parts.length):catF parts (k+1)=catF parts k++parts.getD k []:=by
 unfold catF;rw[List.take_succ_eq_append_getElem h,List.flatten_append];simp[List.getD,List.getElem?_eq_getElem h]
theorem catF_length {parts:List (List UInt8)}(hl:∀ x ∈ parts,x.length≤100000):∀ k,k≤parts.length→(catF parts k).length≤k*100000:=by
 intro k
 induction k with
 | zero=>intro _;simp[catF]
 | succ k ih=>
  intro h;rw[catF_succ (by omega),List.length_append];have h1:=ih (by omega)
  have h2:(parts.getD k []).length≤100000:=by
   rw[List.getD,List.getElem?_eq_getElem (by omega)];exact hl _ (List.getElem_mem _)
  omega
theorem concat_ok {w:World}{S:Nat→Prop}{pv:Value}{parts:List (List UInt8)}(hp:PartsAt w S pv parts) (hfew:parts.length≤10) (hlen:∀ x ∈ parts,x.length≤100000):
  Calls prog 117 #[pv] w fun e w'=>∃ v,e=.returned v∧w'.ownsRow w.heap.size 5 1 v parts.flatten.length (u8s parts.flatten)∧Below w.heap.size w w':=by
 have hz1:(Value.int .u8 0).cells.size=1:=rfl;obtain⟨n,hn⟩:∃ n,n=parts.length:=⟨_,rfl⟩;obtain⟨vs,hc,hvs⟩:=hp.row;rw[← hn] at hc hfew;obtain⟨pa,pcap,rfl,hpc1,hpc2⟩:=hc.shape;unfold maxLen at hpc2;have hres:parts.flatten=catF parts n:=by rw[catF,hn,List.take_length]
 rw[hres];have hfl:=catF_length hlen;rw[← hn] at hfl
 have hPl:∀ k,(parts.getD k []).length≤100000:=fun k=>by
  rw[List.getD];cases h:parts[k]? with
  | none=>simp
  | some x=>exact hlen x (List.mem_of_getElem? h)
 have hsucc:∀ k,k<n→catF parts (k+1)=catF parts k++parts.getD k []:=fun k hk=>catF_succ (by omega)
 have hcr:∀ w3,Below w.heap.size w w3→Cells w3 S (.slice pa n pcap) n 1 vs:=fun w3 h3=>hc.keep h3.size (fun g _ hg=>h3.block g hg)
 have hvr:∀ w3,Below w.heap.size w w3→∀ j v,vs[j]?=some v→Bytes w3 S v (parts.getD j []):=fun w3 h3 j v hv=>Cells.keep (hvs j v hv) h3.size (fun g _ hg=>h3.block g hg)
 have hF0:catF parts 0=[]:=rfl;have hvl:vs.length=n:=by have:=hc.1;omega
 replace hvl:=LH hvl;replace hres:=LH hres;replace hfl:=LH hfl;replace hPl:=LH hPl;replace hsucc:=LH hsucc;replace hcr:=LH hcr;replace hvr:=LH hvr;replace hF0:=LH hF0;replace hn:=LH hn;clear hp hc hvs hlen;go_enter func117,ntmps117;go_wp2
 go_loopg [3,11] n (fun g t i wr=>∃ k T:Nat,k+g=n∧i=.int .i64 k∧t=.int .i64 T∧T≤k*100000∧wr=w)
 case atStart=>exact⟨0,0,by omega,rfl,rfl,by omega,rfl⟩
 case round=>
  obtain⟨k,T,hkg,rfl,rfl,hT,rfl⟩:=hrel;by_cases hlt:k<n
  ·obtain⟨g1,rfl⟩:∃ i,gk=i+1:=⟨gk - 1,by omega⟩;obtain⟨pg,poff,pc,hv,_,_,_,hgl,hcl⟩:=Cells.at (hcr.out wr (Below.refl _ _)) (by omega);simp only[Value.slice.injEq] at hv;obtain⟨rfl,_,rfl⟩:=hv;obtain⟨q,hq⟩:∃ q,vs[k]?=some q:=⟨vs[k]'(by rw[hvl.out];exact hlt),List.getElem?_eq_getElem (by rw[hvl.out];exact hlt)⟩;have hcq:=hcl k q hq;have hqb:=hvr.out wr (Below.refl _ _) k q hq;obtain⟨P,hP⟩:∃ P,P=parts.getD k []:=⟨_,rfl⟩;rw[← hP] at hqb;have hPl1:P.length≤100000:=hP ▸ hPl.out k;obtain⟨qa,qcap,rfl,hq1,hq2⟩:=hqb.shape;obtain⟨m,hm⟩:∃ m,m=P.length:=⟨_,rfl⟩;rw[← hm] at hcq hPl1;have hlI:(k:Int)<n:=by omega
   obtain⟨U,hU⟩:∃ U,U=T+m:=⟨_,rfl⟩;have hs:((T:Int)+m)=(U:Int):=by omega
   have hT0:¬ (U:Int)<0:=by omega
   have hTm:U≤10000000:=by omega
   have hU2:U≤(k+1)*100000:=by omega
   replace hU:=LH hU;replace hm:=LH hm;replace hP:=LH hP;clear hqb hcl hq;go_wp2;go_roundg g1
   case measure=>omega
   case rel=>exact⟨k+1,U,by omega,by go_num,rfl,hU2,by simp⟩
  ·obtain rfl:gk=0:=by omega
   obtain rfl:k=n:=by omega
   have hTl:T≤1000000:=by omega
   obtain⟨wo,rfl⟩:∃ wo:World,wo=wr:=⟨_,rfl⟩;have hgr:=LH (grow_ok T hTl wo);clear hkg hlt
   go_wp2_with fail
   refine hgr.out.mono ?_;rintro e w1 ⟨gv,rfl,hg1,hg2⟩;replace hg1:=LH hg1;replace hg2:=LH hg2;clear hgr hT hTl;go_wp2
   go_loopg [6,27] k (fun g o i w3=>∃ j:Nat,j+g=k∧i=.int .i64 j∧Hid (w3.ownsRow wo.heap.size 5 1 o (catF parts j).length (u8s (catF parts j)))∧Hid (Below wo.heap.size wo w3))
   case atStart=>exact⟨0,by omega,rfl,by show World.ownsRow _ _ _ _ _ _ _;rw[hF0.out];exact hg1.out,hg2.out⟩
   case round=>
    obtain⟨j,hjg,rfl,HO,hbr⟩:=hrel;clear hg1 hg2;by_cases hlt:j<k
    ·obtain⟨g2,rfl⟩:∃ i,gk=i+1:=⟨gk - 1,by omega⟩;obtain⟨pg,poff,pc,hv,_,_,_,hgl,hcl⟩:=Cells.at (hcr.out wr hbr.out) (by omega);simp only[Value.slice.injEq] at hv;obtain⟨rfl,_,rfl⟩:=hv;obtain⟨q,hq⟩:∃ q,vs[j]?=some q:=⟨vs[j]'(by rw[hvl.out];exact hlt),List.getElem?_eq_getElem (by rw[hvl.out];exact hlt)⟩;have hcq:=hcl j q hq;have hqb:=hvr.out wr hbr.out j q hq;obtain⟨P,hP⟩:∃ P,P=parts.getD j []:=⟨_,rfl⟩;rw[← hP] at hqb;have hPl1:P.length≤100000:=hP ▸ hPl.out j;have hs1:=hsucc.out j hlt;rw[← hP] at hs1;obtain⟨qa,qcap,rfl,hq1,hq2⟩:=hqb.shape;obtain⟨m,hm⟩:∃ m,m=P.length:=⟨_,rfl⟩;rw[← hm] at hcq hPl1 hq1 hqb;obtain⟨FK,hFK⟩:∃ x,x=catF parts j:=⟨_,rfl⟩;obtain⟨FL,hFL⟩:∃ x,x=FK.length:=⟨_,rfl⟩;have hfl1:FL≤1000000:=by have:=hfl.out j (by omega);rw[← hFK,← hFL] at this;omega
     rw[← hFK] at HO hs1;rw[← hFL] at HO;have hlI:(j:Int)<k:=by omega
     have HBK:=LH (fun g=>owns_ge HO.out g);have hrs:=hbr.out.size;replace hqb:=LH hqb;replace hs1:=LH hs1;replace hm:=LH hm;replace hP:=LH hP;replace hFK:=LH hFK;replace hFL:=LH hFL;unfold maxLen at hq2;clear hcl hq
     go_wp2_with (at_builtin;refine K.append ?_ (.tmp 31) (.tmp 32) 42 ?_ wo.heap.size 5 (.int .u8 0) 1 1 underlying42 infoByte hz1 (by omega) _ FL _ ?_ HO.out S _ m (u8s P) ?_ (by rw[hm.out];exact hqb.out) (K.u8s_one P) (by unfold maxLen;omega) (by omega) ?_ ?_)
     any_goals (first|rfl|omega)
     intro v3 w3 y1 y2 y3 y4;have Y1:=LH y1;have hb4:=LH ((Chg.of_below hbr.out No).grown y2 (fun g hg hl=>absurd (HBK.out g hg) (by omega))).no;clear y1 y2 y3 y4;go_wp2;go_roundg g2
     case measure=>omega
     case rel=>
      refine⟨j+1,by omega,by go_num,?_,hb4.out⟩;show World.ownsRow _ _ _ _ _ _ _;have h:=Y1.out;rw[hs1.out,u8s_append,List.length_append,← hFL.out,← hm.out];exact h
    ·obtain rfl:gk=0:=by omega
     obtain rfl:j=k:=by omega
     have hlI:¬ (j:Int)<j:=by omega
     clear hjg hlt;go_wp2;go_ret;exact⟨_,rfl,HO.out,hbr.out⟩
end Go.Proofs.YthmcbgidehjlbaaGreat.Fd
/-
  mac.Sum, mac.Short, claims: a claim, made and put down. No condition beyond what each theorem names.
-/
namespace Go.Proofs.YthmcbgidehjlbaaGreat.Fd
open _root_.Go.Proofs.Tryz
open Go Go.RowKit K
set_option maxRecDepth 100000
set_option maxHeartbeats 4000000
theorem sizeHash' {l:List UInt8}(h:l.length=32):(prog.info? 209).map (·.size)=some l.length:=by rw[h];kernel_rfl
theorem maSum_ok {w:World}{S S':Nat→Prop}{kv pv:Value}{key:List UInt8}{parts:List (List UInt8)}(hk:Bytes w S kv key) (hl:key.length≤64) (hp:PartsAt w S' pv parts) (h0:0<parts.length) (hfew:parts.length≤7) (hlen:∀ x ∈ parts,x.length≤100000):
  Calls prog 159 #[kv,pv] w fun e w'=>e=.returned (.agg (u8s (tagL key parts)).toArray)∧Below w.heap.size w w':=by
 obtain⟨n,hn⟩:∃ n,n=w.heap.size:=⟨_,rfl⟩;have HN:=LH hn;obtain⟨wA,hwA⟩:∃ x,x=w.alloc (.cells (u8s (List.replicate 32 0)).toArray 209):=⟨_,rfl⟩;have sA:wA.heap.size=n+1:=by rw[hwA,hn];simp
 have bA:Below w.heap.size w wA:=by rw[hwA];exact (Below.refl _ _).alloc (Nat.le_refl _) _
 have xA:Arr wA n 209 (List.replicate 32 0):=by rw[hwA,hn];exact heap_alloc_new w _
 have hkA:Bytes wA S kv key:=Cells.keep hk bA.size (fun g _ hg=>bA.block g hg);have hpA:PartsAt wA S' pv parts:=hp.keep bA.size (fun g _ hg=>bA.block g hg);obtain⟨T,hT⟩:∃ T,T=tagL key parts:=⟨_,rfl⟩;have hTl:T.length=32:=hT ▸ tagL_length;have hnew:=LH (macNew_ok hkA hl);rw[← hT];replace bA:=LH bA;replace xA:=LH xA;replace hpA:=LH hpA;replace hT:=LH hT;replace sA:=LH sA;replace hlen:=LH hlen;have hwA':=LH hwA;subst hwA;clear hn hkA hk hp;go_enter func159,ntmps159
 go_wp2_with fail
 rw[← HN.out];refine hnew.out.mono ?_;rintro e w1 ⟨p,s,iv,ov,rfl,hK,hb1⟩;have hp1:PartsAt w1 S' pv parts:=hpA.out.keep hb1.size (fun g _ hg=>hb1.block g hg);have htag:=LH (tag_ok hK hp1 h0 hfew hlen.out);have x1:Arr w1 n 209 (List.replicate 32 0):=xA.out.keep (hb1.block n (heap_lt xA.out));have b1:Below w.heap.size w w1:=bA.out.trans (hb1.mono bA.out.size);rw[← hT.out] at htag;replace x1:=LH x1;replace b1:=LH b1;clear hK hp1 hb1 hnew xA bA hpA
 go_wp2_with fail
 refine htag.out.mono ?_;rintro e w2 ⟨rfl,hb2⟩;have x2:Arr w2 n 209 (List.replicate 32 0):=x1.out.keep (hb2.block n (heap_lt x1.out));have b2:Below w.heap.size w w2:=b1.out.trans (hb2.mono b1.out.size);have hst:=LH (hash_store x2 hTl);have hfin:Arr (w2.setRow n (u8s T).toArray) n 209 T:=x2.setRow T;have hbf:Below w.heap.size w (w2.setRow n (u8s T).toArray):=below_setRow b2 (by rw[HN.out];omega) _;replace hfin:=LH hfin;replace hbf:=LH hbf;clear htag x1 b1 hb2 x2 b2
 go_wp2_with (first|(refine wpList_store rfl 209 _ _ rfl _ _ rfl rfl hst.out ?_)|fail)
 refine bodyPost_ret (results_cell_row results159 _ _ n 209 _ (0,0) _ rfl hfin.out underlying209 rfl (by rw[sizeHash' hTl];simp[u8s_length])) rfl ⟨rfl,hbf.out⟩
theorem maShort_ok {h:List UInt8}(hl:h.length=32) (w:World):Calls prog 120 #[.agg (u8s h).toArray] w fun e w'=>e=.returned (.agg (u8s (h.take 16)).toArray)∧Below w.heap.size w w':=by
 obtain⟨n,hn⟩:∃ n,n=w.heap.size:=⟨_,rfl⟩;have HN:=LH hn;obtain⟨V,hV⟩:∃ V,V=(u8s h).toArray:=⟨_,rfl⟩;obtain⟨T,hT⟩:∃ T,T=h.take 16:=⟨_,rfl⟩;have hTl:T.length=16:=by rw[hT,List.length_take];omega
 obtain⟨w2,hw2⟩:∃ w2,w2=(w.alloc (.cells V 209)).alloc (.cells #[.int .u8 0,.int .u8 0,.int .u8 0,.int .u8 0,.int .u8 0,.int .u8 0,.int .u8 0,.int .u8 0,.int .u8 0,.int .u8 0,.int .u8 0,.int .u8 0,.int .u8 0,.int .u8 0,.int .u8 0,.int .u8 0] 179):=⟨_,rfl⟩;have x1:w2.heap[n]?=some (.cells V 209 (0,0)):=by rw[hw2,hn];exact (Below.heap_alloc _ _ _ (by simp)).trans (heap_alloc_new w _)
 have x2:Arr w2 (n+1) 179 (List.replicate 16 0):=by rw[hw2,hn];have h:=heap_alloc_new (w.alloc (.cells V 209)) (.cells #[.int .u8 0,.int .u8 0,.int .u8 0,.int .u8 0,.int .u8 0,.int .u8 0,.int .u8 0,.int .u8 0,.int .u8 0,.int .u8 0,.int .u8 0,.int .u8 0,.int .u8 0,.int .u8 0,.int .u8 0,.int .u8 0] 179);simp only[World.size_alloc] at h;exact h
 have b2:Below w.heap.size w w2:=by rw[hw2];exact ((Below.refl _ _).alloc (Nat.le_refl _) _).alloc (by simp) _
 have hld:(Instr.loadAt 179 (.pointer (some ⟨n,0,none⟩))).run prog w2=.ok (.agg (u8s T).toArray) w2:=
  run_loadAt_vals (x:=u8s T) underlying179 (by rw[u8s_length];exact size61 hTl) (fun j v hv=>by
   rw[Nat.zero_add,cell_of x1,hV];have hj:j<16:=by have:=(List.getElem?_eq_some_iff.1 hv).1;rw[u8s_length,hTl] at this;exact this
   rw[← hv,hT];simp[u8s,hj])
 have hst:=block_store x2 List.length_replicate T hTl;have hfin:Arr (w2.setRow (n+1) (u8s T).toArray) (n+1) 179 T:=x2.setRow T;have hbf:Below w.heap.size w (w2.setRow (n+1) (u8s T).toArray):=below_setRow b2 (by omega) _;have har:(Instr.arrayAt 179 (.slice (some ⟨n,0,none⟩) 16 32)).run prog w2=.ok (.pointer (some ⟨n,0,none⟩)) w2:=run_arrayAt _ _ _;rw[← hV,← hT];replace hld:=LH hld;replace hst:=LH hst;replace hfin:=LH hfin;replace hbf:=LH hbf;replace hV:=LH hV;replace hT:=LH hT;clear x1 x2 b2;subst hw2;rw[hn] at hld hst hfin hbf har;clear hn HN;go_enter func120,ntmps120
 go_wp2_with (first|(refine wpList_load rfl 179 _ rfl _ _ rfl hld.out ?_)|(refine wpList_store rfl 179 _ _ rfl _ _ rfl rfl hst.out ?_)|fail)
 refine bodyPost_ret (results_cell_row results120 _ _ (w.heap.size+1) 179 _ (0,0) _ rfl hfin.out underlying179 rfl (by rw[size61 hTl];simp[u8s_length])) rfl ⟨rfl,hbf.out⟩
end Go.Proofs.YthmcbgidehjlbaaGreat.Fd
/-
  claims.claim, Book.Make. No condition beyond what each theorem names.
-/
namespace Go.Proofs.YthmcbgidehjlbaaGreat.K
open _root_.Go.Proofs.Tryz
open Go Go.RowKit
set_option maxRecDepth 100000
set_option maxHeartbeats 8000000
theorem built_of {P:Program}{t:TypeId}{fs:Array Field}{places:List (Nat×Nat)}{z:Value}(hu:P.underlying t=some (.struct fs)) (hz:(P.info? t).map (fun i=>i.zero)=some (some z)) (hp:fs.toList.mapM (fun f=>(P.info? f.type).map fun i=>(f.offset,i.size))=some places) (parts:List (Nat×Value)):
  P.built t parts=Instr.fill (places.toArray[·]?) z.cells parts:=by
 unfold Program.built;cases hi:P.info? t with
 | none=>simp[hi] at hz
 | some i=>
  simp only[hi,Option.map_some,Option.some.injEq] at hz;simp only[hu,hz,hp]
theorem store_struct {P:Program}{w:World}{g:Nat}{t ty:TypeId}{cs:Array Value}{x:List Value}(h:w.heap[g]?=some (.cells cs t (0,0))) (hi:(P.info? ty).map (·.size)=some x.length) (hl:cs.size=x.length) (h1:∀ v ∈ x,v.oneCell'=true):
  (Instr.storeAt ty (.pointer (some ⟨g,0,none⟩)) (.agg x.toArray)).run P w=.ok () (w.setRow g x.toArray):=by
 simp only[Instr.storeAt,Instr.sureAddr,Sem.run_bind,Sem.run_pure,Result.andThen];rw[run_storeVar_row w g t ty _ _ h (by simpa using hi) (by simpa using hl) (by rw[List.all_toArray];exact List.all_eq_true.2 h1)]
end Go.Proofs.YthmcbgidehjlbaaGreat.K
namespace Go.Proofs.YthmcbgidehjlbaaGreat.RA
open _root_.Go.Proofs.Tryz
open Go
set_option maxRecDepth 100000
set_option maxHeartbeats 8000000
theorem map_evo2 {c:Cx}{K:List (Nat×Value)}{xs:List (Nat×Operand)}{ys:List (Nat×Value)}(h:xs.map (fun p=>(p.1,evo c K p.2))=ys.map (fun p=>(p.1,some p.2))):xs.map (fun p=>(p.1,ev c.a0 K p.2))=ys:=by
 induction xs generalizing ys with
 | nil=>cases ys with
  | nil=>rfl
  | cons y ys=>cases h
 | cons x xs ih=>cases ys with
  | nil=>cases h
  | cons y ys=>
   simp only[List.map_cons,List.cons.injEq,Prod.mk.injEq] at h ⊢;obtain⟨⟨h1,h2⟩,h3⟩:=h;refine⟨?_,ih h3⟩;rw[h1,evo_ev h2]
theorem ex_build {c:Cx}{K:List (Nat×Value)}{P:Program}{t:TypeId}{xs:List (Nat×Operand)}{ys:List (Nat×Value)}{cells:Array Value}{ds:Option Nat}{ty:TypeId}{ps:String}{af:Array Edge}{gu:Option (Nat×Bool)}{w:World}
  (hx:xs.map (fun p=>(p.1,evo c K p.2))=ys.map (fun p=>(p.1,some p.2))) (hr:(Instr.build t ys.toArray).run P w=.ok (.agg cells) w):
  (execOp (ev c.a0 K) ⟨ds,.build t xs.toArray,ty,ps,af,gu⟩).run P w=.ok (.value (.agg cells)) w:=by
 unfold execOp;simp only[List.map_toArray];rw[show (xs.map fun x=>match x with|(i,x)=>(i,ev c.a0 K x))=ys from map_evo2 hx,];simp[hr,Result.andThen]
end Go.Proofs.YthmcbgidehjlbaaGreat.RA
namespace Go.Proofs.YthmcbgidehjlbaaGreat.Fd
open _root_.Go.Proofs.Tryz
open Go Go.RowKit K
set_option maxRecDepth 100000
set_option maxHeartbeats 8000000
def claimL (a b:ByteArray) (g:List UInt8) (m:Bool):List Value:=[.string a,.string b]++u8s g++[.bool m]
theorem claimL_length {a b:ByteArray}{g:List UInt8}{m:Bool}(hg:g.length=32):(claimL a b g m).length=35:=by simp[claimL,u8s_length,hg]
theorem claimL_one {a b:ByteArray}{g:List UInt8}{m:Bool}:∀ v ∈ claimL a b g m,v.oneCell'=true:=by
 intro v hv;simp only[claimL,List.mem_append,List.mem_cons,List.not_mem_nil,or_false] at hv;rcases hv with ((rfl|rfl)|hv)|rfl
 ·rfl
 ·rfl
 ·exact u8s_one g v hv
 ·rfl
theorem claim_built (a b:ByteArray){g:List UInt8}(hg:g.length=32) (w:World):(Instr.build 223 #[(0,.string a),(1,.string b),(2,.agg (u8s g).toArray)]).run prog w=.ok (.agg (claimL a b g false).toArray) w:=by
 refine run_build w _ _ _ ?_;rw[built_of (places:=[(0,1),(1,1),(2,32),(34,1)]) (z:=.agg claimZ) underlying223 (by kernel_rfl) (by kernel_rfl)];show Instr.fill _ claimZ [(0,.string a),(1,.string b),(2,.agg (u8s g).toArray)]=_;rw[fill_cons (off:=0) (size:=1) rfl rfl (Nat.le_of_ble_eq_true rfl),fill_cons (off:=1) (size:=1) rfl rfl (Nat.le_of_ble_eq_true rfl),fill_cons (off:=2) (size:=32) rfl (by simp[Value.cells,u8s_length,hg]) (Nat.le_of_ble_eq_true rfl),Instr.fill];congr 2;show List.take 2 _++(u8s g++List.drop (2+(u8s g).length) _)=_;rw[u8s_length,hg];rfl
theorem claim_ok {w:World}{S S':Nat→Prop}{kv pv:Value}{key:List UInt8}{parts:List (List UInt8)}(hk:Bytes w S kv key) (hl:key.length≤64) (hp:PartsAt w S' pv parts) (hfew:parts.length≤10) (hlen:∀ x ∈ parts,x.length≤100000) (hfl:(framedL parts).length≤100000):
  Calls prog 133 #[kv,pv] w fun e w'=>e=.returned (.agg (claimL ⟨key.toArray⟩ ⟨(framedL parts).toArray⟩ (tagL key [framedL parts]) false).toArray)∧Below w.heap.size w w':=by
 obtain⟨n,hn⟩:∃ n,n=w.heap.size:=⟨_,rfl⟩;have HN:=LH hn;obtain⟨ka,kc,rfl,hk1,hk2⟩:=hk.shape;obtain⟨T,hT⟩:∃ T,T=framedL parts:=⟨_,rfl⟩;obtain⟨G,hG⟩:∃ G,G=tagL key [T]:=⟨_,rfl⟩;have hGl:G.length=32:=hG ▸ tagL_length;obtain⟨wA,hwA⟩:∃ x,x=w.alloc (.cells claimZ 223):=⟨_,rfl⟩;have bA:Below w.heap.size w wA:=by rw[hwA];exact (Below.refl _ _).alloc (Nat.le_refl _) _
 have xA:wA.heap[n]?=some (.cells claimZ 223 (0,0)):=by rw[hwA,hn];exact heap_alloc_new w _
 have hkA:Bytes wA S (.slice ka key.length kc) key:=Cells.keep hk bA.size (fun g _ hg=>bA.block g hg);have hfr:=framed_ok (hp.keep bA.size (fun g _ hg=>bA.block g hg)) hfew hlen;rw[← hT] at hfl hfr ⊢;rw[← hG];obtain⟨KL,hKL⟩:∃ l,l=key.length:=⟨_,rfl⟩;rw[← hKL] at hkA hl ⊢;replace hfr:=LH hfr;replace bA:=LH bA;replace xA:=LH xA;replace hkA:=LH hkA;replace hG:=LH hG;replace hT:=LH hT;replace hKL:=LH hKL;subst hwA;clear hn hk hp hlen hk1;go_enter func133,ntmps133
 go_wp2_with fail
 rw[← HN.out];refine hfr.out.mono ?_;rintro e w1 ⟨tv,rfl,ho,hb1⟩;obtain⟨ta,tc,rfl,_,_⟩:=(Cells.own ho).shape;have hTb:Bytes w1 (fun _=>True) (.slice ta T.length tc) T:=(Cells.own ho).mono (fun _ _ _=>trivial)
 have hkb:Bytes w1 S (.slice ka KL kc) key:=by
  have h:=Cells.keep hkA.out hb1.size (fun g _ hg=>hb1.block g hg);exact h
 have x1:=(hb1.block n (heap_lt xA.out)).trans xA.out;have b1:Below w.heap.size w w1:=bA.out.trans (hb1.mono bA.out.size);have hnl:=LH (heap_lt x1);obtain⟨TL,hTL⟩:∃ l,l=T.length:=⟨_,rfl⟩;rw[← hTL] at hTb hfl ⊢;replace hTL:=LH hTL;replace hTb:=LH hTb;replace hkb:=LH hkb;replace x1:=LH x1;replace b1:=LH b1;clear ho hb1 hkA xA bA hfr;have hdr:∀ w3,Chg No w1.drew w3→Chg No w1 w3:=fun w3 h=>⟨h.os,h.tape,h.output,h.size,h.block⟩
 replace hdr:=LH hdr;go_wp2;refine RA.rt (Chg No) [1,1,1,1,1,1,3,4,1,7] [9] (fun _=>True) (trivial) (fun _=>Chg.refl _ _) (fun _ _ _ h k=>h.trans k) (h:=?_);intro cx
 repeat refine RA.qq (h:=?_)
 refine RA.cv (by kernel_rfl) (by rfl) (by rfl) (y':=.string ⟨key.toArray⟩) (fun w3 hp=>by exact run_string _ _ _ _ underlying42 underlying5 underlying9 S _ _ (by have h:=hkb.out.chg (hdr.out _ hp.1) (fun _ _ _=>id);rw[hKL.out] at h;rw[hKL.out];exact h)) ?_
 repeat refine RA.qq (h:=?_)
 refine RA.cv (by kernel_rfl) (by rfl) (by rfl) (y':=.string ⟨T.toArray⟩) (fun w3 hp=>by exact run_string _ _ _ _ underlying42 underlying5 underlying9 (fun _=>True) _ _ (by have h:=hTb.out.chg (hdr.out _ hp.1) (fun _ _ _=>id);rw[hTL.out] at h;rw[hTL.out];exact h)) ?_
 repeat refine RA.qq (h:=?_)
 refine RA.bq (fun x w3=>PartsAt w3 (fun _=>True) x [T]) (fun _ _=>True) (by kernel_rfl) (by rfl) (by kernel_rfl) (fun _ _ _ h k=>k.keep h.size (fun b _ hb=>h.block b hb id)) (fun _ _ _ _ _=>trivial) (fun w3 hp _=>by
  have hT3:=hTb.out.chg ((hdr.out _ hp.1).trans ((Chg.refl No w3).alloc (.cells #[.slice ta TL tc] 42))) (fun _ _ _=>id);refine⟨.slice (some ⟨w3.heap.size,0,none⟩) 1 1,w3.alloc (.cells #[.slice ta TL tc] 42),?_,(Chg.refl _ _).alloc _,PartsAt.cons (vs:=[]) (parts:=[]) (lit_cells w3 #[.slice ta TL tc] 42 1 1 rfl (by unfold maxLen;omega)) rfl hT3 (fun j v hv=>by simp at hv),trivial⟩;clear hT3;show (execOp _ _).run prog w3=_;go_simp) (fun x=>?_)
 refine RA.kc (P:=prog) [.slice ka KL kc,x] (.agg (u8s G).toArray) (fun _=>True) (fun _ _=>by go_simp) (by kernel_rfl) (by rfl) (by rfl) (by kernel_rfl) (fun _ _ _ h=>h) rfl (fun w3 hp hH=>(maSum_ok (key:=key) (parts:=[T]) (S:=S) (S':=fun _=>True) (by have h:=hkb.out.chg (hdr.out _ hp.1) (fun _ _ _=>id);rw[hKL.out] at h;rw[hKL.out];exact h) (by rw[← hKL.out];exact hl) (hp.fact 0 rfl (by kernel_rfl)) (by simp) (by simp) (by intro y hy;simp at hy;subst hy;rw[← hTL.out];exact hfl)).mono (by rintro e w4 ⟨rfl,h2⟩;exact⟨by rw[hG.out],Chg.of_below h2 _,trivial⟩)) ?_
 refine RA.vk prog (.agg (claimL ⟨key.toArray⟩ ⟨T.toArray⟩ G false).toArray) (hr:=fun w3 hp=>by
  exact RA.ex_build (by rfl) (claim_built ⟨key.toArray⟩ ⟨T.toArray⟩ hGl w3)) (h:=?_)
 refine RA.stt (fun w5=>w5.heap[n]?=some (.cells (claimL ⟨key.toArray⟩ ⟨T.toArray⟩ G false).toArray 223 (0,0))∧Below w.heap.size w w5) (by kernel_rfl) (by rfl) (by kernel_rfl) (fun _ _ h k=>h ▸ k) (fun w4 hp0 hH=>by
  have hp:=hp0.first (by kernel_rfl);have hc:=hdr.out _ hp.1;have x4:=(hc.block n hnl.out id).trans x1.out;refine⟨w4.setRow n (claimL ⟨key.toArray⟩ ⟨T.toArray⟩ G false).toArray,RA.ex_store (by rfl) (by rfl) (store_struct x4 (by rw[claimL_length hGl];kernel_rfl) (by rw[claimL_length hGl];rfl) claimL_one),?_,below_setRow (b1.out.trans (hc.no.mono b1.out.size)) (by rw[HN.out];omega) _⟩;exact setRow_heap w4 n _ _ _ _ x4) ?_
 refine RA.RA.doneT (fun w5 hH=>?_);simp only[RA.put,List.foldr_cons,List.foldr_nil,cx,Act.put,List.setIfInBounds_toArray,List.set_cons_succ,List.set_cons_zero];obtain⟨hT5,hC5⟩:=hH;replace hT5:=LH hT5;replace hC5:=LH hC5;go_wp2;refine bodyPost_ret (results_cell_row results133 _ _ n 223 _ (0,0) _ rfl hT5.out underlying223 rfl (by rw[List.size_toArray,claimL_length hGl];kernel_rfl)) rfl ⟨rfl,hC5.out⟩
end Go.Proofs.YthmcbgidehjlbaaGreat.Fd
/-
  What a book of claims may turn: frames by the blocks' types. Book.Make. No condition beyond what each theorem names.
-/
namespace Go.Proofs.YthmcbgidehjlbaaGreat.Fd
open Go Go.RowKit K
def BkT (w:World) (b:Nat):Nat→Prop:=fun g=>g=b∨(b≤g∧∃ cs m,w.heap[g]?=some (.cells cs 223 m))
theorem BkT.ge {w:World}{b g:Nat}(h:BkT w b g):b≤g:=h.elim (fun e=>by omega) (fun e=>e.1)
def BkG (C:Nat→Prop) (b:Nat) (w w':World):Prop:=Chg (fun g=>C g∨BkT w b g) w w'
def Bk (w:World) (b n:Nat):Prop:=∃ lv,BookAt w b lv n
section
variable {C:Nat→Prop}{b n:Nat}{w w' w2:World}
theorem Bk.box (h:Bk w b n):∃ lv,w.heap[b]?=some (.cells #[lv] 145 (0,0)):=by obtain⟨lv,h⟩:=h;exact⟨lv,h.box⟩
theorem Bk.after (h:Bk w b n) (hb:Below w.heap.size w w'):Bk w' b n:=by obtain⟨lv,h⟩:=h;exact⟨lv,h.after hb⟩
theorem Bk.keep (h:Bk w b n) (hk:∀ g,BkT w b g→g<w.heap.size→w'.heap[g]?=w.heap[g]?):Bk w' b n:=by
 obtain⟨lv,h⟩:=h;refine⟨lv,h.keep (fun g hg=>hk g ?_ (h.lt hg))⟩;rcases hg with rfl|hg
 ·exact .inl rfl
 ·obtain⟨xs,h2⟩:=h.row;obtain⟨cur,hc⟩:=own_cells' h2 hg;exact .inr ⟨owns_ge h2 g hg,cur,_,hc⟩
theorem BkC.bkT {lv:Value}(h:BookAt w b lv n){g:Nat}(hg:BkC b lv g):BkT w b g:=by
 rcases hg with rfl|hg
 ·exact .inl rfl
 ·obtain⟨xs,h2⟩:=h.row;obtain⟨cur,hc⟩:=own_cells' h2 hg;exact .inr ⟨owns_ge h2 g hg,cur,_,hc⟩
theorem BkG.refl:BkG C b w w:=Chg.refl _ _
theorem BkT.back (h:BkG C b w w'){g:Nat}(hg:g<w.heap.size) (hC:¬ C g) (h2:BkT w' b g):BkT w b g:=by
 refine Classical.byContradiction fun hn=>?_
 rcases h2 with rfl|⟨hle,cs,m,h2⟩
 ·exact hn (.inl rfl)
 ·rw[h.block g hg (fun e=>e.elim hC hn)] at h2;exact hn (.inr ⟨hle,cs,m,h2⟩)
theorem BkG.trans (h:BkG C b w w') (k:BkG C b w' w2):BkG C b w w2:=Chg.then h k (fun g hg h2=>by
 by_cases hC:C g
 ·exact .inl hC
 ·exact h2.elim .inl (fun h3=>.inr (BkT.back h hg hC h3)))
theorem BkG.mono {C':Nat→Prop}(h:BkG C b w w') (hc:∀ g,g<w.heap.size→C g→C' g):BkG C' b w w':=Chg.mono h (fun g hg h2=>h2.imp (hc g hg) id)
theorem BkG.of_below (h:Below w.heap.size w w'):BkG C b w w':=Chg.of_below h _
theorem BkG.of_chg (h:Chg C w w'):BkG C b w w':=Chg.mono h (fun _ _ h2=>.inl h2)
theorem BkG.of_no {D:Nat→Prop}(h:Chg No w w'):BkG D b w w':=Chg.mono h (fun _ _ h2=>h2.elim)
theorem BkG.at (h:BkG C b w w') (hb:Bk w b n){g:Nat}{cs:Array Value}{t:TypeId}{m:Nat×Nat}(hg:w.heap[g]?=some (.cells cs t m)) (hC:¬ C g) (h1:t≠223) (h2:t≠145):w'.heap[g]?=some (.cells cs t m):=by
 rw[h.block g (heap_lt hg) ?_]
 ·exact hg
 ·rintro (h3|rfl|⟨_,cs',m',h3⟩)
  ·exact hC h3
  ·obtain⟨lv,h4⟩:=hb.box;rw[hg] at h4;simp only[Option.some.injEq,Obj.cells.injEq] at h4;exact h2 h4.2.1
  ·rw[hg] at h3;simp only[Option.some.injEq,Obj.cells.injEq] at h3;exact h1 h3.2.1
theorem BkT.type (hb:Bk w b n){g:Nat}{cs:Array Value}{t:TypeId}{m:Nat×Nat}(hg:w.heap[g]?=some (.cells cs t m)) (h1:t≠223) (h2:t≠145):¬ BkT w b g:=by
 rintro (rfl|⟨_,cs',m',h3⟩)
 ·obtain⟨lv,h4⟩:=hb.box;rw[hg] at h4;simp only[Option.some.injEq,Obj.cells.injEq] at h4;exact h2 h4.2.1
 ·rw[hg] at h3;simp only[Option.some.injEq,Obj.cells.injEq] at h3;exact h1 h3.2.1
theorem BkG.own (h:BkG C b w w') (hb:Bk w b n){base:Nat}{e:TypeId}{sz:Nat}{v:Value}{k:Nat}{xs:List Value}(ho:w.ownsRow base e sz v k xs) (hC:∀ g,v.ownBlock=some g→¬ C g) (h1:e≠223) (h2:e≠145):w'.ownsRow base e sz v k xs:=by
 refine owns_keep ho (fun g hg=>?_);obtain⟨cur,hc⟩:=own_cells' ho hg;rw[hc];exact h.at hb hc (hC g hg) h1 h2
theorem BkG.cells (h:BkG C b w w'){S:Nat→Prop}{v:Value}{k sz:Nat}{xs:List Value}(hc:Cells w S v k sz xs) (hS:∀ g,g<w.heap.size→S g→¬ C g∧¬ BkT w b g):Cells w' S v k sz xs:=
 Cells.chg hc h (fun g hg h2 e=>e.elim (hS g hg h2).1 (hS g hg h2).2)
end
end Go.Proofs.YthmcbgidehjlbaaGreat.Fd
/-
  claims.Book.Make: a tag that is made is written down. No condition beyond what each theorem names.
-/
namespace Go.Proofs.YthmcbgidehjlbaaGreat.Fd
open _root_.Go.Proofs.Tryz
open Go Go.RowKit K
set_option maxRecDepth 100000
set_option maxHeartbeats 8000000
theorem claimL_set (a b:ByteArray){g:List UInt8}(hg:g.length=32):(claimL a b g false).toArray.setIfInBounds 34 (.bool true)=(claimL a b g true).toArray:=by
 apply Array.ext';have e:([Value.string a,.string b]++u8s g).length=34:=by simp[u8s_length,hg]
 simp only[claimL,List.setIfInBounds_toArray,List.toList_toArray];rw[List.set_append_right _ _ (by omega),e];rfl
theorem claimL_tag {a b:ByteArray}{g:List UInt8}{m:Bool}{j:Nat}{v:Value}(h:(u8s g)[j]?=some v):(claimL a b g m).toArray[2+j]?=some v:=by
 have hj:j<(u8s g).length:=(List.getElem?_eq_some_iff.1 h).1;rw[List.getElem?_toArray,claimL,List.append_assoc,List.getElem?_append_right (by simp),List.getElem?_append_left (by simp;omega)]
 simpa using h
theorem clMake_ok {w:World}{b n:Nat}{S S':Nat→Prop}{kv pv:Value}{key:List UInt8}{parts:List (List UInt8)}(hb:Bk w b n) (hn:n<1000000) (hk:Bytes w S kv key) (hl:key.length≤64) (hp:PartsAt w S' pv parts) (hfew:parts.length≤10) (hlen:∀ x ∈ parts,x.length≤100000) (hfl:(framedL parts).length≤100000):
  Calls prog 121 #[.pointer (some ⟨b,0,none⟩),kv,pv] w fun e w'=>e=.returned (.agg (u8s (tagL key [framedL parts])).toArray)∧Bk w' b (n+1)∧BkG No b w w':=by
 obtain⟨lv,hbk⟩:=hb;obtain⟨n0,hn0⟩:∃ n,n=w.heap.size:=⟨_,rfl⟩;have HN:=LH hn0;obtain⟨T,hT⟩:∃ T,T=framedL parts:=⟨_,rfl⟩;obtain⟨G,hG⟩:∃ G,G=tagL key [T]:=⟨_,rfl⟩;have hGl:G.length=32:=hG ▸ tagL_length;obtain⟨wA,hwA⟩:∃ x,x=w.alloc (.cells (u8s (List.replicate 32 0)).toArray 209):=⟨_,rfl⟩;have bA:Below w.heap.size w wA:=by rw[hwA];exact (Below.refl _ _).alloc (Nat.le_refl _) _
 have xA:Arr wA n0 209 (List.replicate 32 0):=by rw[hwA,hn0];exact heap_alloc_new w _
 have hcl:=claim_ok (Cells.keep hk bA.size (fun g _ hg=>bA.block g hg):Bytes wA S kv key) hl (hp.keep bA.size (fun g _ hg=>bA.block g hg)) hfew hlen hfl;rw[← hT] at hcl hfl ⊢;rw[← hG] at hcl ⊢;obtain⟨C,hC⟩:∃ C,C=claimL ⟨key.toArray⟩ ⟨T.toArray⟩ G false:=⟨_,rfl⟩;obtain⟨C',hC'⟩:∃ C,C=claimL ⟨key.toArray⟩ ⟨T.toArray⟩ G true:=⟨_,rfl⟩;have hCl:C.length=35:=hC ▸ claimL_length hGl;have hCl':C'.length=35:=hC' ▸ claimL_length hGl;have hC1:∀ v ∈ C,v.oneCell'=true:=hC ▸ claimL_one;have hC1':∀ v ∈ C',v.oneCell'=true:=hC' ▸ claimL_one;have hCs:C.toArray.setIfInBounds 34 (.bool true)=C'.toArray:=by rw[hC,hC'];exact claimL_set _ _ hGl
 have hCt:∀ j v,(u8s G)[j]?=some v→C'.toArray[2+j]?=some v:=fun j v h=>by rw[hC'];exact claimL_tag h
 have h34:C.toArray[34]?=some (.bool false):=by
  rw[hC,List.getElem?_toArray,claimL,List.getElem?_append_right (by simp[u8s_length,hGl])];simp[u8s_length,hGl]
 rw[← hC] at hcl;have hA:=hbk.after bA;have hlt:∀ g,BkC b lv g→g<n0:=fun g hg=>by rw[hn0];exact hbk.lt hg
 have hT0:∀ g,BkC b lv g→BkT w b g:=fun g hg=>BkC.bkT hbk hg
 replace hcl:=LH hcl;replace bA:=LH bA;replace xA:=LH xA;replace hA:=LH hA;replace hlt:=LH hlt;replace hT0:=LH hT0;replace hG:=LH hG;replace hT:=LH hT;replace hC:=LH hC;replace hC':=LH hC';replace hCs:=LH hCs;replace hCt:=LH hCt;replace h34:=LH h34;replace hC1:=LH hC1;replace hC1':=LH hC1';replace hCl:=LH hCl;replace hCl':=LH hCl';subst hwA;clear hn0 hk hp hlen hbk;go_enter func121,ntmps121
 go_wp2_with fail
 rw[← HN.out];refine hcl.out.mono ?_;rintro e w1 ⟨rfl,hb1⟩;have h1:=hA.out.after hb1;have x1:Arr w1 n0 209 (List.replicate 32 0):=xA.out.keep (hb1.block n0 (heap_lt xA.out));have b1:Below w.heap.size w w1:=bA.out.trans (hb1.mono bA.out.size);obtain⟨q,hq⟩:∃ q,q=w1.heap.size:=⟨_,rfl⟩;have hq0:n0<q:=hq ▸ heap_lt x1;have xq:(w1.alloc (.cells claimZ 223)).heap[q]?=some (.cells claimZ 223 (0,0)):=by rw[hq];exact heap_alloc_new w1 _
 obtain⟨W2,hW2⟩:∃ W,W=(w1.alloc (.cells claimZ 223)).setRow q C.toArray:=⟨_,rfl⟩
 have hst:(Instr.storeAt 223 (.pointer (some ⟨q,0,none⟩)) (.agg C.toArray)).run prog (w1.alloc (.cells claimZ 223))=.ok () W2:=by
  rw[hW2];exact store_struct xq (by rw[hCl.out];kernel_rfl) (by rw[hCl.out];rfl) hC1.out
 have x2:W2.heap[q]?=some (.cells C.toArray 223 (0,0)):=by rw[hW2];exact setRow_heap _ q _ _ _ _ xq
 have b2:Below w.heap.size w W2:=by rw[hW2];exact below_setRow (b1.alloc b1.size _) (by rw[← HN.out];omega) _
 have b12:Below w1.heap.size w1 W2:=by rw[hW2];exact below_setRow ((Below.refl _ _).alloc (Nat.le_refl _) _) (by omega) _
 have c34:W2.cell? ⟨q,34,none⟩=some (.bool false):=by rw[cell_of x2];exact h34.out
 have f34:W2.frozen? ⟨q,34,none⟩=false:=frozen_of x2 34;have x3:=setCell_block x2 34 (.bool true);rw[hCs.out] at x3;have b13:Below w1.heap.size w1 (W2.setCell ⟨q,34,none⟩ (.bool true)):=b12.setCell (by simp[hq]) _;have b3:Below w.heap.size w (W2.setCell ⟨q,34,none⟩ (.bool true)):=b2.setCell (by simp;rw[← HN.out];omega) _;have h3:=h1.after b13;have y3:Arr (W2.setCell ⟨q,34,none⟩ (.bool true)) n0 209 (List.replicate 32 0):=x1.keep (b13.block n0 (heap_lt x1))
 have hld:(Instr.loadAt 223 (.pointer (some ⟨q,0,none⟩))).run prog (W2.setCell ⟨q,34,none⟩ (.bool true))=.ok (.agg C'.toArray) (W2.setCell ⟨q,34,none⟩ (.bool true)):=
  load_struct (x:=C') underlying223 (by rw[hCl'.out];kernel_rfl) (fun j v hv=>by rw[Nat.zero_add,cell_of x3];simpa using hv)
 have hput:=clPut_ok h3 hn C'.toArray (by simp[hCl'.out]) (by simpa using hC1'.out);replace hst:=LH hst;replace hld:=LH hld;replace hput:=LH hput;replace x3:=LH x3;replace y3:=LH y3;replace b3:=LH b3;replace hW2:=LH hW2;replace hq0:=LH hq0;clear hb1 h1 x1 b1 xq x2 b2 b12 b13 h3 hcl bA xA hA;subst hq
 go_wp2_with (first|(refine wpList_store rfl 223 _ _ rfl _ _ rfl rfl hst.out ?_)|(refine wpList_load rfl 223 _ rfl _ _ rfl hld.out ?_)|fail)
 refine hput.out.mono ?_;rintro e w4 ⟨rfl,lv',hk4,hc4,hr4⟩;have hq4:∀ g,BkC b lv g→g<w1.heap.size:=fun g hg=>Nat.lt_trans (hlt.out g hg) hq0.out
 have x4:=(hc4.block w1.heap.size (heap_lt x3.out) (fun h=>absurd (hq4 _ h) (Nat.lt_irrefl _))).trans x3.out;have y4:Arr w4 n0 209 (List.replicate 32 0):=y3.out.keep (hc4.block n0 (heap_lt y3.out) (fun h=>absurd (hlt.out _ h) (Nat.lt_irrefl _)))
 have hld2:(Instr.loadAt 209 (.pointer (some ⟨w1.heap.size,2,none⟩))).run prog w4=.ok (.agg (u8s G).toArray) w4:=
  run_loadAt_vals (x:=u8s G) underlying209 (by rw[u8s_length,hGl];kernel_rfl) (fun j v hv=>by rw[cell_of x4];exact hCt.out j v hv)
 have hst2:=hash_store y4 hGl;have y5:Arr (w4.setRow n0 (u8s G).toArray) n0 209 G:=y4.setRow G;have hB4:Bk w4 b (n+1):=⟨lv',hk4⟩;have hB5:Bk (w4.setRow n0 (u8s G).toArray) b (n+1):=hB4.keep (fun g hg hl=>setRow_other _ _ _ _ (fun e=>BkT.type hB4 y4 (by decide) (by decide) (e ▸ hg)));have hC4:Chg (BkC b lv) w w4:=(Chg.of_below b3.out _).trans hc4;have hC5:BkG No b w (w4.setRow n0 (u8s G).toArray):=(hC4.setRow (fun h=>absurd h (by rw[← HN.out];omega)) _).mono (fun g _ h=>.inr (hT0.out g h));replace hld2:=LH hld2;replace hst2:=LH hst2;replace y5:=LH y5;replace hB5:=LH hB5;replace hC5:=LH hC5;clear hk4 hc4 hr4 hq4 x4 y4 hB4 hC4 hput hst hld x3 y3 b3 hlt hT0
 go_wp2_with (first|(refine wpList_load rfl 209 _ rfl _ _ rfl hld2.out ?_)|(refine wpList_store rfl 209 _ _ rfl _ _ rfl rfl hst2.out ?_)|fail)
 refine bodyPost_ret (results_cell_row results121 _ _ n0 209 _ (0,0) _ rfl y5.out underlying209 rfl (by rw[sizeHash' hGl];simp[u8s_length])) rfl ⟨rfl,hB5.out,hC5.out⟩
end Go.Proofs.YthmcbgidehjlbaaGreat.Fd
/-
  marks: New, Size, Has, Any, Bytes, Copy, of 50 marks. No condition beyond what each theorem names.
-/
namespace Go.Proofs.YthmcbgidehjlbaaGreat.Fd
open _root_.Go.Proofs.Tryz
open Go Go.RowKit K
set_option maxRecDepth 100000
set_option maxHeartbeats 4000000
theorem mk_z (w:World) (n:Nat) (m:Int) (hm:m=n) (hn:n≤1000000):(Instr.makeSlice 42 (.int .i64 m) (.int .i64 m)).run prog w=.ok (.slice (some ⟨w.heap.size,0,none⟩) n n) (w.alloc (.cells (u8s (List.replicate n 0)).toArray 5)):=by
 have h:=make_full (P:=prog) w underlying42 infoByte rfl n m hm (by omega) (by omega);have e:madeCells #[.int .u8 0] n=(u8s (List.replicate n 0)).toArray:=by rw[← u8s_zero]
 rw[e] at h;exact h
theorem own_new (w:World) (c:Array Value) (e:TypeId) (n sz:Nat) (hc:c.size=n*sz) (hn:n≤maxLen){B:Nat}(hB:B≤w.heap.size):(w.alloc (.cells c e)).ownsRow B e sz (.slice (some ⟨w.heap.size,0,none⟩) n n) n c.toList:=
 ⟨by rw[Array.length_toList,hc],.inr ⟨w.heap.size,n,c,rfl,hB,heap_alloc_new w _,Nat.le_refl _,hn,by rw[hc],by rw[← hc,← Array.length_toList,List.take_length]⟩⟩
def MarksAt (w:World) (m:Nat) (L:List UInt8):Prop:=∃ sv,w.heap[m]?=some (.cells #[.int .i64 50,sv] 195 (0,0))∧w.ownsRow 0 5 1 sv 7 (u8s L)
def bitB (L:List UInt8) (i:Nat):Bool:=decide ((L.getD (i / 8) 0).toNat / 2 ^ (i % 8) % 2≠0)
theorem MarksAt.len {w:World}{m:Nat}{L:List UInt8}(h:MarksAt w m L):L.length=7:=by
 obtain⟨sv,_,h2⟩:=h;have h3:=h2.1;rw[u8s_length] at h3;omega
theorem MarksAt.keep {w w':World}{m:Nat}{L:List UInt8}(h:MarksAt w m L) (hk:∀ g,g<w.heap.size→(∃ cs t,(t=195∨t=5)∧w.heap[g]?=some (.cells cs t (0,0)))→w'.heap[g]?=w.heap[g]?):MarksAt w' m L:=by
 obtain⟨sv,h1,h2⟩:=h;refine⟨sv,(hk m (heap_lt h1) ⟨_,_,.inl rfl,h1⟩).trans h1,owns_keep h2 (fun g hg=>?_)⟩;obtain⟨cur,hc⟩:=own_cells' h2 hg;exact hk g (heap_lt hc) ⟨_,_,.inr rfl,hc⟩
theorem MarksAt.after {w w':World}{m:Nat}{L:List UInt8}(h:MarksAt w m L) (hb:Below w.heap.size w w'):MarksAt w' m L:=h.keep (fun g hg _=>hb.block g hg)
theorem MarksAt.cells {w:World}{m:Nat}{L:List UInt8}(h:MarksAt w m L):∃ g cap,w.cell? ⟨m,0,none⟩=some (.int .i64 50)∧w.cell? ⟨m,1,none⟩=some (.slice (some ⟨g,0,none⟩) 7 cap)∧(∀ j,j<7→w.cell? ⟨g,j,none⟩=some (.int .u8 (L.getD j 0).toNat))∧7≤cap∧cap≤maxLen:=by
 have hl:=h.len;obtain⟨sv,h1,h2⟩:=h;obtain⟨g,cap,rfl,h3,h4⟩:=own_shape h2 (by omega);refine⟨g,cap,cell_of h1 0,cell_of h1 1,fun j hj=>?_,h3,h4⟩;obtain⟨g',off,c',hv,_,_,_,_,hcl⟩:=Cells.at (Cells.own h2) (by omega);simp only[Value.slice.injEq,Option.some.injEq,Addr.mk.injEq] at hv;obtain⟨⟨rfl,rfl,_⟩,_,_⟩:=hv;have h5:=hcl j _ (u8s_get L j (by omega));rw[Nat.zero_add] at h5;rw[h5];simp[List.getD,show j<L.length by omega]
theorem mkSize_ok {w:World}{m:Nat}{L:List UInt8}(h:MarksAt w m L):Calls prog 95 #[.pointer (some ⟨m,0,none⟩)] w fun e w'=>e=.returned (.int .i64 50)∧w=w':=by
 obtain⟨g,cap,h0,h1,h2,_⟩:=h.cells;clear h;go_enter func95,ntmps95;go_wp2;go_ret;exact⟨rfl,rfl⟩
theorem mkHas_ok {w:World}{m:Nat}{L:List UInt8}(h:MarksAt w m L) (i:Nat) (hi:i<50):Calls prog 71 #[.pointer (some ⟨m,0,none⟩),.int .i64 i] w fun e w'=>e=.returned (.bool (bitB L i))∧w=w':=by
 have hs:=LH (mkSize_ok h);obtain⟨g,cap,h0,h1,h2,h3,h4⟩:=h.cells;clear h;obtain⟨D,hD⟩:∃ D,D=i / 8:=⟨_,rfl⟩;obtain⟨R,hR⟩:∃ R,R=i % 8:=⟨_,rfl⟩;have hDl:D<7:=by omega
 have hRl:R<8:=by omega
 have hd:(i:Int) / 8=(D:Int):=by omega
 have hr:(i:Int) % 8=(R:Int):=by omega
 have hc:=h2 D hDl;obtain⟨B,hB⟩:∃ B,B=(L.getD D 0).toNat:=⟨_,rfl⟩;have hBl:B<256:=hB ▸ (L.getD D 0).toNat_lt;rw[← hB] at hc;have hi0:(0:Int)≤i:=by omega
 have hi1:(i:Int)<50:=by omega
 unfold bitB;rw[← hD,← hR,← hB];replace hD:=LH hD;replace hR:=LH hR;replace hB:=LH hB;clear h2;go_enter func71,ntmps71
 go_wp2_with (go_at_call 95;refine hs.out.mono ?_;rintro e w' ⟨rfl,rfl⟩)
 have hq:((B:Int) / 2 ^ R)=((B / 2 ^ R:Nat):Int):=by norm_cast
 obtain⟨Q,hQ⟩:∃ Q,Q=B / 2 ^ R:=⟨_,rfl⟩;have hQl:Q<256:=by rw[hQ];exact Nat.lt_of_le_of_lt (Nat.div_le_self _ _) hBl
 have hb:bits .and .u8 (Q:Int) 1=((Q % 2:Nat):Int):=by have h:=u8_and_nat Q 1 hQl (by omega);rw[nat_mask1] at h;exact h
 rw[← hQ] at hq ⊢;rw[hq,hb];go_ret;refine⟨congrArg Ending.returned (show Value.bool _=_ from congrArg Value.bool ?_),rfl⟩;rw[Bool.eq_iff_iff];simp;omega
def hitB (L:List UInt8) (f c i:Nat):Bool:=bitB L i && decide (f≤i) && decide (i - f<c)
def anyB (L:List UInt8) (f c:Nat):Bool:=(List.range 50).any (hitB L f c)
theorem mkAny_ok {w:World}{m:Nat}{L:List UInt8}(h:MarksAt w m L) (f c:Nat) (hf:f≤50) (hc:c≤50):Calls prog 59 #[.pointer (some ⟨m,0,none⟩),.int .i64 f,.int .i64 c] w fun e w'=>e=.returned (.bool (anyB L f c))∧w=w':=by
 have hs:=LH (mkSize_ok h);have hh:=LH (fun i hi=>mkHas_ok h i hi);clear h;go_enter func59,ntmps59
 go_wp2_with (go_at_call 95;refine hs.out.mono ?_;rintro e w' ⟨rfl,rfl⟩)
 go_loopg [10] 50 (fun g i wr=>∃ k:Nat,k+g=50∧i=.int .i64 k∧Hid (∀ j,j<k→hitB L f c j=false)∧wr=w)
 case atStart=>exact⟨0,by omega,rfl,fun _ h=>absurd h (Nat.not_lt_zero _),rfl⟩
 case round=>
  obtain⟨k,hkg,rfl,HN,rfl⟩:=hrel;by_cases hlt:k<50
  ·obtain⟨g1,rfl⟩:∃ i,gk=i+1:=⟨gk - 1,by omega⟩;have hlI:(k:Int)<50:=by omega
   have hk:=LH (hh.out k hlt);cases hb:bitB L k with
   | false=>
    rw[hb] at hk
    go_wp2_with (go_at_call 71;refine hk.out.mono ?_;rintro e w' ⟨rfl,rfl⟩)
    go_roundg g1
    case measure=>omega
    case rel=>exact⟨k+1,by omega,by go_num,fun j hj=>(Nat.lt_succ_iff_lt_or_eq.1 hj).elim (HN.out j) (fun e=>by subst e;simp[hitB,hb]),rfl⟩
   | true=>
    rw[hb] at hk;by_cases h1:f≤k
    ·have h1I:(f:Int)≤k:=by omega
     have w1:IntKind.u64.wrap (k:Int)=k:=by simp[IntKind.wrap,IntKind.bits,IntKind.signed];omega
     have w2:IntKind.u64.wrap (f:Int)=f:=by simp[IntKind.wrap,IntKind.bits,IntKind.signed];omega
     have w3:IntKind.u64.wrap (c:Int)=c:=by simp[IntKind.wrap,IntKind.bits,IntKind.signed];omega
     have w4:IntKind.u64.wrap ((k:Int) - f)=(k:Int) - f:=by simp[IntKind.wrap,IntKind.bits,IntKind.signed];omega
     by_cases h2:k - f<c
     ·have h2I:(k:Int) - f<c:=by omega
      go_wp2_with (go_at_call 71;refine hk.out.mono ?_;rintro e w' ⟨rfl,rfl⟩)
      go_ret;refine⟨?_,rfl⟩;rw[show anyB L f c=true from List.any_eq_true.2 ⟨k,by simpa using hlt,by simp[hitB,hb,h1,h2]⟩];rfl
     ·have h2I:¬ (k:Int) - f<c:=by omega
      go_wp2_with (go_at_call 71;refine hk.out.mono ?_;rintro e w' ⟨rfl,rfl⟩)
      go_roundg g1
      case measure=>omega
      case rel=>exact⟨k+1,by omega,by go_num,fun j hj=>(Nat.lt_succ_iff_lt_or_eq.1 hj).elim (HN.out j) (fun e=>by subst e;simp[hitB,h2]),rfl⟩
    ·have h1I:¬ (f:Int)≤k:=by omega
     go_wp2_with (go_at_call 71;refine hk.out.mono ?_;rintro e w' ⟨rfl,rfl⟩)
     go_roundg g1
     case measure=>omega
     case rel=>exact⟨k+1,by omega,by go_num,fun j hj=>(Nat.lt_succ_iff_lt_or_eq.1 hj).elim (HN.out j) (fun e=>by subst e;simp[hitB,h1]),rfl⟩
  ·obtain rfl:gk=0:=by omega
   obtain rfl:k=50:=by omega
   have hno:anyB L f c=false:=by
    unfold anyB;rw[List.any_eq_false];intro x hx;rw[HN.out x (by simpa using hx)];simp
   clear hkg hlt;go_wp2;go_ret;exact⟨by rw[hno];rfl,rfl⟩
theorem MarksAt.bytes {w:World}{m:Nat}{L:List UInt8}(h:MarksAt w m L):∃ S sv,w.cell? ⟨m,1,none⟩=some sv∧Bytes w S sv L:=by
 have hl:=h.len;obtain⟨sv,h1,h2⟩:=h;have h3:=Cells.own h2;rw[← hl] at h3;exact⟨_,sv,cell_of h1 1,h3⟩
theorem mkBytes_ok {w:World}{m:Nat}{L:List UInt8}(h:MarksAt w m L):Calls prog 116 #[.pointer (some ⟨m,0,none⟩)] w fun e w'=>∃ v,e=.returned v∧w'.ownsRow w.heap.size 5 1 v 7 (u8s L)∧Below w.heap.size w w':=by
 have hl:=h.len;obtain⟨S,sv,h1,h2⟩:=h.bytes;have hc:=LH (clone_ok h2 (by omega));rw[hl] at hc;replace hl:=LH hl;clear h h2;go_enter func116,ntmps116
 go_wp2_with fail
 refine hc.out.mono ?_;rintro e w1 ⟨v,rfl,k1,k2,-⟩;replace k1:=LH k1;replace k2:=LH k2;go_wp2;go_ret;exact⟨_,rfl,k1.out,k2.out⟩
def setL (L:List UInt8) (k:Nat):List UInt8:=L.set (k / 8) (byte ((L.getD (k / 8) 0).toNat ||| 2 ^ (k % 8)))
theorem or_lt {a r:Nat}(ha:a<256) (hr:r<8):a ||| 2 ^ r<256:=Nat.or_lt_two_pow (n:=8) ha (by
 have:2 ^ r≤2 ^ 7:=Nat.pow_le_pow_right (by omega) (by omega);omega)
theorem setL_length {L:List UInt8}{k:Nat}:(setL L k).length=L.length:=by simp[setL]
theorem bitB_set {L:List UInt8}{k i:Nat}(hk:k / 8<L.length):bitB (setL L k) i=(bitB L i || decide (i=k)):=by
 have ht:∀ x r:Nat,decide (x / 2 ^ r % 2≠0)=x.testBit r:=fun x r=>by
  rw[Nat.testBit_eq_decide_div_mod_eq,Bool.eq_iff_iff];simp
 unfold bitB setL;rw[ht,ht];by_cases h:i / 8=k / 8
 ·have e:(L.set (k / 8) (byte ((L.getD (k / 8) 0).toNat ||| 2 ^ (k % 8)))).getD (i / 8) 0=byte ((L.getD (k / 8) 0).toNat ||| 2 ^ (k % 8)):=by
   rw[h];simp[List.getD,hk]
  rw[e,byte_toNat (or_lt (L.getD (k / 8) 0).toNat_lt (by omega)),Nat.testBit_or,h,Nat.testBit_two_pow];congr 1;rw[Bool.eq_iff_iff];simp;omega
 ·have e:(L.set (k / 8) (byte ((L.getD (k / 8) 0).toNat ||| 2 ^ (k % 8)))).getD (i / 8) 0=L.getD (i / 8) 0:=by
   simp[List.getD,List.getElem?_set_ne (Ne.symm h)]
  have hne:i≠k:=fun e=>h (by rw[e])
  rw[e];simp[hne]
end Go.Proofs.YthmcbgidehjlbaaGreat.Fd
/-
  marks: Copy. No condition beyond what each theorem names.
-/
namespace Go.Proofs.YthmcbgidehjlbaaGreat.Fd
open Go Go.RowKit K
end Go.Proofs.YthmcbgidehjlbaaGreat.Fd
/-
  paths.Kids, of 50 leaves: the places below a node. No condition beyond what each theorem names.
-/
namespace Go.Proofs.YthmcbgidehjlbaaGreat.Fd
open _root_.Go.Proofs.Tryz
open Go Go.RowKit K
set_option maxRecDepth 100000
set_option maxHeartbeats 4000000
def plL (l i c:Nat):List Value:=(List.range c).flatMap fun j=>[.int .i64 l,.int .i64 (i+j:Nat)]
theorem plL_succ (l i c:Nat):plL l i (c+1)=plL l i c++[.int .i64 l,.int .i64 (i+c:Nat)]:=by simp[plL,List.range_succ]
theorem plL_length (l i c:Nat):(plL l i c).length=c*2:=by
 induction c with
 | zero=>rfl
 | succ c ih=>rw[plL_succ,List.length_append,ih];simp;omega
theorem infoNode:(prog.info? 193).map (fun i=>(i.zero,i.size,i.bytes))=some (some (.agg #[.int .i64 0,.int .i64 0]),2,16):=by kernel_rfl
theorem wid50_le (k:Int):wid50 k≤50:=by
 unfold wid50
 repeat' split
 all_goals omega
theorem wid50_up (k:Int) (h:0<k):wid50 k≤13:=by
 unfold wid50;rw[if_neg (by omega)]
 repeat' split
 all_goals omega
theorem wid50_kids (l i:Nat) (hl:l<3) (hi:i<wid50 (l+1:Nat)):4*i<wid50 l:=by
 obtain rfl|rfl|rfl:l=0∨l=1∨l=2:=by omega
 ·have e:wid50 ((0+1:Nat):Int)=13:=by unfold wid50;rfl
  have e2:wid50 ((0:Nat):Int)=50:=by unfold wid50;rfl
  omega
 ·have e:wid50 ((1+1:Nat):Int)=4:=by unfold wid50;rfl
  have e2:wid50 ((1:Nat):Int)=13:=by unfold wid50;rfl
  omega
 ·have e:wid50 ((2+1:Nat):Int)=1:=by unfold wid50;rfl
  have e2:wid50 ((2:Nat):Int)=4:=by unfold wid50;rfl
  omega
theorem kids50 (l i:Nat) (hl:l<3) (hi:i<wid50 (l+1:Nat)) (w:World):Calls prog 157 #[.int .i64 50,.agg #[.int .i64 (l+1:Nat),.int .i64 i]] w fun e w'=>∃ v,e=.returned v∧∃ c:Nat,c≤4∧4*i+c≤wid50 l∧w'.ownsRow w.heap.size 193 2 v c (plL l (4*i) c)∧Below w.heap.size w w':=by
 have hi13:i<13:=Nat.lt_of_lt_of_le hi (wid50_up _ (by omega));have h4i:=wid50_kids l i hl hi;obtain⟨W1,hW1⟩:∃ W,W=wid50 (l+1:Nat):=⟨_,rfl⟩;obtain⟨W0,hW0⟩:∃ W,W=wid50 l:=⟨_,rfl⟩;have HW1:=fun w3=>width50 (l+1:Nat) w3
 have HW0:=fun w3=>width50 l w3
 rw[← hW1] at HW1;rw[← hW0] at HW0;have h50:W0≤50:=hW0 ▸ wid50_le _;rw[← hW1] at hi;rw[← hW0] at h4i;obtain⟨X,hX⟩:∃ X,X=4*i:=⟨_,rfl⟩;rw[← hX] at h4i;have hXI:(4:Int)*i=X:=by omega
 rw[← hW0,← hX];replace hX:=LH hX;obtain⟨m,hm⟩:∃ m,m=l+1:=⟨_,rfl⟩;rw[← hm] at HW1 ⊢;replace HW1:=LH HW1;replace HW0:=LH HW0;have hm1:((m:Int) - 1)=(l:Int):=by omega
 have hi0:decide ((i:Int)<0)=false:=by simp
 have hi1:decide ((W1:Int)≤(i:Int))=false:=by simpa using hi
 have hm0:((m:Int) == 0)=false:=by simp;omega
 obtain⟨q,hq⟩:∃ q,q=w.heap.size:=⟨_,rfl⟩;have b1:Below w.heap.size w (w.alloc (.cells #[.int .i64 m,.int .i64 i] 193)):=(Below.refl _ _).alloc (Nat.le_refl _) _;obtain⟨w1,hw1⟩:∃ w1,w1=w.alloc (.cells #[.int .i64 m,.int .i64 i] 193):=⟨_,rfl⟩;have x1:w1.heap[q]?=some (.cells #[.int .i64 m,.int .i64 i] 193 (0,0)):=by rw[hw1,hq];exact heap_alloc_new w _
 rw[← hw1] at b1;have hdr:∀ w3,Chg No w1.drew w3→Chg No w1 w3:=fun w3 h=>⟨h.os,h.tape,h.output,h.size,h.block⟩
 replace hdr:=LH hdr;have c0:=LH (cell_of x1 0);have c1:=LH (cell_of x1 1);have hql:=LH (heap_lt x1);replace x1:=LH x1;replace b1:=LH b1;replace hW0:=LH hW0;replace hW1:=LH hW1;replace hm:=LH hm;go_enter func157,ntmps157;go_wp2;rw[← hw1,← hq];replace hq:=LH hq;replace hw1:=LH hw1;refine RA.rt (Chg No) [1,1,1,1,1,1,1,1,1,4,1,1,1,1,1,1,1] [] (fun _=>True) trivial (fun _=>Chg.refl _ _) (fun _ _ _ h k=>h.trans k) (h:=?_);intro cx;refine RA.fk prog (q) (1) (h:=?_);refine RA.lk prog (.int .i64 i) (hc:=fun w3 hp=>by exact ((hdr.out _ hp.1).cell (p:=⟨q,1,none⟩) hql.out id).trans c1.out) (h:=?_);refine RA.vk prog (.bool false) (h:=?_)
 repeat (first|refine RA.mv (by rfl) (by rfl) (by rfl) ?_|refine RA.as (by rfl) (by rfl) (by rfl) ?_|refine RA.pt (by rfl) (by rfl) (by rfl) (by rfl) ?_|refine RA.pf (by rfl) (by rfl) (by rfl) (by rfl) ?_)
 refine RA.fk prog (q) (1) (h:=?_);refine RA.lk prog (.int .i64 i) (hc:=fun w3 hp=>by exact ((hdr.out _ hp.1).cell (p:=⟨q,1,none⟩) hql.out id).trans c1.out) (h:=?_)
 repeat (first|refine RA.mv (by rfl) (by rfl) (by rfl) ?_|refine RA.as (by rfl) (by rfl) (by rfl) ?_|refine RA.pt (by rfl) (by rfl) (by rfl) (by rfl) ?_|refine RA.pf (by rfl) (by rfl) (by rfl) (by rfl) ?_)
 refine RA.fk prog (q) (0) (h:=?_);refine RA.lk prog (.int .i64 m) (hc:=fun w3 hp=>by exact ((hdr.out _ hp.1).cell (p:=⟨q,0,none⟩) hql.out id).trans c0.out) (h:=?_);refine RA.kc (P:=prog) [.int .i64 50,.int .i64 m] (.int .i64 W1) (fun _=>True) (fun _ _=>by go_simp) (by kernel_rfl) (by rfl) (by rfl) (by kernel_rfl) (fun _ _ _ h=>h) rfl (fun w3 hp hH=>(HW1.out w3).mono (by rintro e w4 ⟨rfl,h2⟩;exact⟨rfl,Chg.of_below h2 _,trivial⟩)) ?_;refine RA.vk prog (.bool false) (h:=?_)
 repeat (first|refine RA.mv (by rfl) (by rfl) (by rfl) ?_|refine RA.as (by rfl) (by rfl) (by rfl) ?_|refine RA.pt (by rfl) (by rfl) (by rfl) (by rfl) ?_|refine RA.pf (by rfl) (by rfl) (by rfl) (by rfl) ?_)
 refine RA.fk prog (q) (0) (h:=?_);refine RA.lk prog (.int .i64 m) (hc:=fun w3 hp=>by exact ((hdr.out _ hp.1).cell (p:=⟨q,0,none⟩) hql.out id).trans c0.out) (h:=?_);refine RA.vk prog (.bool false) (h:=?_)
 repeat (first|refine RA.mv (by rfl) (by rfl) (by rfl) ?_|refine RA.as (by rfl) (by rfl) (by rfl) ?_|refine RA.pt (by rfl) (by rfl) (by rfl) (by rfl) ?_|refine RA.pf (by rfl) (by rfl) (by rfl) (by rfl) ?_)
 refine RA.RA.done rfl (fun w2 hR hF hH=>?_);clear hF hH;simp only[RA.put,List.foldr_cons,List.foldr_nil,cx,Act.put,List.setIfInBounds_toArray,List.set_cons_succ,List.set_cons_zero]
 try simp only[Bool.not_true]
 try simp only[Bool.not_false]
 have b2:=LH (hdr.out _ hR).no;clear hR hi0 hi1 hm0 hdr HW1;replace c0:=LH (fun w3 (hb:Below w1.heap.size w1 w3)=>((Chg.of_below hb No).cell (p:=⟨q,0,none⟩) hql.out id).trans c0.out);replace c1:=LH (fun w3 (hb:Below w1.heap.size w1 w3)=>((Chg.of_below hb No).cell (p:=⟨q,1,none⟩) hql.out id).trans c1.out);go_wp2
 go_loopg [4,24] 4 (fun g o ix wr=>∃ j c:Nat,j+g=4∧ix=.int .i64 j∧c≤j∧(c=j∨W0≤X+c)∧X+c≤W0∧Hid (wr.ownsRow w1.heap.size 193 2 o c (plL l X c))∧Hid (Below w1.heap.size w1 wr))
 case atStart=>exact⟨0,0,by omega,rfl,by omega,by omega,by omega,World.ownsRow_nil _ _ _ _,b2.out⟩
 case round=>
  obtain⟨j,c,hjg,rfl,hcj,hc2,hc3,HO,hbr⟩:=hrel;by_cases hlt:j<4
  ·obtain⟨g1,rfl⟩:∃ i,gk=i+1:=⟨gk - 1,by omega⟩;have hlI:(j:Int)<4:=by omega
   have d0:=c0.out wr hbr.out;have d1:=c1.out wr hbr.out;obtain⟨Y,hY⟩:∃ Y,Y=X+j:=⟨_,rfl⟩;have hYI:(X:Int)+j=Y:=by omega
   by_cases hfit:Y<W0
   ·have hfI:(Y:Int)<W0:=by omega
    obtain rfl:c=j:=by omega
    have HW:=LH (HW0.out wr);replace hY:=LH hY
    go_wp2_with (first|(go_at_call 98;refine HW.out.mono ?_)|fail)
    rintro e w4 rfl hb4;have hbr4:=hbr.out.trans (hb4.mono hbr.out.size);have d0':=c0.out w4 hbr4;have d1':=c1.out w4 hbr4;have HO4:=LH (owns_keep HO.out (fun g hg=>hb4.block g (owns_lt HO.out g hg)));have HO5:=LH (owns_keep HO4.out (fun g hg=>Below.heap_alloc w4 (.cells #[.int .i64 l,.int .i64 Y] 193) _ (owns_lt HO4.out g hg)));have HCB:=LH (lit_cells w4 #[.int .i64 l,.int .i64 Y] 193 1 2 rfl (by unfold maxLen;omega));have HBK:=LH (fun g=>owns_ge HO.out g);have hrs:=hbr4.size;have hbr5:=LH (hbr4.alloc hbr4.size (.cells #[.int .i64 l,.int .i64 Y] 193));clear d0 d1 hb4 HW hbr4
    go_wp2_with (at_builtin;refine K.append ?_ (.tmp 39) (.tmp 45) 233 ?_ w1.heap.size 193 (.agg #[.int .i64 0,.int .i64 0]) 2 16 underlying233 infoNode rfl (by omega) _ c _ ?_ HO5.out (fun _=>True) _ 1 [.int .i64 l,.int .i64 Y] ?_ HCB.out (by simp[Value.oneCell']) (by unfold maxLen;omega) (by omega) ?_ ?_)
    any_goals (first|rfl|omega|exact hbr5.out.size)
    intro v' w2 x1 x2 x3 x4;have X1:=LH x1;have hb3:=LH ((Chg.of_below hbr5.out No).grown x2 (fun g hg hl=>absurd (HBK.out g hg) (by omega))).no;clear x1 x2 x3 x4;go_wp2;go_roundg g1
    case measure=>omega
    case rel=>
     refine⟨c+1,c+1,by omega,by go_num,by omega,by omega,by have:=hY.out;omega,?_,hb3.out⟩;show World.ownsRow _ _ _ _ _ _ _;rw[plL_succ,← hY.out];exact X1.out
   ·have hfI:¬ (Y:Int)<W0:=by omega
    have HW:=LH (HW0.out wr);replace hY:=LH hY
    go_wp2_with (first|(go_at_call 98;refine HW.out.mono ?_)|fail)
    rintro e w4 rfl hb4;have hbr4:=LH (hbr.out.trans (hb4.mono hbr.out.size));have HO4:=LH (owns_keep HO.out (fun g hg=>hb4.block g (owns_lt HO.out g hg)));clear hb4 HW d0 d1;go_wp2;go_roundg g1
    case measure=>omega
    case rel=>
     have:=hY.out;exact⟨j+1,c,by omega,by go_num,by omega,by omega,by omega,HO4.out,hbr4.out⟩
  ·obtain rfl:gk=0:=by omega
   have hlI:¬ (j:Int)<4:=by omega
   go_wp2;go_ret;exact⟨_,rfl,c,by omega,hc3,owns_base HO.out b1.out.size,b1.out.trans (hbr.out.mono b1.out.size)⟩
end Go.Proofs.YthmcbgidehjlbaaGreat.Fd
/-
  hashtree.Tree, of 50 leaves: its shape; Size. No condition beyond what each theorem names.
-/
namespace Go.Proofs.YthmcbgidehjlbaaGreat.Fd
open _root_.Go.Proofs.Tryz
open Go Go.RowKit K
set_option maxRecDepth 100000
set_option maxHeartbeats 4000000
def lvs (gs:Nat→Nat) (n:Nat):List Value:=(List.range n).map fun k=>.slice (some ⟨gs k,0,none⟩) (wid50 k) (wid50 k)
theorem lvs_get {gs:Nat→Nat}{n k:Nat}(h:k<n):(lvs gs n)[k]?=some (.slice (some ⟨gs k,0,none⟩) (wid50 k) (wid50 k)):=by simp[lvs,h]
theorem lvs_succ {gs:Nat→Nat}{n:Nat}:lvs gs (n+1)=lvs gs n++[.slice (some ⟨gs n,0,none⟩) (wid50 n) (wid50 n)]:=by simp[lvs,List.range_succ]
theorem infoBlocks:(prog.info? 190).map (fun i=>(i.zero,i.size,i.bytes))=some (some (.slice none 0 0),1,24):=by kernel_rfl
def TreeAt (w:World) (t b:Nat) (gs:Nat→Nat) (key:List UInt8) (Ls:List (List UInt8)):Prop:=
 ∃ kv lv mv,w.heap[t]?=some (.cells #[.pointer (some ⟨b,0,none⟩),kv,lv,mv] 189 (0,0))∧w.ownsRow 0 5 1 kv 32 (u8s key)∧w.ownsRow 0 190 1 lv Ls.length (lvs gs Ls.length)∧
  (∀ k L,Ls[k]?=some L→Arr w (gs k) 179 L∧L.length=wid50 k*16)∧(∀ j k,j<Ls.length→k<Ls.length→gs j=gs k→j=k)
def TreeT (t:TypeId):Prop:=t=189∨t=5∨t=190∨t=179
section
variable {w w':World}{t b n:Nat}{gs:Nat→Nat}{key:List UInt8}{Ls:List (List UInt8)}
theorem TreeAt.keep (h:TreeAt w t b gs key Ls) (hk:∀ (g:Nat) (cs:Array Value) (ty:TypeId),TreeT ty→w.heap[g]?=some (.cells cs ty (0,0))→w'.heap[g]?=w.heap[g]?):TreeAt w' t b gs key Ls:=by
 obtain⟨kv,lv,mv,h1,h2,h3,h4,h5⟩:=h;refine⟨kv,lv,mv,(hk t _ _ (.inl rfl) h1).trans h1,owns_keep h2 (fun g hg=>?_),owns_keep h3 (fun g hg=>?_),fun k L hL=>⟨(h4 k L hL).1.keep (hk _ _ _ (.inr (.inr (.inr rfl))) (h4 k L hL).1),(h4 k L hL).2⟩,h5⟩
 ·obtain⟨cur,hc⟩:=own_cells' h2 hg;exact hk g _ _ (.inr (.inl rfl)) hc
 ·obtain⟨cur,hc⟩:=own_cells' h3 hg;exact hk g _ _ (.inr (.inr (.inl rfl))) hc
theorem TreeAt.after (h:TreeAt w t b gs key Ls) (hb:Below w.heap.size w w'):TreeAt w' t b gs key Ls:=h.keep (fun g _ _ _ hg=>hb.block g (heap_lt hg))
theorem TreeT.ne {ty:TypeId}(h:TreeT ty):ty≠223∧ty≠145:=by
 rcases h with rfl|rfl|rfl|rfl<;>exact⟨by decide,by decide⟩
theorem TreeAt.bk (h:TreeAt w t b gs key Ls) (hB:Bk w b n) (hb:BkG No b w w'):TreeAt w' t b gs key Ls:=h.keep (fun g cs ty hty hg=>by rw[hg];exact hb.at hB hg id hty.ne.1 hty.ne.2)
theorem TreeAt.cells (h:TreeAt w t b gs key Ls) (h0:0<Ls.length):∃ lg cap kv,w.cell? ⟨t,0,none⟩=some (.pointer (some ⟨b,0,none⟩))∧w.cell? ⟨t,1,none⟩=some kv∧Bytes w (fun _=>True) kv key∧key.length=32∧w.cell? ⟨t,2,none⟩=some (.slice (some ⟨lg,0,none⟩) Ls.length cap)∧Ls.length≤cap∧cap≤maxLen∧
  ∀ k,k<Ls.length→w.cell? ⟨lg,k,none⟩=some (.slice (some ⟨gs k,0,none⟩) (wid50 k) (wid50 k)):=by
 obtain⟨kv,lv,mv,h1,h2,h3,h4,h5⟩:=h;obtain⟨lg,cap,rfl,h6,h7⟩:=own_shape h3 h0;have hkl:key.length=32:=by have:=h2.1;rw[u8s_length] at this;omega
 refine⟨lg,cap,kv,cell_of h1 0,cell_of h1 1,?_,hkl,cell_of h1 2,h6,h7,fun k hk=>?_⟩
 ·have h8:=(Cells.own h2).mono (S':=fun _=>True) (fun _ _ _=>trivial);rw[← hkl] at h8;exact h8
 ·obtain⟨g',off,c',hv,_,_,_,_,hcl⟩:=Cells.at (Cells.own h3) (by omega);simp only[Value.slice.injEq,Option.some.injEq,Addr.mk.injEq] at hv;obtain⟨⟨rfl,rfl,_⟩,_,_⟩:=hv;have h8:=hcl k _ (lvs_get hk);rw[Nat.zero_add] at h8;exact h8
theorem TreeAt.level (h:TreeAt w t b gs key Ls){k:Nat}(hk:k<Ls.length):∃ L,Ls[k]?=some L∧Arr w (gs k) 179 L∧L.length=wid50 k*16:=by
 obtain⟨kv,lv,mv,h1,h2,h3,h4,h5⟩:=h;exact⟨Ls[k],List.getElem?_eq_getElem hk,h4 k _ (List.getElem?_eq_getElem hk)⟩
theorem TreeAt.lt (h:TreeAt w t b gs key Ls):t<w.heap.size:=by
 obtain⟨kv,lv,mv,h1,_⟩:=h;exact heap_lt h1
theorem block_at {g:Nat}{L:List UInt8}(h:Arr w g 179 L){i:Nat}(hi:i*16+16≤L.length):(Instr.loadAt 179 (.pointer (some ⟨g,i*16,none⟩))).run prog w=.ok (.agg (u8s ((L.drop (i*16)).take 16)).toArray) w:=
 run_loadAt_vals (x:=u8s ((L.drop (i*16)).take 16)) underlying179 (by rw[u8s_length];exact size61 (by simp;omega)) (fun j v hv=>by
  rw[cell_of h];have hj:j<16:=by have:=(List.getElem?_eq_some_iff.1 hv).1;rw[u8s_length,List.length_take] at this;omega
  rw[← hv];simp[u8s,hj])
theorem block_len {L:List UInt8}{i:Nat}(hi:i*16+16≤L.length):((L.drop (i*16)).take 16).length=16:=by simp;omega
end
theorem htSize_ok {w:World}{t b:Nat}{gs:Nat→Nat}{key:List UInt8}{Ls:List (List UInt8)}(h:TreeAt w t b gs key Ls) (h0:0<Ls.length):Calls prog 132 #[.pointer (some ⟨t,0,none⟩)] w fun e w'=>e=.returned (.int .i64 50)∧w=w':=by
 obtain⟨lg,cap,kv,c0,c1,_,_,c2,h1,h2,c3⟩:=h.cells h0;have c4:=c3 0 h0;have hw:wid50 (0:Nat)=50:=by unfold wid50;rfl
 rw[hw] at c4;obtain⟨n,hn⟩:∃ n,n=Ls.length:=⟨_,rfl⟩;rw[← hn] at c2 h0 h1;have hz:((n:Int) == 0)=false:=by simp;omega
 have hz1:(0:Int)<n:=by omega
 replace hn:=LH hn;clear h c3 hw;go_enter func132,ntmps132;go_wp2;go_ret;exact⟨rfl,rfl⟩
end Go.Proofs.YthmcbgidehjlbaaGreat.Fd
/-
  hashtree.Tree.kids: the tags of a node's kids. No condition beyond what each theorem names.
-/
namespace Go.Proofs.YthmcbgidehjlbaaGreat.Fd
open _root_.Go.Proofs.Tryz
open Go Go.RowKit K
set_option maxRecDepth 100000
set_option maxHeartbeats 8000000
def lenV:Value→Value
 | .slice _ n _=>.int .i64 n
 | _=>undef
theorem plL_get (l i:Nat):∀ c j:Nat,j<c→(plL l i c)[j*2]?=some (.int .i64 l)∧(plL l i c)[j*2+1]?=some (.int .i64 (i+j:Nat)):=by
 intro c
 induction c with
 | zero=>intro j h;omega
 | succ c ih=>
  intro j h;rw[plL_succ];have hl:=plL_length l i c;by_cases hj:j<c
  ·rw[List.getElem?_append_left (by omega),List.getElem?_append_left (by omega)];exact ih j hj
  ·obtain rfl:j=c:=by omega
   rw[List.getElem?_append_right (by omega),List.getElem?_append_right (by omega),hl];simp
theorem htKids_ok {w:World}{t b:Nat}{gs:Nat→Nat}{key:List UInt8}{Ls:List (List UInt8)}(h:TreeAt w t b gs key Ls) (l i:Nat) (hl:l<3) (hi:i<wid50 (l+1:Nat)) (h0:l<Ls.length):
  Calls prog 131 #[.pointer (some ⟨t,0,none⟩),.agg #[.int .i64 (l+1:Nat),.int .i64 i]] w fun e w'=>∃ v,e=.returned v∧∃ c bl,c≤4∧bl.length=c*16∧w'.ownsRow w.heap.size 179 16 v c (u8s bl)∧Below w.heap.size w w':=by
 obtain⟨m,hm⟩:∃ m,m=l+1:=⟨_,rfl⟩;obtain⟨q,hq⟩:∃ q,q=w.heap.size:=⟨_,rfl⟩;obtain⟨w1,hw1⟩:∃ w1,w1=w.alloc (.cells #[.int .i64 m,.int .i64 i] 193):=⟨_,rfl⟩;have b1:Below w.heap.size w w1:=by rw[hw1];exact (Below.refl _ _).alloc (Nat.le_refl _) _
 have x1:w1.heap[q]?=some (.cells #[.int .i64 m,.int .i64 i] 193 (0,0)):=by rw[hw1,hq];exact heap_alloc_new w _
 have HS:=LH (fun w3 (hc:Chg No w1 w3)=>htSize_ok (h.after (b1.trans (hc.no.mono b1.size))) (by omega));have HP:=fun w3=>kids50 l i hl hi w3
 rw[← hm] at HP ⊢;replace HP:=LH HP;have hdr:∀ w3,Chg No w1.drew w3→Chg No w1 w3:=fun w3 h=>⟨h.os,h.tape,h.output,h.size,h.block⟩
 replace hdr:=LH hdr
 have hld:=LH (fun w3 (hc:Chg No w1 w3)=>load_struct (P:=prog) (w:=w3) (g:=q) (off:=0) (ty:=193) (x:=[.int .i64 m,.int .i64 i]) underlying193 (by kernel_rfl) (fun j v hv=>by
  rw[Nat.zero_add,cell_of ((hc.block q (heap_lt x1) id).trans x1)]
  simpa using hv))
 replace h:=LH h;replace b1:=LH b1;replace hm:=LH hm;clear x1;go_enter func131,ntmps131;go_wp2;rw[← hw1,← hq];replace hq:=LH hq;replace hw1:=LH hw1;refine RA.rt (Chg No) [1,4,1,3,1,1] [] (fun _=>True) trivial (fun _=>Chg.refl _ _) (fun _ _ _ h k=>h.trans k) (h:=?_);intro cx
 repeat (first|refine RA.mv (by rfl) (by rfl) (by rfl) ?_|refine RA.as (by rfl) (by rfl) (by rfl) ?_|refine RA.pt (by rfl) (by rfl) (by rfl) (by rfl) ?_|refine RA.pf (by rfl) (by rfl) (by rfl) (by rfl) ?_)
 refine RA.kc (P:=prog) [.pointer (some ⟨t,0,none⟩)] (.int .i64 50) (fun _=>True) (fun _ _=>by go_simp) (by kernel_rfl) (by rfl) (by rfl) (by kernel_rfl) (fun _ _ _ h=>h) rfl (fun w3 hp hH=>(HS.out w3 (hdr.out _ hp.1)).mono (by rintro e w4 ⟨rfl,rfl⟩;exact⟨rfl,Chg.refl _ _,trivial⟩)) ?_;refine RA.ld (by kernel_rfl) (by rfl) (by rfl) (y':=.agg #[.int .i64 m,.int .i64 i]) (fun w3 hp=>hld.out w3 (hdr.out _ hp.1)) ?_
 refine RA.qc (P:=prog) [.int .i64 50,.agg #[.int .i64 m,.int .i64 i]] (fun v w3=>∃ c:Nat,c≤4∧4*i+c≤wid50 l∧w3.ownsRow w1.heap.size 193 2 v c (plL l (4*i) c)) (fun _ _=>True) (fun _ _=>by go_simp) (by rfl) (by rfl) (by rfl) (by kernel_rfl) (fun v a b h h2=>by
  obtain⟨c,k1,k2,k3⟩:=h2;exact⟨c,k1,k2,owns_keep k3 (fun g hg=>h.block g (owns_lt k3 g hg) id)⟩) (fun _ _ _ _ h=>h) rfl (fun w3 hp hH=>by
  refine (HP.out w3).mono ?_;rintro e w4 ⟨v,rfl,c,k1,k2,k3,k4⟩;exact⟨v,rfl,Chg.of_below k4 _,⟨c,k1,k2,owns_base k3 (hdr.out _ hp.1).size⟩,trivial⟩) (fun u=>?_)
 refine RA.vk prog (lenV u) (hr:=fun w3 hp=>by
  obtain⟨c,_,_,k3⟩:=hp.fact 0 rfl (by kernel_rfl);obtain⟨a,cap,rfl,_⟩:=(Cells.own k3).shape;clear hp k3;go_simp;rfl) (h:=?_)
 repeat (first|refine RA.mv (by rfl) (by rfl) (by rfl) ?_|refine RA.as (by rfl) (by rfl) (by rfl) ?_|refine RA.pt (by rfl) (by rfl) (by rfl) (by rfl) ?_|refine RA.pf (by rfl) (by rfl) (by rfl) (by rfl) ?_)
 refine RA.RA.done rfl (fun w2 hR hF hH=>?_);clear hH;simp only[RA.put,List.foldr_cons,List.foldr_nil,cx,Act.put,List.setIfInBounds_toArray,List.set_cons_succ,List.set_cons_zero];obtain⟨c,hc4,hcw,ho⟩:=hF _ (List.mem_cons_self ..);have hC2:=hdr.out _ hR;clear hF hR;obtain⟨pa,pcap,rfl,hpc1,hpc2⟩:=(Cells.own ho).shape;simp only[lenV];have hB2:=LH hC2.no;have hT2:=LH (h.out.after (b1.out.trans (hC2.no.mono b1.out.size)))
 have hplc:∀ j,j<c→∃ pg,pa=some ⟨pg,0,none⟩∧∀ w3,Below w2.heap.size w2 w3→w3.cell? ⟨pg,j*2,none⟩=some (.int .i64 l)∧w3.cell? ⟨pg,j*2+1,none⟩=some (.int .i64 (4*i+j:Nat)):=by
  intro j hj;obtain⟨pg,cp,hv,_,_⟩:=own_shape ho (by omega);simp only[Value.slice.injEq] at hv;obtain⟨rfl,_,_⟩:=hv;refine⟨pg,rfl,fun w3 hb=>?_⟩;obtain⟨g',off,c',hv',_,_,_,hgl,hcl⟩:=Cells.at (Cells.own ho) (by omega);simp only[Value.slice.injEq,Option.some.injEq,Addr.mk.injEq] at hv';obtain⟨⟨rfl,rfl,_⟩,_,_⟩:=hv';obtain⟨e1,e2⟩:=plL_get l (4*i) c j hj;have f1:=hcl _ _ e1;have f2:=hcl _ _ e2;rw[Nat.zero_add] at f1 f2;have hC3:=Chg.of_below hb No;exact⟨(hC3.cell (p:=⟨pg,j*2,none⟩) hgl id).trans f1,(hC3.cell (p:=⟨pg,j*2+1,none⟩) hgl id).trans f2⟩
 replace ho:=LH ho;replace hplc:=LH hplc;clear hC2 HS HP hdr hld h;go_wp2
 go_loopg [4,12] c (fun g o ix wr=>∃ j:Nat,∃ bl:List UInt8,j+g=c∧ix=.int .i64 j∧bl.length=j*16∧Hid (wr.ownsRow w2.heap.size 179 16 o j (u8s bl))∧Hid (Below w2.heap.size w2 wr))
 case atStart=>exact⟨0,[],by omega,rfl,rfl,World.ownsRow_nil _ _ _ _,Below.refl _ _⟩
 case round=>
  obtain⟨j,bl,hjg,rfl,hbl,HO,hbr⟩:=hrel;by_cases hlt:j<c
  ·obtain⟨g1,rfl⟩:∃ i,gk=i+1:=⟨gk - 1,by omega⟩;have hlI:(j:Int)<c:=by omega
   obtain⟨pg,rfl,hpl⟩:=hplc.out j hlt;obtain⟨d0,d1⟩:=hpl wr hbr.out;obtain⟨Y,hY⟩:∃ Y,Y=4*i+j:=⟨_,rfl⟩;rw[← hY] at d1;clear hpl;have hYw:Y<wid50 l:=by omega
   obtain⟨W,hW⟩:∃ W,W=wid50 l:=⟨_,rfl⟩;rw[← hW] at hYw;obtain⟨w5,hw5⟩:∃ w5,w5=wr.alloc (.cells #[.int .i64 l,.int .i64 Y] 193):=⟨_,rfl⟩;obtain⟨p6,hp6⟩:∃ p,p=wr.heap.size:=⟨_,rfl⟩;have x6:w5.heap[p6]?=some (.cells #[.int .i64 l,.int .i64 Y] 193 (0,0)):=by rw[hw5,hp6];exact heap_alloc_new wr _
   have b5:Below w2.heap.size w2 w5:=by rw[hw5];exact hbr.out.alloc hbr.out.size _
   have HO5:w5.ownsRow _ _ _ _ _ _:=owns_keep HO.out (fun g hg=>by rw[hw5];exact Below.heap_alloc wr _ _ (owns_lt HO.out g hg));have T5:=hT2.out.after b5;obtain⟨lg,cap,kv,_,_,_,_,c2,hc5,hc6,c3⟩:=T5.cells (by omega);have c4:=c3 l h0;rw[← hW] at c4;obtain⟨L,hL,hA,hLl⟩:=T5.level h0;rw[← hW] at hLl;have hblk:=block_at hA (i:=Y) (by omega);have hbkl:=block_len (L:=L) (i:=Y) (by omega);obtain⟨K1,hK1⟩:∃ K,K=(L.drop (Y*16)).take 16:=⟨_,rfl⟩;rw[← hK1] at hbkl hblk;obtain⟨N,hN⟩:∃ N,N=Ls.length:=⟨_,rfl⟩;rw[← hN] at c2 hc5;have hlN:(l:Int)<N:=by omega
   have hYW:(Y:Int)<W:=by omega
   have htl:=LH (cell_lt c2);have hlgl:=LH (cell_lt c4);have hgl:=LH (heap_lt hA);have hpl:=LH (heap_lt x6);have e0:=LH (cell_of x6 0);have e1:=LH (cell_of x6 1);have hBK:=LH (fun g=>owns_ge HO5 g);have hp6w:p6=wr.heap.size:=hp6;have hdr:∀ w3,Chg No w5.drew w3→Chg No w5 w3:=fun w3 h=>⟨h.os,h.tape,h.output,h.size,h.block⟩
   have hld:∀ w3,Chg No w5 w3→(Instr.loadAt 179 (.pointer (some ⟨gs l,Y*16,none⟩))).run prog w3=.ok (.agg (u8s K1).toArray) w3:=fun w3 hc=>by
    rw[hK1];exact block_at (hA.keep (hc.block _ (heap_lt hA) id)) (by omega)
   have hj4:j<4:=by omega
   have hbs:=LH b5.size;replace hdr:=LH hdr;replace hld:=LH hld;replace HO5:=LH HO5;replace b5:=LH b5;replace c2:=LH c2;replace c4:=LH c4;replace hW:=LH hW;replace hY:=LH hY;replace hN:=LH hN;replace hK1:=LH hK1;replace hbkl:=LH hbkl;clear T5 hA hL hLl hblk c3 x6;go_wp2;rw[← hp6] at*;rw[← hw5];replace hw5:=LH hw5;replace hp6:=LH hp6;refine RA.rt (Chg No) [5,1,1,1,1,1,1,1,1,1,1,1,1,3,6,5] [14] (fun _=>True) (trivial) (fun _=>Chg.refl _ _) (fun _ _ _ h k=>h.trans k) (h:=?_);intro cx;refine RA.pq (h:=?_)
   repeat refine RA.qq (h:=?_)
   refine RA.fk prog (t) (2) (h:=?_);refine RA.lk prog (.slice (some ⟨lg,0,none⟩) N cap) (hc:=fun w3 hp=>by exact ((hdr.out _ hp.1).cell (p:=⟨t,2,none⟩) htl.out id).trans c2.out) (h:=?_);refine RA.fk prog (p6) (0) (h:=?_);refine RA.lk prog (.int .i64 l) (hc:=fun w3 hp=>by exact ((hdr.out _ hp.1).cell (p:=⟨p6,0,none⟩) hpl.out id).trans e0.out) (h:=?_);refine RA.ik prog (lg) (l) (h:=?_);refine RA.lk prog (.slice (some ⟨gs l,0,none⟩) W W) (hc:=fun w3 hp=>by exact ((hdr.out _ hp.1).cell (p:=⟨lg,l,none⟩) hlgl.out id).trans c4.out) (h:=?_);refine RA.fk prog (p6) (1) (h:=?_);refine RA.lk prog (.int .i64 Y) (hc:=fun w3 hp=>by exact ((hdr.out _ hp.1).cell (p:=⟨p6,1,none⟩) hpl.out id).trans e1.out) (h:=?_);refine RA.ik prog (gs l) (Y*16) (h:=?_);refine RA.ld (by kernel_rfl) (by rfl) (by rfl) (y':=.agg (u8s K1).toArray) (fun w3 hp=>hld.out w3 (hdr.out _ hp.1)) ?_
   refine RA.bq (fun x w3=>Cells w3 (fun _=>True) x 1 16 (u8s K1)) (fun _ _=>True) (by kernel_rfl) (by rfl) (by kernel_rfl) (fun _ _ _ h k=>k.chg h (fun _ _ _=>id)) (fun _ _ _ _ _=>trivial) (fun w3 hp _=>by
    have e16:(u8s K1).toArray.size=16:=by rw[List.size_toArray,u8s_length,hbkl.out]
    refine⟨.slice (some ⟨w3.heap.size,0,none⟩) 1 1,w3.alloc (.cells (u8s K1).toArray 179),?_,(Chg.refl _ _).alloc _,lit_cells w3 (u8s K1).toArray 179 1 16 (by rw[e16]) (by unfold maxLen;omega),trivial⟩;exact ex_slice1 (RA.evo_ev (by rfl)) underlying190 (by rw[e16];exact infoBlock) (by rw[e16];omega) (by rw[e16];omega) (by rw[e16];rfl)) (fun x=>?_)
   refine RA.bqt (fun v' w4=>w4.ownsRow w2.heap.size 179 16 v' (j+1) (u8s bl++u8s K1)∧Below w2.heap.size w2 w4) (by kernel_rfl) (by rfl) (by kernel_rfl) (fun _ _ _ h k=>h ▸ k) (fun w3 hp0 _=>by
    have hp:=hp0.first (by kernel_rfl);obtain⟨v',w4,k1,k2,k3,_⟩:=own_push (P:=prog) (bytes:=16) underlying190 infoBlock rfl (by decide) HO5.out hbs.out (hdr.out _ hp.1) (hp.fact 0 rfl (by kernel_rfl)) (u8s_one K1) (by unfold maxLen;omega) (by omega) 190;exact⟨v',w4,RA.ex_append (by rfl) (by rfl) k1,k2,push_below (Nat.le_refl _) b5.out k3 hBK.out⟩) (fun v'=>?_)
   refine RA.pq (h:=?_);refine RA.RA.doneT (fun w6 hH=>?_);simp only[RA.put,List.foldr_cons,List.foldr_nil,cx,Act.put,List.setIfInBounds_toArray,List.set_cons_succ,List.set_cons_zero];obtain⟨y1,y2⟩:=hH;replace y1:=LH y1;replace y2:=LH y2;go_wp2;go_roundg g1
   case measure=>omega
   case rel=>exact⟨j+1,bl++K1,by omega,by go_num,by rw[List.length_append,hbkl.out,hbl];omega,by show World.ownsRow _ _ _ _ _ _ _;rw[u8s_append];exact y1.out,y2.out⟩
  ·obtain rfl:gk=0:=by omega
   have hlI:¬ (j:Int)<c:=by omega
   obtain rfl:j=c:=by omega
   go_wp2;go_ret;exact⟨_,rfl,j,hc4,bl,hbl,owns_base HO.out (Nat.le_trans b1.out.size hB2.out.size),b1.out.trans ((hB2.out.mono b1.out.size).trans (hbr.out.mono (Nat.le_trans b1.out.size hB2.out.size)))⟩
end Go.Proofs.YthmcbgidehjlbaaGreat.Fd
/-
  A literal's bytes: a row that is marked behind its last cell; frames that let marks come. No condition beyond what each theorem names.
-/
namespace Go.Proofs.YthmcbgidehjlbaaGreat.K
open Go Go.RowKit
def Mk (n:Nat) (a b:World):Prop:=Below n a b∧∀ (g:Nat) (C:Array Value) (t:TypeId) (m:Nat×Nat),a.heap[g]?=some (.cells C t m)→∃ m',b.heap[g]?=some (.cells C t m')
theorem Mk.refl (n:Nat) (a:World):Mk n a a:=⟨Below.refl _ _,fun _ _ _ m h=>⟨m,h⟩⟩
theorem Mk.trans {n:Nat}{a b c:World}(h:Mk n a b) (k:Mk n b c):Mk n a c:=⟨h.1.trans k.1,fun g C t m hg=>by
 obtain⟨m',h'⟩:=h.2 g C t m hg;exact k.2 g C t m' h'⟩
theorem Mk.of_chg {n:Nat}{a b:World}(h:Chg No a b) (hn:n≤a.heap.size):Mk n a b:=⟨h.no.mono hn,fun g _ _ m hg=>⟨m,(h.block g (heap_lt hg) id).trans hg⟩⟩
theorem Mk.of_below {n:Nat}{a b:World}(h:Below a.heap.size a b) (hn:n≤a.heap.size):Mk n a b:=Mk.of_chg (Chg.of_below h _) hn
theorem Mk.alloc {n:Nat}{a b:World}(h:Mk n a b) (hn:n≤a.heap.size) (o:Obj):Mk n a (b.alloc o):=h.trans (Mk.of_chg ((Chg.refl No b).alloc o) (Nat.le_trans hn h.1.size))
theorem Mk.cell {n:Nat}{a b:World}(h:Mk n a b){p:Addr}{v:Value}(hp:a.cell? p=some v):b.cell? p=some v:=by
 unfold World.cell? at hp ⊢;cases hg:a.heap[p.block]? with
 | none=>simp[hg] at hp
 | some o=>
  cases o with
  | cells C t m=>
   obtain⟨m',h'⟩:=h.2 _ _ _ _ hg;rw[hg] at hp;rw[h'];exact hp
  | _=>simp[hg] at hp
theorem Mk.cells {n:Nat}{a b:World}(h:Mk n a b){S:Nat→Prop}{v:Value}{k sz:Nat}{xs:List Value}(hc:Cells a S v k sz xs):Cells b S v k sz xs:=by
 obtain⟨hl,p,cap,hv,h1,h2,h0,h3⟩:=hc;refine⟨hl,p,cap,hv,h1,h2,h0,h3.imp id fun ⟨g,off,ha,hS,hb,hcl⟩=>⟨g,off,ha,hS,Nat.lt_of_lt_of_le hb h.1.size,fun j u hu=>h.cell (hcl j u hu)⟩⟩
def LitR (n:Nat) (l:List UInt8) (e:TypeId) (v:Value) (w:World):Prop:=∃ g m,v=.slice (some ⟨g,0,none⟩) l.length l.length∧n≤g∧l.length≤maxLen∧w.heap[g]?=some (.cells (u8s l).toArray e m)
theorem LitR.mk {n:Nat}{l:List UInt8}{e:TypeId}{v:Value}{a b:World}(h:LitR n l e v a) (hm:Mk n a b):LitR n l e v b:=by
 obtain⟨g,m,h1,h2,h3,h4⟩:=h;obtain⟨m',h5⟩:=hm.2 g _ _ _ h4;exact⟨g,m',h1,h2,h3,h5⟩
theorem LitR.bytes {n:Nat}{l:List UInt8}{e:TypeId}{v:Value}{w:World}(h:LitR n l e v w):Bytes w (fun _=>True) v l:=by
 obtain⟨g,m,h1,h2,h3,h4⟩:=h;refine⟨by rw[u8s_length,Nat.mul_one],_,_,h1,Nat.le_refl _,h3,fun h=>(by cases h),.inr ⟨g,0,rfl,trivial,heap_lt h4,fun j u hu=>?_⟩⟩;rw[Nat.zero_add,cell_of h4]
 simpa using hu
section
variable {P:Program}
theorem conv_lit {w:World}{n:Nat}{l:List UInt8}{t e:TypeId}{v:Value}(ht:P.underlying t=some (.slice e)) (he:P.underlying e=some (.int .u8)) (h:LitR n l e v w):∃ w',(convert t t v).run P w=.ok v w'∧Mk n w w'∧LitR n l e v w':=by
 obtain⟨g,m,rfl,h2,h3,h4⟩:=h
 have hsh:w.shape? g=some (e,(u8s l).toArray.size):=by
  unfold World.shape?;rw[h4]
 obtain⟨k,hk⟩:∃ k,k=(u8s l).toArray.size:=⟨_,rfl⟩;rw[← hk] at hsh;obtain⟨w',hw'⟩:∃ w',w'=w.freeze ⟨g,k,none⟩ 1:=⟨_,rfl⟩
 have hh:∃ f:Obj→Obj,w'.heap=w.heap.modify g f∧(∀ C t m,∃ m',f (.cells C t m)=.cells C t m'):=by
  rw[hw'];unfold World.freeze;rw[if_neg (by decide)]
  refine⟨fun o=>match o with
   | .cells c e (lo,hi)=>.cells c e (if lo == hi then (k,k+1) else (min lo k,max hi (k+1)))
   | o=>o,rfl,?_⟩
  rintro C t ⟨lo,hi⟩;exact⟨_,rfl⟩
 obtain⟨f,hf1,hf2⟩:=hh
 have hM:Mk n w w':=by
  refine⟨⟨by rw[hw'];unfold World.freeze;rw[if_neg (by decide)],by rw[hw'];unfold World.freeze;rw[if_neg (by decide)],by rw[hw'];unfold World.freeze;rw[if_neg (by decide)],by rw[hf1];simp,fun j hj=>?_⟩,fun j C t m hj=>?_⟩
  ·rw[hf1,Array.getElem?_modify,if_neg (by omega)]
  ·rw[hf1,Array.getElem?_modify];split
   ·rw[hj];obtain⟨m',h'⟩:=hf2 C t m;exact⟨m',by simp[h']⟩
   ·exact⟨m,hj⟩
 refine⟨w',?_,hM,LitR.mk ⟨g,m,rfl,h2,h3,h4⟩ hM⟩;simp[convert,run_underlying ht,run_underlying he,markStringish,hsh,← hw']
end
end Go.Proofs.YthmcbgidehjlbaaGreat.K
namespace Go.Proofs.YthmcbgidehjlbaaGreat.Fd
open Go Go.RowKit K
theorem Mk.parts {n:Nat}{a b:World}(h:Mk n a b){S:Nat→Prop}{pv:Value}{parts:List (List UInt8)}(hp:PartsAt a S pv parts):PartsAt b S pv parts:=by
 obtain⟨vs,h1,h2⟩:=hp.row;exact⟨vs,h.cells h1,fun j v hv=>h.cells (h2 j v hv)⟩
theorem parts_lit {w:World}{S:Nat→Prop}{vs:List Value}{parts:List (List UInt8)}(hl:vs.length=parts.length) (hm:parts.length≤maxLen) (h:∀ j v,vs[j]?=some v→Bytes w S v (parts.getD j [])):PartsAt (w.alloc (.cells vs.toArray 42)) (fun _=>True) (.slice (some ⟨w.heap.size,0,none⟩) parts.length parts.length) parts:=by
 have hc:=lit_cells w vs.toArray 42 parts.length 1 (by simp[hl]) hm;refine⟨vs,hc,fun j v hv=>?_⟩;exact (Cells.chg (h j v hv) ((Chg.refl No w).alloc _) (fun _ _ _=>id)).mono (fun _ _ _=>trivial)
theorem arr16 {w:World}{g:Nat}{t:TypeId}{l:List UInt8}(h:Arr w g t l){n:Nat}(hl:l.length=n) (hn:n≤maxLen):Cells w (fun _=>True) (.slice (some ⟨g,0,none⟩) n n) n 1 (u8s l):=by
 refine⟨by rw[u8s_length,hl,Nat.mul_one],_,_,rfl,Nat.le_refl _,hn,fun h=>(by cases h),.inr ⟨g,0,rfl,trivial,heap_lt h,fun j u hu=>?_⟩⟩;rw[Nat.zero_add,cell_of h]
 simpa using hu
end Go.Proofs.YthmcbgidehjlbaaGreat.Fd
/-
  hashtree.nodeParts: what a node's tag is of. No condition beyond what each theorem names.
-/
namespace Go.Proofs.YthmcbgidehjlbaaGreat.RA
open _root_.Go.Proofs.Tryz
open Go
set_option maxRecDepth 100000
set_option maxHeartbeats 8000000
theorem ex_conv {c:Cx}{K:List (Nat×Value)}{P:Program}{t t':TypeId}{x:Operand}{y z:Value}{ds:Option Nat}{ty:TypeId}{ps:String}{af:Array Edge}{gu:Option (Nat×Bool)}{w w':World}
  (hx:evo c K x=some y) (hr:(convert t t' y).run P w=.ok z w'):
  (execOp (ev c.a0 K) ⟨ds,.convert t t' x,ty,ps,af,gu⟩).run P w=.ok (.value z) w':=by
 simp[execOp,evo_ev hx,hr,Result.andThen]
section
variable {c:Cx}{Z:Act→World→Prop}{os:List Oper}{i:Nat}{K:List (Nat×Value)}{G:List (Nat×(World→Prop))}{U:List Nat}{H:World→Prop}{ty:TypeId}{ps:String}{af:Array Edge}{gu:Option (Nat×Bool)}
theorem frc {P:Program}{d:Nat}{f:FuncId}{xs:List Operand}{ats:Array TypeId}(ys:List Value) (hf:∀ args w,(callFunc f args).run P w=.ok (.enter f args) w)
  (hk:kindOf c i=2) (hg:gd c.ops c.a0 K ⟨some d,.call ⟨.value (.func f),xs.toArray,ats⟩,ty,ps,af,gu⟩=true) (ha:xs.map (evo c K)=ys.map some) (hs:∀ v,Stab c.R (c.tbl i v)) (hP:c.P=P)
  (hr:∀ w,Pre c i G w→Calls P f ys.toArray w fun e w'=>∃ v,e=.returned v∧c.E w w'∧c.tbl i v w')
  (h:∀ u,RA c Z os (i+1) ((d,u)::K) ((i,c.tbl i u)::G) (i::U) H):RA c Z (⟨some d,.call ⟨.value (.func f),xs.toArray,ats⟩,ty,ps,af,gu⟩::os) i K G U H:=
 RA.free hk hg hs (fun w hp=>opw_calls (by rw[hP,ex_call ha];exact hf _ w) (by rw[hP];exact (hr w hp).mono fun e w' ⟨v,h1,h2,h3⟩=>⟨v,h1,h2,h3⟩)) h
end
end Go.Proofs.YthmcbgidehjlbaaGreat.RA
namespace Go.Proofs.YthmcbgidehjlbaaGreat.Fd
open _root_.Go.Proofs.Tryz
open Go Go.RowKit K
set_option maxRecDepth 100000
set_option maxHeartbeats 8000000
theorem num_bytes {w:World}{B:Nat}{v:Value}{n:Nat}(h:w.ownsRow B 5 1 v 8 (u8s (numL n))):Bytes w (fun _=>True) v (numL n):=by
 have h2:=(Cells.own h).mono (S':=fun _=>True) (fun _ _ _=>trivial);show Cells w _ v (numL n).length 1 _;rw[numL_length];exact h2
theorem htNodeParts_ok {w:World}{S:Nat→Prop}{bv:Value}{c:Nat}{bl:List UInt8}(l i:Nat) (hl:l≤1000) (hi:i≤1000) (hb:Cells w S bv c 16 (u8s bl)) (hbl:bl.length=c*16) (hc:c≤4):
  Calls prog 130 #[.agg #[.int .i64 l,.int .i64 i],bv] w fun e w'=>∃ v,e=.returned v∧PartsAt w' (fun _=>True) v [[110,111,100,101],numL l,numL i,bl]∧Below w.heap.size w w':=by
 obtain⟨ba,bcap,rfl,hbc1,hbc2⟩:=hb.shape;obtain⟨q,hq⟩:∃ q,q=w.heap.size:=⟨_,rfl⟩;obtain⟨w1,hw1⟩:∃ w1,w1=w.alloc (.cells #[.int .i64 l,.int .i64 i] 193):=⟨_,rfl⟩;have b1:Below w.heap.size w w1:=by rw[hw1];exact (Below.refl _ _).alloc (Nat.le_refl _) _
 have x1:w1.heap[q]?=some (.cells #[.int .i64 l,.int .i64 i] 193 (0,0)):=by rw[hw1,hq];exact heap_alloc_new w _
 have hbr:∀ w3,Below w1.heap.size w1 w3→Cells w3 S (.slice ba c bcap) c 16 (u8s bl):=fun w3 h3=>(Cells.chg hb (Chg.of_below b1 No) (fun _ _ _=>id)).chg (Chg.of_below h3 No) (fun _ _ _=>id)
 have hz1:(Value.int .u8 0).cells.size=1:=rfl;replace x1:=LH x1;replace b1:=LH b1;replace hbr:=LH hbr;clear hb;go_enter func130,ntmps130;go_wp2;rw[← hw1,← hq];replace hq:=LH hq;replace hw1:=LH hw1
 go_loopg [5,10] c (fun g o ix wr=>∃ j:Nat,∃ cl:List UInt8,∃ ov:Value,ov=o∧j+g=c∧ix=.int .i64 j∧cl.length=j*16∧Hid (cl=bl.take (j*16))∧Hid (wr.ownsRow w1.heap.size 5 1 ov (j*16) (u8s cl))∧Hid (Below w1.heap.size w1 wr))
 case atStart=>exact⟨0,[],_,rfl,by omega,rfl,rfl,by show _=_;simp,World.ownsRow_nil _ _ _ _,Below.refl _ _⟩
 case round=>
  obtain⟨j,cl,ov,rfl,hjg,rfl,hcl,hct,HO,hbw⟩:=hrel;by_cases hlt:j<c
  ·obtain⟨g1,rfl⟩:∃ i,gk=i+1:=⟨gk - 1,by omega⟩;have hlI:(j:Int)<c:=by omega
   obtain⟨pg,off,cp,hv,_,_,_,hgl,hce⟩:=Cells.at (hbr.out wr hbw.out) (by omega);simp only[Value.slice.injEq] at hv;obtain⟨rfl,_,rfl⟩:=hv;obtain⟨K1,hK1⟩:∃ K,K=(bl.drop (j*16)).take 16:=⟨_,rfl⟩;have hK1l:K1.length=16:=by rw[hK1];exact block_len (by omega)
   have hld:(Instr.loadAt 179 (.pointer (some ⟨pg,off+j*16,none⟩))).run prog wr=.ok (.agg (u8s K1).toArray) wr:=
    run_loadAt_vals (x:=u8s K1) underlying179 (by rw[u8s_length];exact size61 hK1l) (fun k v hv=>by
     rw[Nat.add_assoc];refine hce _ _ ?_;have hk:k<16:=by have:=(List.getElem?_eq_some_iff.1 hv).1;rw[u8s_length,hK1l] at this;exact this
     rw[← hv,hK1];simp[u8s,hk])
   obtain⟨p7,hp7⟩:∃ p,p=wr.heap.size:=⟨_,rfl⟩;have xA:Arr (wr.alloc (.cells #[.int .u8 0,.int .u8 0,.int .u8 0,.int .u8 0,.int .u8 0,.int .u8 0,.int .u8 0,.int .u8 0,.int .u8 0,.int .u8 0,.int .u8 0,.int .u8 0,.int .u8 0,.int .u8 0,.int .u8 0,.int .u8 0] 179)) p7 179 (List.replicate 16 0):=by rw[hp7];exact heap_alloc_new wr _
   have hst:=block_store xA List.length_replicate K1 hK1l;obtain⟨w5,hw5⟩:∃ w5,w5=(wr.alloc (.cells #[.int .u8 0,.int .u8 0,.int .u8 0,.int .u8 0,.int .u8 0,.int .u8 0,.int .u8 0,.int .u8 0,.int .u8 0,.int .u8 0,.int .u8 0,.int .u8 0,.int .u8 0,.int .u8 0,.int .u8 0,.int .u8 0] 179)).setRow p7 (u8s K1).toArray:=⟨_,rfl⟩;have x5:Arr w5 p7 179 K1:=by rw[hw5];exact xA.setRow K1
   have b5:Below wr.heap.size wr w5:=by rw[hw5];exact below_setRow ((Below.refl _ _).alloc (Nat.le_refl _) _) (by omega) _
   have hb5:Below w1.heap.size w1 w5:=hbw.out.trans (b5.mono hbw.out.size);have HO5:=LH (owns_keep HO.out (fun g hg=>b5.block g (owns_lt HO.out g hg)));have HCB:=LH (arr16 x5 hK1l (by unfold maxLen;omega));have HBK:=LH (fun g=>owns_ge HO.out g);have hrs:=hb5.size;have hFL:j*16≤64:=by omega
   obtain⟨FL,hFLe⟩:∃ F,F=j*16:=⟨_,rfl⟩;rw[← hw5] at hst;rw[← hFLe] at hFL HO5;replace hld:=LH hld;replace hst:=LH hst;replace hb5:=LH hb5;replace hK1:=LH hK1;replace hw5:=LH hw5;replace hFLe:=LH hFLe;clear hce xA x5 b5;subst hp7
   go_wp2_with (first|(refine wpList_load rfl 179 _ rfl _ _ rfl hld.out ?_)|(refine wpList_store rfl 179 _ _ rfl _ _ rfl rfl hst.out ?_)|(at_builtin;refine K.append ?_ (.tmp 14) (.tmp 15) 42 ?_ w1.heap.size 5 (.int .u8 0) 1 1 underlying42 infoByte hz1 (by omega) _ FL _ ?_ HO5.out (fun _=>True) _ 16 (u8s K1) ?_ HCB.out (K.u8s_one K1) (by unfold maxLen;omega) (by omega) ?_ ?_))
   any_goals (first|rfl|omega)
   intro v' w2 y1 y2 y3 y4;have Y1:=LH y1;have hb3:=LH ((Chg.of_below hb5.out No).grown y2 (fun g hg hl=>absurd (HBK.out g hg) (by omega))).no;clear y1 y2 y3 y4;go_wp2;go_roundg g1
   case measure=>omega
   case rel=>
    refine⟨j+1,cl++K1,_,rfl,by omega,by go_num,by rw[List.length_append,hK1l,hcl];omega,?_,?_,hb3.out⟩
    ·show _=_;rw[hct.out,hK1.out,show (j+1)*16=j*16+16 by omega,List.take_add]
    ·show World.ownsRow _ _ _ _ _ _ _;rw[u8s_append,show (j+1)*16=FL+16 by rw[hFLe.out];omega];exact Y1.out
  ·obtain rfl:gk=0:=by omega
   have hlI:¬ (j:Int)<c:=by omega
   obtain rfl:j=c:=by omega
   have hfin:cl=bl:=by rw[hct.out,← hbl,List.take_length]
   subst hfin;obtain⟨wo,rfl⟩:∃ wo:World,wo=wr:=⟨_,rfl⟩
   have hob:Bytes wo (fun _=>True) ov cl:=by
    have h:=(Cells.own HO.out).mono (S':=fun _=>True) (fun _ _ _=>trivial);rw[← hcl] at h;exact h
   obtain⟨oa,oc,rfl,_,_⟩:=hob.shape;obtain⟨CL,hCL⟩:∃ C,C=cl.length:=⟨_,rfl⟩;obtain⟨N,hN⟩:∃ N,N=wo.heap.size:=⟨_,rfl⟩;have hmk:∀ w3,Mk N wo.drew w3→Mk N wo w3:=fun w3 h=>⟨⟨h.1.os,h.1.tape,h.1.output,h.1.size,h.1.block⟩,h.2⟩
   have y1:=(hbw.out.block q (heap_lt x1.out)).trans x1.out;have c0:=LH (cell_of y1 0);have c1:=LH (cell_of y1 1);have hNs:∀ w3,Mk N wo w3→N≤w3.heap.size:=fun w3 h=>hN ▸ h.1.size
   replace hNs:=LH hNs;replace hmk:=LH hmk;replace hob:=LH hob;have hMk0:=LH (show ∀ w3,Mk N wo w3→Below w1.heap.size w1 w3 from fun w3 h=>hbw.out.trans (h.1.mono (by rw[hN];exact hbw.out.size)));rw[← hCL];replace hCL:=LH hCL;replace hN:=LH hN;clear HO hbw y1 hct hlt hjg;go_wp2;refine RA.region (Mk N) (Mk N) [2,2,1,1,2,1,1,2,1,3,1] (fun k v w3=>match k with|4=>Bytes w3 (fun _=>True) v (numL l)|7=>Bytes w3 (fun _=>True) v (numL i)|_=>LitR N [110,111,100,101] 5 v w3) (fun _=>True) (by kernel_rfl) (Mk.refl _ _) (fun _ _ h=>h) (fun _ _ _ h k=>h.trans k) (fun _ _ _ _=>trivial) trivial (by kernel_rfl) ?_;intro cx
   refine RA.fr (by kernel_rfl) (by rfl) (fun v a b h h2=>h2.mk h) (fun w3 hp=>⟨.slice (some ⟨w3.heap.size,0,none⟩) 4 4,w3.alloc (.cells (u8s [110,111,100,101]).toArray 5),by
    show (execOp _ _).run prog w3=_;go_simp;rfl,Mk.of_chg ((Chg.refl _ _).alloc _) (hNs.out _ (hmk.out _ hp.1)),⟨w3.heap.size,(0,0),rfl,hNs.out _ (hmk.out _ hp.1),by unfold maxLen;exact Nat.le_of_ble_eq_true rfl,heap_alloc_new w3 _⟩⟩) (fun u0=>?_)
   refine RA.fr (by kernel_rfl) (by rfl) (fun v a b h h2=>h2.mk h) (fun w3 hp=>by
    obtain⟨w4,k1,k2,k3⟩:=conv_lit (P:=prog) (t:=42) underlying42 underlying5 (show LitR N [110,111,100,101] _ u0 w3 from hp.fact 0 rfl (by kernel_rfl));refine⟨u0,w4,?_,k2,k3⟩;exact RA.ex_conv (by rfl) k1) (fun u1=>?_)
   refine RA.fk prog (q) (0) (h:=?_);refine RA.lk prog (.int .i64 l) (hc:=fun w3 hp=>by exact (hmk.out _ hp.1).cell c0.out) (h:=?_)
   refine RA.frc (P:=prog) [.int .i64 l] (fun _ _=>by go_simp) (by kernel_rfl) (by rfl) (by rfl) (fun v a b h h2=>Mk.cells h h2) rfl (fun w3 hp=>(num_ok l (by omega) w3).mono (by
    rintro e w4 ⟨v,rfl,k1,k2⟩;exact⟨v,rfl,Mk.of_below k2 (hNs.out _ (hmk.out _ hp.1)),num_bytes k1⟩)) (fun u2=>?_)
   refine RA.fk prog (q) (1) (h:=?_);refine RA.lk prog (.int .i64 i) (hc:=fun w3 hp=>by exact (hmk.out _ hp.1).cell c1.out) (h:=?_)
   refine RA.frc (P:=prog) [.int .i64 i] (fun _ _=>by go_simp) (by kernel_rfl) (by rfl) (by rfl) (fun v a b h h2=>Mk.cells h h2) rfl (fun w3 hp=>(num_ok i (by omega) w3).mono (by
    rintro e w4 ⟨v,rfl,k1,k2⟩;exact⟨v,rfl,Mk.of_below k2 (hNs.out _ (hmk.out _ hp.1)),num_bytes k1⟩)) (fun u3=>?_)
   repeat (first|refine RA.mv (by rfl) (by rfl) (by rfl) ?_|refine RA.as (by rfl) (by rfl) (by rfl) ?_|refine RA.pt (by rfl) (by rfl) (by rfl) (by rfl) ?_|refine RA.pf (by rfl) (by rfl) (by rfl) (by rfl) ?_)
   refine RA.bq (fun x w3=>PartsAt w3 (fun _=>True) x [[110,111,100,101],numL l,numL i,cl]) (fun _ _=>True) (by kernel_rfl) (by rfl) (by kernel_rfl) (fun _ _ _ h k=>Mk.parts h k) (fun _ _ _ _ _=>trivial) (fun w3 hp _=>by
    have f1:=(show LitR N [110,111,100,101] _ u1 w3 from hp.fact 2 rfl (by kernel_rfl)).bytes;have f2:=(show Bytes w3 (fun _=>True) u2 (numL l) from hp.fact 1 rfl (by kernel_rfl));have f3:=(show Bytes w3 (fun _=>True) u3 (numL i) from hp.fact 0 rfl (by kernel_rfl));have f4:Bytes w3 (fun _=>True) (.slice oa CL oc) cl:=by rw[hCL.out];exact (hmk.out _ hp.1).cells hob.out
    have hN3:=hNs.out _ (hmk.out _ hp.1)
    have hP:=parts_lit (w:=w3) (S:=fun _=>True) (vs:=[u1,u2,u3,.slice oa CL oc]) (parts:=[[110,111,100,101],numL l,numL i,cl]) rfl (by unfold maxLen;simp) (by
     intro j v hv
     match j with
     | 0=>cases hv;exact f1
     | 1=>cases hv;exact f2
     | 2=>cases hv;exact f3
     | 3=>cases hv;exact f4
     | _+4=>simp at hv)
    refine⟨_,w3.alloc (.cells #[u1,u2,u3,.slice oa CL oc] 42),?_,Mk.of_chg ((Chg.refl _ _).alloc _) hN3,hP,trivial⟩;obtain⟨_,_,rfl,_⟩:=f1.shape;obtain⟨_,_,rfl,_⟩:=f2.shape;obtain⟨_,_,rfl,_⟩:=f3.shape;clear f1 f2 f3 f4 hP hp hN3;show (execOp _ _).run prog w3=_;go_simp) (fun x=>?_)
   repeat (first|refine RA.mv (by rfl) (by rfl) (by rfl) ?_|refine RA.as (by rfl) (by rfl) (by rfl) ?_|refine RA.pt (by rfl) (by rfl) (by rfl) (by rfl) ?_|refine RA.pf (by rfl) (by rfl) (by rfl) (by rfl) ?_)
   refine RA.RA.done rfl (fun w5 hR hF hH=>?_);clear hH;simp only[RA.put,List.foldr_cons,List.foldr_nil,cx,Act.put,List.setIfInBounds_toArray,List.set_cons_succ,List.set_cons_zero];have hP:=LH (show PartsAt w5 (fun _=>True) x [[110,111,100,101],numL l,numL i,cl] from hF _ (List.mem_cons_self ..));have hB:=LH (hMk0.out _ (hmk.out _ hR));clear hF hR;go_wp2;go_ret;exact⟨_,rfl,hP.out,b1.out.trans (hB.out.mono b1.out.size)⟩
end Go.Proofs.YthmcbgidehjlbaaGreat.Fd

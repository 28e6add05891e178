/-
  append at a slice in the midst of a row of its own; cuts of it. No condition: a tool for the other texts.
-/
import Derived.Test.YthmcbgidehjlbaaGreatRmMix
namespace Go.Proofs.YthmcbgidehjlbaaGreat.K
open _root_.Go.Proofs.Tryz
open Go Go.RowKit Fd
theorem drop_take_splice {α:Type}(cur:List α) (off n:Nat) (xs news:List α) (h:(cur.drop off).take n=xs) (hx:xs.length=n) (hfit:off+n+news.length≤cur.length):
  ((splice cur (off+n) news).drop off).take (n+news.length)=xs++news:=by
 simp only[splice];rw[List.drop_append_of_le_length (by simp;omega),List.drop_take,show off+n - off=n by omega,h,List.take_append,List.take_append,List.take_of_length_le (by omega),hx,show n+news.length - n=news.length by omega,List.take_of_length_le (Nat.le_refl _)];simp
section
variable {P:Program}
theorem run_append_roomAt {w:World}(t ty e:TypeId) (ht:P.underlying t=some (.slice e)) (hi:(P.info? e).map (·.size)=some 1)
  (g off sLen sCap:Nat) (cur:Array Value) (hg:w.heap[g]?=some (.cells cur e (0,0))) (S:Nat→Prop) (y:Value) (m:Nat) (news:List Value) (hy:Cells w S y m 1 news) (h1:∀ u ∈ news,u.oneCell'=true)
  (hroom:sLen+m≤sCap) (hfit:off+sLen+news.length≤cur.size):
  (Builtin.append_ #[t,t] ty #[.slice (some ⟨g,off,none⟩) sLen sCap,y]).run P w=.ok (.slice (some ⟨g,off,none⟩) (sLen+m) sCap) (w.setRow g (splice cur.toList (off+sLen) news).toArray):=by
 obtain⟨i,hii,his⟩:∃ i,P.info? e=some i∧i.size=1:=by
  cases hq:P.info? e with
  | none=>simp[hq] at hi
  | some i=>exact⟨i,rfl,by simpa [hq] using hi⟩
 obtain⟨hl,a,cap,rfl,_,_,h0,h3⟩:=hy;have hst:=run_storeCells_at (P:=P) g (off+sLen) e news 0 cur w hg (by omega) h1;simp only[Nat.add_zero] at hst
 have fin:∀ (hf:(Builtin.firstCells 1 m (.slice a m cap)).run P w=.ok news.toArray w),(Builtin.append_ #[t,t] ty #[.slice (some ⟨g,off,none⟩) sLen sCap,.slice a m cap]).run P w=.ok (.slice (some ⟨g,off,none⟩) (sLen+m) sCap) (w.setRow g (splice cur.toList (off+sLen) news).toArray):=by
  intro hf;simp[Builtin.append_,run_underlying ht,sizeOf,typeInfo,hii,his,Builtin.lenOf,hroom,hf,Addr.add_lit,hst,splice]
 cases a with
 | none=>
  obtain rfl:=h0 rfl
  have hm:m=0:=by
   rcases h3 with h3|⟨b,o,h4,_⟩
   ·exact h3
   ·cases h4
  subst hm;have hn:news=[]:=List.eq_nil_of_length_eq_zero (by simpa using hl);subst hn;exact fin (by simp[Builtin.firstCells])
 | some ad=>
  refine fin (run_firstCells_some (P:=P) w 1 m ad m cap news (by simpa using hl) ?_);intro j u hu;rcases h3 with h3|⟨b,o,h4,_,_,hc⟩
  ·subst h3;have hn:news=[]:=List.eq_nil_of_length_eq_zero (by simpa using hl);subst hn;simp at hu
  ·cases h4
   rw[Addr.add_lit];exact hc j u hu
end
def Mid (w:World) (B:Nat) (v:Value) (xs:List UInt8):Prop:=
 (v=.slice none 0 0∧xs=[])∨∃ g off cap cur,v=.slice (some ⟨g,off,none⟩) xs.length cap∧B≤g∧w.heap[g]?=some (.cells cur 5 (0,0))∧xs.length≤cap∧cap≤maxLen∧off+cap≤cur.size∧(cur.toList.drop off).take xs.length=u8s xs
theorem Mid.nil (w:World) (B:Nat):Mid w B (.slice none 0 0) []:=.inl ⟨rfl,rfl⟩
theorem Mid.keep {w w':World}{B:Nat}{v:Value}{xs:List UInt8}(h:Mid w B v xs) (hk:Below w.heap.size w w'):Mid w' B v xs:=by
 rcases h with h|⟨g,off,cap,cur,hv,hb,hg,r⟩
 ·exact .inl h
 ·exact .inr ⟨g,off,cap,cur,hv,hb,(hk.block g (heap_lt hg)).trans hg,r⟩
theorem Mid.shape {w:World}{B:Nat}{v:Value}{xs:List UInt8}(h:Mid w B v xs):∃ a cap,v=.slice a xs.length cap∧xs.length≤cap∧cap≤maxLen:=by
 rcases h with ⟨rfl,rfl⟩|⟨g,off,cap,cur,hv,hb,hg,h1,h2,_⟩
 ·exact⟨none,0,rfl,Nat.le_refl _,by unfold maxLen;omega⟩
 ·exact⟨_,cap,hv,h1,h2⟩
theorem Mid.bytes {w:World}{B:Nat}{v:Value}{xs:List UInt8}(h:Mid w B v xs):Bytes w (fun g=>B≤g) v xs:=by
 rcases h with ⟨rfl,rfl⟩|⟨g,off,cap,cur,rfl,hb,hg,h1,h2,h3,h4⟩
 ·exact Bytes.nil w _
 ·refine⟨by simp[u8s_length],_,cap,rfl,h1,h2,fun h=>(by cases h),.inr ⟨g,off,rfl,hb,heap_lt hg,fun j u hu=>?_⟩⟩;rw[cell_of hg,← hu,← h4,List.getElem?_take];rw[← h4,List.getElem?_take] at hu;split at hu
  ·rename_i hj;simp[hj]
  ·cases hu
theorem Mid.own {w:World}{B:Nat}{v:Value}{n:Nat}{xs:List UInt8}(h:w.ownsRow B 5 1 v n (u8s xs)):Mid w B v xs:=by
 have hn:xs.length=n:=by have:=h.1;simpa [u8s_length] using this
 subst hn;rcases h.2 with ⟨rfl,h0⟩|⟨g,cap,cur,rfl,hb,hg,h1,h2,h3,h4⟩
 ·have:=List.eq_nil_of_length_eq_zero h0;subst this;exact .inl ⟨rfl,rfl⟩
 ·exact .inr ⟨g,0,cap,cur,rfl,hb,hg,h1,h2,by omega,by simpa using h4⟩
theorem Mid.append {w:World}{B:Nat}{v:Value}{xs:List UInt8}(h:Mid w B v xs) (hB:B≤w.heap.size){S:Nat→Prop}{y:Value}{news:List UInt8}(hy:Bytes w S y news) (hfew:xs.length+news.length≤10000000) (ty:TypeId):
  ∃ v' w',(Builtin.append_ #[42,42] ty #[v,y]).run prog w=.ok v' w'∧Mid w' B v' (xs++news)∧Below B w w':=by
 obtain⟨i,hi1,hi2,hi3,hi4⟩:=info_parts infoByte;rcases h with ⟨rfl,rfl⟩|⟨g,off,cap,cur,rfl,hb,hg,h1,h2,h3,h4⟩
 ·obtain⟨v',w',hr,r1,r2,_,r4⟩:=run_append_cells (P:=prog) w B 42 ty 5 i _ 1 1 underlying42 hi1 hi2 hi3 hi4 rfl (by decide) (.slice none 0 0) 0 [] (World.ownsRow_nil _ _ _ _) S y news.length (u8s news) hy (u8s_one _) (by unfold maxLen;omega) (by omega) hB;refine⟨v',w',hr,Mid.own (n:=0+news.length) (by simpa using r1),⟨r2.os,r2.tape,r2.output,r2.size,fun k hk=>r2.block k (by omega) (by simp[Value.ownBlock])⟩⟩
 ·by_cases hroom:xs.length+news.length≤cap
  ·have hr:=run_append_roomAt (P:=prog) 42 ty 5 underlying42 (by kernel_rfl) g off xs.length cap cur hg S y news.length (u8s news) hy (u8s_one _) hroom (by rw[u8s_length];omega);refine⟨_,_,hr,.inr ⟨g,off,cap,_,by rw[List.length_append],hb,setRow_heap w g cur _ _ _ hg,by rw[List.length_append];exact hroom,h2,?_,?_⟩,below_setRow (Below.refl _ _) hb _⟩
   ·have hc:cur.toList.length=cur.size:=Array.length_toList;rw[List.size_toArray,length_splice _ _ _ (by rw[u8s_length];omega),hc];exact h3
   ·have hc:cur.toList.length=cur.size:=Array.length_toList;have h5:=drop_take_splice cur.toList off xs.length (u8s xs) (u8s news) h4 (u8s_length xs) (by rw[u8s_length];omega);rw[u8s_length] at h5;rw[u8s_append,List.length_append];exact h5
  ·obtain⟨hl,a,ycap,rfl,_,_,h0,h5⟩:=hy;have hmax:=h2
   have holds:∀ j u,(u8s xs)[j]?=some u→w.cell? ((⟨g,off,none⟩:Addr).add j)=some u:=by
    intro j u hu;rw[Addr.add_lit,cell_of hg,← hu,← h4,List.getElem?_take];rw[← h4,List.getElem?_take] at hu;split at hu
    ·rename_i hj;simp[hj]
    ·cases hu
   have hpos:0<news.length:=by omega
   obtain⟨b,o,rfl,_,hbl,hc⟩:∃ b off,a=some ⟨b,off,none⟩∧S b∧b<w.heap.size∧∀ j u,(u8s news)[j]?=some u→w.cell? ⟨b,off+j,none⟩=some u:=by
    rcases h5 with h5|h5
    ·omega
    ·exact h5
   have hr:=run_append_grow (P:=prog) w 42 ty 5 i _ underlying42 hi1 hi2 ⟨g,off,none⟩ xs.length cap (u8s xs) (by rw[hi3,u8s_length,Nat.mul_one]) holds ⟨b,o,none⟩ news.length ycap (u8s news) (by rw[hi3,u8s_length,Nat.mul_one])
    (fun j u hu=>by rw[Addr.add_lit];exact hc j u hu) (by omega) (by omega) (growslice_fits (by omega) (by rw[hi4];omega))
   refine⟨_,_,hr,.inr ⟨w.heap.size,0,_,_,by rw[List.length_append],hB,heap_alloc_new w.drew _,by rw[List.length_append];exact grownCap_ge _ _ _ _,grownCap_le_maxLen _ _ _ _ (by unfold maxLen;omega),?_,?_⟩,?_⟩
   ·have:=grownCap_ge w (xs.length+news.length) cap 5;simp only[Array.size_append,List.size_toArray,size_zeroCells,u8s_length];have e:(Value.int IntKind.u8 0).cells.size=1:=rfl;rw[e];omega
   ·simp only[Array.toList_append,List.drop_zero,u8s_append,List.length_append];rw[List.take_append_of_le_length (by simp[u8s_length])];rw[List.take_of_length_le (by simp[u8s_length])]
   ·exact⟨rfl,rfl,rfl,by simp,fun k hk=>Below.heap_alloc w.drew _ k (by show k<w.heap.size;omega)⟩
theorem Mid.tail {w:World}{B:Nat}{v:Value}{xs:List UInt8}(h:Mid w B v xs) (k:Nat) (hk0:0<k) (hk:k≤xs.length):
  ∃ v',(∀ w3,(Instr.sliceAt 42 v (some (.int .i64 k)) none none).run prog w3=.ok v' w3)∧Mid w B v' (xs.drop k):=by
 rcases h with ⟨rfl,rfl⟩|⟨g,off,cap,cur,rfl,hb,hg,h1,h2,h3,h4⟩
 ·simp at hk;omega
 ·refine⟨_,fun w3=>cut_lo (P:=prog) (s:=1) w3 underlying42 (by kernel_rfl) _ _ _ _ hk,?_⟩;by_cases hc:cap=k
  ·have hx:xs.length=k:=by omega
   have hd:xs.drop k=[]:=List.drop_eq_nil_of_le (by omega);rw[hd];refine .inr ⟨g,off,0,cur,?_,hb,hg,Nat.le_refl _,by unfold maxLen;omega,by omega,by simp[u8s]⟩;simp[Go.sliced,hc,hx]
  ·rw[sliced_in _ _ _ _ _ _ (by omega)];refine .inr ⟨g,off+k,cap - k,cur,by rw[List.length_drop,Nat.mul_one],hb,hg,by rw[List.length_drop];omega,by omega,by omega,?_⟩;rw[List.length_drop,← List.drop_drop,← List.drop_take,h4];simp[u8s,List.map_drop]
theorem Mid.parts {w:World}{B:Nat}{v:Value}{xs:List UInt8}(h:Mid w B v xs) (hx:0<xs.length):∃ g off cap,v=.slice (some ⟨g,off,none⟩) xs.length cap∧xs.length≤cap∧cap≤maxLen:=by
 rcases h with ⟨_,rfl⟩|⟨g,off,cap,cur,hv,hb,hg,h1,h2,h3,h4⟩
 ·simp at hx
 ·exact⟨g,off,cap,hv,h1,h2⟩
theorem Mid.tail2 {w:World}{B g off cap n:Nat}{xs:List UInt8}(h:Mid w B (.slice (some ⟨g,off,none⟩) n cap) xs) (hn:n=xs.length) (k:Nat) (hk0:0<k) (hk:k≤n):
  Mid w B (.slice (if cap=k then some ⟨g,off,none⟩ else some ⟨g,off+k,none⟩) (n - k) (cap - k)) (xs.drop k):=by
 subst hn;obtain⟨v',h1,h2⟩:=h.tail k hk0 hk;have h3:=h1 w;obtain⟨a,c,_,h4,h5⟩:=h.shape;rw[cut_lo (P:=prog) (s:=1) w underlying42 (by kernel_rfl) _ _ _ _ hk] at h3
 have e:v'=.slice (if cap=k then some ⟨g,off,none⟩ else some ⟨g,off+k,none⟩) (xs.length - k) (cap - k):=by
  have:=Result.ok.inj h3;rw[← this.1];by_cases hc:cap=k
  ·simp[Go.sliced,hc]
  ·simp[Go.sliced,hc,Addr.add_lit]
 rw[← e];exact h2
theorem Mid.front {w:World}{B:Nat}{v:Value}{xs:List UInt8}(h:Mid w B v xs) (k:Nat) (hk0:0<k) (hk:k≤xs.length):
  ∃ v',(∀ w3,(Instr.sliceAt 42 v none (some (.int .i64 k)) none).run prog w3=.ok v' w3)∧Bytes w (fun g=>B≤g) v' (xs.take k):=by
 have hb:=h.bytes;obtain⟨a,cap,rfl,h1,h2⟩:=h.shape;refine⟨_,fun w3=>cut_hi (P:=prog) (s:=1) w3 underlying42 (by kernel_rfl) a _ cap k (by omega),?_⟩;have h3:=bytes_cut hb 0 k (by omega) hk
 simpa using h3
theorem wpList_app {P:Program}{w w':World}{ops:Array Oper}{rest:List Oper}{o:Oper}{a:Act}{Q:Exit→Act→World→Prop}(hgd:o.guard=none) (s x:Operand) (t:TypeId)
  (ho:o.op=.call { callee:=.builtin .append,args:=#[s,x],argTypes:=#[t,t] }) (v y v':Value) (hs:a.eval s=v) (hx:a.eval x=y)
  (hr:(Builtin.append_ #[t,t] o.type #[v,y]).run P w=.ok v' w') (h:wpList P ops Q rest (a.put o.dst v') w'):wpList P ops Q (o::rest) a w:=by
 refine wpList_plain hgd fun K hK=>?_
 unfold Oper.wp execOp;simp only[ho,resolve,invoke,builtin,Sem.run_bind,Sem.run_pure,Result.andThen_ok,List.map_toArray,List.map_cons,List.map_nil,hs,hx,hr];exact hK _ _ h
end Go.Proofs.YthmcbgidehjlbaaGreat.K

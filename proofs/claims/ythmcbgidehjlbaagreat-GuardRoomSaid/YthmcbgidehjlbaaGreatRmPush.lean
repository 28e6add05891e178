/-
  One value more behind a row of its own, within a region. No condition beyond what each theorem names.
-/
import Derived.Test.YthmcbgidehjlbaaGreatRmEnc
import Derived.Test.YthmcbgidehjlbaaGreatRmFieldPk
namespace Go.Proofs.YthmcbgidehjlbaaGreat.K
open Go Go.RowKit
section
variable {P:Program}
theorem own_push {n:Nat}{e t:TypeId}{z:Value}{bytes sz:Nat}(ht:P.underlying t=some (.slice e)) (hi:(P.info? e).map (fun i=>(i.zero,i.size,i.bytes))=some (some z,sz,bytes)) (hz:z.cells.size=sz) (hs:0<sz)
  {x w3:World}{kv:Value}{m:Nat}{vs:List Value}(ho:x.ownsRow n e sz kv m vs) (hn:n≤x.heap.size) (hR:Chg No x w3){S:Nat→Prop}{u:Value}{k:Nat}{news:List Value}(hu:Cells w3 S u k sz news)
  (h1:∀ v ∈ news,v.oneCell'=true) (hm:m+k≤maxLen) (hb:(m+k)*bytes≤140737488355328) (ty:TypeId):
  ∃ v' w4,(Builtin.append_ #[t,t] ty #[kv,u]).run P w3=.ok v' w4∧w4.ownsRow n e sz v' (m+k) (vs++news)∧Chg (fun g=>kv.ownBlock=some g) x w4∧(v'.ownBlock=kv.ownBlock∨∃ g,v'.ownBlock=some g∧x.heap.size≤g):=by
 obtain⟨i,hi1,hi2,hi3,hi4⟩:=info_parts hi;have ho3:=owns_keep ho (fun g hg=>hR.block g (ho.lt g hg).2 id);obtain⟨v',w4,hr,r1,r2,_,r4⟩:=run_append_cells (P:=P) w3 n t ty e i z sz bytes ht hi1 hi2 hi3 hi4 hz hs kv m vs ho3 S u k news hu h1 hm hb (Nat.le_trans hn hR.size);refine⟨v',w4,hr,r1,(hR.mono (fun _ _ h=>h.elim)).grown r2 (fun _ h _=>h),?_⟩;rcases r4 with e|⟨g,e,hg⟩
 ·exact .inl e
 ·exact .inr ⟨g,e,Nat.le_trans hR.size hg⟩
theorem own_shape {w:World}{n:Nat}{e:TypeId}{sz:Nat}{v:Value}{m:Nat}{xs:List Value}(h:w.ownsRow n e sz v m xs) (hm:0<m):∃ g cp,v=.slice (some ⟨g,0,none⟩) m cp∧m≤cp∧cp≤maxLen:=by
 rcases h.2 with ⟨_,h0⟩|⟨g,cp,cur,h0,_,_,h1,h2,_⟩
 ·omega
 ·exact⟨g,cp,h0,h1,h2⟩
theorem lit_cells (w:World) (vs:Array Value) (T:TypeId) (k sz:Nat) (hk:vs.size=k*sz) (hl:k≤maxLen):
  Cells (w.alloc (.cells vs T)) (fun _=>True) (.slice (some ⟨w.heap.size,0,none⟩) k k) k sz vs.toList:=
 (Cells.own (World.ownsRow_lit (base:=0) (e:=T) (size:=sz) w vs k (Nat.zero_le _) hl hk)).mono (fun _ _ _=>trivial)
end
end Go.Proofs.YthmcbgidehjlbaaGreat.K

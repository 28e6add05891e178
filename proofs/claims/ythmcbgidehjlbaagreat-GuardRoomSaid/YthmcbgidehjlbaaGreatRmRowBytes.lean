/-
  A slice of bytes that came in, as the walks' contracts want it. No condition beyond what each theorem names.
-/
import Derived.Test.YthmcbgidehjlbaaGreatRmBase
namespace Go.Proofs.YthmcbgidehjlbaaGreat.K
open Go Go.RowKit
def IsRow (k:IntKind) (w:World) (a:Option Addr) (len cap:Nat) (zs:List Int):Prop:=
 (a=none∧len=0∧cap=0∧zs=[])∨
 ∃ x,a=some x∧len≤cap∧cap≤maxLen∧zs.length=cap∧(∀ i,i<zs.length→w.cell? (x.add i)=some (.int k (zs.getD i 0)))∧∀ n ∈ zs,(Lit.int k n).wf=true
theorem IsRow.bytes {w:World}{a:Option Addr}{len cap:Nat}{zs:List Int}(h:IsRow .u8 w a len cap zs):∃ l:List UInt8,Bytes w (fun _=>True) (.slice a len cap) l:=by
 rcases h with ⟨rfl,rfl,rfl,rfl⟩|⟨x,rfl,hl,hm,hz,hcell,hwz⟩
 ·exact⟨[],rfl,none,0,rfl,Nat.le_refl _,by unfold maxLen;omega,fun _=>rfl,.inl rfl⟩
 ·obtain⟨l,hlen⟩:∃ l:List UInt8,l=(zs.take len).map (fun n=>UInt8.ofNat n.toNat):=⟨_,rfl⟩;have hll:l.length=len:=by rw[hlen];simp;omega
  refine⟨l,by simp[u8s],some x,cap,by rw[hll],by rw[hll];exact hl,hm,fun h=>(by cases h),?_⟩;by_cases h0:len=0
  ·exact .inl (hll.trans h0)
  ·obtain⟨b,off,spot⟩:=x;have hc:=hcell 0 (by omega);have hspot:spot=none:=by simpa [Addr.add] using World.cell?_spot hc
   subst hspot;have hc0:w.cell? ⟨b,off,none⟩=some (.int .u8 (zs.getD 0 0)):=by simpa [Addr.add] using hc
   refine .inr ⟨b,off,rfl,trivial,cell_lt hc0,fun j u hu=>?_⟩
   have hj:j<len:=by
    have:=(List.getElem?_eq_some_iff.1 hu).1;simp[u8s,hll] at this;exact this
   have h1:=hcell j (by omega);have hjz:j<zs.length:=by omega
   have hw:=hwz _ (List.getElem_mem hjz);have hx:0≤zs[j]∧zs[j]≤255:=by simpa [Lit.wf,IntKind.min,IntKind.max,IntKind.signed,IntKind.bits] using hw
   have h2:w.cell? ⟨b,off+j,none⟩=some (.int .u8 zs[j]):=by
    rw[List.getD_eq_getElem?_getD,List.getElem?_eq_getElem hjz] at h1;by_cases hj0:j=0
    ·subst hj0
     simpa [Addr.add] using h1
    ·simpa [Addr.add,hj0] using h1
   rw[h2,← hu,hlen];simp only[u8s,List.map_map,List.getElem?_map,List.getElem?_take,if_pos hj,List.getElem?_eq_getElem hjz,Option.map_some,Function.comp];simp[u8];omega
end Go.Proofs.YthmcbgidehjlbaaGreat.K

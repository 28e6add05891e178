/-
  The document's own sum is the program's. Plain. No condition.
-/
import Derived.Test.YtbgfdbidbjlaaaaGreatSaQSum
namespace Go.Proofs.YtbgfdbidbjlaaaaGreat.Fd
open Go Go.RowKit K
def eatK (h:List Nat) (M:List UInt8):Nat→List Nat
 | 0=>h
 | k+1=>mixL (eatK h M k) ((M.drop (64*k)).take 64)
theorem eatK_zero {h:List Nat}{M:List UInt8}:eatK h M 0=h:=rfl
theorem eatK_succ {h:List Nat}{M:List UInt8}{k:Nat}:eatK h M (k+1)=mixL (eatK h M k) ((M.drop (64*k)).take 64):=rfl
theorem eatC_eatK {M:List UInt8}:∀ k,eatC M k=eatK startL M k
 | 0=>by rw[eatC_zero,eatK_zero]
 | k+1=>by rw[eatC_succ,eatK_succ,eatC_eatK k]
theorem eatK_shift {h:List Nat}{M:List UInt8}:∀ k,eatK h M (k+1)=eatK (mixL h (M.take 64)) (M.drop 64) k
 | 0=>by rw[eatK_succ,eatK_zero,eatK_zero];rfl
 | k+1=>by
  rw[eatK_succ,eatK_shift k,eatK_succ,List.drop_drop,show 64+64*k=64*(k+1) by omega]
theorem eatF_eatK:∀ {f:Nat}{h:List Nat}{r:List UInt8},r.length≤64*f→eatF f h r=(eatK h r (r.length / 64),r.drop (64*(r.length / 64))):=by
 intro f
 induction f with
 | zero=>
  intro h r hr;have:r=[]:=List.eq_nil_of_length_eq_zero (by omega);subst this;rw[eatF_zero];rfl
 | succ f ih=>
  intro h r hr;rw[eatF_succ];by_cases h64:64≤r.length
  ·rw[if_pos h64,ih (by rw[List.length_drop];omega),List.length_drop];have e:r.length / 64=(r.length - 64) / 64+1:=by omega
   rw[e,eatK_shift,List.drop_drop,show 64+64*((r.length - 64) / 64)=64*((r.length - 64) / 64+1) by omega]
  ·rw[if_neg h64,show r.length / 64=0 by omega,eatK_zero];rfl
theorem padF_app {x:List UInt8}(hx:x.length % 64=0):∀ {f:Nat}{r:List UInt8},padF f (x++r)=x++padF f r:=by
 intro f
 induction f with
 | zero=>intro r;rw[padF_zero,padF_zero]
 | succ f ih=>
  intro r;rw[padF_succ,padF_succ,List.length_append];by_cases h:r.length % 64=56
  ·rw[if_pos h,if_pos (by omega)]
  ·rw[if_neg h,if_neg (by omega),List.append_assoc,ih]
theorem lenL_app {x r:List UInt8}{n:Nat}:∀ k,lenL (x++r) n k=x++lenL r n k
 | 0=>by rw[lenL_zero,lenL_zero]
 | k+1=>by rw[lenL_succ,lenL_succ,lenL_app k,List.append_assoc]
theorem eatK_left {h:List Nat}{x y:List UInt8}{q:Nat}(hx:x.length=64*q):∀ k,k≤q→eatK h (x++y) k=eatK h x k
 | 0,_=>rfl
 | k+1,hk=>by
  rw[eatK_succ,eatK_succ,eatK_left hx k (by omega),List.drop_append_of_le_length (by omega),List.take_append_of_le_length (by rw[List.length_drop];omega)]
theorem eatK_app {h:List Nat}{x y:List UInt8}{q:Nat}(hx:x.length=64*q):∀ m,eatK h (x++y) (q+m)=eatK (eatK h x q) y m
 | 0=>eatK_left hx q (Nat.le_refl _)
 | m+1=>by
  rw[← Nat.add_assoc,eatK_succ,eatK_app hx m,eatK_succ,show 64*(q+m)=x.length+64*m by omega,← List.drop_drop,List.drop_left]
theorem sumQ_eq (b:List UInt8):sumQ b=sha [b]:=by
 have ha:absorb [b] 1=⟨eatK startL b (b.length / 64),b.drop (64*(b.length / 64)),b.length⟩:=by
  rw[absorb_succ,absorb_zero];simp only[List.nil_append,Nat.zero_add];rw[show [b].getD 0 []=b by rfl,eat,eatF_eatK (by omega)]
 obtain⟨q,hq⟩:∃ q,q=b.length / 64:=⟨_,rfl⟩;rw[← hq] at ha;have hxl:(b.take (64*q)).length=64*q:=by rw[List.length_take];omega
 have hmsg:msgQ b=b.take (64*q)++lastL (absorb [b] 1):=by
  rw[ha,lastL,msgQ,padQ];have e:b++[128]=b.take (64*q)++(b.drop (64*q)++[128]):=by rw[← List.append_assoc,List.take_append_drop]
  rw[e,padF_app (by rw[hxl];omega),lenL_app]
 have hsha:sha [b]=hashL (eatF (lastL (absorb [b] 1)).length (absorb [b] 1).h (lastL (absorb [b] 1))).1 32:=rfl;rw[hsha,sumQ,eatC_eatK,hmsg];obtain⟨T,hT⟩:∃ T,T=lastL (absorb [b] 1):=⟨_,rfl⟩;rw[← hT,ha,eatF_eatK (by omega)];show hashL (eatK startL _ _) 32=hashL (eatK (eatK startL b q) T (T.length / 64)) 32;rw[List.length_append,hxl,show (64*q+T.length) / 64=q+T.length / 64 by omega,eatK_app hxl]
 have e2:eatK startL b q=eatK startL (b.take (64*q)) q:=by
  have h:=eatK_left (h:=startL) (y:=b.drop (64*q)) hxl q (Nat.le_refl _);rw[List.take_append_drop] at h;exact h
 rw[e2]
end Go.Proofs.YtbgfdbidbjlaaaaGreat.Fd

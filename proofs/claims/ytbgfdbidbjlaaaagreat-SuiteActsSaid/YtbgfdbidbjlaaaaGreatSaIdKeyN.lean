/-
  ideal.Key: what it refuses. No condition beyond what each theorem names.
-/
import Derived.Test.YtbgfdbidbjlaaaaGreatSaIdKeyW
import Derived.Test.YtbgfdbidbjlaaaaGreatSaQSuDerPk
namespace Go.Proofs.YtbgfdbidbjlaaaaGreat.Fd
open _root_.Go.Proofs.Tryz
open Go Go.RowKit K
set_option maxRecDepth 100000
set_option maxHeartbeats 4000000
theorem idKey_out (c what:Value) (pv sv:Value) (r n:Int) (h1:1≤r) (h:10000<r∨n<0∨256<n) (w:World)
  (hk:Calls prog 31 #[pv,sv,.int .i64 1,.int .i64 0] w fun e w'=>∃ a b c,e=.returned (.tuple #[.slice a b c,.int .i64 0])∧Below w.heap.size w w'):
  Calls prog 30 #[c,what,pv,sv,.int .i64 r,.int .i64 n] w fun e w'=>e=.returned (.tuple #[.slice none 0 0,.int .i64 1])∧Below w.heap.size w w':=by
 replace hk:=LH hk;have hmin:(if (1:Int)<r then 1 else r)=1:=by split<;>omega
 by_cases hr:10000<r
 ·clear h;go_enter func30,ntmps30
  go_wp2_with fail
  refine hk.out.mono ?_;rintro e w' ⟨x,y,z,rfl,hb⟩;replace hb:=LH hb;go_wp2;go_ret2;exact⟨rfl,hb.out⟩
 ·have hr':¬ (10000:Int)<r:=hr;by_cases hn:n<0
  ·clear h;go_enter func30,ntmps30
   go_wp2_with fail
   refine hk.out.mono ?_;rintro e w' ⟨x,y,z,rfl,hb⟩;replace hb:=LH hb;go_wp2;go_ret2;exact⟨rfl,hb.out⟩
  ·have hn2:256<n:=by omega
   clear h;go_enter func30,ntmps30
   go_wp2_with fail
   refine hk.out.mono ?_;rintro e w' ⟨x,y,z,rfl,hb⟩;replace hb:=LH hb;go_wp2;go_ret2;exact⟨rfl,hb.out⟩
theorem idKey_no {w:World}{P P':Nat→Prop}{c what pw sv:Value}{pass salt:List UInt8}(hp:Bytes w P pw pass) (hs:Bytes w P' sv salt){r n:Int}(h:¬ askOk pass.length salt.length r n):
  Calls prog 30 #[c,what,pw,sv,.int .i64 r,.int .i64 n] w fun e w'=>e=.returned (.tuple #[.slice none 0 0,.int .i64 1])∧Below w.heap.size w w':=by
 cases hm:mayB pass.length salt.length (min r 1) with
 | false=>
  obtain⟨pa,pc,rfl,_,_⟩:=hp.shape;obtain⟨sa,sc,rfl,_,_⟩:=hs.shape;refine (idKey_bad c what _ _ r n w (key_bad pa sa pass.length pc salt.length sc (min r 1) 0 (.inl hm) w)).mono ?_;rintro e w' ⟨rfl,rfl⟩;exact⟨rfl,Below.refl _ _⟩
 | true=>
  have hb:pass.length≤128∧salt.length≤64∧1≤min r 1:=by
   simp[mayB] at hm;omega
  have hr1:1≤r:=by omega
  have hout:10000<r∨n<0∨256<n:=by
   by_cases h1:10000<r
   ·exact .inl h1
   ·by_cases h2:n<0
    ·exact .inr (.inl h2)
    ·by_cases h3:256<n
     ·exact .inr (.inr h3)
     ·exact absurd ⟨by simp[mayB];omega,by omega,by omega⟩ h
  refine idKey_out c what pw sv r n hr1 hout w ((key_any hp hs hb.1 hb.2.1 1 0 (by omega) (by omega) (by omega)).mono ?_);rintro e w' ⟨v,rfl,h1,h2⟩;obtain⟨x,y,rfl,_,_⟩:=(Cells.own h1).shape;exact⟨x,0,y,rfl,h2⟩
end Go.Proofs.YtbgfdbidbjlaaaaGreat.Fd

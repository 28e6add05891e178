/-
  Texts of this claim, laid together by a program of mine. No condition beyond what each theorem names.
-/
import Derived.Test.YtbgfdbidbjlaaaaGreatSaTapeBPk
import Derived.Test.YtbgfdbidbjlaaaaGreatSaTablesPk
/-
  ideal.New, suite.Ideal. No condition beyond what each theorem names.
-/
namespace Go.Proofs.YtbgfdbidbjlaaaaGreat.Fd
open _root_.Go.Proofs.Tryz
open Go Go.RowKit K
set_option maxHeartbeats 1000000
structure IdealNew (w:World) (p:Nat) (t:Option Addr) (m k:Nat):Prop where
 box:w.heap[p]?=some (.cells #[.pointer t,.map (some m),.map (some k),.int .i64 0,.int .i64 0] 119 (0,0))
 places:w.heap[m]?=some (.map #[] 0)
 keys:w.heap[k]?=some (.map #[] 0)
theorem idNew_ok (t:Option Addr) (w:World):Calls prog 35 #[.pointer t] w fun e w'=>∃ p m k,e=.returned (.pointer (some ⟨p,0,none⟩))∧w.heap.size≤m∧m<k∧k<p∧IdealNew w' p t m k∧Below w.heap.size w w':=by
 have hmm:=@run_makeMap prog;go_enter func35,ntmps35;go_wp2;go_ret;refine⟨w.heap.size+2,w.heap.size,w.heap.size+1,rfl,Nat.le_refl _,by omega,by omega,⟨?_,?_,?_⟩,?_⟩
 ·have h:=heap_alloc_new ((w.alloc (.map #[] 0)).alloc (.map #[] 0)) (.cells #[.pointer t,.map (some w.heap.size),.map (some (w.heap.size+1)),.int .i64 0,.int .i64 0] 119);simp only[World.size_alloc] at h;exact h
 ·exact (Below.heap_alloc _ _ _ (by simp;omega)).trans ((Below.heap_alloc _ _ _ (by simp)).trans (heap_alloc_new w _))
 ·have h:=heap_alloc_new (w.alloc (.map #[] 0)) (.map #[] 0);simp only[World.size_alloc] at h;exact (Below.heap_alloc _ _ _ (by simp)).trans h
 ·exact (((Below.refl _ _).alloc (Nat.le_refl _) _).alloc (by simp) _).alloc (by simp;omega) _
theorem suIdeal_ok (t:Option Addr) (w:World):Calls prog 17 #[.pointer t] w fun e w'=>∃ s p m k,e=.returned (.pointer (some ⟨s,0,none⟩))∧w.heap.size≤m∧m<k∧k<p∧p<s∧SuiteAt w' s (some ⟨p,0,none⟩) t∧IdealNew w' p t m k∧Below w.heap.size w w':=by
 have hc:=LH (idNew_ok t w);go_enter func17,ntmps17
 go_wp2_with fail
 refine hc.out.mono ?_;rintro e w1 ⟨p,m,k,rfl,h1,h2,h3,h4,h5⟩;have H4:=LH h4;have H5:=LH h5;have hp:=heap_lt h4.box;clear h4 h5 hc;go_wp2;go_ret;have h4:=H4.out;refine⟨w1.heap.size,p,m,k,rfl,h1,h2,h3,hp,heap_alloc_new w1 _,⟨(Below.heap_alloc _ _ _ hp).trans h4.box,(Below.heap_alloc _ _ _ (heap_lt h4.places)).trans h4.places,(Below.heap_alloc _ _ _ (heap_lt h4.keys)).trans h4.keys⟩,H5.out.alloc H5.out.size _⟩
end Go.Proofs.YtbgfdbidbjlaaaaGreat.Fd
/-
  xts: what is refused. No condition beyond what each theorem names.
-/
namespace Go.Proofs.YtbgfdbidbjlaaaaGreat.Fd
open _root_.Go.Proofs.Tryz
open Go Go.RowKit K
set_option maxRecDepth 100000
set_option maxHeartbeats 4000000
theorem xtsOpen_bad (a:Option Addr) (n cap:Nat) (z:Int) (hn:n≤1000000) (hz:-9223372036854775808≤z) (hz1:z≤9223372036854775807) (hb:¬ ((n=32∨n=64)∧0≤z∧z≤1099511627776)) (w:World):
  Calls prog 60 #[.slice a n cap,.int .i64 z] w fun e w'=>e=.returned (.tuple #[.agg #[.pointer none,.pointer none],.int .i64 1])∧Below w.heap.size w w':=by
 have hB:Below w.heap.size w (w.alloc (.cells #[.pointer none,.pointer none] 104)):=(Below.refl _ _).alloc (Nat.le_refl _) _;replace hB:=LH hB;rcases (by omega:(n≠32∧n≠64)∨(n=32∧z<0)∨(n=64∧z<0)∨(n=32∧1099511627776<z)∨(n=64∧1099511627776<z)) with h|h|h|h|h
 all_goals obtain⟨h1,h2⟩:=h
 all_goals go_enter func60,ntmps60
 all_goals go_wp2
 all_goals refine bodyPost_ret (v:=.tuple #[.agg #[.pointer none,.pointer none],.int .i64 1]) (by simp[results,results60,go_sem,asAddr]) rfl ⟨rfl,?_⟩
 all_goals repeat (first|exact hB.out|refine Below.setCell ?_ (Nat.le_refl _) _)
end Go.Proofs.YtbgfdbidbjlaaaaGreat.Fd
/-
  suite: of no suite at all. No condition beyond what each theorem names.
-/
namespace Go.Proofs.YtbgfdbidbjlaaaaGreat.Fd
open _root_.Go.Proofs.Tryz
open Go Go.RowKit K
set_option maxHeartbeats 1000000
theorem seal_nil (s a b c:Value) (w:World):Calls prog 9 #[.pointer none,s,a,b,c] w fun e w'=>e=.returned (.tuple #[.slice none 0 0,.int .i64 9])∧w=w':=by
 go_enter func9,ntmps9;go_wp2;go_ret2;exact⟨rfl,rfl⟩
end Go.Proofs.YtbgfdbidbjlaaaaGreat.Fd

/-
  xts.May. No condition beyond what each theorem names.
-/
import Derived.Test.YtbgfdbidbjlaaaaFrmTweaks
namespace Go.Proofs.Ytbgfdbidbjlaaaa.Fd
open Go Go.RowKit K

def keyOk (n : Nat) (z : Int) : Prop := (n = 32 ∨ n = 64) ∧ 0 ≤ z ∧ z ≤ 1099511627776

set_option maxRecDepth 100000 in
set_option maxHeartbeats 4000000 in
theorem mayBad_ok (a : Option Addr) (n cap : Nat) (z : Int) (hn : n ≤ 1000000) (hz : -9223372036854775808 ≤ z) (hz1 : z ≤ 9223372036854775807) (hb : ¬ keyOk n z) (d : Value) (w : World) :
    Calls Try.prog 30 #[.slice a n cap, .int .i64 z, d] w fun e w' => e = .returned (.bool false) ∧ Below w.heap.size w w' := by
  have hc := Lib.hid (xtsOpen_bad a n cap z hn hz hz1 hb w)
  go_enter Try.func30, Try.ntmps30
  go_wp2_with fail
  refine hc.out.mono ?_
  rintro e w1 ⟨rfl, hb1⟩
  have hB := Lib.hid hb1
  clear hb1
  go_wp2
  go_ret
  refine ⟨rfl, ?_⟩
  have := hB.out.alloc hB.out.size (.cells #[.pointer none, .pointer none] 71)
  exact this
theorem ok_of {key : List UInt8} {z : Nat} (h : keyOk key.length z) : (key.length = 32 ∨ key.length = 64) ∧ z ≤ 1099511627776 := ⟨h.1, by have := h.2.2; omega⟩

set_option maxRecDepth 100000 in
set_option maxHeartbeats 4000000 in
theorem mayKey_ok {w : World} {S : Nat → Prop} {kv : Value} {key : List UInt8} (hb : Bytes w S kv key) (z : Nat) (hk : keyOk key.length z) (a : Option Addr) (n cap : Nat) (hn : n ≤ 1000000) :
    Calls Try.prog 30 #[kv, .int .i64 z, .slice a n cap] w fun e w' => e = .returned (.bool (decide (n % 16 = 0 ∧ n ≤ 4096))) ∧ Below w.heap.size w w' := by
  have hc := Lib.hid (xtsOpen_ok hb (ok_of hk).1 z (ok_of hk).2)
  obtain ⟨q, hq⟩ : ∃ q, q = n % 16 := ⟨_, rfl⟩
  have hq1 : (n : Int) % 16 = q := by omega
  have hq2 : (n : Int).tmod 16 = q := by rw [Int.tmod_eq_emod_of_nonneg (by omega)]; exact hq1
  rw [← hq]
  replace hq := Lib.hid hq
  have hfin : ∀ w1 p1 p2, Below w.heap.size w w1 → Below w.heap.size w (w1.alloc (.cells #[.pointer (some ⟨p1, 0, none⟩), .pointer (some ⟨p2, 0, none⟩)] 71)) := fun w1 p1 p2 h => h.alloc h.size _
  replace hfin := Lib.hid hfin
  by_cases h0 : q = 0
  · subst h0
    by_cases h1 : n ≤ 4096
    all_goals go_enter Try.func30, Try.ntmps30
    all_goals go_wp2_with fail
    all_goals refine hc.out.mono ?_
    all_goals rintro e w1 ⟨p1, p2, rfl, _, hb1⟩
    all_goals replace hb1 := Lib.hid hb1
    all_goals go_wp2
    all_goals go_ret
    all_goals exact ⟨ret_bool (by simp; omega), hfin.out _ _ _ hb1.out⟩
  · have e0 : ((q : Int) == 0) = false := by simp; omega
    go_enter Try.func30, Try.ntmps30
    go_wp2_with fail
    refine hc.out.mono ?_
    rintro e w1 ⟨p1, p2, rfl, _, hb1⟩
    replace hb1 := Lib.hid hb1
    go_wp2
    go_ret
    exact ⟨ret_bool (by simp; omega), hfin.out _ _ _ hb1.out⟩
end Go.Proofs.Ytbgfdbidbjlaaaa.Fd

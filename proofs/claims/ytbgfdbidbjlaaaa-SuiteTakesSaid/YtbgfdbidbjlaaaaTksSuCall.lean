/-
  suite.Seal, Open, Derive by what they call; what suite.through and ideal.Key refuse. No condition beyond what each theorem names.
-/
import Derived.Test.YtbgfdbidbjlaaaaTksSuThru
import Derived.Test.YtbgfdbidbjlaaaaTksKey
import Derived.Test.YtbgfdbidbjlaaaaTksAlTapePk
namespace Go.Proofs.Ytbgfdbidbjlaaaa.Fd
open Go Go.RowKit K

/-- an answer of a slice and a number -/
def Two (Q : Ending → World → Prop) (e : Ending) (w : World) : Prop := ∃ a n c er, e = .returned (.tuple #[.slice a n c, .int .i64 er]) ∧ Q e w

set_option maxRecDepth 100000 in
set_option maxHeartbeats 4000000 in
theorem suThroughBad_ok {w : World} (what kv dv fv : Value) (unit : Int) (h : Calls Try.prog 30 #[kv, .int .i64 unit, dv] w fun e w' => e = .returned (.bool false) ∧ Below w.heap.size w w') :
    Calls Try.prog 21 #[what, kv, .int .i64 unit, dv, fv] w fun e w' => e = .returned (.tuple #[.slice none 0 0, .int .i64 1]) ∧ Below w.heap.size w w' := by
  replace h := Lib.hid h
  go_enter Try.func21, Try.ntmps21
  go_wp2_with fail
  refine h.out.mono ?_
  rintro e w1 ⟨rfl, h1⟩
  replace h1 := Lib.hid h1
  go_wp2
  go_ret2
  exact ⟨rfl, h1.out⟩

set_option maxRecDepth 100000 in
set_option maxHeartbeats 4000000 in
theorem seal_ideal {w : World} {s : Nat} {c : Addr} {t : Option Addr} (hs : SuiteAt w s (some c) t) (what kv dv : Value) (unit : Int) (Q : Ending → World → Prop)
    (h : Calls Try.prog 21 #[what, kv, .int .i64 unit, dv, .func (.func 22) #[.pointer (some c)] #[]] w (Two Q)) :
    Calls Try.prog 10 #[.pointer (some ⟨s, 0, none⟩), what, kv, .int .i64 unit, dv] w Q := by
  have hi := Lib.hid (isIdeal_ok hs)
  have h1 : w.cell? ⟨s, 0, none⟩ = some (.pointer (some c)) := cell_of hs 0
  replace h := Lib.hid h
  clear hs
  go_enter Try.func10, Try.ntmps10
  go_wp2_with (first | (go_at_call 19; refine hi.out.mono ?_; rintro e w' ⟨rfl, rfl⟩) | fail)
  refine h.out.mono ?_
  rintro e w' ⟨a, n, cp, er, rfl, hQ⟩
  replace hQ := Lib.hid hQ
  go_wp2
  exact hQ.out
set_option maxRecDepth 100000 in
set_option maxHeartbeats 4000000 in
theorem seal_real {w : World} {s : Nat} {t : Option Addr} (hs : SuiteAt w s none t) (what kv dv : Value) (unit : Int) (Q : Ending → World → Prop)
    (h : Calls Try.prog 23 #[kv, .int .i64 unit, dv] w (Two Q)) :
    Calls Try.prog 10 #[.pointer (some ⟨s, 0, none⟩), what, kv, .int .i64 unit, dv] w Q := by
  have hi := Lib.hid (isIdeal_ok hs)
  replace h := Lib.hid h
  clear hs
  go_enter Try.func10, Try.ntmps10
  go_wp2_with (first | (go_at_call 19; refine hi.out.mono ?_; rintro e w' ⟨rfl, rfl⟩) | fail)
  refine h.out.mono ?_
  rintro e w' ⟨a, n, cp, er, rfl, hQ⟩
  replace hQ := Lib.hid hQ
  go_wp2
  exact hQ.out

set_option maxRecDepth 100000 in
set_option maxHeartbeats 4000000 in
theorem open_ideal {w : World} {s : Nat} {c : Addr} {t : Option Addr} (hs : SuiteAt w s (some c) t) (what kv dv : Value) (unit : Int) (Q : Ending → World → Prop)
    (h : Calls Try.prog 21 #[what, kv, .int .i64 unit, dv, .func (.func 24) #[.pointer (some c)] #[]] w (Two Q)) :
    Calls Try.prog 12 #[.pointer (some ⟨s, 0, none⟩), what, kv, .int .i64 unit, dv] w Q := by
  have hi := Lib.hid (isIdeal_ok hs)
  have h1 : w.cell? ⟨s, 0, none⟩ = some (.pointer (some c)) := cell_of hs 0
  replace h := Lib.hid h
  clear hs
  go_enter Try.func12, Try.ntmps12
  go_wp2_with (first | (go_at_call 19; refine hi.out.mono ?_; rintro e w' ⟨rfl, rfl⟩) | fail)
  refine h.out.mono ?_
  rintro e w' ⟨a, n, cp, er, rfl, hQ⟩
  replace hQ := Lib.hid hQ
  go_wp2
  exact hQ.out
set_option maxRecDepth 100000 in
set_option maxHeartbeats 4000000 in
theorem open_real {w : World} {s : Nat} {t : Option Addr} (hs : SuiteAt w s none t) (what kv dv : Value) (unit : Int) (Q : Ending → World → Prop)
    (h : Calls Try.prog 25 #[kv, .int .i64 unit, dv] w (Two Q)) :
    Calls Try.prog 12 #[.pointer (some ⟨s, 0, none⟩), what, kv, .int .i64 unit, dv] w Q := by
  have hi := Lib.hid (isIdeal_ok hs)
  replace h := Lib.hid h
  clear hs
  go_enter Try.func12, Try.ntmps12
  go_wp2_with (first | (go_at_call 19; refine hi.out.mono ?_; rintro e w' ⟨rfl, rfl⟩) | fail)
  refine h.out.mono ?_
  rintro e w' ⟨a, n, cp, er, rfl, hQ⟩
  replace hQ := Lib.hid hQ
  go_wp2
  exact hQ.out

set_option maxRecDepth 100000 in
set_option maxHeartbeats 4000000 in
theorem derive_ideal {w : World} {s : Nat} {c : Addr} {t : Option Addr} (hs : SuiteAt w s (some c) t) (what : ByteArray) (hw : what.size ≤ 1000) (pv sv : Value) (r n : Int) (Q : Ending → World → Prop)
    (h : Calls Try.prog 26 #[.pointer (some c), .string (what ++ ⟨#[32, 107, 101, 121]⟩), pv, sv, .int .i64 r, .int .i64 n] w (Two Q)) :
    Calls Try.prog 14 #[.pointer (some ⟨s, 0, none⟩), .string what, pv, sv, .int .i64 r, .int .i64 n] w Q := by
  have hi := Lib.hid (isIdeal_ok hs)
  have h1 : w.cell? ⟨s, 0, none⟩ = some (.pointer (some c)) := cell_of hs 0
  replace h := Lib.hid h
  clear hs
  go_enter Try.func14, Try.ntmps14
  go_wp2_with (first | (go_at_call 19; refine hi.out.mono ?_; rintro e w' ⟨rfl, rfl⟩) | fail)
  refine h.out.mono ?_
  rintro e w' ⟨a, n, cp, er, rfl, hQ⟩
  replace hQ := Lib.hid hQ
  go_wp2
  exact hQ.out
set_option maxRecDepth 100000 in
set_option maxHeartbeats 4000000 in
theorem derive_real {w : World} {s : Nat} {t : Option Addr} (hs : SuiteAt w s none t) (what pv sv : Value) (r n : Int) (Q : Ending → World → Prop)
    (h : Calls Try.prog 27 #[pv, sv, .int .i64 r, .int .i64 n] w (Two Q)) :
    Calls Try.prog 14 #[.pointer (some ⟨s, 0, none⟩), what, pv, sv, .int .i64 r, .int .i64 n] w Q := by
  have hi := Lib.hid (isIdeal_ok hs)
  replace h := Lib.hid h
  clear hs
  go_enter Try.func14, Try.ntmps14
  go_wp2_with (first | (go_at_call 19; refine hi.out.mono ?_; rintro e w' ⟨rfl, rfl⟩) | fail)
  refine h.out.mono ?_
  rintro e w' ⟨a, n, cp, er, rfl, hQ⟩
  replace hQ := Lib.hid hQ
  go_wp2
  exact hQ.out

set_option maxRecDepth 100000 in
set_option maxHeartbeats 4000000 in
/-- ideal.Key refuses what stretch.Key refuses -/
theorem idKey_bad (c what : Value) (pv sv : Value) (r n : Int) (w : World)
    (h : Calls Try.prog 27 #[pv, sv, .int .i64 (min r 1), .int .i64 0] w fun e w' => e = .returned (.tuple #[.slice none 0 0, .int .i64 1]) ∧ w = w') :
    Calls Try.prog 26 #[c, what, pv, sv, .int .i64 r, .int .i64 n] w fun e w' => e = .returned (.tuple #[.slice none 0 0, .int .i64 1]) ∧ w = w' := by
  replace h := Lib.hid h
  obtain ⟨m, hm⟩ : ∃ m, m = min r 1 := ⟨_, rfl⟩
  rw [← hm] at h
  have hmn : (if (1 : Int) < r then 1 else r) = m := by rw [hm]; split <;> omega
  clear hm
  go_enter Try.func26, Try.ntmps26
  go_wp2_with fail
  refine h.out.mono ?_
  rintro e w' ⟨rfl, rfl⟩
  go_wp2
  go_ret2
  exact ⟨rfl, rfl⟩
set_option maxRecDepth 100000 in
set_option maxHeartbeats 4000000 in
/-- ideal.Key refuses a key too long -/
theorem idKey_long (c what : Value) (pv sv : Value) (n : Int) (hn : 256 < n) (w : World)
    (h : Calls Try.prog 27 #[pv, sv, .int .i64 1, .int .i64 0] w fun e w' => ∃ a b c, e = .returned (.tuple #[.slice a b c, .int .i64 0]) ∧ Below w.heap.size w w') :
    Calls Try.prog 26 #[c, what, pv, sv, .int .i64 1, .int .i64 n] w fun e w' => e = .returned (.tuple #[.slice none 0 0, .int .i64 1]) ∧ Below w.heap.size w w' := by
  replace h := Lib.hid h
  go_enter Try.func26, Try.ntmps26
  go_wp2_with fail
  refine h.out.mono ?_
  rintro e w' ⟨x, y, z, rfl, hb⟩
  replace hb := Lib.hid hb
  go_wp2
  go_ret2
  exact ⟨rfl, hb.out⟩
end Go.Proofs.Ytbgfdbidbjlaaaa.Fd

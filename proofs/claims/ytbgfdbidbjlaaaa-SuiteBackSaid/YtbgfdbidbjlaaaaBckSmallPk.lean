/-
  Texts of this claim, laid together by a program of mine. No condition beyond what each theorem names.
-/
import Derived.Test.YtbgfdbidbjlaaaaBckSboxPk
import Derived.Test.YtbgfdbidbjlaaaaBckRegionB
/-
  stretch.May, may; tape.Left. No condition beyond what each theorem names.
-/
namespace Go.Proofs.Ytbgfdbidbjlaaaa.Fd
open Go Go.RowKit K

set_option maxHeartbeats 400000 in
theorem stMay_ok (a : Option Addr) (n cap : Nat) (w : World) : Calls Try.prog 48 #[.slice a n cap] w fun e w' => e = .returned (.bool (decide (n ≤ 128))) ∧ w = w' := by
  go_enter Try.func48, Try.ntmps48
  go_wp2
  go_ret
  exact ⟨ret_bool (by simp; omega), rfl⟩

def mayB (n m : Nat) (r : Int) : Bool := decide (n ≤ 128 ∧ m ≤ 64 ∧ 1 ≤ r ∧ r ≤ 10000)
set_option maxHeartbeats 2000000 in
theorem may_ok (a b : Option Addr) (n cap m cap' : Nat) (r : Int) (w : World) : Calls Try.prog 39 #[.slice a n cap, .slice b m cap', .int .i64 r] w fun e w' => e = .returned (.bool (mayB n m r)) ∧ w = w' := by
  obtain ⟨q, hq⟩ : ∃ q, q = decide (n ≤ 128) := ⟨_, rfl⟩
  have M := Lib.hid (hq ▸ stMay_ok a n cap w)
  by_cases h1 : n ≤ 128
  · have hq1 : q = true := by simp [hq, h1]
    subst hq1
    clear hq
    by_cases h2 : m ≤ 64
    · by_cases h3 : 1 ≤ r
      · go_enter Try.func39, Try.ntmps39
        go_wp2_with (go_at_call 48; refine M.out.mono ?_; rintro e w' ⟨rfl, rfl⟩)
        all_goals go_ret
        all_goals exact ⟨ret_bool (by simp [mayB, h1, h2, h3]), rfl⟩
      · go_enter Try.func39, Try.ntmps39
        go_wp2_with (go_at_call 48; refine M.out.mono ?_; rintro e w' ⟨rfl, rfl⟩)
        all_goals go_ret
        all_goals exact ⟨ret_bool (by simp [mayB]; omega), rfl⟩
    · go_enter Try.func39, Try.ntmps39
      go_wp2_with (go_at_call 48; refine M.out.mono ?_; rintro e w' ⟨rfl, rfl⟩)
      all_goals go_ret
      all_goals exact ⟨ret_bool (by simp [mayB]; omega), rfl⟩
  · have hq1 : q = false := by simp [hq, h1]
    subst hq1
    clear hq
    go_enter Try.func39, Try.ntmps39
    go_wp2_with (go_at_call 48; refine M.out.mono ?_; rintro e w' ⟨rfl, rfl⟩)
    all_goals go_ret
    all_goals exact ⟨ret_bool (by simp [mayB]; omega), rfl⟩
end Go.Proofs.Ytbgfdbidbjlaaaa.Fd
/-
  tape. No condition beyond what each theorem names.
-/
namespace Go.Proofs.Ytbgfdbidbjlaaaa.Fd
open Go Go.RowKit K

def takeCells (t : ByteArray × Nat × Nat) : List Value := [.string t.1, .int .i64 t.2.1, .int .i64 t.2.2]
/-- a tape: its bytes, how many are taken, what for -/
structure TapeAt (w : World) (F : Nat → Prop) (p : Nat) (bv tv : Value) (b : List UInt8) (a : Nat) (ts : List (ByteArray × Nat × Nat)) : Prop where
  box : w.heap[p]? = some (.cells #[bv, .int .i64 a, tv] 46 (0, 0))
  own : F p
  bytes : Bytes w F bv b
  few : b.length ≤ 1000000
  within : a ≤ b.length
  takes : Cells w F tv ts.length 3 (ts.flatMap takeCells)
  count : ts.length ≤ 1000000

theorem left_nil (w : World) : Calls Try.prog 11 #[.pointer none] w fun e w' => e = .returned (.int .i64 0) ∧ w = w' := by
  go_enter Try.func11, Try.ntmps11
  go_wp2
  go_ret
  exact ⟨rfl, rfl⟩

set_option maxRecDepth 100000 in
set_option maxHeartbeats 2000000 in
theorem left_ok {w : World} {F : Nat → Prop} {p : Nat} {bv tv : Value} {b : List UInt8} {a : Nat} {ts : List (ByteArray × Nat × Nat)} (h : TapeAt w F p bv tv b a ts) :
    Calls Try.prog 11 #[.pointer (some ⟨p, 0, none⟩)] w fun e w' => e = .returned (.int .i64 (b.length - a : Nat)) ∧ Chg No w w' := by
  obtain ⟨ba, cap, rfl, hc1, hc2⟩ := h.bytes.shape
  have hpl := heap_lt h.box
  have h0 := Lib.hid (cell_of h.box 0)
  have h1 := Lib.hid (cell_of h.box 1)
  have hw := h.within
  have hf := h.few
  replace h := Lib.hid h
  have hdr : ∀ w3, Chg No w.drew w3 → Chg No w w3 := fun w3 h => ⟨h.os, h.tape, h.output, h.size, h.block⟩
  replace hdr := Lib.hid hdr
  obtain ⟨d, hd⟩ : ∃ d, d = b.length - a := ⟨_, rfl⟩
  rw [← hd]
  go_enter Try.func11, Try.ntmps11
  go_wp2
  refine RA.region (fun a b => Chg No a b) (· = ·) [1, 1, 1, 1, 1, 1, 1, 1, 1, 1, 1] (fun _ _ _ => True) (fun _ => True) (by kernel_rfl) (Chg.refl _ _) (fun _ _ h => h ▸ Chg.refl _ _) (fun _ _ _ h k => h.trans k) (fun _ _ h k => h ▸ k) trivial (by kernel_rfl) ?_
  intro cx
  repeat (first | refine RA.mv (by kernel_rfl) (by rfl) (by rfl) ?_ | refine RA.as (by kernel_rfl) (by rfl) (by rfl) ?_ | refine RA.nc (by kernel_rfl) (by rfl) (by rfl) ?_)
  refine RA.fa (by kernel_rfl) (by rfl) (by rfl) (y' := .pointer (some ⟨p, 0, none⟩)) (fun w3 hp => by show (Instr.fieldAt _ _ _).run Try.prog w3 = _; go_simp) ?_
  refine RA.ld (by kernel_rfl) (by rfl) (by rfl) (y' := .slice ba b.length cap) (fun w3 hp => by
    have h1 := ((hdr.out _ hp.1).cell (p := ⟨p, 0, none⟩) hpl id).trans h0.out
    show (Instr.loadAt _ _).run Try.prog w3 = _
    go_simp) ?_
  refine RA.v Try.prog (x := .int .i64 b.length) (by kernel_rfl) (by rfl) (by rfl) (fun w hp => by go_simp) ?_
  simp only [RA.add]
  repeat (first | refine RA.mv (by kernel_rfl) (by rfl) (by rfl) ?_ | refine RA.as (by kernel_rfl) (by rfl) (by rfl) ?_ | refine RA.nc (by kernel_rfl) (by rfl) (by rfl) ?_)
  refine RA.fa (by kernel_rfl) (by rfl) (by rfl) (y' := .pointer (some ⟨p, 1, none⟩)) (fun w3 hp => by show (Instr.fieldAt _ _ _).run Try.prog w3 = _; go_simp) ?_
  refine RA.ld (by kernel_rfl) (by rfl) (by rfl) (y' := .int .i64 a) (fun w3 hp => by
    have h1 := ((hdr.out _ hp.1).cell (p := ⟨p, 1, none⟩) hpl id).trans h1.out
    show (Instr.loadAt _ _).run Try.prog w3 = _
    go_simp) ?_
  refine RA.si (by kernel_rfl) (by rfl) (by rfl) (by rfl) ((d : Int)) (by omega) (by omega) ?_
  repeat (first | refine RA.mv (by kernel_rfl) (by rfl) (by rfl) ?_ | refine RA.as (by kernel_rfl) (by rfl) (by rfl) ?_ | refine RA.nc (by kernel_rfl) (by rfl) (by rfl) ?_)
  refine RA.RA.done rfl (fun w3 hR hF hH => ?_)
  clear hF hH
  simp only [RA.put, List.foldr_cons, List.foldr_nil, cx, Act.put, List.setIfInBounds_toArray, List.set_cons_succ, List.set_cons_zero]
  go_wp2
  go_ret
  exact ⟨rfl, hdr.out _ hR⟩
end Go.Proofs.Ytbgfdbidbjlaaaa.Fd

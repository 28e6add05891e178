/-
  Texts of this claim, laid together by a program of mine. No condition beyond what each theorem names.
-/
import Derived.Test.YtbgfdbidbjlaaaaBckTapeBPk
import Derived.Test.YtbgfdbidbjlaaaaBckTables
/-
  prioryalike.Tape: some bytes, so many. No condition beyond what each theorem names.
-/
namespace Go.Proofs.Ytbgfdbidbjlaaaa.Fd
open Go Go.RowKit K

theorem u8s_zero (n : Nat) : (madeCells #[.int .u8 0] n).toList = u8s (List.replicate n 0) := by
  rw [toList_madeCells_one]
  simp [u8s, u8]

set_option maxRecDepth 100000 in
set_option maxHeartbeats 4000000 in
theorem alTape_ok (s : Int) (n : Nat) (hn : 0 < n) (hn2 : n ≤ 10000) (w : World) : Calls Try.prog 8 #[.int .i64 s, .int .i64 n] w fun e w' => ∃ v l, e = .returned v ∧ l.length = n ∧ Bytes w' (fun g => w.heap.size ≤ g) v l ∧ Below w.heap.size w w' := by
  have hmk : ∀ u : World, _ := fun u => make_full (P := Try.prog) u Try.underlying22 infoByte rfl n (n : Int) (by omega) (by omega) (by omega)
  go_enter Try.func8, Try.ntmps8
  go_wp2
  generalize IntKind.u64.wrap (IntKind.u64.wrap (IntKind.u64.wrap s * 2862933555777941757) + 3037000493) = A3
  generalize IntKind.u64.wrap (IntKind.u64.wrap s * 2862933555777941757) = A2
  generalize IntKind.u64.wrap s = A1
  go_loopw [5, 7] (fun x i wr => ∃ k : Nat, k ≤ n ∧ i = .int .i64 k ∧ (∃ X : Int, x = .int .u64 X) ∧ Below w.heap.size w wr ∧ w.heap.size < wr.heap.size ∧ ∃ l : List UInt8, l.length = n ∧ Hid (Arr wr w.heap.size 5 l))
    (fun _ i _ => n - (intOf i).toNat)
  case atStart =>
    refine ⟨0, by omega, rfl, ⟨_, rfl⟩, (Below.refl _ _).alloc (Nat.le_refl _) _, by simp, List.replicate n 0, List.length_replicate, ?_⟩
    exact Arr.of (by rw [← u8s_zero]) (heap_alloc_new w _)
  case round =>
    obtain ⟨k, hk, rfl, ⟨X, rfl⟩, hbr, hsz, l, hl, hA⟩ := hrel
    replace hbr := Lib.hid hbr
    by_cases hlt : k < n
    · have f0 := hA.out.frozen k
      have c0 := hA.out.cell k (by omega)
      go_wp2
      go_roundw
      case rel =>
        refine ⟨k + 1, by omega, by go_num, ⟨_, rfl⟩, hbr.out.setCell (p := ⟨w.heap.size, k, none⟩) (Nat.le_refl _) _, by simpa using hsz, ?_⟩
        have key : ∀ Y : Int, ∃ l' : List UInt8, l'.length = n ∧ Hid (Arr (wr.setCell ⟨w.heap.size, k, none⟩ (.int .u8 (Y % 256))) w.heap.size 5 l') := by
          intro Y
          refine ⟨l.set k (byte (Y % 256).toNat), List.length_set.trans hl, ?_⟩
          have h := hA.out.set k (byte (Y % 256).toNat)
          rw [byte_toNat (by omega), Int.toNat_of_nonneg (by omega)] at h
          exact h
        exact key _
      case measure => simp [intOf]; omega
    · go_wp2
      go_ret
      refine ⟨.slice (some ⟨w.heap.size, 0, none⟩) n n, l, rfl, hl, ?_, hbr.out⟩
      rw [Bytes, hl]
      refine ⟨by simp [u8s_length, hl], _, n, rfl, by omega, by unfold maxLen; omega, fun h => (by simp at h), .inr ⟨w.heap.size, 0, rfl, Nat.le_refl _, hsz, fun j u hu => ?_⟩⟩
      rw [Nat.zero_add, cell_of hA.out]
      simpa using hu
end Go.Proofs.Ytbgfdbidbjlaaaa.Fd
/-
  ideal.New, suite.Ideal. No condition beyond what each theorem names.
-/
namespace Go.Proofs.Ytbgfdbidbjlaaaa.Fd
open Go Go.RowKit K

/-- a cipher of chance that knows nothing -/
structure IdealNew (w : World) (p : Nat) (t : Option Addr) (m k : Nat) : Prop where
  box : w.heap[p]? = some (.cells #[.pointer t, .map (some m), .map (some k), .int .i64 0, .int .i64 0] 79 (0, 0))
  places : w.heap[m]? = some (.map #[] 0)
  keys : w.heap[k]? = some (.map #[] 0)

set_option maxHeartbeats 1000000 in
theorem idNew_ok (t : Option Addr) (w : World) : Calls Try.prog 28 #[.pointer t] w fun e w' => ∃ p m k, e = .returned (.pointer (some ⟨p, 0, none⟩)) ∧ w.heap.size ≤ m ∧ m < k ∧ k < p ∧ IdealNew w' p t m k ∧ Below w.heap.size w w' := by
  have hmm := @run_makeMap Try.prog
  go_enter Try.func28, Try.ntmps28
  go_wp2
  go_ret
  refine ⟨w.heap.size + 2, w.heap.size, w.heap.size + 1, rfl, Nat.le_refl _, by omega, by omega, ⟨?_, ?_, ?_⟩, ?_⟩
  · have h := heap_alloc_new ((w.alloc (.map #[] 0)).alloc (.map #[] 0)) (.cells #[.pointer t, .map (some w.heap.size), .map (some (w.heap.size + 1)), .int .i64 0, .int .i64 0] 79)
    simp only [World.size_alloc] at h
    exact h
  · exact (Below.heap_alloc _ _ _ (by simp; omega)).trans ((Below.heap_alloc _ _ _ (by simp)).trans (heap_alloc_new w _))
  · have h := heap_alloc_new (w.alloc (.map #[] 0)) (.map #[] 0)
    simp only [World.size_alloc] at h
    exact (Below.heap_alloc _ _ _ (by simp)).trans h
  · exact (((Below.refl _ _).alloc (Nat.le_refl _) _).alloc (by simp) _).alloc (by simp; omega) _

set_option maxHeartbeats 1000000 in
theorem suIdeal_ok (t : Option Addr) (w : World) : Calls Try.prog 15 #[.pointer t] w fun e w' => ∃ s p m k, e = .returned (.pointer (some ⟨s, 0, none⟩)) ∧ w.heap.size ≤ m ∧ m < k ∧ k < p ∧ p < s ∧ SuiteAt w' s (some ⟨p, 0, none⟩) t ∧ IdealNew w' p t m k ∧ Below w.heap.size w w' := by
  have hc := Lib.hid (idNew_ok t w)
  go_enter Try.func15, Try.ntmps15
  go_wp2_with fail
  refine hc.out.mono ?_
  rintro e w1 ⟨p, m, k, rfl, h1, h2, h3, h4, h5⟩
  have H4 := Lib.hid h4
  have H5 := Lib.hid h5
  have hp := heap_lt h4.box
  clear h4 h5 hc
  go_wp2
  go_ret
  have h4 := H4.out
  refine ⟨w1.heap.size, p, m, k, rfl, h1, h2, h3, hp, heap_alloc_new w1 _, ⟨(Below.heap_alloc _ _ _ hp).trans h4.box, (Below.heap_alloc _ _ _ (heap_lt h4.places)).trans h4.places, (Below.heap_alloc _ _ _ (heap_lt h4.keys)).trans h4.keys⟩, H5.out.alloc H5.out.size _⟩
end Go.Proofs.Ytbgfdbidbjlaaaa.Fd
/-
  xts: what is refused. No condition beyond what each theorem names.
-/
namespace Go.Proofs.Ytbgfdbidbjlaaaa.Fd
open Go Go.RowKit K

set_option maxRecDepth 100000 in
set_option maxHeartbeats 4000000 in
theorem xtsOpen_bad (a : Option Addr) (n cap : Nat) (z : Int) (hn : n ≤ 1000000) (hz : -9223372036854775808 ≤ z) (hz1 : z ≤ 9223372036854775807) (hb : ¬ ((n = 32 ∨ n = 64) ∧ 0 ≤ z ∧ z ≤ 1099511627776)) (w : World) :
    Calls Try.prog 42 #[.slice a n cap, .int .i64 z] w fun e w' => e = .returned (.tuple #[.agg #[.pointer none, .pointer none], .int .i64 1]) ∧ Below w.heap.size w w' := by
  have hB : Below w.heap.size w (w.alloc (.cells #[.pointer none, .pointer none] 71)) := (Below.refl _ _).alloc (Nat.le_refl _) _
  replace hB := Lib.hid hB
  rcases (by omega : (n ≠ 32 ∧ n ≠ 64) ∨ (n = 32 ∧ z < 0) ∨ (n = 64 ∧ z < 0) ∨ (n = 32 ∧ 1099511627776 < z) ∨ (n = 64 ∧ 1099511627776 < z)) with h | h | h | h | h
  all_goals obtain ⟨h1, h2⟩ := h
  all_goals go_enter Try.func42, Try.ntmps42
  all_goals go_wp2
  all_goals refine bodyPost_ret (v := .tuple #[.agg #[.pointer none, .pointer none], .int .i64 1]) (by simp [results, Try.results42, go_sem, asAddr]) rfl ⟨rfl, ?_⟩
  all_goals repeat (first | exact hB.out | refine Below.setCell ?_ (Nat.le_refl _) _)
end Go.Proofs.Ytbgfdbidbjlaaaa.Fd
/-
  suite: of no suite at all. No condition beyond what each theorem names.
-/
namespace Go.Proofs.Ytbgfdbidbjlaaaa.Fd
open Go Go.RowKit K

set_option maxHeartbeats 1000000 in
theorem seal_nil (s a b c : Value) (w : World) : Calls Try.prog 10 #[.pointer none, s, a, b, c] w fun e w' => e = .returned (.tuple #[.slice none 0 0, .int .i64 9]) ∧ w = w' := by
  go_enter Try.func10, Try.ntmps10
  go_wp2
  go_ret2
  exact ⟨rfl, rfl⟩
set_option maxHeartbeats 1000000 in
theorem open_nil (s a b c : Value) (w : World) : Calls Try.prog 12 #[.pointer none, s, a, b, c] w fun e w' => e = .returned (.tuple #[.slice none 0 0, .int .i64 9]) ∧ w = w' := by
  go_enter Try.func12, Try.ntmps12
  go_wp2
  go_ret2
  exact ⟨rfl, rfl⟩
end Go.Proofs.Ytbgfdbidbjlaaaa.Fd

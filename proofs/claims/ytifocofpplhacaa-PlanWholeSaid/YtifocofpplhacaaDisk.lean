/-
  The disk: what its memory says, and what each of its functions does, as a plain function on what it says. No condition beyond what each theorem names.
-/
import Derived.Test.YtifocofpplhacaaRows
import Derived.Test.YtifocofpplhacaaBase
import Derived.Test.YtifocofpplhacaaRegion
namespace Go.Proofs.Ytifocofpplhacaa.D
open Go Go.RowKit K

/-- A disk, as plain data. -/
structure Dk where
  fuse : Bool
  left : Int
  dark : Bool
  sure : List UInt8
  pend : List (Nat × List UInt8)

def Dk.size (d : Dk) : Nat := d.sure.length / 64
/-- a step: the power's new state -/
def Dk.stepped (d : Dk) : Dk := { d with dark := d.dark || d.fuse && d.left == 0, left := if d.fuse && !(d.dark || d.fuse && d.left == 0) then d.left - 1 else d.left }

/-- One pending write: its two cells. -/
def putCells (p : Nat × List UInt8) (v : Value) : List Value := [.int .i64 p.1, v]

/-- The pending writes' cells. -/
def Pend (w : World) (S : Nat → Prop) : List (Nat × List UInt8) → List Value → Prop
  | [], cs => cs = []
  | p :: ps, cs => ∃ v r, cs = .int .i64 p.1 :: v :: r ∧ Bytes w S v p.2 ∧ p.2.length = 64 ∧ Pend w S ps r

theorem Pend.keep {w w' : World} {S : Nat → Prop} (hs : w.heap.size ≤ w'.heap.size) (hk : ∀ b, S b → b < w.heap.size → w'.heap[b]? = w.heap[b]?) : ∀ {ps cs}, Pend w S ps cs → Pend w' S ps cs := by
  intro ps
  induction ps with
  | nil => intro cs h; exact h
  | cons p ps ih =>
    rintro cs ⟨v, r, h1, h2, h3, h4⟩
    exact ⟨v, r, h1, Cells.keep h2 hs hk, h3, ih h4⟩
theorem Pend.mono {w : World} {S S' : Nat → Prop} (hs : ∀ b, b < w.heap.size → S b → S' b) : ∀ {ps cs}, Pend w S ps cs → Pend w S' ps cs := by
  intro ps
  induction ps with
  | nil => intro cs h; exact h
  | cons p ps ih =>
    rintro cs ⟨v, r, h1, h2, h3, h4⟩
    exact ⟨v, r, h1, h2.mono hs, h3, ih h4⟩
theorem Pend.length {w : World} {S : Nat → Prop} : ∀ {ps cs}, Pend w S ps cs → cs.length = ps.length * 2 := by
  intro ps
  induction ps with
  | nil => rintro cs rfl; rfl
  | cons p ps ih =>
    rintro cs ⟨v, r, rfl, _, _, h4⟩
    simp [ih h4]; omega
theorem Pend.snoc {w : World} {S : Nat → Prop} {p : Nat × List UInt8} {v : Value} (hb : Bytes w S v p.2) (hl : p.2.length = 64) : ∀ {ps cs}, Pend w S ps cs → Pend w S (ps ++ [p]) (cs ++ [.int .i64 p.1, v]) := by
  intro ps
  induction ps with
  | nil => rintro cs rfl; exact ⟨v, [], rfl, hb, hl, rfl⟩
  | cons q ps ih =>
    rintro cs ⟨v', r, rfl, h2, h3, h4⟩
    exact ⟨v', r ++ [.int .i64 p.1, v], rfl, h2, h3, ih h4⟩
theorem Pend.one {w : World} {S : Nat → Prop} : ∀ {ps cs}, Pend w S ps cs → ∀ u ∈ cs, u.oneCell' = true := by
  intro ps
  induction ps with
  | nil => rintro cs rfl u hu; cases hu
  | cons p ps ih =>
    rintro cs ⟨v, r, rfl, h2, _, h4⟩ u hu
    rcases List.mem_cons.1 hu with rfl | hu
    · rfl
    · rcases List.mem_cons.1 hu with rfl | hu
      · obtain ⟨a, c, rfl, _⟩ := Cells.shape h2; rfl
      · exact ih h4 u hu
theorem Pend.get {w : World} {S : Nat → Prop} : ∀ {ps cs}, Pend w S ps cs → ∀ (k : Nat) (h : k < ps.length), ∃ v, cs[k * 2]? = some (.int .i64 (ps[k]).1) ∧ cs[k * 2 + 1]? = some v ∧ Bytes w S v (ps[k]).2 ∧ (ps[k]).2.length = 64 := by
  intro ps
  induction ps with
  | nil => intro cs _ k h; simp at h
  | cons p ps ih =>
    rintro cs ⟨v, r, rfl, h2, h3, h4⟩ k h
    cases k with
    | zero => exact ⟨v, rfl, rfl, h2, h3⟩
    | succ k =>
      obtain ⟨u, r1, r2, r3, r4⟩ := ih h4 k (by simpa using h)
      refine ⟨u, ?_, ?_, r3, r4⟩
      · rw [show (k + 1) * 2 = k * 2 + 1 + 1 from by omega]; simpa using r1
      · rw [show (k + 1) * 2 + 1 = k * 2 + 1 + 1 + 1 from by omega]; simpa using r2

/-- The disk at block p says D; all of it lies in blocks of F. -/
structure At (w : World) (F : Nat → Prop) (p : Nat) (D : Dk) : Prop where
  box : ∃ sv pv pcs, w.heap[p]? = some (.cells #[.bool D.fuse, .int .i64 D.left, .bool D.dark, sv, pv] 69 (0, 0)) ∧
    w.ownsRow 0 5 1 sv D.sure.length (u8s D.sure) ∧ w.ownsRow 0 72 2 pv D.pend.length pcs ∧ sv.ownBlock ≠ some p ∧ pv.ownBlock ≠ some p ∧ (∀ g, sv.ownBlock = some g → pv.ownBlock ≠ some g) ∧
    (∀ g, sv.ownBlock = some g ∨ pv.ownBlock = some g → F g) ∧
    Pend w (fun k => F k ∧ k ≠ p ∧ sv.ownBlock ≠ some k ∧ pv.ownBlock ≠ some k) D.pend pcs ∧ sv.ownBlock.isSome = true
  self : F p
  lim : ∀ k, F k → k < w.heap.size
  lo : 0 ≤ D.left ∧ D.left ≤ 9223372036854775807
  full : D.sure.length = 64 * D.size ∧ 1 ≤ D.size ∧ D.size ≤ 65536
  inb : ∀ q ∈ D.pend, q.1 < D.size
  few : D.pend.length ≤ 1000000000

theorem At.keep {w w' : World} {F : Nat → Prop} {p : Nat} {D : Dk} (h : At w F p D) (hs : w.heap.size ≤ w'.heap.size) (hk : ∀ b, F b → b < w.heap.size → w'.heap[b]? = w.heap[b]?) : At w' F p D := by
  obtain ⟨⟨sv, pv, pcs, h1, h2, h3, h4, h5, h6, h7, h8, h9⟩, hF, hl, a1, a2, a3, a4⟩ := h
  refine ⟨⟨sv, pv, pcs, (hk p hF (hl p hF)).trans h1, ?_, ?_, h4, h5, h6, h7, h8.keep hs (fun b hb => hk b hb.1), h9⟩, hF, fun k hk' => Nat.lt_of_lt_of_le (hl k hk') hs, a1, a2, a3, a4⟩
  · refine ⟨h2.1, h2.2.imp id ?_⟩
    rintro ⟨g, cap, cur, e, hb, hg, r⟩
    subst e
    exact ⟨g, cap, cur, rfl, hb, (hk g (h7 g (.inl rfl)) (heap_lt hg)).trans hg, r⟩
  · refine ⟨h3.1, h3.2.imp id ?_⟩
    rintro ⟨g, cap, cur, e, hb, hg, r⟩
    subst e
    exact ⟨g, cap, cur, rfl, hb, (hk g (h7 g (.inr rfl)) (heap_lt hg)).trans hg, r⟩
theorem At.chg {C : Nat → Prop} {w w' : World} {F : Nat → Prop} {p : Nat} {D : Dk} (h : At w F p D) (hc : Chg C w w') (hd : ∀ b, F b → ¬ C b) : At w' F p D :=
  h.keep hc.size fun b hb hl => hc.block b hl (hd b hb)

/-- What a call on a disk leaves: the disk as D', in blocks that were its own or are new; nothing else has turned. -/
def Then (w : World) (F : Nat → Prop) (p : Nat) (D' : Dk) (w' : World) : Prop := ∃ F', At w' F' p D' ∧ Chg F w w' ∧ ∀ k, F' k → F k ∨ w.heap.size ≤ k

theorem infoByte : (Try.prog.info? 5).map (fun i => (i.zero, i.size, i.bytes)) = some (some (.int .u8 0), 1, 1) := by kernel_rfl
theorem infoPut : (Try.prog.info? 72).map (fun i => (i.zero, i.size, i.bytes)) = some (some (.agg #[.int .i64 0, .slice none 0 0]), 2, 32) := by kernel_rfl
theorem sizeByte : (Try.prog.info? 5).map (·.size) = some 1 := by kernel_rfl

set_option maxHeartbeats 400000 in
theorem size_nil (w : World) : Calls Try.prog 14 #[.pointer none] w fun e w' => e = .returned (.int .i64 0) ∧ w = w' := by
  go_enter Try.func14, Try.ntmps14
  go_wp2
  go_ret
  exact ⟨rfl, rfl⟩

/-- The cells of a disk's struct, for a walk. -/
theorem At.cells {w : World} {F : Nat → Prop} {p : Nat} {D : Dk} (h : At w F p D) : ∃ g n cap pv, n = D.sure.length ∧ w.cell? ⟨p, 0, none⟩ = some (.bool D.fuse) ∧ w.cell? ⟨p, 1, none⟩ = some (.int .i64 D.left) ∧ w.cell? ⟨p, 2, none⟩ = some (.bool D.dark) ∧
    w.cell? ⟨p, 3, none⟩ = some (.slice (some ⟨g, 0, none⟩) n cap) ∧ w.cell? ⟨p, 4, none⟩ = some pv ∧ (∀ j, w.frozen? ⟨p, j, none⟩ = false) := by
  obtain ⟨⟨sv, pv, pcs, h1, h2, h3, h4, h5, h6, h7, h8, h9⟩, hF, hl, a1, a2, a3, a4⟩ := h
  rcases h2.2 with ⟨rfl, _⟩ | ⟨g, cap, cur, rfl, _⟩
  · simp [Value.ownBlock] at h9
  · exact ⟨g, _, cap, pv, rfl, cell_of h1 0, cell_of h1 1, cell_of h1 2, cell_of h1 3, cell_of h1 4, fun j => frozen_of h1 j⟩

set_option maxHeartbeats 400000 in
theorem size_ok {w : World} {F : Nat → Prop} {p : Nat} {D : Dk} (h : At w F p D) : Calls Try.prog 14 #[.pointer (some ⟨p, 0, none⟩)] w fun e w' => e = .returned (.int .i64 D.size) ∧ w = w' := by
  obtain ⟨g, n, cap, pv, hn, _, _, _, c3, _, _⟩ := h.cells
  have hb : n ≤ 4194304 := by have := h.full; omega
  have hz : ((n : Int) / 64) = (D.size : Int) := by have := h.full; omega
  have HZ := Lib.hid hz
  clear hz hn
  go_enter Try.func14, Try.ntmps14
  go_wp2
  go_ret
  exact ⟨ret_int HZ.out, rfl⟩

set_option maxHeartbeats 400000 in
theorem has_nil (n : Int) (w : World) : Calls Try.prog 41 #[.pointer none, .int .i64 n] w fun e w' => e = .returned (.bool false) ∧ w = w' := by
  by_cases hn : 0 ≤ n
  all_goals
    go_enter Try.func41, Try.ntmps41
    go_wp2_with (go_at_call 14; (with_reducible refine (size_nil _).mono ?_); rintro e w' ⟨rfl, rfl⟩)
    go_ret
    exact ⟨ret_bool (by simp [*]), rfl⟩

set_option maxHeartbeats 400000 in
theorem has_ok {w : World} {F : Nat → Prop} {p : Nat} {D : Dk} (h : At w F p D) (n : Int) : Calls Try.prog 41 #[.pointer (some ⟨p, 0, none⟩), .int .i64 n] w fun e w' => e = .returned (.bool (decide (0 ≤ n ∧ n < D.size))) ∧ w = w' := by
  have hs := size_ok h
  have HS := Lib.hid hs
  clear hs
  by_cases hn : 0 ≤ n
  all_goals
    go_enter Try.func41, Try.ntmps41
    go_wp2_with (go_at_call 14; (with_reducible refine HS.out.mono ?_); rintro e w' ⟨rfl, rfl⟩)
    go_ret
    exact ⟨ret_bool (by first | (simp [hn]; done) | (simp; omega)), rfl⟩

set_option maxHeartbeats 400000 in
theorem may_nil (n : Int) (v : Value) (w : World) : Calls Try.prog 44 #[.pointer none, .int .i64 n, v] w fun e w' => e = .returned (.int .i64 3) ∧ w = w' := by
  go_enter Try.func44, Try.ntmps44
  go_wp2_with (go_at_call 41; (with_reducible refine (has_nil _ _).mono ?_); rintro e w' ⟨rfl, rfl⟩)
  go_ret
  exact ⟨rfl, rfl⟩

/-- why a sector may not be written -/
def mayE (D : Dk) (n : Int) (l : Nat) : Int := if 0 ≤ n ∧ n < D.size then (if l = 64 then 0 else 1) else 3

set_option maxHeartbeats 400000 in
theorem may_ok {w : World} {F : Nat → Prop} {p : Nat} {D : Dk} (h : At w F p D) (n : Int) {S : Nat → Prop} {v : Value} {l : List UInt8} (hb : Bytes w S v l) :
    Calls Try.prog 44 #[.pointer (some ⟨p, 0, none⟩), .int .i64 n, v] w fun e w' => e = .returned (.int .i64 (mayE D n l.length)) ∧ w = w' := by
  obtain ⟨a, cap, rfl, _, _⟩ := Cells.shape hb
  generalize l.length = m
  have HS := Lib.hid (has_ok h n)
  by_cases hn : 0 ≤ n ∧ n < D.size
  · have HE := Lib.hid (show decide (0 ≤ n ∧ n < D.size) = true from by simpa using hn)
    by_cases hm : m = 64
    · subst hm
      go_enter Try.func44, Try.ntmps44
      go_wp2_with (go_at_call 41; (with_reducible refine HS.out.mono ?_); rw [HE.out]; rintro e w' ⟨rfl, rfl⟩)
      go_ret
      exact ⟨ret_int (by simp [mayE, hn]), rfl⟩
    · have hm' : ((m : Int) != 64) = true := by simp; omega
      go_enter Try.func44, Try.ntmps44
      go_wp2_with (go_at_call 41; (with_reducible refine HS.out.mono ?_); rw [HE.out]; rintro e w' ⟨rfl, rfl⟩)
      go_ret
      exact ⟨ret_int (by simp [mayE, hn, hm]), rfl⟩
  · have HE := Lib.hid (show decide (0 ≤ n ∧ n < D.size) = false from by simpa using hn)
    go_enter Try.func44, Try.ntmps44
    go_wp2_with (go_at_call 41; (with_reducible refine HS.out.mono ?_); rw [HE.out]; rintro e w' ⟨rfl, rfl⟩)
    go_ret
    exact ⟨ret_int (by rw [mayE, if_neg hn]), rfl⟩

set_option maxHeartbeats 400000 in
theorem dark_nil (w : World) : Calls Try.prog 23 #[.pointer none] w fun e w' => e = .returned (.bool true) ∧ w = w' := by
  go_enter Try.func23, Try.ntmps23
  go_wp2
  go_ret
  exact ⟨rfl, rfl⟩

set_option maxHeartbeats 400000 in
theorem dark_ok {w : World} {F : Nat → Prop} {p : Nat} {D : Dk} (h : At w F p D) : Calls Try.prog 23 #[.pointer (some ⟨p, 0, none⟩)] w fun e w' => e = .returned (.bool D.dark) ∧ w = w' := by
  obtain ⟨g, n, cap, pv, _, _, _, c2, _, _, _⟩ := h.cells
  go_enter Try.func23, Try.ntmps23
  go_wp2
  go_ret
  exact ⟨rfl, rfl⟩

/-- Another power in the struct. -/
theorem At.setP {w : World} {F : Nat → Prop} {p : Nat} {D : Dk} (h : At w F p D) (j : Nat) (u : Value) (fu : Bool) (le : Int) (dk : Bool) (hle : 0 ≤ le ∧ le ≤ 9223372036854775807)
    (hu : ∀ sv pv : Value, (#[.bool D.fuse, .int .i64 D.left, .bool D.dark, sv, pv] : Array Value).setIfInBounds j u = #[.bool fu, .int .i64 le, .bool dk, sv, pv]) :
    At (w.setCell ⟨p, j, none⟩ u) F p ⟨fu, le, dk, D.sure, D.pend⟩ := by
  obtain ⟨⟨sv, pv, pcs, h1, h2, h3, h4, h5, h6, h7, h8, h9⟩, hF, hl, a1, a2, a3, a4⟩ := h
  have hk : ∀ b, b ≠ p → (w.setCell ⟨p, j, none⟩ u).heap[b]? = w.heap[b]? := fun b hb => setCell_heap_ne _ _ _ hb
  refine ⟨⟨sv, pv, pcs, ?_, ?_, ?_, h4, h5, h6, h7, h8.keep (by simp) (fun b hb _ => hk b hb.2.1), h9⟩, hF, fun k hk' => by simpa using hl k hk', hle, a2, a3, a4⟩
  · rw [setCell_block h1, hu]
  · refine ⟨h2.1, h2.2.imp id ?_⟩
    rintro ⟨g, cap, cur, e, hb, hg, r⟩
    subst e
    exact ⟨g, cap, cur, rfl, hb, (hk g (fun e => h4 (by simp [Value.ownBlock, e]))).trans hg, r⟩
  · refine ⟨h3.1, h3.2.imp id ?_⟩
    rintro ⟨g, cap, cur, e, hb, hg, r⟩
    subst e
    exact ⟨g, cap, cur, rfl, hb, (hk g (fun e => h5 (by simp [Value.ownBlock, e]))).trans hg, r⟩

theorem Then.refl {w : World} {F : Nat → Prop} {p : Nat} {D : Dk} (h : At w F p D) : Then w F p D w := ⟨F, h, Chg.refl _ _, fun _ => .inl⟩

theorem At.chgP {w : World} {F : Nat → Prop} {p : Nat} {D : Dk} (h : At w F p D) {w' : World} (hc : Chg F w w') (j : Nat) (u : Value) : Chg F w (w'.setCell ⟨p, j, none⟩ u) := hc.setCell (fun _ => h.self) u

set_option maxHeartbeats 400000 in
theorem step_ok {w : World} {F : Nat → Prop} {p : Nat} {D : Dk} (h : At w F p D) : Calls Try.prog 43 #[.pointer (some ⟨p, 0, none⟩)] w fun e w' => e = .returned (.bool (!D.stepped.dark)) ∧ At w' F p D.stepped ∧ Chg F w w' := by
  have H := Lib.hid h
  have hlo := h.lo
  obtain ⟨g, n, cap, pv, _, c0, c1, c2, _, _, hf⟩ := h.cells
  have f0 := hf 0
  have f1 := hf 1
  have f2 := hf 2
  clear hf
  obtain ⟨fu, le, dk, su, pe⟩ := D
  simp only at c0 c1 c2 hlo
  cases dk with
  | true =>
    cases fu
    all_goals
      go_enter Try.func43, Try.ntmps43
      go_wp2
      go_ret
      have h := H.out
      exact ⟨rfl, h.setP 2 (.bool true) _ _ _ h.lo (fun _ _ => rfl), h.chgP (Chg.refl _ _) _ _⟩
  | false =>
    cases fu with
    | false =>
      go_enter Try.func43, Try.ntmps43
      go_wp2
      go_ret
      have h := H.out
      exact ⟨rfl, h.setP 2 (.bool false) _ _ _ h.lo (fun _ _ => rfl), h.chgP (Chg.refl _ _) _ _⟩
    | true =>
      by_cases hz : le = 0
      · subst hz
        go_enter Try.func43, Try.ntmps43
        go_wp2
        go_ret
        have h := H.out
        exact ⟨rfl, h.setP 2 (.bool true) _ _ _ h.lo (fun _ _ => rfl), h.chgP (Chg.refl _ _) _ _⟩
      · have hz1 : (le == 0) = false := by simpa using hz
        go_enter Try.func43, Try.ntmps43
        go_wp2
        go_ret
        have h := H.out
        have h2 := h.setP 2 (.bool false) true le false h.lo (fun _ _ => rfl)
        have h3 := h2.setP 1 (.int .i64 (le - 1)) true (le - 1) false ⟨by omega, by omega⟩ (fun _ _ => rfl)
        exact ⟨by simp [Dk.stepped, hz1], by simpa [Dk.stepped, hz1] using h3, h.chgP (h.chgP (Chg.refl _ _) _ _) _ _⟩

set_option maxHeartbeats 400000 in
theorem lay_ok {w : World} {g n cap : Nat} {cur : Array Value} (hg : w.heap[g]? = some (.cells cur 5 (0, 0))) (hn : n ≤ cap) (hcs : cur.size = cap) (hcm : cap ≤ maxLen) (at' : Nat) {S : Nat → Prop} {v : Value} {b : List UInt8}
    (hb : Bytes w S v b) (hl : b.length = 64) (hfit : at' * 64 + 64 ≤ n) :
    Calls Try.prog 40 #[.slice (some ⟨g, 0, none⟩) n cap, .agg #[.int .i64 at', v]] w fun e w' => e = .returned (.tuple #[]) ∧ w'.heap[g]? = some (.cells (splice cur.toList (at' * 64) (u8s b)).toArray 5 (0, 0)) ∧ Chg (· = g) w w' := by
  have hgl := heap_lt hg
  unfold maxLen at hcm
  have HG := Lib.hid hg
  clear hg
  have HC := Lib.hid hcs
  clear hcs
  have HL := Lib.hid hl
  clear hl
  go_enter Try.func40, Try.ntmps40
  go_wp2
  refine RA.region (Chg (· = g)) (Chg No) [1, 1, 1, 1, 1, 1, 1, 4] (fun _ _ _ => True) (fun w1 => w1.heap[g]? = some (.cells cur 5 (0, 0))) (by kernel_rfl) (Chg.refl _ _) (fun _ _ h => h.mono (fun _ _ h => h.elim)) (fun _ _ _ h k => h.trans k) (fun a b h k => (h.block g (heap_lt k) id).trans k) (by simpa [World.drew] using (Below.heap_alloc w _ g hgl).trans HG.out) (by kernel_rfl) ?_
  intro c
  have hbox : ∀ w1, Chg (· = g) (w.alloc (.cells #[.int .i64 at', v] 72)).drew w1 → w1.cell? ⟨w.heap.size, 0, none⟩ = some (.int .i64 at') ∧ w1.cell? ⟨w.heap.size, 1, none⟩ = some v := by
    intro w1 h
    have e := h.block w.heap.size (by simp) (by omega)
    have e' : (w.alloc (.cells #[.int .i64 at', v] 72)).drew.heap[w.heap.size]? = some (.cells #[.int .i64 at', v] 72 (0, 0)) := heap_alloc_new w _
    rw [e'] at e
    exact ⟨cell_of e 0, cell_of e 1⟩
  refine RA.mv (by rfl) (by rfl) (by rfl) ?_
  refine RA.fa (by rfl) (by rfl) (by rfl) (y' := .pointer (some ⟨w.heap.size, 0, none⟩)) (fun w1 hp => by show (Instr.fieldAt _ _ _).run Try.prog w1 = _; go_simp) ?_
  refine RA.ld (by rfl) (by rfl) (by rfl) (y' := .int .i64 at') (fun w1 hp => by have h1 := (hbox w1 hp.1).1; show (Instr.loadAt _ _).run Try.prog w1 = _; go_simp) ?_
  refine RA.mi (by rfl) (by rfl) (by rfl) (by rfl) ((at' * 64 : Nat) : Int) (by omega) (by omega) ?_
  refine RA.slo (by rfl) (by rfl) (by rfl) (by rfl) (y' := .slice (some ⟨g, at' * 64, none⟩) (n - at' * 64) (cap - at' * 64)) (fun w1 hp => by
    show (Instr.sliceAt _ _ _ _ _).run Try.prog w1 = _
    rw [cut_lo w1 (s := 1) (e := 5) Try.underlying22 sizeByte _ _ _ _ (by omega), sliced_in _ _ _ _ _ _ (by omega)]
    simp) ?_
  refine RA.fa (by rfl) (by rfl) (by rfl) (y' := .pointer (some ⟨w.heap.size, 1, none⟩)) (fun w1 hp => by show (Instr.fieldAt _ _ _).run Try.prog w1 = _; go_simp) ?_
  refine RA.ld (by rfl) (by rfl) (by rfl) (y' := v) (fun w1 hp => by have h1 := (hbox w1 hp.1).2; show (Instr.loadAt _ _).run Try.prog w1 = _; go_simp) ?_
  refine RA.bc (goInt 64) (fun w1 => w1.heap[g]? = some (.cells (splice cur.toList (at' * 64) (u8s b)).toArray 5 (0, 0))) (by rfl) (by rfl) (by kernel_rfl) (fun a b h k => (h.block g (heap_lt k) id).trans k) (fun w1 hp hH => ?_) (RA.RA.done rfl (fun w2 hR _ hH => ?_))
  · have hcs := HC.out
    have hl := HL.out
    have hR1 : Chg (· = g) (w.alloc (.cells #[.int .i64 at', v] 72)).drew w1 := hp.1
    have hkb : Bytes w1 S v b := Cells.keep hb (by have := hR1.size; simp at this; omega) (fun k hk hkl => by
      by_cases e : k = g
      · subst e
        rw [hH, HG.out]
      · exact (hR1.block k (by simp; omega) e).trans (Below.heap_alloc w _ k hkl))
    have hm : Nat.min 64 (n - at' * 64) = 64 := Nat.min_eq_left (by omega)
    have hrun := run_copy_cells' (P := Try.prog) w1 22 22 3 5 g (at' * 64) (n - at' * 64) (cap - at' * 64) cur 5 Try.underlying22 sizeByte hH S v b.length (u8s b) hkb (u8s_one b) (by
      rw [hl, hm]
      omega)
    rw [hl, hm, List.take_of_length_le (by rw [u8s_length, hl]; exact Nat.le_refl _)] at hrun
    exact ⟨_, RA.ex_copy (by rfl) (by rfl) hrun, Chg.setRow (C := (· = g)) (Chg.refl _ _) (fun _ => rfl) _, setRow_heap _ _ _ _ _ _ hH⟩
  · refine bodyPost_end (results_none rfl _ _ _) rfl ⟨rfl, hH, ?_⟩
    have hR2 : Chg (· = g) (w.alloc (.cells #[.int .i64 at', v] 72)).drew w2 := hR
    exact Chg.then (((Chg.refl _ w).alloc _).drew) hR2 (fun _ _ h => h)
end Go.Proofs.Ytifocofpplhacaa.D

/-
  The disk's functions that make or turn memory. No condition beyond what each theorem names.
-/
import Derived.Test.YtifocofpplhacaaDisk
namespace Go.Proofs.Ytifocofpplhacaa.D
open Go Go.RowKit K

theorem u8s_zero (n : Nat) : (madeCells #[.int .u8 0] n).toList = u8s (List.replicate n 0) := by
  rw [toList_madeCells_one]
  simp [u8s, u8]

set_option maxHeartbeats 400000 in
theorem clone_nil (w : World) : Calls Try.prog 39 #[.slice none 0 0] w fun e w' => e = .returned (.slice none 0 0) ∧ w = w' := by
  have he := Lib.run_eql_slice_nil (P := Try.prog) w 22 5 none 0 0 0 0 Try.underlying22
  go_enter Try.func39, Try.ntmps39
  go_wp2
  go_ret
  exact ⟨rfl, rfl⟩

/-- A copy in new memory. -/
def Cloned (w : World) (v : Value) (n : Nat) (T : TypeId) (sz : Nat) (xs : List Value) (e : Ending) (w' : World) : Prop :=
  ∃ v', e = .returned v' ∧ w'.ownsRow w.heap.size T sz v' n xs ∧ Below w.heap.size w w' ∧ (v' = .slice none 0 0 → v = .slice none 0 0)

set_option maxHeartbeats 400000 in
theorem clone_ok {w : World} {S : Nat → Prop} {v : Value} {l : List UInt8} (hb : Bytes w S v l) (hl : l.length ≤ 140737488355328) :
    Calls Try.prog 39 #[v] w (Cloned w v l.length 5 1 (u8s l)) := by
  obtain ⟨a, cap, hv, h1, h2, h0⟩ : ∃ a cap, v = .slice a l.length cap ∧ l.length ≤ cap ∧ cap ≤ maxLen ∧ (a = none → cap = 0) := by
    obtain ⟨_, a, cap, hv, h1, h2, h0, _⟩ := hb
    exact ⟨a, cap, hv, h1, h2, h0⟩
  cases a with
  | none =>
    obtain rfl := h0 rfl
    have hln : l = [] := List.eq_nil_of_length_eq_zero (by omega)
    subst hln
    obtain rfl : v = .slice none 0 0 := hv
    exact (clone_nil w).mono fun e w' ⟨h1, h2⟩ => ⟨_, h1, World.ownsRow_nil _ _ _ _, by subst h2; exact Below.refl _ _, fun _ => rfl⟩
  | some ad =>
    have hrow := World.ownsRow_lit (base := w.heap.size) (e := 5) (size := 1) w #[] 0 (Nat.le_refl _) (by unfold maxLen; omega) rfl
    have hcl : Cells (w.alloc (.cells #[] 5)) S v l.length 1 (u8s l) := hb.keep (by simp) (fun b _ hb => Below.heap_alloc w _ b hb)
    subst hv
    have he := Lib.run_eql_slice_nil (P := Try.prog) w 22 5 (some ad) l.length cap 0 0 Try.underlying22
    have H := Lib.hid hcl
    clear hcl hb
    have HL := Lib.hid hl
    clear hl
    go_enter Try.func39, Try.ntmps39
    go_wp2_with (at_builtin; (refine K.append rfl _ _ 22 rfl w.heap.size 5 (.int .u8 0) 1 1 Try.underlying22 infoByte rfl (by decide) _ 0 [] rfl hrow S _ l.length (u8s l) rfl H.out (u8s_one l) ?m ?b (by simp) ?k))
    case m => have := HL.out; unfold maxLen; omega
    case b => have := HL.out; omega
    case k =>
      intro v' w' ho hg hn _
      go_wp2
      go_ret
      refine ⟨_, rfl, by simpa using ho, (((Below.refl _ _).alloc (Nat.le_refl _) _).grown hg (by simp) (fun k hk => by simp [Value.ownBlock] at hk; omega)), fun h => absurd h hn⟩

def Dk.new (n : Nat) : Dk := ⟨false, 0, false, List.replicate (64 * n) 0, []⟩

/-- A new disk: all of it in new memory. -/
def Made (w : World) (D : Dk) (e : Ending) (w' : World) : Prop :=
  ∃ p F, e = .returned (.tuple #[.pointer (some ⟨p, 0, none⟩), .int .i64 0]) ∧ At w' F p D ∧ (∀ k, F k → w.heap.size ≤ k) ∧ Below w.heap.size w w'

theorem At.made {w : World} {p g : Nat} {cur : Array Value} {cap : Nat} {D : Dk} (hp : w.heap[p]? = some (.cells #[.bool D.fuse, .int .i64 D.left, .bool D.dark, .slice (some ⟨g, 0, none⟩) D.sure.length cap, .slice none 0 0] 69 (0, 0)))
    (hg : w.heap[g]? = some (.cells cur 5 (0, 0))) (hne : g ≠ p) (hc : D.sure.length ≤ cap ∧ cap ≤ maxLen ∧ cur.size = cap) (hcur : cur.toList.take D.sure.length = u8s D.sure) (hpe : D.pend = [])
    (lo : 0 ≤ D.left ∧ D.left ≤ 9223372036854775807) (full : D.sure.length = 64 * D.size ∧ 1 ≤ D.size ∧ D.size ≤ 65536) : At w (fun k => k = p ∨ k = g) p D := by
  refine ⟨⟨_, _, [], hp, ⟨by simp [u8s], .inr ⟨g, cap, cur, rfl, Nat.zero_le _, hg, hc.1, hc.2.1, by simpa using hc.2.2, by simpa using hcur⟩⟩, ?_, by simpa [Value.ownBlock] using hne, by simp [Value.ownBlock], by simp [Value.ownBlock], ?_, ?_, rfl⟩, .inl rfl, ?_, lo, full, by simp [hpe], by simp [hpe]⟩
  · rw [hpe]; exact World.ownsRow_nil _ _ _ _
  · rintro k (hk | hk)
    · simp [Value.ownBlock] at hk; exact .inr hk.symm
    · simp [Value.ownBlock] at hk
  · rw [hpe]; rfl
  · rintro k (rfl | rfl)
    · exact heap_lt hp
    · exact heap_lt hg

set_option maxHeartbeats 400000 in
theorem new_ok (n : Nat) (h1 : 1 ≤ n) (h2 : n ≤ 65536) (w : World) : Calls Try.prog 18 #[.int .i64 n] w (Made w (.new n)) := by
  have hmk : ∀ u : World, _ := fun u => make_full (P := Try.prog) u Try.underlying22 infoByte rfl (n * 64) ((n : Int) * 64) (by omega) (by omega) (by omega)
  go_enter Try.func18, Try.ntmps18
  go_wp2
  go_ret2
  refine ⟨w.heap.size + 1, _, rfl, At.made (g := w.heap.size) (cap := n * 64) (cur := madeCells #[.int .u8 0] (n * 64)) ?_ ?_ (by omega) ⟨by simp [Dk.new]; omega, by unfold maxLen; omega, by simp [size_madeCells]⟩ ?_ rfl ⟨Int.le_refl _, by simp [Dk.new]⟩ ⟨by simp [Dk.new, Dk.size], by simp [Dk.new, Dk.size]; omega, by simp [Dk.new, Dk.size]; omega⟩, ?_, (((Below.refl _ _).alloc (Nat.le_refl _) _).alloc (by simp) _)⟩
  · have := heap_alloc_new (w.alloc (.cells (madeCells #[.int .u8 0] (n * 64)) 5)) (.cells #[.bool false, .int .i64 0, .bool false, .slice (some ⟨w.heap.size, 0, none⟩) (n * 64) (n * 64), .slice none 0 0] 69)
    simp only [World.size_alloc] at this
    rw [this]
    simp [Dk.new, Nat.mul_comm]
  · rw [Below.heap_alloc _ _ _ (by simp)]
    exact heap_alloc_new w _
  · rw [u8s_zero]
    simp [Dk.new, u8s, Nat.mul_comm]
  · rintro k (rfl | rfl) <;> omega
theorem new_bad (n : Int) (h : n < 1 ∨ 65536 < n) (w : World) : Calls Try.prog 18 #[.int .i64 n] w fun e w' => e = .returned (.tuple #[.pointer none, .int .i64 1]) ∧ w = w' := by
  rcases h with h | h
  · go_enter Try.func18, Try.ntmps18
    go_wp2
    go_ret2
    exact ⟨rfl, rfl⟩
  · by_cases h' : n < 1
    · omega
    · go_enter Try.func18, Try.ntmps18
      go_wp2
      go_ret2
      exact ⟨rfl, rfl⟩

/-- The firm sectors of a disk, and what becomes of it when they are written. -/
theorem At.sureAt {w : World} {F : Nat → Prop} {p : Nat} {D : Dk} (h : At w F p D) : ∃ g cap cur, w.cell? ⟨p, 3, none⟩ = some (.slice (some ⟨g, 0, none⟩) D.sure.length cap) ∧ w.heap[g]? = some (.cells cur 5 (0, 0)) ∧ D.sure.length ≤ cap ∧ cap ≤ maxLen ∧ cur.size = cap ∧
    cur.toList.take D.sure.length = u8s D.sure ∧ F g ∧ g ≠ p ∧
    ∀ w' l', l'.length = D.sure.length → Chg (· = g) w w' → (∃ cur', w'.heap[g]? = some (.cells cur' 5 (0, 0)) ∧ cur'.size = cap ∧ cur'.toList.take D.sure.length = u8s l') → At w' F p { D with sure := l' } := by
  have hh := h
  obtain ⟨⟨sv, pv, pcs, h1, h2, h3, h4, h5, h6, h7, h8, h9⟩, hF, hl, a1, a2, a3, a4⟩ := h
  rcases h2.2 with ⟨rfl, _⟩ | ⟨g, cap, cur, rfl, hb, hg, c1, c2, c3, c4⟩
  · simp [Value.ownBlock] at h9
  have hgp : g ≠ p := fun e => h4 (by simp [Value.ownBlock, e])
  refine ⟨g, cap, cur, cell_of h1 3, hg, c1, c2, by simpa using c3, by simpa using c4, h7 g (.inl rfl), hgp, ?_⟩
  rintro w' l' hl' hc ⟨cur', hg', q1, q2⟩
  have hk : ∀ b, b < w.heap.size → b ≠ g → w'.heap[b]? = w.heap[b]? := fun b hb hne => hc.block b hb hne
  refine ⟨⟨_, pv, pcs, (hk p (hl p hF) (fun e => hgp e.symm)).trans h1, ?_, ?_, h4, h5, h6, h7, h8.keep hc.size (fun b hb hbl => hk b hbl (fun e => hb.2.2.1 (by simp [Value.ownBlock, e]))), h9⟩, hF, fun k hk' => Nat.lt_of_lt_of_le (hl k hk') hc.size, a1, ?_, ?_, a4⟩
  · show w'.ownsRow _ _ _ _ l'.length _
    rw [hl']
    exact ⟨by simp [u8s, hl'], .inr ⟨g, cap, cur', rfl, hb, hg', c1, c2, by simpa using q1, by simpa using q2⟩⟩
  · refine ⟨h3.1, h3.2.imp id ?_⟩
    rintro ⟨g2, cap2, cur2, e, hb2, hg2, r⟩
    subst e
    exact ⟨g2, cap2, cur2, rfl, hb2, (hk g2 (heap_lt hg2) (fun e => h6 g rfl (by simp [Value.ownBlock, e]))).trans hg2, r⟩
  · simpa [Dk.size, hl'] using a2
  · simpa [Dk.size, hl'] using a3

/-- what Of makes of a picture -/
def Dk.of (l : List UInt8) : Dk := ⟨false, 0, false, l, []⟩

set_option maxRecDepth 100000 in
set_option maxHeartbeats 1000000 in
theorem of_ok {w : World} {S : Nat → Prop} {v : Value} {l : List UInt8} (hb : Bytes w S v l) (n : Nat) (hl : l.length = 64 * n) (h1 : 1 ≤ n) (h2 : n ≤ 65536) : Calls Try.prog 12 #[v] w (Made w (.of l)) := by
  obtain ⟨a, cap, hv, hc1, hc2⟩ := Cells.shape hb
  obtain ⟨m, hm⟩ : ∃ m, m = l.length := ⟨_, rfl⟩
  rw [← hm] at hv hc1
  have hm4 : m ≤ 4194304 := by omega
  have hd : (m : Int) / 64 = (n : Int) := by omega
  have hd0 : 0 ≤ (m : Int) := by omega
  have hr : ((m : Int) % 64 != 0) = false := by simp; omega
  have HN := Lib.hid (new_ok n h1 h2 w)
  have HM := Lib.hid hm
  clear hm
  have HB := Lib.hid hb
  clear hb
  have HL := Lib.hid hl
  clear hl
  subst hv
  go_enter Try.func12, Try.ntmps12
  go_wp2_with fail
  refine HN.out.mono ?_
  rintro e w1 ⟨p, F, rfl, hat, hF, hbel⟩
  obtain ⟨g, cap', cur, c3, hg, q1, q2, q3, q4, hFg, hgp, hset⟩ := hat.sureAt
  have el : (Dk.new n).sure.length = m := by have := HM.out; have := HL.out; simp [Dk.new]; omega
  rw [el] at c3 q1 q4 hset
  have HG := Lib.hid hg
  have HB1 : Hid (Cells w1 S (.slice a m cap) m 1 (u8s l)) := by
    have h0 := HB.out
    unfold Bytes at h0
    rw [← HM.out] at h0
    exact Cells.keep h0 hbel.size (fun k hk hkl => hbel.block k hkl)
  have HF : Hid (0 + m ≤ cur.size) := show _ ≤ _ by rw [q3]; omega
  have H4 := Lib.hid q4
  have HS := Lib.hid hset
  have HQ := Lib.hid q3
  clear hg q4 hset q3 el
  go_wp2_with ((with_reducible refine K.copy rfl _ _ 22 22 rfl 5 Try.underlying22 sizeByte g 0 m cap' cur 5 rfl HG.out S (.slice a m cap) m (u8s l) rfl HB1.out (u8s_one l) m (Nat.min_self m) HF.out ?_))
  go_ret2
  have hm := HM.out
  have hlen : (u8s l).length = m := by rw [u8s_length, hm]
  have hc : Chg (· = g) w1 (w1.setRow g (splice cur.toList 0 ((u8s l).take m)).toArray) := Chg.setRow (C := (· = g)) (Chg.refl _ _) (fun _ => rfl) _
  refine ⟨p, F, rfl, HS.out _ l hm.symm hc ⟨_, setRow_heap _ _ _ _ _ _ HG.out, ?_, ?_⟩, hF, ?_⟩
  · simp only [List.size_toArray]
    rw [length_splice _ _ _ (by rw [List.length_take, hlen, Array.length_toList, HQ.out]; omega), Array.length_toList, HQ.out]
  · have e1 : (u8s l).take m = u8s l := List.take_of_length_le (by rw [hlen]; exact Nat.le_refl _)
    have hcl : cur.toList.length = cap' := by rw [Array.length_toList, HQ.out]
    rw [e1]
    simp only []
    rw [splice_take _ _ _ _ (by rw [hlen]; omega) (by rw [hcl]; exact q1)]
    simp [splice, hlen]
  · exact ⟨hbel.os, hbel.tape, hbel.output, by simpa using hbel.size, fun k hk => (hc.block k (Nat.lt_of_lt_of_le hk hbel.size) (fun e => by have := hF g hFg; omega)).trans (hbel.block k hk)⟩
end Go.Proofs.Ytifocofpplhacaa.D

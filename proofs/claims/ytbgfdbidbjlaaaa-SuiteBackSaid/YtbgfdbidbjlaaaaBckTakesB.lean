/-
  tape.Takes. No condition beyond what each theorem names.
-/
import Derived.Test.YtbgfdbidbjlaaaaBckCryptB
namespace Go.Proofs.Ytbgfdbidbjlaaaa.Fd
open Go Go.RowKit K

set_option maxHeartbeats 400000 in
theorem cloneT_nil (w : World) : Calls Try.prog 29 #[.slice none 0 0] w fun e w' => e = .returned (.slice none 0 0) ∧ w = w' := by
  have he := Lib.run_eql_slice_nil (P := Try.prog) w 38 41 none 0 0 0 0 Try.underlying38
  go_enter Try.func29, Try.ntmps29
  go_wp2
  go_ret
  exact ⟨rfl, rfl⟩
set_option maxHeartbeats 400000 in
theorem cloneT_ok {w : World} {S : Nat → Prop} {v : Value} {m : Nat} {vs : List Value} (hb : Cells w S v m 3 vs) (h1 : ∀ u ∈ vs, u.oneCell' = true) (hl : m ≤ 1000000) :
    Calls Try.prog 29 #[v] w fun e w' => ∃ v', e = .returned v' ∧ w'.ownsRow w.heap.size 41 3 v' m vs ∧ Below w.heap.size w w' := by
  obtain ⟨hlen, a, cap, hv, hc1, hc2, h0, h3⟩ := hb
  cases a with
  | none =>
    obtain rfl := h0 rfl
    have hm : m = 0 := by omega
    subst hm
    have hln : vs = [] := List.eq_nil_of_length_eq_zero (by omega)
    subst hln
    subst hv
    exact (cloneT_nil w).mono fun e w' ⟨h1, h2⟩ => ⟨_, h1, World.ownsRow_nil _ _ _ _, by subst h2; exact Below.refl _ _⟩
  | some ad =>
    have hrow := World.ownsRow_lit (base := w.heap.size) (e := 41) (size := 3) w #[] 0 (Nat.le_refl _) (by unfold maxLen; omega) rfl
    have hcl : Cells (w.alloc (.cells #[] 41)) S v m 3 vs := Cells.keep ⟨hlen, some ad, cap, hv, hc1, hc2, h0, h3⟩ (by simp) (fun b _ hb => Below.heap_alloc w _ b hb)
    subst hv
    have he := Lib.run_eql_slice_nil (P := Try.prog) w 38 41 (some ad) m cap 0 0 Try.underlying38
    have H := Lib.hid hcl
    have H1 := Lib.hid h1
    clear hcl h3 h0 h1 hc2
    go_enter Try.func29, Try.ntmps29
    go_wp2_with (at_builtin; (refine K.append rfl _ _ 38 rfl w.heap.size 41 (.agg #[.string ByteArray.empty, .int .i64 0, .int .i64 0]) 3 32 Try.underlying38 infoTake rfl (by decide) _ 0 [] rfl hrow S _ m vs rfl H.out H1.out ?m ?b (by simp) ?k))
    case m => unfold maxLen; omega
    case b => omega
    case k =>
      intro v' w' ho hg hn _
      go_wp2
      go_ret
      exact ⟨_, rfl, by simpa using ho, (((Below.refl _ _).alloc (Nat.le_refl _) _).grown hg (by simp) (fun k hk => by simp [Value.ownBlock] at hk; omega))⟩

set_option maxRecDepth 100000 in
set_option maxHeartbeats 2000000 in
theorem takes_ok {w : World} {F : Nat → Prop} {p : Nat} {bv tv : Value} {b : List UInt8} {a : Nat} {ts : List (ByteArray × Nat × Nat)} (h : TapeAt w F p bv tv b a ts) :
    Calls Try.prog 16 #[.pointer (some ⟨p, 0, none⟩)] w fun e w' => ∃ x c, e = .returned (.slice x ts.length c) ∧ w'.ownsRow w.heap.size 41 3 (.slice x ts.length c) ts.length (ts.flatMap takeCells) ∧ Below w.heap.size w w' := by
  have hcl := cloneT_ok h.takes (by intro u hu; obtain ⟨t, _, ht⟩ := List.mem_flatMap.1 hu; simp [takeCells] at ht; rcases ht with rfl | rfl | rfl <;> rfl) h.count
  have c2 : w.cell? ⟨p, 2, none⟩ = some tv := by rw [cell_of h.box]; rfl
  obtain ⟨ta, tc, rfl, _, _⟩ := h.takes.shape
  replace hcl := Lib.hid hcl
  clear h
  go_enter Try.func16, Try.ntmps16
  go_wp2_with fail
  refine hcl.out.mono ?_
  rintro e w1 ⟨v, rfl, h1, h2⟩
  obtain ⟨x, c, rfl, _, _⟩ := (Cells.own h1).shape
  replace h1 := Lib.hid h1
  replace h2 := Lib.hid h2
  go_wp2
  go_ret
  exact ⟨x, c, rfl, h1.out, h2.out⟩
end Go.Proofs.Ytbgfdbidbjlaaaa.Fd

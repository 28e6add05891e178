/-
  The disk's functions that go through what is pending. No condition beyond what each theorem names.
-/
import Derived.Test.YtifocofpplhacaaDiskB
namespace Go.Proofs.Ytifocofpplhacaa.D
open Go Go.RowKit K

/-- The pending writes in memory. -/
theorem At.pendAt {w : World} {F : Nat → Prop} {p : Nat} {D : Dk} (h : At w F p D) : ∃ pv pcs, w.cell? ⟨p, 4, none⟩ = some pv ∧ Cells w (fun k => F k ∧ k ≠ p) pv D.pend.length 2 pcs ∧ Pend w F D.pend pcs := by
  obtain ⟨⟨sv, pv, pcs, h1, h2, h3, h4, h5, h6, h7, h8, h9⟩, hF, hl, a1, a2, a3, a4⟩ := h
  exact ⟨pv, pcs, cell_of h1 4, (Cells.own h3).mono (fun b _ hb => ⟨h7 b (.inr hb.1), fun e => h5 (by rw [← e]; exact hb.1)⟩), h8.mono (fun b _ hb => hb.1)⟩

/-- One pending write in memory. -/
theorem pend_at {w : World} {S F : Nat → Prop} {pa : Option Addr} {n pcap : Nat} {pcs : List Value} {ps : List (Nat × List UInt8)} (hc : Cells w S (.slice pa n pcap) n 2 pcs) (hp : Pend w F ps pcs) (hn : n = ps.length) (k : Nat) (hk : k < n) :
    ∃ b off ba bc, pa = some ⟨b, off, none⟩ ∧ n ≤ pcap ∧ b < w.heap.size ∧ S b ∧ w.cell? ⟨b, off + k * 2, none⟩ = some (.int .i64 (ps[k]'(hn ▸ hk)).1) ∧ w.cell? ⟨b, off + k * 2 + 1, none⟩ = some (.slice ba 64 bc) ∧ Bytes w F (.slice ba 64 bc) (ps[k]'(hn ▸ hk)).2 ∧ (ps[k]'(hn ▸ hk)).2.length = 64 := by
  obtain ⟨b, off, cp, hva, h1, _, hSb, hbl, hcell⟩ := hc.at (by omega)
  obtain ⟨pb, hx1, hx2, hbb, hb64⟩ := hp.get k (hn ▸ hk)
  cases hva
  obtain ⟨ba, bc, rfl, _, _⟩ := Cells.shape hbb
  refine ⟨b, off, ba, bc, rfl, h1, hbl, hSb, hcell _ _ hx1, ?_, ?_, hb64⟩
  · have := hcell _ _ hx2
    rw [← Nat.add_assoc, hb64] at this
    exact this
  · rw [← hb64]
    exact hbb

def layAll (s : List UInt8) (l : List (Nat × List UInt8)) : List UInt8 := l.foldl (fun s q => splice s (q.1 * 64) q.2) s
def Dk.image (d : Dk) : List UInt8 := layAll d.sure d.pend

theorem layAll_snoc (s : List UInt8) (l : List (Nat × List UInt8)) (k : Nat) (h : k < l.length) : layAll s (l.take (k + 1)) = splice (layAll s (l.take k)) ((l[k]).1 * 64) (l[k]).2 := by
  rw [List.take_succ_eq_append_getElem h]
  simp only [layAll, List.foldl_append, List.foldl_cons, List.foldl_nil]
theorem layAll_length (n : Nat) : ∀ (l : List (Nat × List UInt8)) (s : List UInt8), s.length = 64 * n → (∀ q ∈ l, q.1 < n ∧ q.2.length = 64) → (layAll s l).length = 64 * n := by
  intro l
  induction l with
  | nil => intro s h _; exact h
  | cons q l ih =>
    intro s h hq
    refine ih _ ?_ (fun q' h' => hq q' (by simp [h']))
    have := hq q (by simp)
    rw [length_splice _ _ _ (by omega)]
    exact h

/-- One more write laid down. -/
theorem lay_rel {cu : Array Value} {m cap k : Nat} {s : List UInt8} {l : List (Nat × List UInt8)} {q : Nat × List UInt8} (h1 : cu.size = cap) (h2 : m ≤ cap) (h3 : cu.toList.take m = u8s (layAll s (l.take k))) (hk : k < l.length) (hq : q = l[k]) (h4 : q.2.length = 64) (h5 : q.1 * 64 + 64 ≤ m) :
    (splice cu.toList (q.1 * 64) (u8s q.2)).toArray.size = cap ∧ (splice cu.toList (q.1 * 64) (u8s q.2)).toArray.toList.take m = u8s (layAll s (l.take (k + 1))) := by
  have hlen : cu.toList.length = cap := by rw [Array.length_toList, h1]
  constructor
  · rw [List.size_toArray, length_splice _ _ _ (by rw [u8s_length]; omega), hlen]
  · simp only []
    rw [splice_take _ _ _ _ (by rw [u8s_length]; omega) (by omega), h3, layAll_snoc s l k hk, ← hq, u8s_splice]

theorem Dk.image_len {w : World} {F : Nat → Prop} {p : Nat} {D : Dk} (h : At w F p D) : D.image.length = D.sure.length := by
  obtain ⟨pv, pcs, _, _, hp⟩ := h.pendAt
  have := layAll_length D.size D.pend D.sure h.full.1 (fun q hq => ⟨h.inb q hq, by
    obtain ⟨k, hk, rfl⟩ := List.getElem_of_mem hq
    obtain ⟨_, _, _, _, h4⟩ := hp.get k hk
    exact h4⟩)
  rw [Dk.image, this, h.full.1]

set_option maxHeartbeats 400000 in
theorem image_nil (w : World) : Calls Try.prog 13 #[.pointer none] w fun e w' => e = .returned (.slice none 0 0) ∧ w = w' := by
  go_enter Try.func13, Try.ntmps13
  go_wp2
  go_ret
  exact ⟨rfl, rfl⟩

set_option maxRecDepth 100000 in
set_option maxHeartbeats 1000000 in
theorem image_ok {w : World} {F : Nat → Prop} {p : Nat} {D : Dk} (h : At w F p D) : Calls Try.prog 13 #[.pointer (some ⟨p, 0, none⟩)] w (Cloned w (.slice (some ⟨p, 0, none⟩) 1 1) D.image.length 5 1 (u8s D.image)) := by
  obtain ⟨g, cap, cur, c3, hg, q1, q2, q3, q4, hFg, hgp, _⟩ := h.sureAt
  obtain ⟨pv, pcs, c4, hpc, hpe⟩ := h.pendAt
  obtain ⟨m, hm⟩ : ∃ m, m = D.sure.length := ⟨_, rfl⟩
  obtain ⟨n, hn⟩ : ∃ n, n = D.pend.length := ⟨_, rfl⟩
  rw [← hm] at c3 q1 q4
  rw [← hn] at hpc
  have hmb : m ≤ 4194304 := by have := h.full; omega
  have hnb : n ≤ 1000000000 := by have := h.few; omega
  have hsb : Bytes w F (.slice (some ⟨g, 0, none⟩) m cap) D.sure := by
    refine ⟨by simp [u8s], some ⟨g, 0, none⟩, cap, by rw [hm], by omega, q2, fun h => (by cases h), .inr ⟨g, 0, rfl, hFg, heap_lt hg, fun j u hu => ?_⟩⟩
    rw [Nat.zero_add, cell_of hg, ← hu, ← q4, List.getElem?_take]
    rw [← q4, List.getElem?_take] at hu
    split at hu
    · rename_i hj; simp [hj]
    · cases hu
  obtain ⟨pa, pcap, rfl, hp1, hp2⟩ := Cells.shape hpc
  have HC := Lib.hid (clone_ok hsb (by omega))
  have H := Lib.hid h
  have HM := Lib.hid hm
  have HN := Lib.hid hn
  have HPC := Lib.hid hpc
  have HPE := Lib.hid hpe
  clear hsb h hm hn hpc hpe q4 q3 hg
  go_enter Try.func13, Try.ntmps13
  go_wp2_with fail
  refine HC.out.mono ?_
  rintro e w1 ⟨ov, rfl, hown, hbel, _⟩
  have c4' : w1.cell? ⟨p, 4, none⟩ = some (.slice pa n pcap) := (hbel.cell (p := ⟨p, 4, none⟩) (cell_lt c4)).trans c4
  rw [← HM.out] at hown
  obtain ⟨o, ocap, ocur, rfl, ho1, ho2, ho3, ho4, ho5, ho6⟩ : ∃ o ocap ocur, ov = .slice (some ⟨o, 0, none⟩) m ocap ∧ w.heap.size ≤ o ∧ w1.heap[o]? = some (.cells ocur 5 (0, 0)) ∧ m ≤ ocap ∧ ocap ≤ maxLen ∧ ocur.size = ocap ∧ ocur.toList.take m = u8s D.sure := by
    rcases hown.2 with ⟨_, h0⟩ | ⟨o, ocap, ocur, r1, r2, r3, r4, r5, r6, r7⟩
    · have := H.out.full; have := HM.out; omega
    · exact ⟨o, ocap, ocur, r1, r2, r3, r4, r5, by simpa using r6, by simpa using r7⟩
  have HO := Lib.hid ho2
  have HO6 := Lib.hid ho6
  have HO5 := Lib.hid ho5
  have HOW := Lib.hid hown
  clear ho2 ho6 ho5 hown
  have HP : ∀ wr, Below w.heap.size w wr → Cells wr (fun k => F k ∧ k ≠ p) (.slice pa n pcap) n 2 pcs ∧ Pend wr F D.pend pcs := fun wr hb =>
    ⟨HPC.out.keep hb.size (fun b _ hbl => hb.block b hbl), HPE.out.keep hb.size (fun b _ hbl => hb.block b hbl)⟩
  have HPH := Lib.hid HP
  clear HP
  go_wp2
  go_loopw [18] (fun i wr => ∃ k : Nat, k ≤ n ∧ i = .int .i64 k ∧ Below w.heap.size w wr ∧ ∃ cu : Array Value, Hid (wr.heap[o]? = some (.cells cu 5 (0, 0)) ∧ cu.size = ocap ∧ cu.toList.take m = u8s (layAll D.sure (D.pend.take k))))
    (fun i _ => n - (intOf i).toNat)
  case atStart => exact ⟨0, Nat.zero_le _, rfl, hbel, ocur, HO.out, HO5.out, HO6.out⟩
  case round =>
    obtain ⟨k, hk, rfl, hbr, cu, HCU⟩ := hrel
    by_cases hlt : k < n
    · obtain ⟨hcl, hpd⟩ := HPH.out wr hbr
      obtain ⟨b, off, ba, bc, rfl, _, hbl, hSb, hc0, hc1, hbb, hb64⟩ := pend_at hcl hpd HN.out k hlt
      obtain ⟨q, hq⟩ : ∃ q, q = D.pend[k]'(HN.out ▸ hlt) := ⟨_, rfl⟩
      rw [← hq] at hc0 hbb hb64
      have HQ := Lib.hid hq
      have HBB := Lib.hid hbb
      have HB6 := Lib.hid hb64
      clear hcl hpd hq hbb hb64
      have hof : o < wr.heap.size := heap_lt HCU.out.1
      have hqs : q.1 * 64 + 64 ≤ m := by
        have h1 := H.out.inb q (by rw [HQ.out]; exact List.getElem_mem _)
        have h2 := H.out.full
        have h3 := HM.out
        omega
      have HLAY := Lib.hid (lay_ok (w := wr.alloc (.cells #[.int .i64 q.1, .slice ba 64 bc] 72)) (g := o) (n := m) (cap := ocap) (cur := cu) ((Below.heap_alloc _ _ _ hof).trans HCU.out.1) ho3 HCU.out.2.1 ho4 q.1
        (S := F) (v := .slice ba 64 bc) (b := q.2) (Cells.keep HBB.out (by simp) (fun k _ hk => Below.heap_alloc _ _ _ hk)) HB6.out hqs)
      have HQS := Lib.hid hqs
      clear hqs
      go_wp2_with fail
      refine HLAY.out.mono ?_
      rintro e w2 ⟨rfl, hg2, hch⟩
      have HG2 := Lib.hid hg2
      clear hg2
      have hb2 : Below w.heap.size w w2 := by
        have h1 := hbr.size
        exact ⟨hch.os.trans hbr.os, hch.tape.trans hbr.tape, hch.output.trans hbr.output, by have := hch.size; simp at this; omega, fun i hi =>
          (hch.block i (by simp; omega) (by omega)).trans ((Below.heap_alloc _ _ _ (by omega)).trans (hbr.block i hi))⟩
      go_wp2
      go_roundw
      case rel =>
        obtain ⟨r1, r2⟩ := lay_rel HCU.out.2.1 ho3 HCU.out.2.2 (by rw [← HN.out]; exact hlt) HQ.out HB6.out HQS.out
        exact ⟨k + 1, by omega, by go_num, hb2, _, HG2.out, r1, r2⟩
      case measure => simp [intOf]; omega
    · go_wp2
      go_ret
      obtain ⟨g1, g2, g3⟩ := HCU.out
      have hkn : k = D.pend.length := by rw [← HN.out]; omega
      rw [hkn, List.take_length] at g3
      have hil := Dk.image_len H.out
      rw [← HM.out] at hil
      refine ⟨_, rfl, ?_, hbr, fun h => (by cases h)⟩
      rw [hil]
      exact ⟨by simp [u8s, hil], .inr ⟨o, ocap, cu, rfl, ho1, g1, ho3, ho4, by simpa using g2, by simpa [Dk.image] using g3⟩⟩
end Go.Proofs.Ytifocofpplhacaa.D

/-
  Flush. No condition beyond what each theorem names.
-/
import Derived.Test.YtifocofpplhacaaDiskH
namespace Go.Proofs.Ytifocofpplhacaa.D
open Go Go.RowKit K

/-- The disk laid open for a flush. -/
theorem At.flushAt {w : World} {F : Nat → Prop} {p : Nat} {D : Dk} (h : At w F p D) : ∃ g cap cur pv pcs, w.heap[p]? = some (.cells #[.bool D.fuse, .int .i64 D.left, .bool D.dark, .slice (some ⟨g, 0, none⟩) D.sure.length cap, pv] 69 (0, 0)) ∧
    w.heap[g]? = some (.cells cur 5 (0, 0)) ∧ D.sure.length ≤ cap ∧ cap ≤ maxLen ∧ cur.size = cap ∧ cur.toList.take D.sure.length = u8s D.sure ∧ F g ∧ g ≠ p ∧
    Cells w (fun k => F k ∧ k ≠ p ∧ k ≠ g) pv D.pend.length 2 pcs ∧ Pend w (fun k => F k ∧ k ≠ p ∧ k ≠ g) D.pend pcs := by
  obtain ⟨⟨sv, pv, pcs, h1, h2, h3, h4, h5, h6, h7, h8, h9⟩, hF, hl, a1, a2, a3, a4⟩ := h
  rcases h2.2 with ⟨rfl, _⟩ | ⟨g, cap, cur, rfl, hb, hg, c1, c2, c3, c4⟩
  · simp [Value.ownBlock] at h9
  have hgp : g ≠ p := fun e => h4 (by simp [Value.ownBlock, e])
  refine ⟨g, cap, cur, pv, pcs, h1, hg, c1, c2, by simpa using c3, by simpa using c4, h7 g (.inl rfl), hgp, (Cells.own h3).mono (fun b _ hb => ⟨h7 b (.inr hb.1), fun e => h5 (by rw [← e]; exact hb.1), fun e => h6 g rfl (by rw [← e]; exact hb.1)⟩), h8.mono (fun b _ hb => ⟨hb.1, hb.2.1, fun e => hb.2.2.1 (by simp [Value.ownBlock, e])⟩)⟩

/-- what a flush leaves -/
def Dk.flushed (d : Dk) : Dk := { d.stepped with sure := layAll d.sure d.pend, pend := [] }

set_option maxRecDepth 100000 in
set_option maxHeartbeats 4000000 in
theorem flush_ok {w : World} {F : Nat → Prop} {p : Nat} {D : Dk} (h : At w F p D) (hd : D.stepped.dark = false) : Calls Try.prog 21 #[.pointer (some ⟨p, 0, none⟩)] w fun e w' => e = .returned (.int .i64 0) ∧ Then w F p D.flushed w' := by
  have HST := Lib.hid (step_ok h)
  have HD := Lib.hid hd
  clear hd
  go_enter Try.func21, Try.ntmps21
  go_wp2_with fail
  refine HST.out.mono ?_
  rw [HD.out]
  rintro e w1 ⟨rfl, hat, hch⟩
  obtain ⟨g, cap, cur, pv, pcs, hp1, hg, q1, q2, q3, q4, hFg, hgp, hpc, hpe⟩ := hat.flushAt
  have hep : D.stepped.pend = D.pend := rfl
  have hes : D.stepped.sure = D.sure := rfl
  rw [hep] at hpc hpe
  rw [hes] at hp1 q1 q4
  obtain ⟨m, hm⟩ : ∃ m, m = D.sure.length := ⟨_, rfl⟩
  obtain ⟨n, hn⟩ : ∃ n, n = D.pend.length := ⟨_, rfl⟩
  rw [← hm] at hp1 q1 q4
  rw [← hn] at hpc
  have hmb : m ≤ 4194304 := by have := h.full; omega
  have hnb : n ≤ 1000000000 := by have := h.few; omega
  obtain ⟨pa, pcap, rfl, hp2, hp3⟩ := Cells.shape hpc
  have c3 := cell_of hp1 3
  have c4 := cell_of hp1 4
  have hps : p < w1.heap.size := heap_lt hp1
  have H := Lib.hid h
  have HAT := Lib.hid hat
  have HM := Lib.hid hm
  have HN := Lib.hid hn
  have HPC := Lib.hid hpc
  have HPE := Lib.hid hpe
  have HG := Lib.hid hg
  have HG3 := Lib.hid q3
  have HG4 := Lib.hid q4
  have HP1 := Lib.hid hp1
  clear h hat hm hn hpc hpe hg q3 q4 hep hes HST hp1
  have HPH : Hid (∀ wr, Chg (· = g) w1 wr → Cells wr (fun k => F k ∧ k ≠ p ∧ k ≠ g) (.slice pa n pcap) n 2 pcs ∧ Pend wr (fun k => F k ∧ k ≠ p ∧ k ≠ g) D.pend pcs) := fun wr hb =>
    ⟨HPC.out.keep hb.size (fun b hS hbl => hb.block b hbl hS.2.2), HPE.out.keep hb.size (fun b hS hbl => hb.block b hbl hS.2.2)⟩
  go_wp2
  go_loopw [19] (fun i wr => ∃ k : Nat, k ≤ n ∧ i = .int .i64 k ∧ Chg (· = g) w1 wr ∧ ∃ cu : Array Value, Hid (wr.heap[g]? = some (.cells cu 5 (0, 0)) ∧ cu.size = cap ∧ cu.toList.take m = u8s (layAll D.sure (D.pend.take k))))
    (fun i _ => n - (intOf i).toNat)
  case atStart => exact ⟨0, Nat.zero_le _, rfl, Chg.refl _ _, cur, HG.out, HG3.out, by simpa [layAll] using HG4.out⟩
  case round =>
    obtain ⟨k, hk, rfl, hbr, cu, HCU⟩ := hrel
    have hsz := hbr.size
    by_cases hlt : k < n
    · obtain ⟨hcl, hpd⟩ := HPH.out wr hbr
      obtain ⟨b, off, ba, bc, rfl, _, hbl, hSb, hc0, hc1, hbb, hb64⟩ := pend_at hcl hpd HN.out k hlt
      obtain ⟨q, hq⟩ : ∃ q, q = D.pend[k]'(HN.out ▸ hlt) := ⟨_, rfl⟩
      rw [← hq] at hc0 hbb hb64
      have HQ := Lib.hid hq
      have HBB := Lib.hid hbb
      have HB6 := Lib.hid hb64
      clear hcl hpd hq hbb hb64
      have hof : g < wr.heap.size := heap_lt HCU.out.1
      have hpr : wr.heap[p]? = _ := (hbr.block p hps (fun e => hgp e.symm)).trans HP1.out
      have HPR := Lib.hid hpr
      clear hpr
      have hqs : q.1 * 64 + 64 ≤ m := by
        have h1 := H.out.inb q (by rw [HQ.out]; exact List.getElem_mem _)
        have h2 := H.out.full
        have h3 := HM.out
        omega
      have HQS := Lib.hid hqs
      clear hqs
      go_wp2
      obtain ⟨W0, hW0⟩ : ∃ W0, W0 = (wr.alloc (.cells #[.int .i64 q.1, .slice ba 64 bc] 72)).drew := ⟨_, rfl⟩
      have hW : W0.heap.size = wr.heap.size + 1 ∧ W0.heap[g]? = some (.cells cu 5 (0, 0)) ∧ W0.heap[p]? = some (.cells #[.bool D.stepped.fuse, .int .i64 D.stepped.left, .bool D.stepped.dark, .slice (some ⟨g, 0, none⟩) m cap, .slice (some ⟨b, off, none⟩) n pcap] 69 (0, 0)) ∧
          W0.heap[wr.heap.size]? = some (.cells #[.int .i64 q.1, .slice ba 64 bc] 72 (0, 0)) ∧ Bytes W0 (fun k => (F k ∧ k ≠ p ∧ k ≠ g) ∧ k < wr.heap.size) (.slice ba 64 bc) q.2 ∧ Chg (· = g) w1 W0 := by
        subst hW0
        exact ⟨by simp, (Below.heap_alloc _ _ _ hof).trans HCU.out.1, (Below.heap_alloc _ _ _ (by omega)).trans HPR.out, heap_alloc_new _ _, Cells.keep (HBB.out.mono (fun k hk hS => ⟨hS, hk⟩)) (by simp) (fun k _ hk => Below.heap_alloc _ _ _ hk), (hbr.alloc _).drew⟩
      obtain ⟨z1, z2, z3, z4, z5, z6⟩ := hW
      have hso : p ≠ g := fun e => hgp e.symm
      have hwo : wr.heap.size ≠ g := by omega
      refine RA.region (Chg (· = g)) (Chg No) [1, 1, 1, 1, 1, 4] (fun _ _ _ => True) (fun w3 => w3.heap[g]? = some (.cells cu 5 (0, 0))) (by kernel_rfl) (Chg.refl _ _) (fun _ _ h => h.mono (fun _ _ h => h.elim)) (fun _ _ _ h k => h.trans k) (fun a b h k => (h.block g (heap_lt k) id).trans k) (by rw [← hW0]; exact z2) (by kernel_rfl) ?_
      rw [← hW0]
      intro c
      refine RA.mv (by rfl) (by rfl) (by rfl) ?_
      refine RA.nc (by rfl) (by rfl) (by rfl) ?_
      refine RA.fa (by rfl) (by rfl) (by rfl) (y' := .pointer (some ⟨p, 3, none⟩)) (fun w3 hp => by show (Instr.fieldAt _ _ _).run Try.prog w3 = _; go_simp) ?_
      refine RA.ld (by rfl) (by rfl) (by rfl) (y' := .slice (some ⟨g, 0, none⟩) m cap) (fun w3 hp => by
        have hR : Chg (· = g) W0 w3 := hp.1
        have h1 := cell_of ((hR.block _ (heap_lt z3) hso).trans z3) 3
        show (Instr.loadAt _ _).run Try.prog w3 = _
        go_simp) ?_
      refine RA.ld (by rfl) (by rfl) (by rfl) (y' := .agg #[.int .i64 q.1, .slice ba 64 bc]) (fun w3 hp => by
        have hR : Chg (· = g) W0 w3 := hp.1
        have h0 := cell_of ((hR.block _ (heap_lt z4) hwo).trans z4) 0
        have h1 := cell_of ((hR.block _ (heap_lt z4) hwo).trans z4) 1
        show (Instr.loadAt _ _).run Try.prog w3 = _
        go_simp) ?_
      refine RA.kc (P := Try.prog) [_, _] (.tuple #[]) (fun w3 => w3.heap[g]? = some (.cells (splice cu.toList (q.1 * 64) (u8s q.2)).toArray 5 (0, 0))) (fun _ _ => by go_simp) (by rfl) (by rfl) (by rfl) (by kernel_rfl) (fun a b h k => (h.block g (heap_lt k) id).trans k) rfl (fun w3 hp hH => by
        have hR : Chg (· = g) W0 w3 := hp.1
        refine (lay_ok (w := w3) (g := g) (n := m) (cap := cap) (cur := cu) hH q1 HCU.out.2.1 q2 q.1 (S := fun k => (F k ∧ k ≠ p ∧ k ≠ g) ∧ k < wr.heap.size) (v := .slice ba 64 bc) (b := q.2) (z5.chg hR (fun k hk hF e => hF.1.2.2 e)) HB6.out HQS.out).mono ?_
        rintro e w4 ⟨rfl, h1, h2⟩
        exact ⟨rfl, h2, h1⟩) ?_
      refine RA.RA.done rfl (fun w3 hR hF hH => ?_)
      have hR : Chg (· = g) W0 w3 := hR
      simp only [RA.put, List.foldr_cons, List.foldr_nil, c, Act.put, List.setIfInBounds_toArray, List.set_cons_succ, List.set_cons_zero]
      have HH := Lib.hid hH
      clear hH hF
      have hb3 : Chg (· = g) w1 w3 := z6.trans hR
      go_wp2
      go_roundw
      case rel =>
        obtain ⟨r1, r2⟩ := lay_rel (l := D.pend) (k := k) (s := D.sure) (q := q) HCU.out.2.1 q1 HCU.out.2.2 (by rw [← HN.out]; exact hlt) HQ.out HB6.out HQS.out
        exact ⟨k + 1, by omega, by go_num, hb3, _, HH.out, r1, r2⟩
      case measure => simp [intOf]; omega
    · have hc4r : wr.cell? ⟨p, 4, none⟩ = some (.slice pa n pcap) := (hbr.cell (p := ⟨p, 4, none⟩) hps (fun e => hgp e.symm)).trans c4
      have hpr : wr.heap[p]? = _ := (hbr.block p hps (fun e => hgp e.symm)).trans HP1.out
      have hfr := frozen_of hpr 4
      have HPR := Lib.hid hpr
      clear hpr
      go_wp2
      go_ret
      obtain ⟨g1, g2, g3⟩ := HCU.out
      have hkn : k = D.pend.length := by rw [← HN.out]; omega
      rw [hkn, List.take_length] at g3
      have hil : (layAll D.sure D.pend).length = D.sure.length := Dk.image_len H.out
      have hsz : D.flushed.size = D.size := by simp only [Dk.flushed, Dk.size, hil]
      have hp' := setCell_block HPR.out 4 (.slice none 0 0)
      refine ⟨rfl, fun k => k = p ∨ k = g, At.made (g := g) (cap := cap) (cur := cu) (D := D.flushed) ?_ ?_ hgp ?_ ?_ rfl HAT.out.lo ?_, ?_, ?_⟩
      · show _ = some (Obj.cells #[_, _, _, .slice _ (layAll D.sure D.pend).length _, _] _ _)
        rw [hil, ← HM.out]
        exact hp'
      · exact (setCell_heap_ne _ _ _ hgp).trans g1
      · show (layAll D.sure D.pend).length ≤ _ ∧ _
        rw [hil, ← HM.out]
        exact ⟨q1, q2, g2⟩
      · show cu.toList.take (layAll D.sure D.pend).length = u8s (layAll D.sure D.pend)
        rw [hil, ← HM.out]
        exact g3
      · show (layAll D.sure D.pend).length = 64 * D.flushed.size ∧ _
        rw [hsz, hil]
        exact H.out.full
      · exact ((hch.trans (hbr.mono (fun k _ e => e ▸ hFg))).setCell (fun _ => H.out.self) _)
      · rintro k (rfl | rfl)
        · exact .inl H.out.self
        · exact .inl hFg
end Go.Proofs.Ytifocofpplhacaa.D

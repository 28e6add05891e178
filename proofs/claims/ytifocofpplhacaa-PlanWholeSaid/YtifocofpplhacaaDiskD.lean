/-
  The disk: what a fall of the power leaves. No condition beyond what each theorem names.
-/
import Derived.Test.YtifocofpplhacaaDiskC
namespace Go.Proofs.Ytifocofpplhacaa.D
open Go Go.RowKit K

/-- Of some writes those that are kept. -/
def kept : List (Nat × List UInt8) → List Bool → List (Nat × List UInt8)
  | [], _ => []
  | _ :: _, [] => []
  | q :: l, k :: ks => if k then q :: kept l ks else kept l ks

theorem kept_nil (l : List (Nat × List UInt8)) : kept l [] = [] := by cases l <;> rfl
theorem kept_snoc : ∀ (l : List (Nat × List UInt8)) (ks : List Bool) (k : Nat) (h : k < l.length), kept (l.take (k + 1)) ks = kept (l.take k) ks ++ (if ks[k]?.getD false then [l[k]] else []) := by
  intro l
  induction l with
  | nil => intro ks k h; simp at h
  | cons q l ih =>
    intro ks k h
    cases ks with
    | nil => simp [kept_nil]
    | cons b ks =>
      cases k with
      | zero => cases b <;> simp [kept]
      | succ k =>
        have := ih ks k (by simpa using h)
        simp only [List.take_succ_cons, kept, List.getElem_cons_succ, List.getElem?_cons_succ]
        rw [this]
        split <;> simp
theorem layAll_append (s : List UInt8) (l m : List (Nat × List UInt8)) : layAll s (l ++ m) = layAll (layAll s l) m := by simp [layAll, List.foldl_append]

def Dk.fall (d : Dk) (ks : List Bool) : Dk := ⟨false, 0, false, layAll d.sure (kept d.pend ks), []⟩

/-- A new disk, told without an error. -/
def Made1 (w : World) (D : Dk) (e : Ending) (w' : World) : Prop :=
  ∃ p F, e = .returned (.pointer (some ⟨p, 0, none⟩)) ∧ At w' F p D ∧ (∀ k, F k → w.heap.size ≤ k) ∧ Below w.heap.size w w'

set_option maxHeartbeats 400000 in
theorem fall_nil (v : Value) (w : World) : Calls Try.prog 22 #[.pointer none, v] w fun e w' => e = .returned (.pointer none) ∧ w = w' := by
  go_enter Try.func22, Try.ntmps22
  go_wp2
  go_ret
  exact ⟨rfl, rfl⟩

/-- The firm sectors as bytes. -/
theorem At.sureBytes {w : World} {F : Nat → Prop} {p : Nat} {D : Dk} (h : At w F p D) : ∃ g cap, w.cell? ⟨p, 3, none⟩ = some (.slice (some ⟨g, 0, none⟩) D.sure.length cap) ∧ Bytes w F (.slice (some ⟨g, 0, none⟩) D.sure.length cap) D.sure := by
  obtain ⟨g, cap, cur, c3, hg, q1, q2, q3, q4, hFg, hgp, _⟩ := h.sureAt
  refine ⟨g, cap, c3, by simp [u8s], some ⟨g, 0, none⟩, cap, rfl, by omega, q2, fun h => (by cases h), .inr ⟨g, 0, rfl, hFg, heap_lt hg, fun j u hu => ?_⟩⟩
  rw [Nat.zero_add, cell_of hg, ← hu, ← q4, List.getElem?_take]
  rw [← q4, List.getElem?_take] at hu
  split at hu
  · rename_i hj; simp [hj]
  · cases hu

set_option maxRecDepth 100000 in
set_option maxHeartbeats 1000000 in
theorem fall_ok {w : World} {F : Nat → Prop} {p : Nat} {D : Dk} (h : At w F p D) {S : Nat → Prop} {ka : Option Addr} {kn kc : Nat} {ks : List Bool} (hks : Cells w S (.slice ka kn kc) kn 1 (ks.map .bool)) : Calls Try.prog 22 #[.pointer (some ⟨p, 0, none⟩), .slice ka kn kc] w (Made1 w (D.fall ks)) := by
  obtain ⟨g, cap, c3, hsb⟩ := h.sureBytes
  obtain ⟨pv, pcs, c4, hpc, hpe⟩ := h.pendAt
  obtain ⟨m, hm⟩ : ∃ m, m = D.sure.length := ⟨_, rfl⟩
  obtain ⟨n, hn⟩ : ∃ n, n = D.pend.length := ⟨_, rfl⟩
  rw [← hm] at c3 hsb
  rw [← hn] at hpc
  have hmb : m ≤ 4194304 := by have := h.full; omega
  have hnb : n ≤ 1000000000 := by have := h.few; omega
  have hknm : kn ≤ maxLen := by obtain ⟨_, _, e, h1, h2⟩ := Cells.shape hks; cases e; omega
  have hkl : ks.length = kn := by have := hks.1; simpa using this
  unfold maxLen at hknm
  obtain ⟨pa, pcap, rfl, hp1, hp2⟩ := Cells.shape hpc
  have HC := Lib.hid (clone_ok hsb (by omega))
  have H := Lib.hid h
  have HM := Lib.hid hm
  have HN := Lib.hid hn
  have HPC := Lib.hid hpc
  have HPE := Lib.hid hpe
  have HKS := Lib.hid hks
  have HKL := Lib.hid hkl
  clear hsb h hm hn hpc hpe hks hkl
  go_enter Try.func22, Try.ntmps22
  go_wp2_with fail
  refine HC.out.mono ?_
  rintro e w1 ⟨ov, rfl, hown, hbel, _⟩
  have c4' : w1.cell? ⟨p, 4, none⟩ = some (.slice pa n pcap) := (hbel.cell (p := ⟨p, 4, none⟩) (cell_lt c4)).trans c4
  have hps : p < w.heap.size := cell_lt c4
  rw [← HM.out] at hown
  obtain ⟨o, ocap, ocur, rfl, ho1, ho2, ho3, ho4, ho5, ho6⟩ : ∃ o ocap ocur, ov = .slice (some ⟨o, 0, none⟩) m ocap ∧ w.heap.size ≤ o ∧ w1.heap[o]? = some (.cells ocur 5 (0, 0)) ∧ m ≤ ocap ∧ ocap ≤ maxLen ∧ ocur.size = ocap ∧ ocur.toList.take m = u8s D.sure := by
    rcases hown.2 with ⟨_, h0⟩ | ⟨o, ocap, ocur, r1, r2, r3, r4, r5, r6, r7⟩
    · have := H.out.full; have := HM.out; omega
    · exact ⟨o, ocap, ocur, r1, r2, r3, r4, r5, by simpa using r6, by simpa using r7⟩
  have hol : o < w1.heap.size := heap_lt ho2
  have HO := Lib.hid ho2
  have HO6 := Lib.hid ho6
  have HO5 := Lib.hid ho5
  clear ho2 ho6 ho5 hown
  have hw1 : w.heap.size ≤ w1.heap.size := hbel.size
  have hps1 : p < w1.heap.size := by omega
  have HPH : Hid (∀ wr, Below w.heap.size w wr → Cells wr (fun k => F k ∧ k ≠ p) (.slice pa n pcap) n 2 pcs ∧ Pend wr F D.pend pcs) := fun wr hb =>
    ⟨HPC.out.keep hb.size (fun b _ hbl => hb.block b hbl), HPE.out.keep hb.size (fun b _ hbl => hb.block b hbl)⟩
  go_wp2
  go_loopw [22] (fun i wr => ∃ k : Nat, k ≤ n ∧ i = .int .i64 k ∧ Below w.heap.size w wr ∧ w1.heap.size < wr.heap.size ∧ ∃ cu : Array Value, Hid (wr.heap[o]? = some (.cells cu 5 (0, 0)) ∧ cu.size = ocap ∧ cu.toList.take m = u8s (layAll D.sure (kept (D.pend.take k) ks)) ∧
      wr.heap[w1.heap.size]? = some (.cells #[.bool false, .int .i64 0, .bool false, .slice (some ⟨o, 0, none⟩) m ocap, .slice none 0 0] 69 (0, 0))))
    (fun i _ => n - (intOf i).toNat)
  case atStart => exact ⟨0, Nat.zero_le _, rfl, hbel.alloc hw1 _, by simp, ocur, (Below.heap_alloc _ _ _ hol).trans HO.out, HO5.out, by simpa [kept, layAll] using HO6.out, heap_alloc_new _ _⟩
  case round =>
    obtain ⟨k, hk, rfl, hbr, hsr, cu, HCU⟩ := hrel
    by_cases hlt : k < n
    · obtain ⟨hcl, hpd⟩ := HPH.out wr hbr
      obtain ⟨b, off, ba, bc, rfl, _, hbl, hSb, hc0, hc1, hbb, hb64⟩ := pend_at hcl hpd HN.out k hlt
      obtain ⟨q, hq⟩ : ∃ q, q = D.pend[k]'(HN.out ▸ hlt) := ⟨_, rfl⟩
      rw [← hq] at hc0 hbb hb64
      have HQ := Lib.hid hq
      have HBB := Lib.hid hbb
      have HB6 := Lib.hid hb64
      clear hcl hpd hq hbb hb64
      have hof : o < wr.heap.size := heap_lt HCU.out.1
      have hqs : q.1 * 64 + 64 ≤ m := by
        have h1 := H.out.inb q (by rw [HQ.out]; exact List.getElem_mem _)
        have h2 := H.out.full
        have h3 := HM.out
        omega
      have HQS := Lib.hid hqs
      have hsn := kept_snoc D.pend ks k (by rw [← HN.out]; exact hlt)
      have HSN := Lib.hid hsn
      clear hqs hsn
      by_cases hkk : k < kn
      · have hkc : ∃ kb ko, ka = some ⟨kb, ko, none⟩ ∧ kb < w.heap.size ∧ w.cell? ⟨kb, ko + k, none⟩ = some (.bool (ks[k]'(by rw [HKL.out]; exact hkk))) := by
          obtain ⟨kb, ko, cp, hv, _, _, _, hl, hc⟩ := HKS.out.at (by omega)
          cases hv
          exact ⟨kb, ko, rfl, hl, hc k _ (by simp [HKL.out, hkk])⟩
        obtain ⟨kb, ko, rfl, hkbl, hkcell⟩ := hkc
        have hkcell' : wr.cell? ⟨kb, ko + k, none⟩ = some (.bool (ks[k]'(by rw [HKL.out]; exact hkk))) := (hbr.cell (p := ⟨kb, ko + k, none⟩) hkbl).trans hkcell
        have hkbr : kb < wr.heap.size := by have := hbr.size; omega
        cases hkv : ks[k]'(by rw [HKL.out]; exact hkk) with
        | true =>
          rw [hkv] at hkcell'
          have HKV := Lib.hid hkv
          clear hkv hkcell
          go_wp2
          obtain ⟨W0, hW0⟩ : ∃ W0, W0 = (wr.alloc (.cells #[.int .i64 q.1, .slice ba 64 bc] 72)).drew := ⟨_, rfl⟩
          have hW : W0.heap.size = wr.heap.size + 1 ∧ W0.heap[o]? = some (.cells cu 5 (0, 0)) ∧ W0.heap[w1.heap.size]? = some (.cells #[.bool false, .int .i64 0, .bool false, .slice (some ⟨o, 0, none⟩) m ocap, .slice none 0 0] 69 (0, 0)) ∧
              W0.heap[wr.heap.size]? = some (.cells #[.int .i64 q.1, .slice ba 64 bc] 72 (0, 0)) ∧ Bytes W0 F (.slice ba 64 bc) q.2 ∧ Below w.heap.size w W0 := by
            subst hW0
            exact ⟨by simp, (Below.heap_alloc _ _ _ hof).trans HCU.out.1, (Below.heap_alloc _ _ _ hsr).trans HCU.out.2.2.2, heap_alloc_new _ _, Cells.keep HBB.out (by simp) (fun k _ hk => Below.heap_alloc _ _ _ hk), (hbr.alloc (by have := hbr.size; omega) _).drew⟩
          obtain ⟨z1, z2, z3, z4, z5, z6⟩ := hW
          have hso : w1.heap.size ≠ o := by omega
          have hwo : wr.heap.size ≠ o := by omega
          refine RA.region (Chg (· = o)) (Chg No) [1, 1, 1, 1, 1, 4] (fun _ _ _ => True) (fun w3 => w3.heap[o]? = some (.cells cu 5 (0, 0))) (by kernel_rfl) (Chg.refl _ _) (fun _ _ h => h.mono (fun _ _ h => h.elim)) (fun _ _ _ h k => h.trans k) (fun a b h k => (h.block o (heap_lt k) id).trans k) (by rw [← hW0]; exact z2) (by kernel_rfl) ?_
          rw [← hW0]
          intro c
          refine RA.mv (by rfl) (by rfl) (by rfl) ?_
          refine RA.nc (by rfl) (by rfl) (by rfl) ?_
          refine RA.fa (by rfl) (by rfl) (by rfl) (y' := .pointer (some ⟨w1.heap.size, 3, none⟩)) (fun w3 hp => by show (Instr.fieldAt _ _ _).run Try.prog w3 = _; go_simp) ?_
          refine RA.ld (by rfl) (by rfl) (by rfl) (y' := .slice (some ⟨o, 0, none⟩) m ocap) (fun w3 hp => by
            have hR : Chg (· = o) W0 w3 := hp.1
            have h1 := cell_of ((hR.block _ (heap_lt z3) hso).trans z3) 3
            show (Instr.loadAt _ _).run Try.prog w3 = _
            go_simp) ?_
          refine RA.ld (by rfl) (by rfl) (by rfl) (y' := .agg #[.int .i64 q.1, .slice ba 64 bc]) (fun w3 hp => by
            have hR : Chg (· = o) W0 w3 := hp.1
            have h0 := cell_of ((hR.block _ (heap_lt z4) hwo).trans z4) 0
            have h1 := cell_of ((hR.block _ (heap_lt z4) hwo).trans z4) 1
            show (Instr.loadAt _ _).run Try.prog w3 = _
            go_simp) ?_
          refine RA.kc (P := Try.prog) [_, _] (.tuple #[]) (fun w3 => w3.heap[o]? = some (.cells (splice cu.toList (q.1 * 64) (u8s q.2)).toArray 5 (0, 0))) (fun _ _ => by go_simp) (by rfl) (by rfl) (by rfl) (by kernel_rfl) (fun a b h k => (h.block o (heap_lt k) id).trans k) rfl (fun w3 hp hH => by
            have hR : Chg (· = o) W0 w3 := hp.1
            refine (lay_ok (w := w3) (g := o) (n := m) (cap := ocap) (cur := cu) hH ho3 HCU.out.2.1 ho4 q.1 (S := F) (v := .slice ba 64 bc) (b := q.2) (z5.chg hR (fun k hk hF e => by have := H.out.lim k hF; omega)) HB6.out HQS.out).mono ?_
            rintro e w4 ⟨rfl, h1, h2⟩
            exact ⟨rfl, h2, h1⟩) ?_
          refine RA.RA.done rfl (fun w3 hR hF hH => ?_)
          have hR : Chg (· = o) W0 w3 := hR
          simp only [RA.put, List.foldr_cons, List.foldr_nil, c, Act.put, List.setIfInBounds_toArray, List.set_cons_succ, List.set_cons_zero]
          have HH := Lib.hid hH
          clear hH hF
          have hb3 : Below w.heap.size w w3 := ⟨hR.os.trans z6.os, hR.tape.trans z6.tape, hR.output.trans z6.output, Nat.le_trans z6.size hR.size, fun i hi => (hR.block i (by omega) (by omega)).trans (z6.block i hi)⟩
          have hs3 := hR.size
          go_wp2
          go_roundw
          case rel =>
            obtain ⟨r1, r2⟩ := lay_rel (l := [q]) (k := 0) (s := layAll D.sure (kept (D.pend.take k) ks)) (q := q) HCU.out.2.1 ho3 (by simpa [layAll] using HCU.out.2.2.1) (by simp) rfl HB6.out HQS.out
            refine ⟨k + 1, by omega, by go_num, hb3, by omega, _, HH.out, r1, ?_, (hR.block _ (heap_lt z3) hso).trans z3⟩
            rw [r2, HSN.out]
            have : ks[k]?.getD false = true := by simp [HKL.out, hkk, HKV.out]
            rw [this, layAll_append]
            rw [HQ.out]
            rfl
          case measure => simp [intOf]; omega
        | false =>
          rw [hkv] at hkcell'
          have HKV := Lib.hid hkv
          clear hkv hkcell
          go_wp2
          go_roundw
          case rel =>
            refine ⟨k + 1, by omega, by go_num, hbr.alloc (by have := hbr.size; omega) _, by simp; omega, cu, (Below.heap_alloc _ _ _ hof).trans HCU.out.1, HCU.out.2.1, ?_, (Below.heap_alloc _ _ _ hsr).trans HCU.out.2.2.2⟩
            rw [HSN.out]
            have : ks[k]?.getD false = false := by simp [HKL.out, hkk, HKV.out]
            rw [this]
            simpa using HCU.out.2.2.1
          case measure => simp [intOf]; omega
      · go_wp2
        go_roundw
        case rel =>
          refine ⟨k + 1, by omega, by go_num, hbr.alloc (by have := hbr.size; omega) _, by simp; omega, cu, (Below.heap_alloc _ _ _ hof).trans HCU.out.1, HCU.out.2.1, ?_, (Below.heap_alloc _ _ _ hsr).trans HCU.out.2.2.2⟩
          rw [HSN.out]
          have : ks[k]?.getD false = false := by
            rw [List.getElem?_eq_none (by rw [HKL.out]; omega)]
            rfl
          rw [this]
          simpa using HCU.out.2.2.1
        case measure => simp [intOf]; omega
    · go_wp2
      go_ret
      obtain ⟨g1, g2, g3, g4⟩ := HCU.out
      have hkn : k = D.pend.length := by rw [← HN.out]; omega
      rw [hkn, List.take_length] at g3
      have hil : (layAll D.sure (kept D.pend ks)).length = 64 * D.size := by
        refine layAll_length D.size _ _ H.out.full.1 fun q hq => ?_
        have hmem : ∀ (l : List (Nat × List UInt8)) (bs : List Bool), ∀ q ∈ kept l bs, q ∈ l := by
          intro l
          induction l with
          | nil => intro bs q hq; simp [kept] at hq
          | cons x l ih =>
            intro bs q hq
            cases bs with
            | nil => simp [kept] at hq
            | cons b bs =>
              simp only [kept] at hq
              split at hq
              · rcases List.mem_cons.1 hq with rfl | hq
                · simp
                · exact List.mem_cons_of_mem _ (ih bs q hq)
              · exact List.mem_cons_of_mem _ (ih bs q hq)
        have hq' := hmem _ _ q hq
        refine ⟨H.out.inb q hq', ?_⟩
        obtain ⟨k', hk', rfl⟩ := List.getElem_of_mem hq'
        obtain ⟨_, _, _, _, h4⟩ := HPE.out.get k' hk'
        exact h4
      have hml : m = 64 * D.size := by rw [HM.out]; exact H.out.full.1
      have hsz : (D.fall ks).size = D.size := by simp only [Dk.fall, Dk.size, hil]; omega
      refine ⟨w1.heap.size, _, rfl, At.made (g := o) (cap := ocap) (cur := cu) (D := D.fall ks) ?_ g1 (by omega) ?_ ?_ rfl ⟨Int.le_refl _, by simp [Dk.fall]⟩ ?_, ?_, hbr⟩
      · simp only [Dk.fall, hil, ← hml]; exact g4
      · simp only [Dk.fall, hil, ← hml]; exact ⟨ho3, ho4, g2⟩
      · simp only [Dk.fall, hil, ← hml]; exact g3
      · rw [hsz]; simp only [Dk.fall, hil]; exact ⟨trivial, H.out.full.2⟩
      · rintro j (rfl | rfl) <;> omega
end Go.Proofs.Ytifocofpplhacaa.D

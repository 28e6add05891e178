/-
  DiskImages. No condition beyond what each theorem names.
-/
import Derived.Test.YtifocofpplhacaaDiskH
namespace Go.Proofs.Ytifocofpplhacaa.D
open Go Go.RowKit K

set_option maxRecDepth 100000 in
set_option maxHeartbeats 4000000 in
theorem images_ok {w : World} {S : Nat → Prop} {v : Value} {l : List UInt8} (hb : Bytes w S v l) (at' : Int) : Calls Try.prog 3 #[v, .int .i64 at'] w fun e w' => e = .returned (.bool true) ∧ Below w.heap.size w w' := by
  obtain ⟨a, cap, hv, hc1, hc2⟩ := Cells.shape hb
  obtain ⟨m, hm⟩ : ∃ m, m = l.length := ⟨_, rfl⟩
  rw [← hm] at hv hc1
  have HB := Lib.hid hb
  have HM := Lib.hid hm
  subst hv
  clear hb hm
  by_cases hlen : m > 2000
  · have HA := Lib.hid (awake13_ok w)
    go_enter Try.func3, Try.ntmps3
    go_wp2_with fail
    refine HA.out.mono ?_
    rintro e w' ⟨rfl, hb⟩
    go_wp2
    go_ret
    exact ⟨rfl, hb⟩
  · have hz1 : (Value.int .u8 0).cells.size = 1 := rfl
    have ho : Hid ((w.alloc (.cells #[] 5)).ownsRow w.heap.size 5 1 (.slice (some ⟨w.heap.size, 0, none⟩) 0 0) 0 []) := ⟨rfl, .inr ⟨_, 0, #[], rfl, Nat.le_refl _, heap_alloc_new _ _, Nat.le_refl _, Nat.zero_le _, rfl, rfl⟩⟩
    have hb1 : Hid (Cells (w.alloc (.cells #[] 5)) S (.slice a m cap) m 1 (u8s l)) := by
      have h := HB.out
      unfold Bytes at h
      rw [← HM.out] at h
      exact h.keep (by simp) (fun k _ hk => Below.heap_alloc _ _ _ hk)
    go_enter Try.func3, Try.ntmps3
    go_wp2_with (at_builtin; refine K.append ?_ (.tmp 16) (.tmp 17) 22 ?_ w.heap.size 5 (.int .u8 0) 1 1 Try.underlying22 infoByte hz1 (by omega) _ 0 _ ?_ ho.out S _ m (u8s l) ?_ hb1.out (u8s_one l) (by unfold maxLen; omega) (by omega) ?_ ?_)
    · rfl
    · rfl
    · rfl
    · rfl
    · simp
    intro cv w1 x1 x2 _ _
    replace x1 : w1.ownsRow w.heap.size 5 1 cv m (u8s l) := by
      try rw [Nat.zero_add] at x1
      exact x1
    have hcl := Cells.own x1
    obtain ⟨ca, ccap, rfl, _, _⟩ := Cells.shape hcl
    have HX1 := Lib.hid x1
    have hbw : Below w.heap.size w w1 := ((Chg.of_below ((Below.refl _ w).alloc (Nat.le_refl _) (.cells #[] 5)) No).grown x2 (fun g hg hl => by simp [Value.ownBlock] at hg; omega)).no
    have hcb : Bytes w1 (fun b => (Value.slice ca m ccap).ownBlock = some b ∧ w.heap.size ≤ b) (.slice ca m ccap) l := by
      show Cells _ _ _ _ _ _
      rw [← HM.out]
      exact hcl
    by_cases hbad : m < 64 ∨ m % 64 ≠ 0
    · have HO := Lib.hid (of_bad hcb (by rw [← HM.out]; exact hbad) (by rw [← HM.out]; omega))
      have hmm : m = 0 ∨ m % 64 ≠ 0 := by omega
      clear hcb hcl x1 x2
      go_wp2_with fail
      refine HO.out.mono ?_
      rintro e w2 ⟨rfl, hb2⟩
      have hbw2 := hbw.trans (hb2.mono hbw.size)
      have HA := Lib.hid (awake13_ok w2)
      by_cases hm0 : m = 0
      · subst hm0
        go_wp2_with fail
        refine HA.out.mono ?_
        rintro e w3 ⟨rfl, hb3⟩
        go_wp2
        go_ret
        exact ⟨rfl, hbw2.trans (hb3.mono hbw2.size)⟩
      · have hm1 : ((m : Int) == 0) = false := by simp; omega
        have hm2 : ((m : Int).tmod 64 != 0) = true := by
          rw [Int.tmod_eq_emod_of_nonneg (by omega)]
          simp
          omega
        go_wp2_with fail
        refine HA.out.mono ?_
        rintro e w3 ⟨rfl, hb3⟩
        go_wp2
        go_ret
        exact ⟨rfl, hbw2.trans (hb3.mono hbw2.size)⟩
    · have HO := Lib.hid (of_ok hcb (m / 64) (by rw [← HM.out]; omega) (by omega) (by omega))
      have hmm : (m : Int).tmod 64 = 0 := by
        rw [Int.tmod_eq_emod_of_nonneg (by omega)]
        omega
      have hm0 : 0 < m := by omega
      go_wp2_with fail
      refine HO.out.mono ?_
      rintro e w2 ⟨p, F, rfl, hat, hF, hb2⟩
      have hB2 : Bytes w2 S (.slice a m cap) l := HB.out.keep (hbw.trans (hb2.mono hbw.size)).size (fun k _ hk => (hbw.trans (hb2.mono hbw.size)).block k hk)
      have HB2 := Lib.hid hB2
      have HAT := Lib.hid hat
      obtain ⟨cg, ccur, rfl, cg1, cg2, cg3, cg4, cg5, cg6⟩ : ∃ cg ccur, ca = some ⟨cg, 0, none⟩ ∧ w.heap.size ≤ cg ∧ w1.heap[cg]? = some (.cells ccur 5 (0, 0)) ∧ m ≤ ccap ∧ ccap ≤ maxLen ∧ ccur.size = ccap ∧ ccur.toList.take m = u8s l := by
        rcases HX1.out.2 with ⟨h0, _⟩ | ⟨cg, cap', cur, r1, r2, r3, r4, r5, r6, r7⟩
        · cases h0; omega
        · cases r1
          exact ⟨cg, cur, rfl, r2, r3, r4, r5, by simpa using r6, by simpa using r7⟩
      have CG2 := Lib.hid cg2
      have CG5 := Lib.hid cg5
      have CG6 := Lib.hid cg6
      clear hat hB2 hcb hcl x1 x2 cg2 cg5 cg6
      go_wp2_with fail
      have hdr : ∀ w3, Chg No w2.drew w3 → Chg No w2 w3 := fun w3 h => ⟨h.os, h.tape, h.output, h.size, h.block⟩
      refine RA.region (fun a b => Chg No a b) (· = ·) [1, 1, 1, 1, 1, 1, 1, 1, 3, 1, 1, 1, 1, 1, 1, 1, 4, 1, 1, 1, 1, 1, 1, 1, 3, 1, 1, 1] (fun _ _ _ => True) (fun _ => True) (by kernel_rfl) (Chg.refl _ _) (fun _ _ h => h ▸ Chg.refl _ _) (fun _ _ _ h k => h.trans k) (fun _ _ h k => h ▸ k) trivial (by kernel_rfl) ?_
      intro c
      repeat (first | refine RA.mv (by rfl) (by rfl) (by rfl) ?_ | refine RA.ne false (by rfl) (by rfl) (by rfl) (by rfl) (by rfl) ?_ | refine RA.pf (by rfl) (by rfl) (by rfl) (by rfl) ?_ | refine RA.as (by rfl) (by rfl) (by rfl) ?_)
      refine RA.v Try.prog (x := .bool false) (by rfl) (by rfl) (by rfl) (fun w hp => by go_simp) ?_
      simp only [RA.add]
      repeat (first | refine RA.mv (by rfl) (by rfl) (by rfl) ?_ | refine RA.ne false (by rfl) (by rfl) (by rfl) (by rfl) (by rfl) ?_ | refine RA.pf (by rfl) (by rfl) (by rfl) (by rfl) ?_ | refine RA.as (by rfl) (by rfl) (by rfl) ?_)
      refine RA.qc (P := Try.prog) [_] (fun v w3 => Bytes w3 (fun _ => True) v l) (fun _ _ => True) (fun _ _ => by go_simp) (by rfl) (by rfl) (by rfl) (by kernel_rfl) (fun _ _ _ h h2 => h2.chg h (fun _ _ _ => id)) (fun _ _ _ _ h => h) rfl (fun w3 hp hH => (image_ok (HAT.out.chg (hdr _ hp.1) (fun _ _ => id))).mono (by rintro e w4 ⟨iv, rfl, h1, h2, _⟩; exact ⟨_, rfl, Chg.of_below h2 _, (Cells.own h1).mono (fun _ _ _ => trivial), trivial⟩)) (fun u => ?_)
      refine RA.cv (by rfl) (by rfl) (by rfl) (fun w3 hp => by exact run_string _ _ _ _ Try.underlying22 Try.underlying5 Try.underlying9 _ _ _ (hp.fact 0 rfl (by kernel_rfl))) ?_
      repeat (first | refine RA.mv (by rfl) (by rfl) (by rfl) ?_ | refine RA.ne false (by rfl) (by rfl) (by rfl) (by rfl) (by rfl) ?_ | refine RA.pf (by rfl) (by rfl) (by rfl) (by rfl) ?_ | refine RA.as (by rfl) (by rfl) (by rfl) ?_)
      refine RA.cv (by rfl) (by rfl) (by rfl) (fun w3 hp => by exact run_string _ _ _ _ Try.underlying22 Try.underlying5 Try.underlying9 _ _ _ (HB2.out.chg (hdr _ hp.1) (fun _ _ _ => id))) ?_
      refine RA.ns false (by rfl) (by rfl) (by rfl) (by rfl) (by simp) ?_
      repeat (first | refine RA.mv (by rfl) (by rfl) (by rfl) ?_ | refine RA.ne false (by rfl) (by rfl) (by rfl) (by rfl) (by rfl) ?_ | refine RA.pf (by rfl) (by rfl) (by rfl) (by rfl) ?_ | refine RA.as (by rfl) (by rfl) (by rfl) ?_)
      refine RA.kc (P := Try.prog) [_] (.int .i64 ((m / 64 : Nat) : Int)) (fun _ => True) (fun _ _ => by go_simp) (by rfl) (by rfl) (by rfl) (by kernel_rfl) (fun _ _ _ h => h) rfl (fun w3 hp hH => (size_ok (HAT.out.chg (hdr _ hp.1) (fun _ _ => id))).mono (by rintro e w4 ⟨rfl, rfl⟩; exact ⟨ret_int (by simp [Dk.size, Dk.of, ← HM.out]), Chg.refl _ _, trivial⟩)) ?_
      repeat (first | refine RA.mv (by rfl) (by rfl) (by rfl) ?_ | refine RA.ne false (by rfl) (by rfl) (by rfl) (by rfl) (by simp) ?_ | refine RA.pf (by rfl) (by rfl) (by rfl) (by rfl) ?_ | refine RA.as (by rfl) (by rfl) (by rfl) ?_)
      refine RA.ln (by rfl) (by rfl) (by rfl) (y' := .int .i64 m) (fun w3 _ => by show (Builtin.len_ _ _ _).run Try.prog w3 = _; go_simp) ?_
      refine RA.v Try.prog (x := .int .i64 ((m / 64 : Nat) : Int)) (by rfl) (by rfl) (by rfl) (fun w3 hp => by
        go_simp
        exact IntWalk.i64_in _ (by omega)) ?_
      simp only [RA.add]
      repeat (first | refine RA.mv (by rfl) (by rfl) (by rfl) ?_ | refine RA.ne false (by rfl) (by rfl) (by rfl) (by rfl) (by simp) ?_ | refine RA.pf (by rfl) (by rfl) (by rfl) (by rfl) ?_ | refine RA.as (by rfl) (by rfl) (by rfl) ?_)
      refine RA.qc (P := Try.prog) [_] (fun v _ => ∃ sa sc, v = .slice sa 0 sc) (fun _ _ => True) (fun _ _ => by go_simp) (by rfl) (by rfl) (by rfl) (by kernel_rfl) (fun _ _ _ h h2 => h2) (fun _ _ _ _ h => h) rfl (fun w3 hp hH => (pending_ok (HAT.out.chg (hdr _ hp.1) (fun _ _ => id))).mono (by
        rintro e w4 ⟨iv, rfl, h1, h2⟩
        obtain ⟨sa, sc, rfl, _, _⟩ := Cells.shape (Cells.own h1)
        exact ⟨_, rfl, Chg.of_below h2 _, ⟨sa, sc, rfl⟩, trivial⟩)) (fun u2 => ?_)
      refine RA.ln (by rfl) (by rfl) (by rfl) (y' := .int .i64 0) (fun w3 hp => by
        obtain ⟨sa, sc, e⟩ := hp.fact 0 rfl (by kernel_rfl)
        subst e
        show (Builtin.len_ _ _ _).run Try.prog w3 = _
        go_simp) ?_
      repeat (first | refine RA.mv (by rfl) (by rfl) (by rfl) ?_ | refine RA.ne false (by rfl) (by rfl) (by rfl) (by rfl) (by simp) ?_ | refine RA.pf (by rfl) (by rfl) (by rfl) (by rfl) ?_ | refine RA.as (by rfl) (by rfl) (by rfl) ?_)
      refine RA.RA.done rfl (fun w3 hR hF hH => ?_)
      have hR : Chg No w2.drew w3 := hR
      have hch := hdr _ hR
      have HAT3 := Lib.hid (HAT.out.chg hch (fun _ _ => id))
      have hb23 := hch.no
      have HB3 := Lib.hid (HB2.out.chg hch (fun _ _ _ => id))
      clear hF hH HB2
      simp only [RA.put, List.foldr_cons, List.foldr_nil, c, Act.put, List.setIfInBounds_toArray, List.set_cons_succ, List.set_cons_zero]
      have hkb : 0 ≤ at' % (m : Int) ∧ at' % (m : Int) < m := ⟨Int.emod_nonneg _ (by omega), Int.emod_lt_of_pos _ (by omega)⟩
      obtain ⟨k, hk⟩ : ∃ k : Nat, at' % (m : Int) = k := ⟨(at' % (m : Int)).toNat, by omega⟩
      have hkm : k < m := by omega
      have HR := Lib.hid (round_ok at' m (by omega) w3)
      rw [hk] at HR
      clear hkb hk
      go_wp2_with fail
      refine HR.out.mono ?_
      rintro e w4 ⟨rfl, rfl⟩
      have hcg3 : w3.heap[cg]? = some (.cells ccur 5 (0, 0)) := (hb23.block _ (Nat.lt_of_lt_of_le (heap_lt CG2.out) hb2.size)).trans ((hb2.block _ (heap_lt CG2.out)).trans CG2.out)
      have hce : w3.cell? ⟨cg, k, none⟩ = some (.int .u8 ((l[k]'(by rw [← HM.out]; exact hkm)).toNat : Int)) := by
        have h1 : (ccur.toList.take m)[k]? = some (u8 (l[k]'(by rw [← HM.out]; exact hkm))) := by
          rw [CG6.out]
          simp only [u8s, List.getElem?_map]
          rw [List.getElem?_eq_getElem (by rw [← HM.out]; exact hkm)]
          rfl
        rw [cell_of hcg3]
        rw [List.getElem?_take, if_pos hkm] at h1
        have h2 : ccur[k]? = some (u8 (l[k]'(by rw [← HM.out]; exact hkm))) := by simpa using h1
        exact h2
      have hfr := frozen_of hcg3 k
      have hcgl : cg < w3.heap.size := heap_lt hcg3
      have hcg1 : cg < w1.heap.size := heap_lt CG2.out
      go_wp2_with fail
      have hc4 : Chg (· = cg) w3 (w3.setCell ⟨cg, k, none⟩ (.int .u8 (((l[k]'(by rw [← HM.out]; exact hkm)).toNat + 1 : Int) % 256))) := Chg.setCell (C := (· = cg)) (Chg.refl _ _) (fun _ => rfl) _
      have hb03 : Below w.heap.size w w3 := (hbw.trans (hb2.mono hbw.size)).trans (hb23.mono (Nat.le_trans hbw.size hb2.size))
      have hb04 : Below w.heap.size w (w3.setCell ⟨cg, k, none⟩ (.int .u8 (((l[k]'(by rw [← HM.out]; exact hkm)).toNat + 1 : Int) % 256))) := hb03.setCell (p := ⟨cg, k, none⟩) cg1 _
      generalize w3.setCell ⟨cg, k, none⟩ (.int .u8 (((l[k]'(by rw [← HM.out]; exact hkm)).toNat + 1 : Int) % 256)) = w4 at *
      have HAT4 := Lib.hid (HAT3.out.chg hc4 (fun j hF' e => by have := hF j hF'; omega))
      have HB4 : Hid (Bytes w4 S (.slice a m cap) l) := HB.out.keep hb04.size (fun j _ hj => hb04.block j hj)
      have HI := Lib.hid (image_ok HAT4.out)
      clear HAT3 HB3
      refine HI.out.mono ?_
      rintro e w5 ⟨iv, rfl, hi1, hi2, _⟩
      have hiw : w5.ownsRow w4.heap.size 5 1 iv m (u8s l) := by
        have e1 : (Dk.of l).image = l := rfl
        rw [e1, ← HM.out] at hi1
        exact hi1
      obtain ⟨ig, icap, icur, rfl, ig1, ig2, ig3, ig4, ig5, ig6⟩ : ∃ ig icap icur, iv = .slice (some ⟨ig, 0, none⟩) m icap ∧ w4.heap.size ≤ ig ∧ w5.heap[ig]? = some (.cells icur 5 (0, 0)) ∧ m ≤ icap ∧ icap ≤ maxLen ∧ icur.size = icap ∧ icur.toList.take m = u8s l := by
        rcases hiw.2 with ⟨_, h0⟩ | ⟨ig, cap', cur, r1, r2, r3, r4, r5, r6, r7⟩
        · omega
        · exact ⟨ig, cap', cur, r1, r2, r3, r4, r5, by simpa using r6, by simpa using r7⟩
      have hie : w5.cell? ⟨ig, k, none⟩ = some (.int .u8 ((l[k]'(by rw [← HM.out]; exact hkm)).toNat : Int)) := by
        have h1 : (icur.toList.take m)[k]? = some (u8 (l[k]'(by rw [← HM.out]; exact hkm))) := by
          rw [ig6]
          simp only [u8s, List.getElem?_map]
          rw [List.getElem?_eq_getElem (by rw [← HM.out]; exact hkm)]
          rfl
        rw [cell_of ig2]
        rw [List.getElem?_take, if_pos hkm] at h1
        have h2 : icur[k]? = some (u8 (l[k]'(by rw [← HM.out]; exact hkm))) := by simpa using h1
        exact h2
      have hif := frozen_of ig2 k
      have hb05 : Below w.heap.size w w5 := hb04.trans (hi2.mono hb04.size)
      have HAT5 := Lib.hid (HAT4.out.keep hi2.size (fun b _ hb => hi2.block b hb))
      have HIG := Lib.hid ig2
      clear hi1 hiw ig2 ig5 ig6 HAT4 HI
      have hk64 : (k : Int).tdiv 64 = ((k / 64 : Nat) : Int) := by
        rw [Int.tdiv_eq_ediv_of_nonneg (by omega)]
        omega
      go_wp2_with fail
      have hke : (k : Int) / 64 = ((k / 64 : Nat) : Int) := by omega
      rw [hke]
      have hc6 : Chg (· = ig) w5 (w5.setCell ⟨ig, k, none⟩ (.int .u8 (((l[k]'(by rw [← HM.out]; exact hkm)).toNat + 1 : Int) % 256))) := Chg.setCell (C := (· = ig)) (Chg.refl _ _) (fun _ => rfl) _
      have hb06 : Below w.heap.size w (w5.setCell ⟨ig, k, none⟩ (.int .u8 (((l[k]'(by rw [← HM.out]; exact hkm)).toNat + 1 : Int) % 256))) := hb05.setCell (p := ⟨ig, k, none⟩) (by have := hb04.size; show _ ≤ ig; omega) _
      generalize w5.setCell ⟨ig, k, none⟩ (.int .u8 (((l[k]'(by rw [← HM.out]; exact hkm)).toNat + 1 : Int) % 256)) = w6 at *
      have hFl : ∀ j, F j → j < w4.heap.size := fun j hj => Nat.lt_of_lt_of_le (HAT.out.lim j hj) (Nat.le_trans hch.size hc4.size)
      have HAT6 := Lib.hid (HAT5.out.chg hc6 (fun j hF' e => by have := hFl j hF'; omega))
      have HG := Lib.hid (get_ok HAT6.out rfl (k / 64) (by simp [Dk.size, Dk.of, ← HM.out]; omega))
      refine HG.out.mono ?_
      rintro e w7 ⟨yv, rfl, y1, hb67⟩
      obtain ⟨yg, ycap, ycur, rfl, yg1, yg2, yg3, yg4, yg5, yg6⟩ : ∃ ig icap icur, yv = .slice (some ⟨ig, 0, none⟩) 64 icap ∧ w6.heap.size ≤ ig ∧ w7.heap[ig]? = some (.cells icur 5 (0, 0)) ∧ 64 ≤ icap ∧ icap ≤ maxLen ∧ icur.size = icap ∧ icur.toList.take 64 = u8s ((Dk.of l).at (k / 64)) := by
        rcases y1.2 with ⟨_, h0⟩ | ⟨ig, cap', cur, r1, r2, r3, r4, r5, r6, r7⟩
        · omega
        · exact ⟨ig, cap', cur, r1, r2, r3, r4, r5, by simpa using r6, by simpa using r7⟩
      obtain ⟨y0, hy0⟩ : ∃ y0 : UInt8, w7.cell? ⟨yg, 0, none⟩ = some (u8 y0) := by
        have hl0 : ((Dk.of l).at (k / 64)).length = 64 := by have := y1.1; simpa [u8s] using this
        have h1 : (ycur.toList.take 64)[0]? = some (u8 (((Dk.of l).at (k / 64))[0]'(by omega))) := by
          rw [yg6]
          simp only [u8s, List.getElem?_map]
          rw [List.getElem?_eq_getElem (by omega)]
          rfl
        rw [List.getElem?_take, if_pos (by omega)] at h1
        refine ⟨_, (cell_of yg2 0).trans (?_ : _ = some (u8 (((Dk.of l).at (k / 64))[0]'(by omega))))⟩
        simpa using h1
      have hy0' : w7.cell? ⟨yg, 0, none⟩ = some (.int .u8 (y0.toNat : Int)) := hy0
      have hyf := frozen_of yg2 0
      have hb07 : Below w.heap.size w w7 := hb06.trans (hb67.mono hb06.size)
      have HAT7 := Lib.hid (HAT6.out.keep hb67.size (fun b _ hb => hb67.block b hb))
      clear y1 yg2 yg5 yg6 hy0 HAT6 HG HAT5 hke hk64
      go_wp2_with fail
      obtain ⟨w8, hw8⟩ : ∃ w8, w8 = w7.setCell ⟨yg, 0, none⟩ (.int .u8 ((y0.toNat + 1 : Int) % 256)) := ⟨_, rfl⟩
      rw [← hw8]
      have hc8 : Chg (· = yg) w7 w8 := hw8 ▸ Chg.setCell (C := (· = yg)) (Chg.refl _ _) (fun _ => rfl) _
      have hb08 : Below w.heap.size w w8 := hw8 ▸ hb07.setCell (p := ⟨yg, 0, none⟩) (by have := hb06.size; show _ ≤ yg; omega) _
      clear hw8
      have hyF : ∀ j, F j → j ≠ yg := fun j hj e => by have := hFl j hj; have := hi2.size; have := hc6.size; omega
      have HAT8 := Lib.hid (HAT7.out.chg hc8 (fun j hj e => hyF j hj e))
      have HB8 : Hid (Bytes w8 S (.slice a m cap) l) := HB.out.keep hb08.size (fun j _ hj => hb08.block j hj)
      have hdr8 : ∀ w3, Chg No w8.drew w3 → Chg No w8 w3 := fun w3 h => ⟨h.os, h.tape, h.output, h.size, h.block⟩
      refine RA.region (fun a b => Chg No a b) (· = ·) [1, 3, 1, 1, 1, 1, 1, 4, 1, 1] (fun _ _ _ => True) (fun _ => True) (by kernel_rfl) (Chg.refl _ _) (fun _ _ h => h ▸ Chg.refl _ _) (fun _ _ _ h k => h.trans k) (fun _ _ h k => h ▸ k) trivial (by kernel_rfl) ?_
      intro c
      refine RA.mv (by rfl) (by rfl) (by rfl) ?_
      refine RA.qc (P := Try.prog) [_] (fun v w3 => Bytes w3 (fun _ => True) v l) (fun _ _ => True) (fun _ _ => by go_simp) (by rfl) (by rfl) (by rfl) (by kernel_rfl) (fun _ _ _ h h2 => h2.chg h (fun _ _ _ => id)) (fun _ _ _ _ h => h) rfl (fun w3 hp hH => (image_ok (HAT8.out.chg (hdr8 _ hp.1) (fun _ _ => id))).mono (by rintro e w4 ⟨iv, rfl, h1, h2, _⟩; exact ⟨_, rfl, Chg.of_below h2 _, (Cells.own h1).mono (fun _ _ _ => trivial), trivial⟩)) (fun u => ?_)
      refine RA.cv (by rfl) (by rfl) (by rfl) (fun w3 hp => by exact run_string _ _ _ _ Try.underlying22 Try.underlying5 Try.underlying9 _ _ _ (hp.fact 0 rfl (by kernel_rfl))) ?_
      refine RA.mv (by rfl) (by rfl) (by rfl) ?_
      refine RA.cv (by rfl) (by rfl) (by rfl) (fun w3 hp => by exact run_string _ _ _ _ Try.underlying22 Try.underlying5 Try.underlying9 _ _ _ (HB8.out.chg (hdr8 _ hp.1) (fun _ _ _ => id))) ?_
      refine RA.es true (by rfl) (by rfl) (by rfl) (by rfl) (by simp) ?_
      refine RA.mv (by rfl) (by rfl) (by rfl) ?_
      refine RA.kc (P := Try.prog) [] (.bool true) (fun _ => True) (fun _ _ => by go_simp) (by rfl) (by rfl) (by rfl) (by kernel_rfl) (fun _ _ _ h => h) rfl (fun w3 hp hH => (awake13_ok _).mono (by rintro e w4 ⟨rfl, h2⟩; exact ⟨rfl, Chg.of_below h2 _, trivial⟩)) ?_
      refine RA.pt (by rfl) (by rfl) (by rfl) (by rfl) ?_
      refine RA.as (by rfl) (by rfl) (by rfl) ?_
      refine RA.RA.done rfl (fun w9 hR hF hH => ?_)
      have hR : Chg No w8.drew w9 := hR
      have hfin := hb08.trans ((hdr8 _ hR).no.mono hb08.size)
      clear hF hH
      simp only [RA.put, List.foldr_cons, List.foldr_nil, c, Act.put, List.setIfInBounds_toArray, List.set_cons_succ, List.set_cons_zero]
      go_wp2_with fail
      go_ret
      exact ⟨rfl, hfin⟩
end Go.Proofs.Ytifocofpplhacaa.D

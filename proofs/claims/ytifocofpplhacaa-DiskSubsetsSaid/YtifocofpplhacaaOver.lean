/-
  DiskOver. No condition beyond what each theorem names.
-/
import Derived.Test.YtifocofpplhacaaDiskI
namespace Go.Proofs.Ytifocofpplhacaa.D
open Go Go.RowKit K

theorem Fresh.flush {w w1 : World} {p : Nat} {D : Dk} (h : Fresh w p D w1) (hp : D.plain) : Calls Try.prog 21 #[.pointer (some ⟨p, 0, none⟩)] w1 fun e w' => e = .returned (.int .i64 0) ∧ Fresh w p { D with sure := D.image, pend := [] } w' := by
  have hh := h
  obtain ⟨F, h1, h2, h3⟩ := h
  refine (flush_ok h1 (by rw [hp.stepped]; exact hp.1)).mono ?_
  rintro e w' ⟨rfl, ht⟩
  refine ⟨rfl, hh.then h2 (Below.refl _ _) ?_⟩
  have e : D.flushed = { D with sure := D.image, pend := [] } := by rw [Dk.flushed, hp.stepped]; rfl
  rw [← e]
  exact ht

/-- the text that stands there when so many have been written -/
def nowAt (firm : ByteArray) (ls : List ByteArray) : Nat → ByteArray
  | 0 => firm
  | k + 1 => ls[k]?.getD firm
/-- the text that a fall leaves -/
def wantAt (firm : ByteArray) (ls : List ByteArray) (ks : List Bool) : Nat → ByteArray
  | 0 => firm
  | k + 1 => if ks[k]?.getD false then ls[k]?.getD firm else wantAt firm ls ks k
def secs (ls : List ByteArray) : List (Nat × List UInt8) := ls.map fun s => (0, sec s.data.toList)
def overD (firm : ByteArray) (ls : List ByteArray) (k : Nat) : Dk := ⟨false, 0, false, sec firm.data.toList, secs (ls.take k)⟩

theorem splice_all (s t : List UInt8) (h : s.length = t.length) : splice s 0 t = t := by simp [splice, h]
theorem layAll_secs (s : List UInt8) (hs : s.length = 64) : ∀ l : List (Nat × List UInt8), (∀ q ∈ l, q.1 = 0 ∧ q.2.length = 64) → layAll s l = (l.getLast?.map (·.2)).getD s := by
  intro l
  induction l generalizing s with
  | nil => intro _; rfl
  | cons q l ih =>
    intro h
    have hq := h q (by simp)
    have e : layAll s (q :: l) = layAll (splice s (q.1 * 64) q.2) l := rfl
    rw [e, hq.1, Nat.zero_mul, splice_all _ _ (by rw [hs, hq.2]), ih _ hq.2 (fun q hq => h q (by simp [hq]))]
    cases l with
    | nil => rfl
    | cons a l => simp [List.getLast?_cons]

theorem Fresh.image {w w1 : World} {p : Nat} {D : Dk} (h : Fresh w p D w1) : Calls Try.prog 13 #[.pointer (some ⟨p, 0, none⟩)] w1 fun e w' => ∃ v, e = .returned v ∧ Bytes w' (fun _ => True) v D.image ∧ Below w1.heap.size w1 w' := by
  obtain ⟨F, h1, h2, h3⟩ := h
  refine (image_ok h1).mono ?_
  rintro e w' ⟨v, rfl, ho, hb, _⟩
  exact ⟨v, rfl, (Cells.own ho).mono (fun _ _ _ => trivial), hb⟩
theorem Fresh.pending {w w1 : World} {p : Nat} {D : Dk} (h : Fresh w p D w1) : Calls Try.prog 15 #[.pointer (some ⟨p, 0, none⟩)] w1 fun e w' => ∃ sa sc, e = .returned (.slice sa D.pend.length sc) ∧ Below w1.heap.size w1 w' := by
  obtain ⟨F, h1, h2, h3⟩ := h
  refine (pending_ok h1).mono ?_
  rintro e w' ⟨v, rfl, ho, hb⟩
  obtain ⟨sa, sc, rfl, _⟩ := Cells.shape (Cells.own ho)
  exact ⟨sa, sc, rfl, hb⟩

theorem secs_mem (ls : List ByteArray) (k : Nat) : ∀ q ∈ secs (ls.take k), q.1 = 0 ∧ q.2.length = 64 := by
  intro q hq
  obtain ⟨s, _, rfl⟩ := List.mem_map.1 hq
  exact ⟨rfl, sec_length _⟩
theorem now_eq (firm : ByteArray) (ls : List ByteArray) (k : Nat) (hk : k ≤ ls.length) : (overD firm ls k).image = sec (nowAt firm ls k).data.toList := by
  show layAll (sec firm.data.toList) (secs (ls.take k)) = _
  cases k with
  | zero => rfl
  | succ k =>
    have h : k < ls.length := hk
    rw [secs, List.take_succ_eq_append_getElem h, List.map_append, layAll_append]
    show layAll (layAll _ (secs _)) [(0, sec (ls[k]).data.toList)] = _
    have hl := layAll_length 1 (secs (ls.take k)) (sec firm.data.toList) (sec_length _) (fun q hq => ⟨by rw [(secs_mem ls k q hq).1]; omega, (secs_mem ls k q hq).2⟩)
    show splice _ (0 * 64) (sec (ls[k]).data.toList) = _
    rw [Nat.zero_mul, splice_all _ _ (by rw [hl, sec_length])]
    simp [nowAt, h]
theorem kept_secs (ls : List ByteArray) (ks : List Bool) : ∀ k, k ≤ ls.length → ∀ q ∈ kept (secs (ls.take k)) ks, q.1 = 0 ∧ q.2.length = 64 := by
  intro k hk q hq
  refine secs_mem ls k q ?_
  generalize secs (ls.take k) = l at hq
  induction l generalizing ks with
  | nil => simp [kept] at hq
  | cons x l ih =>
    cases ks with
    | nil => simp [kept] at hq
    | cons b bs =>
      simp only [kept] at hq
      split at hq
      · rcases List.mem_cons.1 hq with rfl | hq
        · simp
        · exact List.mem_cons_of_mem _ (ih bs hq)
      · exact List.mem_cons_of_mem _ (ih bs hq)
theorem want_eq (firm : ByteArray) (ls : List ByteArray) (ks : List Bool) (k : Nat) (hk : k ≤ ls.length) : ((overD firm ls k).fall ks).image = sec (wantAt firm ls ks k).data.toList := by
  show layAll (sec firm.data.toList) (kept (secs (ls.take k)) ks) = _
  induction k with
  | zero => rfl
  | succ k ih =>
    have h : k < ls.length := hk
    have hs : (secs ls).length = ls.length := by simp [secs]
    have e : ∀ j, secs (ls.take j) = (secs ls).take j := fun j => by simp [secs, List.map_take]
    rw [e, kept_snoc (secs ls) ks k (by omega), ← e]
    have hl := layAll_length 1 (kept (secs (ls.take k)) ks) (sec firm.data.toList) (sec_length _) (fun q hq => ⟨by rw [(kept_secs ls ks k (by omega) q hq).1]; omega, (kept_secs ls ks k (by omega) q hq).2⟩)
    rw [layAll_append]
    cases hb : ks[k]?.getD false with
    | false =>
      simp only [wantAt, hb]
      exact ih (by omega)
    | true =>
      simp only [wantAt, hb, if_true]
      have e2 : (secs ls)[k] = (0, sec (ls[k]).data.toList) := by simp [secs]
      rw [e2]
      show splice _ (0 * 64) (sec (ls[k]).data.toList) = _
      rw [Nat.zero_mul, splice_all _ _ (by rw [hl, sec_length])]
      simp [h]

set_option maxRecDepth 100000 in
set_option maxHeartbeats 4000000 in
theorem over_ok {w : World} {S T : Nat → Prop} {firm : ByteArray} {la ka : Option Addr} {ln lc kn kc : Nat} {ls : List ByteArray} {ks : List Bool} (hl : Cells w S (.slice la ln lc) ln 1 (ls.map .string)) (hk : Cells w T (.slice ka kn kc) kn 1 (ks.map .bool)) :
    Calls Try.prog 5 #[.string firm, .slice la ln lc, .slice ka kn kc] w fun e w' => e = .returned (.bool true) ∧ Below w.heap.size w w' := by
  have HA := Lib.hid (awake13_ok w)
  have hlm : ln ≤ maxLen := by obtain ⟨_, _, hv, h1, h2⟩ := Cells.shape hl; cases hv; omega
  have hkm : kn ≤ maxLen := by obtain ⟨_, _, hv, h1, h2⟩ := Cells.shape hk; cases hv; omega
  have hll : ls.length = ln := by have := hl.1; simpa using this
  have hkl : ks.length = kn := by have := hk.1; simpa using this
  have HL := Lib.hid hl
  have HK := Lib.hid hk
  have HLL := Lib.hid hll
  have HKL := Lib.hid hkl
  clear hl hk hll hkl
  unfold maxLen at hlm hkm
  by_cases hbig : 60 < firm.size ∨ 20 < ln ∨ 30 < kn
  · go_enter Try.func5, Try.ntmps5
    go_wp2_with (first | (go_at_call 11; with_reducible refine HA.out.mono ?_; rintro e w' ⟨rfl, hb⟩))
    all_goals go_ret
    all_goals exact ⟨rfl, by assumption⟩
  · have hf60 : firm.size ≤ 60 := by omega
    have hl20 : ln ≤ 20 := by omega
    have hk30 : kn ≤ 30 := by omega
    clear hbig
    go_enter Try.func5, Try.ntmps5
    go_wp2_with fail
    refine (Fresh.new 1 (by omega) (by omega) _).mono ?_
    rintro e w1 ⟨p, rfl, hf⟩
    have HF := Lib.hid hf
    clear hf
    go_wp2_with fail
    refine (sector_ok _ _).mono ?_
    rintro e w2 ⟨rfl, hs, hb⟩
    have HC := Lib.hid (HF.out.put hb ⟨rfl, rfl⟩ (by simp [Dk.new]) 0 (by simp [Dk.new, Dk.size]) hs (fun k hk => by omega) (sec_length _))
    clear hs hb HF
    go_wp2_with fail
    refine HC.out.mono ?_
    rintro e w3 ⟨rfl, hf⟩
    have HC := Lib.hid (hf.flush ⟨rfl, rfl⟩)
    clear hf
    go_wp2_with fail
    refine HC.out.mono ?_
    rintro e w4 ⟨rfl, hf⟩
    have hf0 : Fresh w p (overD firm ls 0) w4 := by
      refine cast (congrArg (fun D => Fresh w p D w4) ?_) hf
      simp only [overD, List.take_zero, Dk.new, Dk.image, layAll]
      congr 1
      exact splice_all _ _ (by simp [sec_length])
    have HF4 := Lib.hid hf0
    clear hf hf0 HC
    go_wp2_with fail
    go_loopw [9, 10, 11] (fun nv wv i wr => ∃ k : Nat, k ≤ ln ∧ i = .int .i64 k ∧ nv = .string (nowAt firm ls k) ∧ wv = .string (wantAt firm ls ks k) ∧ Hid (Fresh w p (overD firm ls k) wr))
      (fun _ _ i _ => ln - (intOf i).toNat)
    case atStart => exact ⟨0, Nat.zero_le _, rfl, rfl, rfl, HF4.out⟩
    case round =>
      obtain ⟨k, hk, rfl, rfl, rfl, HFR⟩ := hrel
      by_cases hlt : k < ln
      · obtain ⟨lb, lo, _, hlv, _, _, _, hlbl, hlc⟩ := HL.out.at (by omega)
        cases hlv
        have hkl : k < ls.length := by rw [HLL.out]; exact hlt
        have hbe := HFR.out.below
        have hcw : w.cell? ⟨lb, lo + k, none⟩ = some (.string ls[k]) := hlc k _ (by simp [hkl])
        obtain ⟨sk, hsk⟩ : ∃ sk, sk = ls[k] := ⟨_, rfl⟩
        rw [← hsk] at hcw
        have hce : wr.cell? ⟨lb, lo + k, none⟩ = some (.string sk) := (hbe.cell (p := ⟨lb, lo + k, none⟩) hlbl).trans hcw
        have HSK := Lib.hid hsk
        have HBE := Lib.hid hbe
        clear hsk hbe hlc
        by_cases h60 : 60 < sk.size
        · have HA2 := Lib.hid (awake13_ok wr)
          go_wp2_with (first | (go_at_call 11; with_reducible refine HA2.out.mono ?_; rintro e w' ⟨rfl, hb⟩))
          go_ret
          exact ⟨rfl, HBE.out.trans (hb.mono HBE.out.size)⟩
        · go_wp2_with fail
          refine (sector_ok _ _).mono ?_
          rintro e w5 ⟨rfl, hs, hb⟩
          have HC := Lib.hid (HFR.out.put hb ⟨rfl, rfl⟩ (by simp [overD, secs]; omega) 0 (by simp [overD, Dk.size, sec_length]) hs (fun k hk => by omega) (sec_length _))
          clear hs hb
          go_wp2_with fail
          refine HC.out.mono ?_
          rintro e w6 ⟨rfl, hf⟩
          have hf1 : Fresh w p (overD firm ls (k + 1)) w6 := by
            refine cast (congrArg (fun D => Fresh w p D w6) ?_) hf
            simp only [overD, secs, List.take_succ_eq_append_getElem hkl, List.map_append, List.map_cons, List.map_nil, HSK.out]
          have HF6 := Lib.hid hf1
          clear hf hf1 HC
          have hb6 := HF6.out.below
          have hce6 : w6.cell? ⟨lb, lo + k, none⟩ = some (.string sk) := (hb6.cell (p := ⟨lb, lo + k, none⟩) hlbl).trans hcw
          have hlb6 : lb < w6.heap.size := Nat.lt_of_lt_of_le hlbl hb6.size
          have hnow : nowAt firm ls (k + 1) = sk := by simp [nowAt, hkl, HSK.out]
          by_cases hkk : k < kn
          · obtain ⟨kb, ko, _, hkv, _, _, _, hkbl, hkc⟩ := HK.out.at (by omega)
            cases hkv
            have hkk2 : k < ks.length := by rw [HKL.out]; exact hkk
            have hke : w6.cell? ⟨kb, ko + k, none⟩ = some (.bool ks[k]) := (hb6.cell (p := ⟨kb, ko + k, none⟩) hkbl).trans (hkc k _ (by simp [hkk2]))
            have hkb6 : kb < w6.heap.size := Nat.lt_of_lt_of_le hkbl hb6.size
            clear hkc hb6
            cases hkv : ks[k] with
            | true =>
              rw [hkv] at hke
              have hw : wantAt firm ls ks (k + 1) = sk := by simp [wantAt, hkl, hkk2, hkv, HSK.out]
              have HW := Lib.hid hw
              have HNOW := Lib.hid hnow
              clear hw hnow hkv
              go_wp2
              go_roundw
              case rel => exact ⟨k + 1, by omega, by go_num, by rw [HNOW.out], by rw [HW.out], HF6.out⟩
              case measure => simp [intOf]; omega
            | false =>
              rw [hkv] at hke
              have hw : wantAt firm ls ks (k + 1) = wantAt firm ls ks k := by simp [wantAt, hkk2, hkv]
              have HW := Lib.hid hw
              have HNOW := Lib.hid hnow
              clear hw hnow hkv
              go_wp2
              go_roundw
              case rel => exact ⟨k + 1, by omega, by go_num, by rw [HNOW.out], by rw [HW.out], HF6.out⟩
              case measure => simp [intOf]; omega
          · have hw : wantAt firm ls ks (k + 1) = wantAt firm ls ks k := by
              have : ks[k]? = none := List.getElem?_eq_none (by rw [HKL.out]; omega)
              simp [wantAt, this]
            have HW := Lib.hid hw
            have HNOW := Lib.hid hnow
            clear hw hnow hb6
            go_wp2
            go_roundw
            case rel => exact ⟨k + 1, by omega, by go_num, by rw [HNOW.out], by rw [HW.out], HF6.out⟩
            case measure => simp [intOf]; omega
      · have hbe := HFR.out.below
        have HC := Lib.hid (HFR.out.fall (ks := ks) (HK.out.keep hbe.size (fun j _ hj => hbe.block j hj)))
        obtain rfl : k = ln := by omega
        clear hbe
        go_wp2_with fail
        refine HC.out.mono ?_
        rintro e w5 ⟨q, rfl, hp, hq⟩
        have HP := Lib.hid hp
        have HQ := Lib.hid hq
        clear hp hq HC HFR
        have hnow : (overD firm ls k).image = sec (nowAt firm ls k).data.toList := now_eq firm ls k (by rw [HLL.out]; exact Nat.le_refl _)
        have hwant : ((overD firm ls k).fall ks).image = sec (wantAt firm ls ks k).data.toList := want_eq firm ls ks k (by rw [HLL.out]; exact Nat.le_refl _)
        have hpl : (overD firm ls k).pend.length = k := by simp [overD, secs]; have := HLL.out; omega
        have HNOW := Lib.hid hnow
        have HWANT := Lib.hid hwant
        have HPL := Lib.hid hpl
        clear hnow hwant hpl
        obtain ⟨nw, hnw⟩ : ∃ nw, nw = nowAt firm ls k := ⟨_, rfl⟩
        obtain ⟨wt, hwt⟩ : ∃ wt, wt = wantAt firm ls ks k := ⟨_, rfl⟩
        rw [← hnw] at HNOW
        rw [← hwt] at HWANT
        rw [← hnw, ← hwt]
        clear hnw hwt
        go_wp2_with fail
        have hdr : ∀ w3, Chg No w5.drew w3 → Chg No w5 w3 := fun w3 h => ⟨h.os, h.tape, h.output, h.size, h.block⟩
        refine RA.region (fun a b => Chg No a b) (· = ·) [1, 3, 1, 1, 3, 1, 1, 1, 1, 3, 1, 1, 3, 1, 1, 1, 1, 1, 3, 1, 1, 1, 1, 1, 1, 4, 1, 1] (fun _ _ _ => True) (fun _ => True) (by kernel_rfl) (Chg.refl _ _) (fun _ _ h => h ▸ Chg.refl _ _) (fun _ _ _ h k => h.trans k) (fun _ _ h k => h ▸ k) trivial (by kernel_rfl) ?_
        intro c
        repeat (first | refine RA.mv (by rfl) (by rfl) (by rfl) ?_ | refine RA.as (by rfl) (by rfl) (by rfl) ?_ | refine RA.pt (by rfl) (by rfl) (by rfl) (by rfl) ?_ | refine RA.pf (by rfl) (by rfl) (by rfl) (by rfl) ?_)
        refine RA.qc (P := Try.prog) [_] (fun v w3 => Bytes w3 (fun _ => True) v (sec nw.data.toList)) (fun _ _ => True) (fun _ _ => by go_simp) (by rfl) (by rfl) (by rfl) (by kernel_rfl) (fun v a b h h2 => h2.chg h (fun _ _ _ => id)) (fun _ _ _ _ h => h) rfl (fun w3 hp hH => (HP.out.keep (hdr _ hp.1).no).image.mono (by rintro e w4 ⟨iv, rfl, h1, h2⟩; exact ⟨_, rfl, Chg.of_below h2 _, by rw [← HNOW.out]; exact h1, trivial⟩)) (fun u => ?_)
        refine RA.cv (by rfl) (by rfl) (by rfl) (fun w3 hp => by exact run_string _ _ _ _ Try.underlying22 Try.underlying5 Try.underlying9 _ _ _ (hp.fact 0 rfl (by kernel_rfl))) ?_
        repeat (first | refine RA.mv (by rfl) (by rfl) (by rfl) ?_ | refine RA.as (by rfl) (by rfl) (by rfl) ?_ | refine RA.pt (by rfl) (by rfl) (by rfl) (by rfl) ?_ | refine RA.pf (by rfl) (by rfl) (by rfl) (by rfl) ?_)
        refine RA.qc (P := Try.prog) [_] (fun v w3 => Bytes w3 (fun _ => True) v (sec nw.data.toList)) (fun _ _ => True) (fun _ _ => by go_simp) (by rfl) (by rfl) (by rfl) (by kernel_rfl) (fun v a b h h2 => h2.chg h (fun _ _ _ => id)) (fun _ _ _ _ h => h) rfl (fun w3 hp hH => (sector_ok _ _).mono (by rintro e w4 ⟨rfl, h1, h2⟩; exact ⟨_, rfl, Chg.of_below h2 _, h1.mono (fun _ _ _ => trivial), trivial⟩)) (fun u => ?_)
        refine RA.cv (by rfl) (by rfl) (by rfl) (fun w3 hp => by exact run_string _ _ _ _ Try.underlying22 Try.underlying5 Try.underlying9 _ _ _ (hp.fact 0 rfl (by kernel_rfl))) ?_
        refine RA.es true (by rfl) (by rfl) (by rfl) (by rfl) (by simp) ?_
        repeat (first | refine RA.mv (by rfl) (by rfl) (by rfl) ?_ | refine RA.as (by rfl) (by rfl) (by rfl) ?_ | refine RA.pt (by rfl) (by rfl) (by rfl) (by rfl) ?_ | refine RA.pf (by rfl) (by rfl) (by rfl) (by rfl) ?_)
        refine RA.qc (P := Try.prog) [_] (fun v w3 => Bytes w3 (fun _ => True) v (sec wt.data.toList)) (fun _ _ => True) (fun _ _ => by go_simp) (by rfl) (by rfl) (by rfl) (by kernel_rfl) (fun v a b h h2 => h2.chg h (fun _ _ _ => id)) (fun _ _ _ _ h => h) rfl (fun w3 hp hH => (HQ.out.keep (hdr _ hp.1).no).image.mono (by rintro e w4 ⟨iv, rfl, h1, h2⟩; exact ⟨_, rfl, Chg.of_below h2 _, by rw [← HWANT.out]; exact h1, trivial⟩)) (fun u => ?_)
        refine RA.cv (by rfl) (by rfl) (by rfl) (fun w3 hp => by exact run_string _ _ _ _ Try.underlying22 Try.underlying5 Try.underlying9 _ _ _ (hp.fact 0 rfl (by kernel_rfl))) ?_
        repeat (first | refine RA.mv (by rfl) (by rfl) (by rfl) ?_ | refine RA.as (by rfl) (by rfl) (by rfl) ?_ | refine RA.pt (by rfl) (by rfl) (by rfl) (by rfl) ?_ | refine RA.pf (by rfl) (by rfl) (by rfl) (by rfl) ?_)
        refine RA.qc (P := Try.prog) [_] (fun v w3 => Bytes w3 (fun _ => True) v (sec wt.data.toList)) (fun _ _ => True) (fun _ _ => by go_simp) (by rfl) (by rfl) (by rfl) (by kernel_rfl) (fun v a b h h2 => h2.chg h (fun _ _ _ => id)) (fun _ _ _ _ h => h) rfl (fun w3 hp hH => (sector_ok _ _).mono (by rintro e w4 ⟨rfl, h1, h2⟩; exact ⟨_, rfl, Chg.of_below h2 _, h1.mono (fun _ _ _ => trivial), trivial⟩)) (fun u => ?_)
        refine RA.cv (by rfl) (by rfl) (by rfl) (fun w3 hp => by exact run_string _ _ _ _ Try.underlying22 Try.underlying5 Try.underlying9 _ _ _ (hp.fact 0 rfl (by kernel_rfl))) ?_
        refine RA.es true (by rfl) (by rfl) (by rfl) (by rfl) (by simp) ?_
        repeat (first | refine RA.mv (by rfl) (by rfl) (by rfl) ?_ | refine RA.as (by rfl) (by rfl) (by rfl) ?_ | refine RA.pt (by rfl) (by rfl) (by rfl) (by rfl) ?_ | refine RA.pf (by rfl) (by rfl) (by rfl) (by rfl) ?_)
        refine RA.qc (P := Try.prog) [_] (fun v w3 => ∃ sa sc, v = .slice sa k sc) (fun _ _ => True) (fun _ _ => by go_simp) (by rfl) (by rfl) (by rfl) (by kernel_rfl) (fun v a b h h2 => h2) (fun _ _ _ _ h => h) rfl (fun w3 hp hH => (HP.out.keep (hdr _ hp.1).no).pending.mono (by rintro e w4 ⟨sa, sc, rfl, h2⟩; exact ⟨_, rfl, Chg.of_below h2 _, by rw [HPL.out]; exact ⟨sa, sc, rfl⟩, trivial⟩)) (fun u => ?_)
        refine RA.ln (by rfl) (by rfl) (by rfl) (y' := .int .i64 k) (fun w3 hp => by
          obtain ⟨sa, sc, e⟩ := hp.fact 0 rfl (by kernel_rfl)
          subst e
          show (Builtin.len_ _ _ _).run Try.prog w3 = _
          go_simp) ?_
        repeat (first | refine RA.mv (by rfl) (by rfl) (by rfl) ?_ | refine RA.as (by rfl) (by rfl) (by rfl) ?_ | refine RA.pt (by rfl) (by rfl) (by rfl) (by rfl) ?_ | refine RA.pf (by rfl) (by rfl) (by rfl) (by rfl) ?_)
        refine RA.ln (by rfl) (by rfl) (by rfl) (y' := .int .i64 k) (fun w3 hp => by
          show (Builtin.len_ _ _ _).run Try.prog w3 = _
          go_simp) ?_
        refine RA.eq true (by rfl) (by rfl) (by rfl) (by rfl) (by simp) ?_
        repeat (first | refine RA.mv (by rfl) (by rfl) (by rfl) ?_ | refine RA.as (by rfl) (by rfl) (by rfl) ?_ | refine RA.pt (by rfl) (by rfl) (by rfl) (by rfl) ?_ | refine RA.pf (by rfl) (by rfl) (by rfl) (by rfl) ?_)
        refine RA.kc (P := Try.prog) [] (.bool true) (fun _ => True) (fun _ _ => by go_simp) (by rfl) (by rfl) (by rfl) (by kernel_rfl) (fun _ _ _ h => h) rfl (fun w3 hp hH => (awake13_ok _).mono (by rintro e w4 ⟨rfl, h2⟩; exact ⟨rfl, Chg.of_below h2 _, trivial⟩)) ?_
        repeat (first | refine RA.mv (by rfl) (by rfl) (by rfl) ?_ | refine RA.as (by rfl) (by rfl) (by rfl) ?_ | refine RA.pt (by rfl) (by rfl) (by rfl) (by rfl) ?_ | refine RA.pf (by rfl) (by rfl) (by rfl) (by rfl) ?_)
        refine RA.RA.done rfl (fun w9 hR hF hH => ?_)
        clear hF hH
        simp only [RA.put, List.foldr_cons, List.foldr_nil, c, Act.put, List.setIfInBounds_toArray, List.set_cons_succ, List.set_cons_zero]
        have hfin := HP.out.below.trans ((hdr _ hR).no.mono HP.out.below.size)
        go_wp2_with fail
        go_ret
        exact ⟨rfl, hfin⟩
end Go.Proofs.Ytifocofpplhacaa.D

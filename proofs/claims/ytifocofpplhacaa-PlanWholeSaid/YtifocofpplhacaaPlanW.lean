/-
  PlanWhole. No condition beyond what each theorem names.
-/
import Derived.Test.YtifocofpplhacaaPlanF
import Derived.Test.YtifocofpplhacaaRegionB
import Derived.Test.YtifocofpplhacaaDiskF
import Derived.Test.YtifocofpplhacaaBaseB
namespace Go.Proofs.Ytifocofpplhacaa.P
open Go Go.RowKit K

theorem RowA.keepB {w w1 : World} {g cap : Nat} {l : List Ar} (h : RowA w g cap l) (hb : Below w.heap.size w w1) : RowA w1 g cap l := h.keep (hb.block g h.lt)
theorem RowA.ld {w : World} {g cap : Nat} {l : List Ar} (h : RowA w g cap l) (k : Nat) (hk : k < l.length) (x y : Int) (hxy : l[k] = (x, y)) : (Instr.loadAt 46 (.pointer (some ⟨g, k * 2, none⟩))).run Try.prog w = .ok (.agg #[.int .i64 x, .int .i64 y]) w := by
  obtain ⟨h0, h1⟩ := h.get k hk
  rw [hxy] at h0 h1
  go_simp
theorem RowA.of_owns {w : World} {base : Nat} {v : Value} {n : Nat} {l : List Ar} (h : w.ownsRow base 46 2 v n (arCells l)) (hn : 0 < n) : ∃ g cap, v = .slice (some ⟨g, 0, none⟩) n cap ∧ base ≤ g ∧ n = l.length ∧ RowA w g cap l := by
  have hl := h.1
  rw [arCells_length] at hl
  rcases h.2 with ⟨_, h0⟩ | ⟨g, cap, cur, rfl, hb, hg, h1, h2, h3, h4⟩
  · omega
  · have e : n = l.length := by omega
    exact ⟨g, cap, rfl, hb, e, cur, hg, by omega, h2, h3, by rw [← e]; exact h4⟩
theorem RowA.owns {w : World} {base g cap : Nat} {l : List Ar} (h : RowA w g cap l) (hb : base ≤ g) : w.ownsRow base 46 2 (.slice (some ⟨g, 0, none⟩) l.length cap) l.length (arCells l) := by
  obtain ⟨cur, h1, h2, h3, h4, h5⟩ := h
  exact ⟨arCells_length l, .inr ⟨g, cap, cur, rfl, hb, h1, h2, h3, h4, h5⟩⟩

/-- the four slots of a disk, and its volume's two parts -/
def sixA (n m d : Int) : List Ar := [(0, 4), (4, 4), (n - 8, 4), (n - 4, 4), (8, m), (8 + m, d)]
theorem six_over {n m d : Int} (h : n = 16 + m + d) (hm : 1 ≤ m) (hd : 1 ≤ d) : ∀ i j, (hi : i < 6) → (hj : j < i) → overB ((sixA n m d)[i]'hi) ((sixA n m d)[j]'(Nat.lt_trans hj hi)) = false := by
  intro i j hi hj
  have e : ∀ a b : Ar, (¬ (0 < b.2 ∧ 0 < a.2 ∧ a.1 ≤ b.1 ∧ b.1 < a.1 + a.2) ∧ ¬ (0 < a.2 ∧ 0 < b.2 ∧ b.1 ≤ a.1 ∧ a.1 < b.1 + b.2)) → overB a b = false := by
    intro a b hab
    simp [overB, hasB]
    omega
  apply e
  rcases (by omega : i = 1 ∨ i = 2 ∨ i = 3 ∨ i = 4 ∨ i = 5) with rfl | rfl | rfl | rfl | rfl
  · rcases (by omega : j = 0) with rfl
    simp [sixA]
  · rcases (by omega : j = 0 ∨ j = 1) with rfl | rfl <;> simp [sixA] <;> omega
  · rcases (by omega : j = 0 ∨ j = 1 ∨ j = 2) with rfl | rfl | rfl <;> simp [sixA] <;> omega
  · rcases (by omega : j = 0 ∨ j = 1 ∨ j = 2 ∨ j = 3) with rfl | rfl | rfl | rfl <;> simp [sixA] <;> omega
  · rcases (by omega : j = 0 ∨ j = 1 ∨ j = 2 ∨ j = 3 ∨ j = 4) with rfl | rfl | rfl | rfl | rfl <;> simp [sixA] <;> omega
theorem six_bd {n m d : Int} (h : n = 16 + m + d) (hn : n ≤ 65536) (hm : 1 ≤ m) (hd : 1 ≤ d) : ∀ a ∈ sixA n m d, 0 ≤ a.1 ∧ a.1 ≤ 65536 ∧ 1 ≤ a.2 ∧ a.2 ≤ 65536 ∧ a.1 + a.2 ≤ n := by
  intro a ha
  simp only [sixA, List.mem_cons, List.not_mem_nil, or_false] at ha
  rcases ha with rfl | rfl | rfl | rfl | rfl | rfl <;> simp only [] <;> omega
theorem six_cov {n m d : Int} (h : n = 16 + m + d) (hn : n ≤ 65536) (hm : 1 ≤ m) (hd : 1 ≤ d) (e : List Ar) : ((cov (sixA n m d ++ e) n.toNat : Nat) : Int) = n := by
  have h1 := countP_span 0 n (Int.le_refl _) n.toNat
  have e1 : cov (sixA n m d ++ e) n.toNat = (List.range n.toNat).countP (fun i : Nat => decide (0 ≤ (i : Int) ∧ (i : Int) < n)) := by
    refine List.countP_congr fun i hi => ?_
    have hi' : i < n.toNat := by simpa using hi
    have hcov : (sixA n m d).any (fun a => countsB a && inB a i) = true := by
      simp only [sixA, List.any_cons, List.any_nil, Bool.or_false, Bool.or_eq_true, Bool.and_eq_true, countsB, inB, decide_eq_true_eq]
      omega
    have hr : (0 ≤ (i : Int) ∧ (i : Int) < n) := by omega
    simp only [List.any_append, hcov, Bool.true_or, hr, and_self, decide_true]
  rw [e1, h1]
  omega
def sumA (l : List Ar) : Int := (l.map (·.2)).foldr (· + ·) 0
theorem sumA_snoc (l : List Ar) (k : Nat) (h : k < l.length) : sumA (l.take (k + 1)) = sumA (l.take k) + (l[k]).2 := by
  rw [List.take_succ_eq_append_getElem h]
  generalize l.take k = t
  induction t with
  | nil => simp [sumA]
  | cons a t ih =>
    simp only [sumA, List.map_cons, List.foldr_cons, List.cons_append] at ih ⊢
    rw [ih]
    omega
theorem sumA_bd (l : List Ar) (h : ∀ a ∈ l, 1 ≤ a.2 ∧ a.2 ≤ 65536) : 0 ≤ sumA l ∧ sumA l ≤ l.length * 65536 := by
  induction l with
  | nil => simp [sumA]
  | cons a l ih =>
    have h1 := h a (by simp)
    have h2 := ih (fun b hb => h b (by simp [hb]))
    simp only [sumA, List.map_cons, List.foldr_cons, List.length_cons] at h2 ⊢
    push_cast
    omega
def timesA (l : List Ar) (t : Int) : Nat := l.countP fun a => hasB a t
theorem timesA_snoc (l : List Ar) (t : Int) (k : Nat) (h : k < l.length) : timesA (l.take (k + 1)) t = timesA (l.take k) t + (if hasB l[k] t then 1 else 0) := by
  rw [List.take_succ_eq_append_getElem h]
  simp only [timesA, List.countP_append, List.countP_cons, List.countP_nil, Nat.zero_add]
theorem timesA_le (l : List Ar) (t : Int) : timesA l t ≤ l.length := List.countP_le_length
theorem six_sum {n m d : Int} (h : n = 16 + m + d) : sumA (sixA n m d) = n := by
  simp [sumA, sixA]
  omega
theorem six_times {n m d t : Int} (h : n = 16 + m + d) (hm : 1 ≤ m) (hd : 1 ≤ d) (ht : 0 ≤ t ∧ t < n) : timesA (sixA n m d) t = 1 := by
  simp only [timesA, sixA, List.countP_cons, List.countP_nil, hasB, decide_eq_true_eq]
  rcases (by omega : t < 4 ∨ (4 ≤ t ∧ t < 8) ∨ (8 ≤ t ∧ t < 8 + m) ∨ (8 + m ≤ t ∧ t < n - 8) ∨ (n - 8 ≤ t ∧ t < n - 4) ∨ n - 4 ≤ t) with hh | hh | hh | hh | hh | hh
  all_goals
    repeat (first | rw [if_pos (by omega)] | rw [if_neg (by omega)])
def slot4 (n : Int) : List Ar := [(0, 4), (4, 4), (n - 8, 4), (n - 4, 4)]
theorem slot4_at {n : Int} (hn : 96 ≤ n ∧ n ≤ 65536) (k : Nat) (hk : k < 4) : slotA n k = (slot4 n)[k]'hk ∧ slotB n k = true := by
  have e : slotB n k = true := by simp [slotB, mayB]; omega
  refine ⟨?_, e⟩
  simp only [slotA, e, if_true]
  rcases (by omega : k = 0 ∨ k = 1 ∨ k = 2 ∨ k = 3) with rfl | rfl | rfl | rfl <;> simp [slot4]
theorem arCells_snoc (l : List Ar) (a : Ar) : arCells (l ++ [a]) = arCells l ++ arCells [a] := by simp [arCells]
theorem arCells_app (l m : List Ar) : arCells (l ++ m) = arCells l ++ arCells m := by simp [arCells]

set_option maxRecDepth 100000 in
set_option maxHeartbeats 16000000 in
theorem planWhole_ok (n at' : Int) (w : World) : Calls Try.prog 7 #[.int .i64 n, .int .i64 at'] w fun e w' => e = .returned (.bool true) ∧ Below w.heap.size w w' := by
  by_cases hbig : n < 96 ∨ 65536 < n
  · have HA := Lib.hid (awake14_ok w)
    rcases (by omega : n < 96 ∨ (¬ n < 96 ∧ 65536 < n)) with h1 | ⟨h1, h2⟩
    all_goals
      clear hbig
      go_enter Try.func7, Try.ntmps7
      go_wp2_with fail
      refine HA.out.mono ?_
      rintro e w' ⟨rfl, hb⟩
      go_wp2
      go_ret
      exact ⟨rfl, hb⟩
  · obtain ⟨h1, h2⟩ : 96 ≤ n ∧ n ≤ 65536 := by omega
    clear hbig
    have hzc : (Value.agg #[.int .i64 0, .int .i64 0]).cells.size = 2 := rfl
    go_enter Try.func7, Try.ntmps7
    go_wp2_with fail
    go_loopw [5, 6] (fun v i wr => ∃ k : Nat, k ≤ 4 ∧ i = .int .i64 k ∧ Hid (Below w.heap.size w wr ∧ wr.ownsRow w.heap.size 46 2 v k (arCells ((slot4 n).take k)))) (fun _ i _ => 4 - (intOf i).toNat)
    case atStart => exact ⟨0, by omega, rfl, Below.refl _ _, World.ownsRow_nil _ _ _ _⟩
    case round =>
      obtain ⟨k, hk, rfl, HH⟩ := hrel
      by_cases hlt : k < 4
      · obtain ⟨hs1, hs2⟩ := slot4_at ⟨h1, h2⟩ k hlt
        have htk : (slot4 n).take (k + 1) = (slot4 n).take k ++ [(slot4 n)[k]'hlt] := List.take_succ_eq_append_getElem hlt
        have h4k : ((slot4 n)[k]'hlt).2 = 4 := by
          rcases (by omega : k = 0 ∨ k = 1 ∨ k = 2 ∨ k = 3) with rfl | rfl | rfl | rfl <;> rfl
        obtain ⟨⟨sf, sc⟩, hsa⟩ : ∃ a, a = (slot4 n)[k]'hlt := ⟨_, rfl⟩
        rw [← hsa] at hs1 htk h4k
        obtain rfl : sc = 4 := h4k
        have S1 := Lib.hid hs1
        have S2 := Lib.hid hs2
        have TK := Lib.hid htk
        clear hs1 hs2 htk hsa
        go_wp2_with fail
        refine (slot_at S1.out S2.out _).mono ?_
        rintro e w1 ⟨rfl, hb⟩
        have hb1 := HH.out.1.trans (hb.mono HH.out.1.size)
        have ho1 := owns_keep HH.out.2 (fun g hg => hb.block g (HH.out.2.lt g hg).2)
        have hb2 := (hb1.alloc hb1.size (.cells #[.int .i64 sf, .int .i64 4] 46)).alloc (by have := hb1.size; simp; omega) (.cells #[.int .i64 sf, .int .i64 4] 46)
        have ho2 : ((w1.alloc (.cells #[.int .i64 sf, .int .i64 4] 46)).alloc (.cells #[.int .i64 sf, .int .i64 4] 46)).ownsRow w.heap.size 46 2 _ _ _ := owns_keep ho1 (fun g hg => (Below.heap_alloc _ _ _ (by have := (ho1.lt g hg).2; simp; omega)).trans (Below.heap_alloc _ _ _ (ho1.lt g hg).2))
        have hcb := cells_areas (w1.alloc (.cells #[.int .i64 sf, .int .i64 4] 46)) [(sf, 4)] (by simp)
        have HB2 := Lib.hid hb2
        have HO2 := Lib.hid ho2
        have HCB := Lib.hid hcb
        have HGE : Hid (∀ g, u5.ownBlock = some g → w.heap.size ≤ g) := fun g hg => (ho1.lt g hg).1
        clear hb hb1 ho1 hb2 ho2 hcb
        simp only [World.size_alloc] at HCB
        go_wp2_with (at_builtin; refine K.append ?_ (.tmp 42) (.tmp 44) 59 ?_ w.heap.size 46 _ 2 16 Try.underlying59 infoArea hzc (by decide) _ k _ ?_ HO2.out _ _ 1 (arCells [(sf, 4)]) ?_ HCB.out (arCells_one _) (by unfold maxLen; omega) (by omega) ?_ ?_)
        · rfl
        · rfl
        · rfl
        · rfl
        · have := HB2.out.size; simp at this ⊢; omega
        intro v' w2 x1 x2 x3 x4
        have X1 := Lib.hid x1
        have hb3 := HB2.out
        have HB3 : Hid (Below w.heap.size w w2) := ((Chg.of_below hb3 No).grown x2 (fun g hg hl => absurd (HGE.out g hg) (by omega))).no
        clear x1 x2 x3 x4 hb3
        go_wp2
        go_roundw
        case rel =>
          refine ⟨k + 1, by omega, by go_num, HB3.out, ?_⟩
          rw [TK.out, arCells_snoc]
          exact X1.out
        case measure => simp [intOf]; omega
      · obtain rfl : k = 4 := by omega
        have ho : wr.ownsRow w.heap.size 46 2 u5 4 (arCells (slot4 n)) := HH.out.2
        obtain ⟨d, hd⟩ : ∃ d, d = (n - 16) / 2 := ⟨_, rfl⟩
        obtain ⟨m, hm⟩ : ∃ m, m = n - 16 - d := ⟨_, rfl⟩
        have hm2 : 40 ≤ d ∧ d ≤ 40000 ∧ 40 ≤ m ∧ m ≤ 40000 := by omega
        have HW := Lib.hid (show wholeA n = (8, n - 16) ∧ mayB n = true from ⟨by simp [wholeA, mayB]; omega, by simp [mayB]; omega⟩)
        have HS := Lib.hid (show metaA (8, n - 16) = (8, m) ∧ dataA (8, n - 16) = (8 + m, d) ∧ splitB (8, n - 16) = true from by
          have e : splitB (8, n - 16) = true := by simp [splitB]; omega
          refine ⟨?_, ?_, e⟩
          · simp only [metaA, e, if_true]; rw [hm, hd]
          · simp only [dataA, e, if_true]; rw [hm, hd])
        have HN := Lib.hid (show n = 16 + m + d by omega)
        have B := Lib.hid HH.out.1
        obtain ⟨lg, lc, rfl, hlg, -, hrow⟩ := RowA.of_owns ho (by omega)
        have HR := Lib.hid hrow
        have hlc : 4 ≤ lc ∧ lc ≤ maxLen := by obtain ⟨cur, _, q1, q2, _⟩ := hrow; exact ⟨q1, q2⟩
        unfold maxLen at hlc
        clear hd hm ho HH hk hlt hrow
        go_wp2_with fail
        refine (whole_at HW.out.1 HW.out.2 _).mono ?_
        rintro e w1 ⟨rfl, hb⟩
        replace B := Lib.hid (B.out.trans (hb.mono B.out.size))
        replace HR := Lib.hid (HR.out.keepB hb)
        clear hb
        replace B := Lib.hid (B.out.alloc B.out.size (.cells #[.int .i64 (8), .int .i64 (n - 16)] 46))
        replace HR := Lib.hid (HR.out.keepB ((Below.refl _ _).alloc (Nat.le_refl _) (.cells #[.int .i64 (8), .int .i64 (n - 16)] 46)))
        have xp1 := box_new (w1) (8) (n - 16)
        have Xp1 := Lib.hid xp1
        clear xp1
        go_wp2_with fail
        obtain ⟨p1, hp1⟩ : ∃ p1, p1 = w1.heap.size := ⟨_, rfl⟩
        rw [← hp1] at Xp1 ⊢
        clear hp1
        generalize (w1).alloc (.cells #[.int .i64 (8), .int .i64 (n - 16)] 46) = W2 at *
        refine (split_at HS.out.1 HS.out.2.1 HS.out.2.2 _).mono ?_
        rintro e w3 ⟨rfl, hb⟩
        replace B := Lib.hid (B.out.trans (hb.mono B.out.size))
        replace Xp1 := Lib.hid (Xp1.out.keep hb)
        replace HR := Lib.hid (HR.out.keepB hb)
        clear hb
        replace B := Lib.hid (B.out.alloc B.out.size (.cells #[.int .i64 (8), .int .i64 (m)] 46))
        replace Xp1 := Lib.hid (Xp1.out.alloc (.cells #[.int .i64 (8), .int .i64 (m)] 46))
        replace HR := Lib.hid (HR.out.keepB ((Below.refl _ _).alloc (Nat.le_refl _) (.cells #[.int .i64 (8), .int .i64 (m)] 46)))
        have xp2 := box_new (w3) (8) (m)
        have Xp2 := Lib.hid xp2
        clear xp2
        replace B := Lib.hid (B.out.alloc B.out.size (.cells #[.int .i64 (8 + m), .int .i64 (d)] 46))
        replace Xp1 := Lib.hid (Xp1.out.alloc (.cells #[.int .i64 (8 + m), .int .i64 (d)] 46))
        replace Xp2 := Lib.hid (Xp2.out.alloc (.cells #[.int .i64 (8 + m), .int .i64 (d)] 46))
        replace HR := Lib.hid (HR.out.keepB ((Below.refl _ _).alloc (Nat.le_refl _) (.cells #[.int .i64 (8 + m), .int .i64 (d)] 46)))
        have xp3 := box_new ((w3).alloc (.cells #[.int .i64 (8), .int .i64 (m)] 46)) (8 + m) (d)
        simp only [World.size_alloc] at xp3
        have Xp3 := Lib.hid xp3
        clear xp3
        have HO := Lib.hid (HR.out.owns hlg)
        have hcb := cells_areas (((w3).alloc (.cells #[.int .i64 (8), .int .i64 (m)] 46)).alloc (.cells #[.int .i64 (8 + m), .int .i64 (d)] 46)) [(8, m), (8 + m, d)] (by simp)
        simp only [World.size_alloc] at hcb
        have HCB := Lib.hid hcb
        have ho3 : ((((w3).alloc (.cells #[.int .i64 (8), .int .i64 (m)] 46)).alloc (.cells #[.int .i64 (8 + m), .int .i64 (d)] 46)).alloc (.cells (arCells [(8, m), (8 + m, d)]).toArray 46)).ownsRow w.heap.size 46 2 (.slice (some ⟨lg, 0, none⟩) 4 lc) 4 (arCells (slot4 n)) := owns_keep HO.out (fun g hg => Below.heap_alloc _ _ _ (HO.out.lt g hg).2)
        have HO3 := Lib.hid ho3
        clear hcb ho3
        go_wp2_with (at_builtin; refine K.append ?_ (.tmp 63) (.tmp 66) 59 ?_ w.heap.size 46 _ 2 16 Try.underlying59 infoArea hzc (by decide) _ 4 _ ?_ HO3.out _ _ 2 (arCells [(8, m), (8 + m, d)]) ?_ HCB.out (arCells_one _) (by unfold maxLen; omega) (by omega) ?_ ?_)
        · rfl
        · rfl
        · rfl
        · rfl
        · have := B.out.size; simp at this ⊢; omega
        intro v' w5 x1 x2 x3 x4
        have hne : p1 ≠ lg := by
          rintro rfl
          obtain ⟨cur, q0, q1, _, q3, _⟩ := HR.out
          have e := Option.some.inj (q0.symm.trans Xp1.out)
          cases e
          simp at q3
          have := hlc.1
          omega
        have hxp := (x2.block p1 (by have := Xp1.out.lt; simp at this ⊢; omega) (fun e => hne (by cases e; rfl))).trans ((Xp1.out.alloc (.cells (arCells [(8, m), (8 + m, d)]).toArray 46)))
        replace Xp1 := Lib.hid hxp
        have hb5 : Below w.heap.size w w5 := ((Chg.of_below (B.out.alloc B.out.size (.cells (arCells [(8, m), (8 + m, d)]).toArray 46)) No).grown x2 (fun g hg hl => by simp [Value.ownBlock] at hg; omega)).no
        replace B := Lib.hid hb5
        rw [← arCells_app] at x1
        obtain ⟨g, c, rfl, hg, -, hrow⟩ := RowA.of_owns x1 (by omega)
        obtain ⟨L, hL⟩ : ∃ L, L = sixA n m d := ⟨_, rfl⟩
        have hrow2 : RowA w5 g c L := by rw [hL]; exact hrow
        have hL6 : L.length = 6 := by rw [hL]; rfl
        have HL6 := Lib.hid hL6
        have HBD := Lib.hid (show ∀ a ∈ L, 0 ≤ a.1 ∧ a.1 ≤ 65536 ∧ 1 ≤ a.2 ∧ a.2 ≤ 65536 ∧ a.1 + a.2 ≤ n by rw [hL]; exact six_bd HN.out h2 (by omega) (by omega))
        have HOV := Lib.hid (show ∀ i j, (hi : i < L.length) → (hj : j < i) → overB (L[i]'hi) (L[j]'(Nat.lt_trans hj hi)) = false by subst hL; exact fun i j hi hj => six_over HN.out (by omega) (by omega) i j hi hj)
        obtain ⟨t, ht⟩ : ∃ t, t = at' % n := ⟨_, rfl⟩
        have ht2 : 0 ≤ t ∧ t < n := by rw [ht]; exact ⟨Int.emod_nonneg _ (by omega), Int.emod_lt_of_pos _ (by omega)⟩
        have HRD := Lib.hid (fun W => D.round_ok at' n (by omega) W)
        rw [← ht] at HRD
        have HSUM := Lib.hid (show sumA L = n by rw [hL]; exact six_sum HN.out)
        have HTIM := Lib.hid (show timesA L t = 1 by rw [hL]; exact six_times HN.out (by omega) (by omega) ht2)
        have HCOV := Lib.hid (show ∀ e, ((cov (L ++ e) n.toNat : Nat) : Int) = n by rw [hL]; exact six_cov HN.out h2 (by omega) (by omega))
        have HSB := Lib.hid (fun l (hl : ∀ a ∈ l, a ∈ L) => sumA_bd l (fun a ha => by have := HBD.out a (hl a ha); omega))
        have HR2 := Lib.hid hrow2
        have hc6 : 6 ≤ c ∧ c ≤ maxLen := by obtain ⟨cur, _, q1, q2, _⟩ := hrow2; exact ⟨by rw [← hL6]; exact q1, q2⟩
        unfold maxLen at hc6
        clear x1 x2 x3 x4 hne hxp hb5 hrow hrow2 hL hL6 ht HR HO HO3 HCB Xp2 Xp3
        go_wp2_with fail
        go_loopw [14, 15, 16] (fun s ti i wr => ∃ k : Nat, ∃ sm : Int, ∃ tm : Nat, k ≤ 6 ∧ i = .int .i64 k ∧ s = .int .i64 sm ∧ ti = .int .i64 tm ∧ 0 ≤ sm ∧ sm ≤ 393216 ∧ tm ≤ k ∧ Hid (sm = sumA (L.take k) ∧ tm = timesA (L.take k) t ∧ Below w.heap.size w wr ∧ RowA wr g c L ∧ BoxA wr p1 8 (n - 16))) (fun _ _ i _ => 6 - (intOf i).toNat)
        case atStart => exact ⟨0, 0, 0, by omega, rfl, rfl, rfl, by omega, by omega, by omega, rfl, rfl, B.out, HR2.out, Xp1.out⟩
        case round =>
          obtain ⟨k, sm, tm, hk, rfl, rfl, rfl, hs0, hs1, ht6, HH⟩ := hrel
          obtain ⟨e1, e2, hB, hR, hX⟩ := HH.out
          replace B := Lib.hid hB
          replace HR2 := Lib.hid hR
          replace Xp1 := Lib.hid hX
          have E1 := Lib.hid e1
          have E2 := Lib.hid e2
          clear HH e1 e2 hB hR hX
          by_cases hlt : k < 6
          · have hkl : k < L.length := by rw [HL6.out]; exact hlt
            have hbd := HBD.out L[k] (List.getElem_mem _)
            have hsn := sumA_snoc L k hkl
            have htn := timesA_snoc L t k hkl
            have hsb := HSB.out (L.take (k + 1)) (fun a ha => List.mem_of_mem_take ha)
            rw [List.length_take, Nat.min_eq_left (by rw [HL6.out]; omega)] at hsb
            obtain ⟨⟨x, y⟩, hxy⟩ : ∃ a, a = L[k] := ⟨_, rfl⟩
            rw [← hxy] at hbd hsn htn
            simp only at hbd hsn
            rw [hsn, ← E1.out] at hsb
            obtain ⟨q1, q2⟩ := HR2.out.get k hkl
            rw [← hxy] at q1 q2
            have hgl := HR2.out.lt
            have HXY := Lib.hid hxy
            have HSN := Lib.hid hsn
            have HTN := Lib.hid htn
            clear hxy hsn htn
            go_wp2_with fail
            have hdr : ∀ w3, Chg No wr.drew w3 → Chg No wr w3 := fun w3 h => ⟨h.os, h.tape, h.output, h.size, h.block⟩
            refine RA.region (fun a b => Chg No a b) (· = ·) [1, 1, 1, 1, 1, 1, 4, 4] (fun _ _ _ => True) (fun _ => True) (by kernel_rfl) (Chg.refl _ _) (fun _ _ h => h ▸ Chg.refl _ _) (fun _ _ _ h k => h.trans k) (fun _ _ h k => h ▸ k) trivial (by kernel_rfl) ?_
            intro cx
            repeat (first | refine RA.mv (by rfl) (by rfl) (by rfl) ?_ | refine RA.as (by rfl) (by rfl) (by rfl) ?_ | refine RA.pt (by rfl) (by rfl) (by rfl) (by rfl) ?_ | refine RA.pf (by rfl) (by rfl) (by rfl) (by rfl) ?_)
            refine RA.ia (by rfl) (by rfl) (by rfl) (by rfl) (y' := .pointer (some ⟨g, k * 2, none⟩)) (fun w3 hp => by
              show (Instr.indexAt _ _ _).run Try.prog w3 = _
              go_simp) ?_
            refine RA.ld (by rfl) (by rfl) (by rfl) (y' := .agg #[.int .i64 x, .int .i64 y]) (fun w3 hp => (HR2.out.keep ((hdr _ hp.1).block g hgl id)).ld k hkl x y HXY.out.symm) ?_
            repeat (first | refine RA.mv (by rfl) (by rfl) (by rfl) ?_ | refine RA.as (by rfl) (by rfl) (by rfl) ?_ | refine RA.pt (by rfl) (by rfl) (by rfl) (by rfl) ?_ | refine RA.pf (by rfl) (by rfl) (by rfl) (by rfl) ?_)
            refine RA.kc (P := Try.prog) [_, _] (.int .i64 t) (fun _ => True) (fun _ _ => by go_simp) (by rfl) (by rfl) (by rfl) (by kernel_rfl) (fun _ _ _ h => h) rfl (fun w3 hp hH => (HRD.out _).mono (by rintro e w4 ⟨rfl, rfl⟩; exact ⟨rfl, Chg.refl _ _, trivial⟩)) ?_
            refine RA.kc (P := Try.prog) [_, _] (.bool (hasB (x, y) t)) (fun _ => True) (fun _ _ => by go_simp) (by rfl) (by rfl) (by rfl) (by kernel_rfl) (fun _ _ _ h => h) rfl (fun w3 hp hH => (has_at (by omega) rfl _).mono (by rintro e w4 ⟨rfl, h2⟩; exact ⟨rfl, Chg.of_below h2 _, trivial⟩)) ?_
            refine RA.RA.done rfl (fun w9 hR hF hH => ?_)
            clear hF hH
            simp only [RA.put, List.foldr_cons, List.foldr_nil, cx, Act.put, List.setIfInBounds_toArray, List.set_cons_succ, List.set_cons_zero]
            have hb := (hdr _ hR).no
            replace B := Lib.hid (B.out.trans (hb.mono B.out.size))
            replace Xp1 := Lib.hid (Xp1.out.keep hb)
            replace HR2 := Lib.hid (HR2.out.keepB hb)
            clear hb hR hdr q1 q2
            obtain ⟨bv, hbv⟩ : ∃ bv, bv = hasB (x, y) t := ⟨_, rfl⟩
            rw [← hbv] at HTN ⊢
            have HTN2 : Hid (timesA (L.take (k + 1)) t = tm + if bv = true then 1 else 0) := by rw [E2.out]; exact HTN.out
            clear HTN hbv
            cases bv
            all_goals
              go_wp2_with fail
              go_loopw [17] (fun i wr => ∃ j : Nat, j ≤ k ∧ i = .int .i64 j ∧ Hid (Below w.heap.size w wr ∧ RowA wr g c L ∧ BoxA wr p1 8 (n - 16))) (fun i _ => k - (intOf i).toNat)
              case atStart => exact ⟨0, by omega, rfl, B.out, HR2.out, Xp1.out⟩
              case round =>
                obtain ⟨j, hj, rfl, HH⟩ := hrel
                obtain ⟨hB, hR, hX⟩ := HH.out
                replace B := Lib.hid hB
                replace HR2 := Lib.hid hR
                replace Xp1 := Lib.hid hX
                clear HH hB hR hX
                by_cases hlj : j < k
                · have hjl : j < L.length := by rw [HL6.out]; omega
                  have hbj := HBD.out L[j] (List.getElem_mem _)
                  have hov := HOV.out k j hkl hlj
                  obtain ⟨⟨u, v⟩, huv⟩ : ∃ a, a = L[j] := ⟨_, rfl⟩
                  rw [← huv] at hbj hov
                  rw [← HXY.out] at hov
                  simp only at hbj
                  have hgl := HR2.out.lt
                  have hj6 : (j : Int) < 6 := by omega
                  have HUV := Lib.hid huv
                  have HOV1 := Lib.hid hov
                  clear huv hov
                  go_wp2_with fail
                  have hdr2 : ∀ w3 w4, Chg No (World.drew w3) w4 → Chg No w3 w4 := fun w3 w4 h => ⟨h.os, h.tape, h.output, h.size, h.block⟩
                  refine RA.region (fun a b => Chg No a b) (· = ·) [1, 1, 1, 1, 1, 1, 1, 1, 4] (fun _ _ _ => True) (fun _ => True) (by kernel_rfl) (Chg.refl _ _) (fun _ _ h => h ▸ Chg.refl _ _) (fun _ _ _ h k => h.trans k) (fun _ _ h k => h ▸ k) trivial (by kernel_rfl) ?_
                  intro cx
                  repeat (first | refine RA.mv (by rfl) (by rfl) (by rfl) ?_ | refine RA.as (by rfl) (by rfl) (by rfl) ?_ | refine RA.pt (by rfl) (by rfl) (by rfl) (by rfl) ?_ | refine RA.pf (by rfl) (by rfl) (by rfl) (by rfl) ?_)
                  refine RA.ia (by rfl) (by rfl) (by rfl) (by rfl) (y' := .pointer (some ⟨g, k * 2, none⟩)) (fun w3 hp => by
                    show (Instr.indexAt _ _ _).run Try.prog w3 = _
                    go_simp) ?_
                  refine RA.ld (by rfl) (by rfl) (by rfl) (y' := .agg #[.int .i64 x, .int .i64 y]) (fun w3 hp => (HR2.out.keep ((hdr2 _ _ hp.1).block g hgl id)).ld k hkl x y HXY.out.symm) ?_
                  repeat (first | refine RA.mv (by rfl) (by rfl) (by rfl) ?_ | refine RA.as (by rfl) (by rfl) (by rfl) ?_ | refine RA.pt (by rfl) (by rfl) (by rfl) (by rfl) ?_ | refine RA.pf (by rfl) (by rfl) (by rfl) (by rfl) ?_)
                  refine RA.ia (by rfl) (by rfl) (by rfl) (by rfl) (y' := .pointer (some ⟨g, j * 2, none⟩)) (fun w3 hp => by
                    show (Instr.indexAt _ _ _).run Try.prog w3 = _
                    go_simp) ?_
                  refine RA.ld (by rfl) (by rfl) (by rfl) (y' := .agg #[.int .i64 u, .int .i64 v]) (fun w3 hp => (HR2.out.keep ((hdr2 _ _ hp.1).block g hgl id)).ld j hjl u v HUV.out.symm) ?_
                  refine RA.kc (P := Try.prog) [_, _] (.bool false) (fun _ => True) (fun _ _ => by go_simp) (by rfl) (by rfl) (by rfl) (by kernel_rfl) (fun _ _ _ h => h) rfl (fun w3 hp hH => (over_at (by omega) HOV1.out _).mono (by rintro e w4 ⟨rfl, h2⟩; exact ⟨rfl, Chg.of_below h2 _, trivial⟩)) ?_
                  refine RA.RA.done rfl (fun w9 hR hF hH => ?_)
                  clear hF hH
                  simp only [RA.put, List.foldr_cons, List.foldr_nil, cx, Act.put, List.setIfInBounds_toArray, List.set_cons_succ, List.set_cons_zero]
                  have hb := (hdr2 _ _ hR).no
                  replace B := Lib.hid (B.out.trans (hb.mono B.out.size))
                  replace Xp1 := Lib.hid (Xp1.out.keep hb)
                  replace HR2 := Lib.hid (HR2.out.keepB hb)
                  clear hb hR hdr2
                  go_wp2_with fail
                  go_roundw
                  case rel => exact ⟨j + 1, by omega, by go_num, B.out, HR2.out, Xp1.out⟩
                  case measure => simp [intOf]; omega
                · go_wp2_with fail
                  go_roundw
                  case rel => first | exact ⟨k + 1, _, tm, by omega, by go_num, rfl, rfl, by omega, by omega, by omega, by rw [HSN.out, ← E1.out], by rw [HTN2.out]; rfl, B.out, HR2.out, Xp1.out⟩ | exact ⟨k + 1, _, tm + 1, by omega, by go_num, rfl, by go_num, by omega, by omega, by omega, by rw [HSN.out, ← E1.out], by rw [HTN2.out]; rfl, B.out, HR2.out, Xp1.out⟩
                  case measure => simp [intOf]; omega
          · obtain rfl : k = 6 := by omega
            have htk : L.take 6 = L := List.take_of_length_le (by rw [HL6.out]; omega)
            have es : sm = n := by rw [E1.out, htk, HSUM.out]
            have et : tm = 1 := by rw [E2.out, htk, HTIM.out]
            subst es et
            have hjc : Cells wr (· = g) (.slice (some ⟨g, 0, none⟩) 6 c) 6 2 (arCells L) := by
              have h := HR2.out.cells
              rw [HL6.out] at h
              exact h
            have hcv1 := HCOV.out []
            rw [List.append_nil] at hcv1
            have HJ1 := Lib.hid (join_ok hjc (by omega) sm.toNat (fun a ha _ => by have := HBD.out a ha; omega))
            have HC1 := Lib.hid hcv1
            have HC2 := Lib.hid (HCOV.out [(8, sm - 16)])
            have hcw : 6 ≤ c := hc6.1
            clear htk hjc hcv1 hk hlt
            go_wp2_with fail
            refine HJ1.out.mono ?_
            rw [HC1.out]
            rintro e w6 ⟨rfl, hb⟩
            replace B := Lib.hid (B.out.trans (hb.mono B.out.size))
            replace Xp1 := Lib.hid (Xp1.out.keep hb)
            replace HR2 := Lib.hid (HR2.out.keepB hb)
            have ho := HR2.out.owns hg
            rw [HL6.out] at ho
            have ho6 : (w6.alloc (.cells (arCells [(8, sm - 16)]).toArray 46)).ownsRow w.heap.size 46 2 _ _ _ := owns_keep ho (fun g1 hg1 => Below.heap_alloc _ _ _ (ho.lt g1 hg1).2)
            have HO := Lib.hid ho6
            have HCB := Lib.hid (cells_areas w6 [(8, sm - 16)] (by simp))
            have q1 := Xp1.out.c0
            have q2 := Xp1.out.c1
            have q3 := Xp1.out.lt
            have HGE : Hid (w.heap.size ≤ g) := hg
            clear hb ho ho6 HJ1
            go_wp2_with (at_builtin; refine K.appendG ?_ (.tmp 119) (.tmp 121) 59 ?_ w.heap.size 46 _ 2 16 Try.underlying59 infoArea hzc (by decide) _ 6 _ ?_ HO.out _ _ 1 (arCells [(8, sm - 16)]) ?_ HCB.out (arCells_one _) (by unfold maxLen; omega) (by omega) ?_ ?_)
            · rfl
            · rfl
            · rfl
            · have := B.out.size; simp at this ⊢; omega
            intro v' w7 x1 x2 x3 x4
            have hb7 : Below w.heap.size w w7 := ((Chg.of_below (B.out.alloc B.out.size (.cells (arCells [(8, sm - 16)]).toArray 46)) No).grown x2 (fun g1 hg1 hl => by simp [Value.ownBlock] at hg1; have := HGE.out; omega)).no
            replace B := Lib.hid hb7
            rw [← arCells_app] at x1
            obtain ⟨g3, c3, rfl, hg3, hl3, hrow⟩ := RowA.of_owns x1 (by omega)
            have hjc : Cells w7 (· = g3) (.slice (some ⟨g3, 0, none⟩) 7 c3) 7 2 (arCells (L ++ [(8, sm - 16)])) := by
              have h := hrow.cells
              rw [← hl3] at h
              exact h
            have HJ1 := Lib.hid (join_ok hjc (by omega) sm.toNat (fun a ha _ => by
              rcases List.mem_append.1 ha with ha | ha
              · have := HBD.out a ha
                omega
              · simp at ha
                subst ha
                simp only
                omega))
            clear x1 x2 x3 x4 hb7 hl3 hrow hjc
            go_wp2_with fail
            refine HJ1.out.mono ?_
            rw [HC2.out]
            rintro e w8 ⟨rfl, hb⟩
            replace B := Lib.hid (B.out.trans (hb.mono B.out.size))
            clear hb HJ1
            go_wp2_with fail
            refine (awake14_ok _).mono ?_
            rintro e w9 ⟨rfl, hb⟩
            have hfin := B.out.trans (hb.mono B.out.size)
            clear hb
            go_wp2_with fail
            go_ret
            exact ⟨rfl, hfin⟩
end Go.Proofs.Ytifocofpplhacaa.P

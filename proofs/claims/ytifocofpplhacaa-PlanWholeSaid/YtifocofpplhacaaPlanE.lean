/-
  plan.Join: the sort, and the sum. No condition beyond what each theorem names.
-/
import Derived.Test.YtifocofpplhacaaPlanD
namespace Go.Proofs.Ytifocofpplhacaa.P
open Go Go.RowKit K

open Go.Shelf Go.Lib Go.Sort in
theorem cmpLays (blk off size : Nat) (w : World) : CmpLays Try.prog 50 #[] encA 2 (fun x y => cmpZ x.1 y.1) blk off size w :=
  fun _ _ _ _ x y => join2_ok x y _
open Go.Sort in
theorem swo : SWO (ltOf fun x y : Ar => cmpZ x.1 y.1) := by
  have e : ∀ x y : Ar, ltOf (fun x y : Ar => cmpZ x.1 y.1) x y = decide (x.1 < y.1) := by
    intro x y
    simp only [ltOf, cmpZ]
    by_cases h1 : x.1 < y.1
    · simp [h1]
    · by_cases h2 : y.1 < x.1 <;> simp [h1, h2]
  exact ⟨fun x => by rw [e]; simp, fun x y z h1 h2 => by rw [e] at *; simp at *; omega, fun x y z h1 h2 => by rw [e] at *; simp at *; omega⟩

open Go.Sort in
theorem flat_cells (d : Array Ar) : (flatK encA 2 d).toList = arCells d.toList := by
  apply List.ext_getElem
  · simp [arCells_length]
  · intro t h1 h2
    have ht : t < d.size * 2 := by simpa using h1
    have hq : t / 2 < d.toList.length := by simp; omega
    have e1 : (flatK encA 2 d).toList[t] = (flatK encA 2 d)[t]! := by
      rw [getElem!_pos _ t (by simpa using ht)]
      simp
    rw [e1, get_flatK _ _ _ _ ht]
    have e2 : d[t / 2]! = d.toList[t / 2] := by
      rw [getElem!_pos _ (t / 2) (by simpa using hq)]
      simp
    rw [e2]
    obtain ⟨g1, g2⟩ := arCells_get d.toList (t / 2) hq
    rcases (by omega : t % 2 = 0 ∨ t % 2 = 1) with h | h
    · rw [show t / 2 * 2 = t by omega, List.getElem?_eq_getElem h2] at g1
      rw [h]
      simp only [Option.some.injEq] at g1
      rw [g1]
      rfl
    · rw [show t / 2 * 2 + 1 = t by omega, List.getElem?_eq_getElem h2] at g2
      rw [h]
      simp only [Option.some.injEq] at g2
      rw [g2]
      rfl

def Asc (l : List Ar) : Prop := l.Pairwise (fun a b => a.1 ≤ b.1)

open Go.Shelf Go.Lib Go.Sort in
set_option maxHeartbeats 1000000 in
theorem sort_ok {w : World} {g cap : Nat} {l : List Ar} (hr : RowA w g cap l) (h12 : l.length ≤ 12) :
    Calls Try.prog 49 #[.slice (some ⟨g, 0, none⟩) l.length cap, .func (.func 50) #[] #[]] w fun e w' => e = .returned (.tuple #[]) ∧ ∃ l', l'.Perm l ∧ Asc l' ∧ RowA w' g cap l' ∧ Chg (· = g) w w' := by
  have eg : ∀ args w, (callFunc 50 args).run Try.prog w = .ok (.enter 50 args) w := enters_of Try.func50 (by kernel_rfl) rfl
  have hfl := flat_cells l.toArray
  have hH : HoldsK encA 2 w g 0 l.toArray := by
    intro t ht
    have ht' : t < l.length * 2 := by simpa using ht
    have hq : t / 2 < l.length := by omega
    rw [Nat.zero_add]
    refine ⟨?_, hr.free t⟩
    have e1 : (arCells l)[t]? = some (flatK encA 2 l.toArray)[t]! := by
      rw [getElem!_pos _ t (by simpa using ht'), ← Array.getElem_toList, ← List.getElem?_eq_getElem (by simpa using ht'), hfl]
    obtain ⟨cur, h1, _, _, _, h5⟩ := hr
    rw [cell_of h1, ← Array.getElem?_toList]
    rw [← h5, List.getElem?_take, if_pos ht'] at e1
    exact e1
  have hcon := AnyQ.slices_SortFunc_small_sorted sortA 2 Try.isAgg46 Try.sizeOf46 encA (fun _ => rfl) (fun x v hv => by simp [encA] at hv; rcases hv with rfl | rfl <;> rfl) (fun x y => cmpZ x.1 y.1) 50 #[] swo g 0 cap l.toArray w eg (cmpLays g 0 l.toArray.size w) hH hr.lt (by simpa using h12) (fun n W h => len_ok n h W)
  rw [List.size_toArray] at hcon
  change Calls Try.prog 49 _ _ _ at hcon
  refine hcon.mono ?_
  rintro e w' ⟨rfl, d', n, os, hp, hs, rfl⟩
  have hsz : d'.size = l.length := by simpa using hp.1
  have hperm : d'.toList.Perm l := by
    have h := hp.2.2
    have e1 : d'.extract 0 l.length = d' := by rw [← hsz]; simp
    have e2 : l.toArray.extract 0 l.length = l.toArray := by simp
    rw [e1, e2] at h
    simpa using h
  have hch : Chg (· = g) w (sortWorldK encA 2 w g 0 n d' os) := by
    refine ⟨rfl, rfl, rfl, ?_, fun k hk hne => ?_⟩
    · exact size_sortWorldK_c encA 2 w g 0 n d' os
    · simp only [sortWorldK, grow, putRowK, putRow, mapBlock]
      rw [Array.getElem?_append_left (by simpa using hk), Array.getElem?_modify, if_neg (fun e => hne e.symm)]
      rfl
  refine ⟨rfl, d'.toList, hperm, ?_, ?_, hch⟩
  · rw [Asc, List.pairwise_iff_getElem]
    intro i j hi hj hij
    have h := hs i j (Nat.zero_le _) hij (by simpa [hsz] using hj)
    rw [getElem!_pos d' i (by simpa using hi), getElem!_pos d' j (by simpa using hj)] at h
    have e : ∀ x y : Ar, ltOf (fun x y : Ar => cmpZ x.1 y.1) x y = false → y.1 ≤ x.1 := by
      intro x y hxy
      by_cases h1 : x.1 < y.1
      · simp [ltOf, cmpZ, h1] at hxy
      · omega
    have := e _ _ h
    simpa using this
  · obtain ⟨cur, h1, h2, h3, h4, h5⟩ := hr
    have hgl := heap_lt h1
    refine ⟨putCells id 0 (flatK encA 2 d') cur, ?_, by simpa [hsz] using h2, h3, by simp [putCells, h4], ?_⟩
    · simp only [sortWorldK, grow, putRowK, putRow, mapBlock]
      have h1' : (Sort.ahead w n).heap[g]? = some (.cells cur 46 (0, 0)) := h1
      rw [Array.getElem?_append_left (by simpa using hgl), Array.getElem?_modify, if_pos rfl, h1']
      rfl
    · rw [← flat_cells d']
      have hF : (flatK encA 2 d').size = d'.toList.length * 2 := by simp
      generalize flatK encA 2 d' = F at hF ⊢
      rw [← hF]
      have hle : F.size ≤ cur.size := by rw [hF, h4]; simp [hsz]; omega
      apply List.ext_getElem
      · simp [putCells]; omega
      · intro t q1 q2
        have ht : t < F.size := by simpa using q2
        simp only [List.getElem_take, putCells, Array.getElem_toList, Array.getElem_mapIdx]
        rw [if_pos ⟨Nat.zero_le _, by omega⟩]
        simp only [Nat.sub_zero, id]
        rw [getElem!_pos F t ht]

theorem del_ok {w : World} {g cap : Nat} {l : List Ar} (hb : RowA w g cap l) (hbig : l.length ≤ 1000000) :
    Calls Try.prog 46 #[.slice (some ⟨g, 0, none⟩) l.length cap, .func (.func 48) #[] #[]] w fun e w' => e = .returned (.slice (some ⟨g, 0, none⟩) (l.filter countsB).length cap) ∧ RowA w' g cap (l.filter countsB) ∧ Chg (· = g) w w' := by
  by_cases h : ∀ j (h : j < l.length), countsB l[j] = true
  · refine (del_all hb.cells h).mono ?_
    rintro e w' ⟨rfl, hb1⟩
    have e : l.filter countsB = l := List.filter_eq_self.2 fun a ha => by
      obtain ⟨j, hj, rfl⟩ := List.getElem_of_mem ha
      exact h j hj
    rw [e]
    exact ⟨rfl, hb.keep (hb1.block g hb.lt), Chg.of_below hb1 _⟩
  · have h' : ∃ j, ∃ h : j < l.length, countsB l[j] = false := by
      false_or_by_contra
      rename_i hn
      exact h fun j hj => by
        cases hc : countsB l[j] with
        | true => rfl
        | false => exact absurd ⟨j, hj, hc⟩ hn
    -- the first one
    have key : ∀ m, (∃ j, ∃ h : j < l.length, j < m ∧ countsB l[j] = false) → ∃ k, ∃ h : k < l.length, countsB l[k] = false ∧ ∀ j (h : j < l.length), j < k → countsB l[j] = true := by
      intro m
      induction m with
      | zero => rintro ⟨j, _, h, _⟩; omega
      | succ m ih =>
        rintro ⟨j, hj, hm, hc⟩
        by_cases hx : ∃ j, ∃ h : j < l.length, j < m ∧ countsB l[j] = false
        · exact ih hx
        · have hjm : j = m := by
            false_or_by_contra
            exact hx ⟨j, hj, by omega, hc⟩
          refine ⟨j, hj, hc, fun i hi hij => ?_⟩
          cases hci : countsB l[i] with
          | true => rfl
          | false => exact absurd ⟨i, hi, by omega, hci⟩ hx
    obtain ⟨j, hj, hc⟩ := h'
    obtain ⟨k0, hk0, h1, h2⟩ := key (j + 1) ⟨j, hj, by omega, hc⟩
    exact del_some hb hbig k0 hk0 h1 h2

/-- the sum over sorted areas -/
def joinStep (p : Int × Int) (a : Ar) : Int × Int := (p.1 + max (a.1 + a.2 - max a.1 p.2) 0, max p.2 (a.1 + a.2))
def joinF (l : List Ar) : Int × Int := l.foldl joinStep (0, 0)
theorem joinF_snoc (l : List Ar) (k : Nat) (h : k < l.length) : joinF (l.take (k + 1)) = joinStep (joinF (l.take k)) l[k] := by
  simp only [joinF, List.take_succ_eq_append_getElem h, List.foldl_append, List.foldl_cons, List.foldl_nil]
theorem joinF_bd (l : List Ar) (hc : ∀ a ∈ l, countsB a = true) : 0 ≤ (joinF l).1 ∧ (joinF l).1 ≤ l.length * 1048576 ∧ 0 ≤ (joinF l).2 ∧ (joinF l).2 ≤ 2097152 := by
  have key : ∀ (l : List Ar) (p : Int × Int), (∀ a ∈ l, countsB a = true) → 0 ≤ p.2 → p.2 ≤ 2097152 → p.1 ≤ (l.foldl joinStep p).1 ∧ (l.foldl joinStep p).1 ≤ p.1 + l.length * 1048576 ∧ 0 ≤ (l.foldl joinStep p).2 ∧ (l.foldl joinStep p).2 ≤ 2097152 := by
    intro l
    induction l with
    | nil => intro p _ h1 h2; simp; omega
    | cons a l ih =>
      intro p h h1 h2
      have ha : countsB a = true := h a (by simp)
      simp only [countsB, decide_eq_true_eq] at ha
      have := ih (joinStep p a) (fun b hb => h b (by simp [hb])) (by simp only [joinStep]; omega) (by simp only [joinStep]; omega)
      simp only [List.foldl_cons, List.length_cons]
      simp only [joinStep] at this ⊢
      push_cast
      omega
  have := key l (0, 0) hc (by simp) (by simp)
  simpa [joinF] using this

def inB (a : Ar) (i : Nat) : Bool := decide (a.1 ≤ (i : Int) ∧ (i : Int) < a.1 + a.2)
/-- how many sectors are in one of some areas -/
def cov (l : List Ar) (M : Nat) : Nat := (List.range M).countP fun i => l.any fun a => countsB a && inB a i

theorem countP_two {p q1 q2 : Nat → Bool} : ∀ l : List Nat, (∀ i ∈ l, p i = (q1 i || q2 i) ∧ (q1 i && q2 i) = false) → l.countP p = l.countP q1 + l.countP q2 := by
  intro l
  induction l with
  | nil => intro _; rfl
  | cons a l ih =>
    intro h
    have h1 := h a (by simp)
    have h2 := ih (fun i hi => h i (by simp [hi]))
    rw [List.countP_cons, List.countP_cons, List.countP_cons, h2, h1.1]
    have h3 := h1.2
    generalize List.countP q1 l = x
    generalize List.countP q2 l = y
    cases hq1 : q1 a with
    | true =>
      cases hq2 : q2 a with
      | true => rw [hq1, hq2] at h3; cases h3
      | false => show x + y + 1 = x + 1 + (y + 0); omega
    | false =>
      cases hq2 : q2 a with
      | true => show x + y + 1 = x + 0 + (y + 1); omega
      | false => show x + y + 0 = x + 0 + (y + 0); omega
theorem countP_span (lo hi : Int) (h : 0 ≤ lo) : ∀ M : Nat, ((List.range M).countP (fun i : Nat => decide (lo ≤ (i : Int) ∧ (i : Int) < hi)) : Int) = max (min hi M - lo) 0 := by
  intro M
  induction M with
  | zero => simp; omega
  | succ M ih =>
    rw [List.range_succ, List.countP_append]
    simp only [List.countP_cons, List.countP_nil]
    push_cast
    rw [ih]
    by_cases hm : lo ≤ (M : Int) ∧ (M : Int) < hi
    · simp only [hm, and_self, decide_true, if_true]
      omega
    · simp only [hm, decide_false, Bool.false_eq_true, if_false]
      omega
theorem join_cov : ∀ (l : List Ar) (n e : Int) (M : Nat), Asc l → (∀ a ∈ l, countsB a = true ∧ a.1 + a.2 ≤ M) → 0 ≤ e → ((l.foldl joinStep (n, e)).1 = n + ((List.range M).countP (fun i : Nat => decide (e ≤ (i : Int)) && l.any fun a => inB a i) : Nat)) := by
  intro l
  induction l with
  | nil => intro n e M _ _ _; simp
  | cons a l ih =>
    intro n e M hasc hall he
    have ha := hall a (by simp)
    have hac := ha.1
    simp only [countsB, decide_eq_true_eq] at hac
    rw [Asc, List.pairwise_cons] at hasc
    have h1 := ih (n + max (a.1 + a.2 - max a.1 e) 0) (max e (a.1 + a.2)) M hasc.2 (fun b hb => hall b (by simp [hb])) (by omega)
    rw [List.foldl_cons]
    have e0 : joinStep (n, e) a = (n + max (a.1 + a.2 - max a.1 e) 0, max e (a.1 + a.2)) := rfl
    rw [e0, h1]
    have h2 := countP_two (p := fun i : Nat => decide (e ≤ (i : Int)) && (a :: l).any fun a => inB a i) (q1 := fun i : Nat => decide (max a.1 e ≤ (i : Int) ∧ (i : Int) < a.1 + a.2)) (q2 := fun i : Nat => decide (max e (a.1 + a.2) ≤ (i : Int)) && l.any fun a => inB a i) (List.range M) (fun i _ => by
      have hr : l.any (fun a => inB a i) = true → a.1 ≤ (i : Int) := by
        intro h
        obtain ⟨b, hb, hbi⟩ := List.any_eq_true.1 h
        have := hasc.1 b hb
        simp only [inB, decide_eq_true_eq] at hbi
        omega
      simp only [List.any_cons]
      generalize l.any (fun a => inB a i) = r at hr ⊢
      cases r with
      | false =>
        simp only [Bool.or_false, Bool.and_false, and_true]
        rw [Bool.eq_iff_iff]
        simp only [inB, Bool.and_eq_true, decide_eq_true_eq]
        omega
      | true =>
        have := hr rfl
        simp only [Bool.or_true, Bool.and_true]
        constructor
        · rw [Bool.eq_iff_iff]
          simp only [Bool.or_eq_true, decide_eq_true_eq]
          omega
        · simp only [Bool.and_eq_false_iff, decide_eq_false_iff_not]
          omega)
    rw [h2]
    have h3 := countP_span (max a.1 e) (a.1 + a.2) (by omega) M
    push_cast
    rw [h3]
    have := ha.2
    omega

theorem cov_join {l l' : List Ar} (M : Nat) (hp : l'.Perm (l.filter countsB)) (ha : Asc l') (hM : ∀ a ∈ l, countsB a = true → a.1 + a.2 ≤ M) : (joinF l').1 = cov l M := by
  have hmem : ∀ a ∈ l', a ∈ l ∧ countsB a = true := fun a h => by
    have := hp.mem_iff.1 h
    simpa using this
  have h := join_cov l' 0 0 M ha (fun a h => ⟨(hmem a h).2, hM a (hmem a h).1 (hmem a h).2⟩) (Int.le_refl _)
  rw [joinF, h, Int.zero_add]
  congr 1
  refine List.countP_congr fun i _ => ?_
  simp only [Bool.and_eq_true, decide_eq_true_eq, List.any_eq_true]
  constructor
  · rintro ⟨_, a, ha, hi⟩
    exact ⟨a, (hmem a ha).1, (hmem a ha).2, hi⟩
  · rintro ⟨a, ha, hc, hi⟩
    exact ⟨by omega, a, hp.mem_iff.2 (by simp [ha, hc]), hi⟩

set_option maxHeartbeats 2000000 in
set_option maxRecDepth 100000 in
theorem join_ok {w : World} {S : Nat → Prop} {ad : Addr} {n cap : Nat} {l : List Ar} (hb : Cells w S (.slice (some ad) n cap) n 2 (arCells l)) (h12 : n ≤ 12) (M : Nat) (hM : ∀ a ∈ l, countsB a = true → a.1 + a.2 ≤ M) :
    Calls Try.prog 38 #[.slice (some ad) n cap] w fun e w' => e = .returned (.int .i64 (cov l M)) ∧ Below w.heap.size w w' := by
  have hnl : n = l.length := by have := hb.1; rw [arCells_length] at this; omega
  have HC := Lib.hid (cloneA_ok hb (by omega))
  have HM := Lib.hid hM
  have HNL := Lib.hid hnl
  clear hb hM hnl
  go_enter Try.func38, Try.ntmps38
  go_wp2_with fail
  refine HC.out.mono ?_
  rintro e w1 ⟨g, c, rfl, hr, hg, hb1⟩
  have HD := Lib.hid (del_ok hr (by rw [← HNL.out]; omega))
  rw [← HNL.out] at HD
  have hfl : (l.filter countsB).length ≤ 12 := Nat.le_trans (List.length_filter_le _ _) (by rw [← HNL.out]; exact h12)
  have HB1 := Lib.hid hb1
  clear hr hb1 HC
  go_wp2_with fail
  refine HD.out.mono ?_
  rintro e w2 ⟨rfl, hr, hch⟩
  have hb2 : Below w.heap.size w w2 := ⟨hch.os.trans HB1.out.os, hch.tape.trans HB1.out.tape, hch.output.trans HB1.out.output, Nat.le_trans HB1.out.size hch.size, fun k hk => (hch.block k (Nat.lt_of_lt_of_le hk HB1.out.size) (fun e => by omega)).trans (HB1.out.block k hk)⟩
  have HS := Lib.hid (sort_ok hr hfl)
  have HB2 := Lib.hid hb2
  clear hr hch hb2 HD HB1
  go_wp2_with fail
  refine HS.out.mono ?_
  rintro e w3 ⟨rfl, l', hp, ha, hr, hch⟩
  have hb3 : Below w.heap.size w w3 := ⟨hch.os.trans HB2.out.os, hch.tape.trans HB2.out.tape, hch.output.trans HB2.out.output, Nat.le_trans HB2.out.size hch.size, fun k hk => (hch.block k (Nat.lt_of_lt_of_le hk HB2.out.size) (fun e => by omega)).trans (HB2.out.block k hk)⟩
  have hlen : (l.filter countsB).length = l'.length := hp.length_eq.symm
  have hmem : ∀ a ∈ l', countsB a = true := fun a h => by
    have := hp.mem_iff.1 h
    simp at this
    exact this.2
  have HJ := Lib.hid (cov_join M hp ha HM.out)
  obtain ⟨m, hm⟩ : ∃ m, m = l'.length := ⟨_, rfl⟩
  rw [hlen, ← hm]
  rw [hlen, ← hm] at hfl
  have HMM := Lib.hid hm
  have HCT := Lib.hid hmem
  have HR := Lib.hid hr
  have HB3 := Lib.hid hb3
  have hcap : m ≤ c ∧ c ≤ maxLen := by obtain ⟨cur, _, h2, h3, _⟩ := hr; exact ⟨by rw [hm]; exact h2, h3⟩
  unfold maxLen at hcap
  have hgl := hr.lt
  clear hp ha hr hch hb3 hlen hmem HS HB2 hm HM
  go_wp2
  go_loopw [2, 3, 14] (fun s2 s3 i wr => ∃ (k : Nat) (x y : Int), k ≤ m ∧ i = .int .i64 k ∧ s2 = .int .i64 x ∧ s3 = .int .i64 y ∧ 0 ≤ x ∧ x ≤ 20000000 ∧ 0 ≤ y ∧ y ≤ 2097152 ∧ Hid (joinF (l'.take k) = (x, y) ∧ Below w3.heap.size w3 wr)) (fun _ _ i _ => m - (intOf i).toNat)
  case atStart => exact ⟨0, 0, 0, Nat.zero_le _, rfl, rfl, rfl, by omega, by omega, by omega, by omega, rfl, Below.refl _ _⟩
  case round =>
    obtain ⟨k, x, y, hk, rfl, rfl, rfl, hx0, hx1, hy0, hy1, HH⟩ := hrel
    by_cases hlt : k < m
    · have hkl : k < l'.length := by rw [← HMM.out]; exact hlt
      obtain ⟨g1, g2⟩ := HR.out.get k hkl
      have hcn := HCT.out l'[k] (List.getElem_mem _)
      have hsn := joinF_snoc l' k hkl
      have hbd := joinF_bd (l'.take (k + 1)) (fun a h => HCT.out a (List.mem_of_mem_take h))
      rw [List.length_take, Nat.min_eq_left (by omega)] at hbd
      obtain ⟨a, ha⟩ : ∃ a, a = l'[k] := ⟨_, rfl⟩
      rw [← ha] at g1 g2 hcn hsn
      obtain ⟨u, v⟩ := a
      simp only [countsB, decide_eq_true_eq] at hcn
      rw [HH.out.1] at hsn
      rw [hsn] at hbd
      have hbr := HH.out.2
      have hc1 : wr.cell? ⟨g, k * 2, none⟩ = some (.int .i64 u) := (hbr.cell (p := ⟨g, k * 2, none⟩) hgl).trans g1
      have hc2 : wr.cell? ⟨g, k * 2 + 1, none⟩ = some (.int .i64 v) := (hbr.cell (p := ⟨g, k * 2 + 1, none⟩) hgl).trans g2
      have hgr : g < wr.heap.size := Nat.lt_of_lt_of_le hgl hbr.size
      have HSN := Lib.hid hsn
      have HBD := Lib.hid hbd
      have HBR := Lib.hid hbr
      clear hsn hbd hbr g1 g2 ha
      go_wp2
      have hbd := HBD.out
      simp only [joinStep] at hbd
      go_roundw
      case rel => exact ⟨k + 1, _, _, by omega, by go_num, rfl, rfl, by omega, by omega, by omega, by omega, HSN.out, HBR.out.alloc HBR.out.size _⟩
      case measure => simp [intOf]; omega
    · go_wp2
      go_ret
      obtain ⟨h1, h2⟩ := HH.out
      have hkm : k = l'.length := by have := HMM.out; omega
      rw [hkm, List.take_length] at h1
      refine ⟨ret_int ?_, HB3.out.trans (h2.mono HB3.out.size)⟩
      rw [← HJ.out, h1]
end Go.Proofs.Ytifocofpplhacaa.P

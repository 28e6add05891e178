/-
  sha.primes, as a plain function on numbers. No condition beyond what each theorem names.
-/
import Derived.Test.YtbgfdbidbjlaaaaTksMulPk
namespace Go.Proofs.Ytbgfdbidbjlaaaa.Fd
open Go Go.RowKit K

def u64s (l : List Nat) : List Value := l.map fun (x : Nat) => .int .u64 x
theorem u64s_length (l : List Nat) : (u64s l).length = l.length := by simp [u64s]
theorem u64s_get (l : List Nat) (j : Nat) (h : j < l.length) : (u64s l)[j]? = some (.int .u64 (l.getD j 0 : Nat)) := by simp [u64s, List.getD, h]
/-- the first n primes: from p on, in f steps -/
def primesF (n : Nat) : Nat → Nat → List Nat → List Nat
  | 0, _, o => o
  | f + 1, p, o => if n ≤ o.length then o else primesF n f (p + 1) (if o.any (fun q => p % q == 0) then o else o ++ [p])
def primes (n : Nat) : List Nat := primesF n 400 2 []
theorem infoU64 : (Try.prog.info? 47).map (fun i => (i.zero, i.size, i.bytes)) = some (some (.int .u64 0), 1, 8) := by kernel_rfl

set_option maxRecDepth 100000 in
set_option maxHeartbeats 4000000 in
theorem primes_ok (n : Nat) (hn : n ≤ 64) (hl : n ≤ (primes n).length) (w : World) :
    Calls Try.prog 63 #[.int .i64 n] w fun e w' => ∃ v, e = .returned v ∧ w'.ownsRow w.heap.size 47 1 v (primes n).length (u64s (primes n)) ∧ Below w.heap.size w w' := by
  have hz1 : (Value.int .u64 0).cells.size = 1 := rfl
  obtain ⟨R, hR⟩ : ∃ R, R = primes n := ⟨_, rfl⟩
  rw [← hR] at hl ⊢
  replace hl := Lib.hid hl
  replace hR := Lib.hid hR
  go_enter Try.func63, Try.ntmps63
  go_wp2
  go_step3
  go_wp2
  go_step3
  go_wp2
  go_loopw [2, 3] (fun o y wr => ∃ f p : Nat, ∃ l : List Nat, f + p = 402 ∧ 2 ≤ p ∧ y = .int .u64 p ∧ Below w.heap.size w wr ∧ Hid (wr.ownsRow w.heap.size 47 1 o l.length (u64s l)) ∧ l.length ≤ 64 ∧ Hid (∀ q ∈ l, 2 ≤ q ∧ q < 1000) ∧ Hid (primesF n f p l = R))
    (fun _ y _ => 402 - (intOf y).toNat)
  case atStart => exact ⟨400, 2, [], rfl, by omega, rfl, Below.refl _ _, World.ownsRow_nil _ _ _ _, by simp, (by intro q hq; simp at hq), hR.out.symm⟩
  case round =>
    obtain ⟨f, p, l, hfp, hp2, rfl, hbr, HO, hl64, hq, hm⟩ := hrel
    have hcl := Lib.hid (Cells.own HO.out)
    obtain ⟨a, cap, rfl, hc1, hc2⟩ := hcl.out.shape
    by_cases hlt : l.length < n
    · have step : ∃ f', f = f' + 1 ∧ primesF n f' (p + 1) (if l.any (fun q => p % q == 0) then l else l ++ [p]) = R := by
        cases f with
        | zero =>
          have h := hm.out
          have h2 := hl.out
          rw [primesF] at h
          rw [← h] at h2
          omega
        | succ f' =>
          refine ⟨f', rfl, ?_⟩
          have h := hm.out
          rw [primesF, if_neg (by omega)] at h
          exact h
      obtain ⟨f', rfl, hm2⟩ := step
      replace hm2 := Lib.hid hm2
      clear hm
      replace hbr := Lib.hid hbr
      go_wp2
      go_loopw [14] (fun i wr2 => wr2 = wr ∧ ∃ j : Nat, j ≤ l.length ∧ i = .int .i64 j ∧ Hid (∀ q ∈ l.take j, p % q ≠ 0))
        (fun i _ => l.length - (intOf i).toNat)
      case atStart => exact ⟨rfl, 0, by omega, rfl, (by intro q hq; simp at hq)⟩
      case round =>
        obtain ⟨rfl, j, hj, rfl, hno⟩ := hrel
        by_cases hlj : j < l.length
        · obtain ⟨b, off, cp, hv, _, _, _, hb, hcells⟩ := Cells.at hcl.out (by omega)
          simp only [Value.slice.injEq] at hv
          obtain ⟨rfl, _, rfl⟩ := hv
          have hcell := hcells j _ (u64s_get l j hlj)
          obtain ⟨q, hqq⟩ : ∃ q, q = l.getD j 0 := ⟨_, rfl⟩
          rw [← hqq] at hcell
          have hmem : q ∈ l := by rw [hqq, List.getD, List.getElem?_eq_getElem hlj]; exact List.getElem_mem hlj
          have hq2 := hq.out q hmem
          have HCL := Lib.hid hcells
          clear hcells
          replace hmem := Lib.hid hmem
          replace hqq := Lib.hid hqq
          have hq0 : (q : Int) ≠ 0 := by omega
          have hmod : ((p : Int) % q) = ((p % q : Nat) : Int) := by simp
          by_cases hdv : p % q = 0
          · have hdi : ((p : Int) % q == 0) = true := by rw [hmod, hdv]; rfl
            have hany : l.any (fun q => p % q == 0) = true := List.any_eq_true.2 ⟨q, hmem.out, by simp [hdv]⟩
            have hm3 := hm2.out
            rw [if_pos hany] at hm3
            replace hm3 := Lib.hid hm3
            replace hany := Lib.hid hany
            clear hmod
            go_wp2
            go_roundw
            case rel => exact ⟨f', p + 1, l, by omega, by omega, by go_num, hbr.out, HO.out, hl64, hq.out, hm3.out⟩
            case measure => simp [intOf]; omega
          · have hdi : ((p : Int) % q == 0) = false := by rw [hmod]; simp; omega
            clear hmod
            go_wp2
            go_roundw
            case rel =>
              refine ⟨by simp, j + 1, by omega, by go_num, ?_⟩
              show ∀ q ∈ l.take (j + 1), p % q ≠ 0
              intro x hx
              rw [List.take_succ_eq_append_getElem hlj, List.mem_append] at hx
              rcases hx with hx | hx
              · exact hno.out x hx
              · simp only [List.mem_singleton] at hx
                have e : l[j] = q := by rw [hqq.out, List.getD, List.getElem?_eq_getElem hlj]; rfl
                rw [hx, e]
                exact hdv
            case measure => simp [intOf]; omega
        · have hjl : j = l.length := by omega
          rw [hjl] at hno
          clear hjl
          have hany : ¬ l.any (fun q => p % q == 0) = true := by
            intro h
            obtain ⟨x, hx, h0⟩ := List.any_eq_true.1 h
            have := hno.out x (by rw [List.take_length]; exact hx)
            simp at h0
            exact this h0
          have hm3 := hm2.out
          rw [if_neg hany] at hm3
          replace hm3 := Lib.hid hm3
          have ho2 : (wr.alloc (.cells #[.int .u64 p] 47)).ownsRow _ _ _ _ _ _ := owns_keep HO.out (fun g hg => Below.heap_alloc _ _ _ (owns_lt HO.out g hg))
          have hcb : Cells (wr.alloc (.cells #[.int .u64 p] 47)) (fun _ => True) (.slice (some ⟨wr.heap.size, 0, none⟩) 1 1) 1 1 [.int .u64 p] := by
            refine ⟨rfl, some ⟨wr.heap.size, 0, none⟩, 1, rfl, Nat.le_refl _, by unfold maxLen; omega, fun h => (by cases h), .inr ⟨_, 0, rfl, trivial, by simp, fun j u hu => ?_⟩⟩
            rw [cell_of (heap_alloc_new wr _), ← hu, Nat.zero_add]
            simp
          have HO2 := Lib.hid ho2
          have HCB := Lib.hid hcb
          have HBK := Lib.hid (fun g => owns_ge HO.out g)
          clear ho2 hcb hany hno
          go_wp2_with (at_builtin; refine K.append ?_ (.tmp 23) (.tmp 25) 132 ?_ w.heap.size 47 (.int .u64 0) 1 8 Try.underlying132 infoU64 hz1 (by omega) _ l.length _ ?_ HO2.out (fun _ => True) _ 1 [.int .u64 p] ?_ HCB.out (by simp [Value.oneCell']) (by unfold maxLen; omega) (by omega) ?_ ?_)
          · rfl
          · rfl
          · rfl
          · rfl
          · have := hbr.out.size; simp; omega
          intro v' w2 x1 x2 x3 x4
          have X1 := Lib.hid x1
          clear x1
          go_wp2
          go_roundw
          case rel =>
            have hb2 : Below w.heap.size w (wr.alloc (.cells #[.int .u64 p] 47)) := hbr.out.alloc hbr.out.size _
            refine ⟨f', p + 1, l ++ [p], by omega, by omega, by go_num, ((Chg.of_below hb2 No).grown x2 (fun g hg hl => absurd (HBK.out g hg) (by omega))).no, ?_, by simp; omega, ?_, hm3.out⟩
            · show World.ownsRow _ _ _ _ _ _ _
              have h := X1.out
              simp only [u64s, List.map_append, List.length_append, List.length_cons, List.length_nil, List.map_cons, List.map_nil, Nat.zero_add] at h ⊢
              exact h
            · intro x hx
              rcases List.mem_append.1 hx with hx | hx
              · exact hq.out x hx
              · simp only [List.mem_singleton] at hx
                omega
          case measure => simp [intOf]; omega
    · have hfin : l = R := by
        rw [← hm.out]
        cases f with
        | zero => rfl
        | succ f => rw [primesF, if_pos (by omega)]
      replace hfin := Lib.hid hfin
      clear hm
      replace hbr := Lib.hid hbr
      go_wp2
      rw [Exit.noGoto_ret]
      go_ret
      refine ⟨_, rfl, ?_, hbr.out⟩
      rw [← hfin.out]
      exact HO.out
attribute [irreducible] primes

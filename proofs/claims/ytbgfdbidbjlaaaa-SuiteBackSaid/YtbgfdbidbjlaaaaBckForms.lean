/-
  SuiteForms answers true. No condition.
-/
import Derived.Test.YtbgfdbidbjlaaaaBckAwake
namespace Go.Proofs.Ytbgfdbidbjlaaaa.Fd
open Go Go.RowKit K

section
variable {w : World} {s : Nat} {c t : Option Addr}
theorem seal_bad (hs : SuiteAt w s c t) (what kv dv : Value) (unit : Int) (h : Calls Try.prog 30 #[kv, .int .i64 unit, dv] w fun e w' => e = .returned (.bool false) ∧ Below w.heap.size w w') :
    Calls Try.prog 10 #[.pointer (some ⟨s, 0, none⟩), what, kv, .int .i64 unit, dv] w fun e w' => e = .returned (.tuple #[.slice none 0 0, .int .i64 1]) ∧ Below w.heap.size w w' := by
  cases c with
  | none => exact seal_real hs _ _ _ _ _ ((xtsEncBad_ok kv dv unit h).mono fun e w' h => ⟨none, 0, 0, 1, h.1, h⟩)
  | some c => exact seal_ideal hs _ _ _ _ _ ((suThroughBad_ok what kv dv _ unit h).mono fun e w' h => ⟨none, 0, 0, 1, h.1, h⟩)
theorem open_bad (hs : SuiteAt w s c t) (what kv dv : Value) (unit : Int) (h : Calls Try.prog 30 #[kv, .int .i64 unit, dv] w fun e w' => e = .returned (.bool false) ∧ Below w.heap.size w w') :
    Calls Try.prog 12 #[.pointer (some ⟨s, 0, none⟩), what, kv, .int .i64 unit, dv] w fun e w' => e = .returned (.tuple #[.slice none 0 0, .int .i64 1]) ∧ Below w.heap.size w w' := by
  cases c with
  | none => exact open_real hs _ _ _ _ _ ((xtsDecBad_ok kv dv unit h).mono fun e w' h => ⟨none, 0, 0, 1, h.1, h⟩)
  | some c => exact open_ideal hs _ _ _ _ _ ((suThroughBad_ok what kv dv _ unit h).mono fun e w' h => ⟨none, 0, 0, 1, h.1, h⟩)
theorem derive_bad (hs : SuiteAt w s c t) (what : ByteArray) (hw : what.size ≤ 1000) (a b : Option Addr) (n cap m cap' : Nat) (r len : Int) (h1 : mayB n m r = false) (h2 : mayB n m (min r 1) = false) :
    Calls Try.prog 14 #[.pointer (some ⟨s, 0, none⟩), .string what, .slice a n cap, .slice b m cap', .int .i64 r, .int .i64 len] w fun e w' => e = .returned (.tuple #[.slice none 0 0, .int .i64 1]) ∧ Below w.heap.size w w' := by
  cases c with
  | none => exact derive_real hs _ _ _ _ _ _ ((key_bad a b n cap m cap' r len (.inl h1) w).mono fun e w' h => ⟨none, 0, 0, 1, h.1, h.1, by rw [← h.2]; exact Below.refl _ _⟩)
  | some c => exact derive_ideal hs _ hw _ _ _ _ _ ((idKey_bad (.pointer (some c)) _ _ _ r len w (key_bad a b n cap m cap' (min r 1) 0 (.inl h2) w)).mono fun e w' h => ⟨none, 0, 0, 1, h.1, h.1, by rw [← h.2]; exact Below.refl _ _⟩)
theorem derive_long (hs : SuiteAt w s c t) (what : ByteArray) (hw : what.size ≤ 1000) (len : Int) (hl : 256 < len) :
    Calls Try.prog 14 #[.pointer (some ⟨s, 0, none⟩), .string what, .slice none 0 0, .slice none 0 0, .int .i64 1, .int .i64 len] w fun e w' => e = .returned (.tuple #[.slice none 0 0, .int .i64 1]) ∧ Below w.heap.size w w' := by
  cases c with
  | none => exact derive_real hs _ _ _ _ _ _ ((key_bad none none 0 0 0 0 1 len (.inr (.inr hl)) w).mono fun e w' h => ⟨none, 0, 0, 1, h.1, h.1, by rw [← h.2]; exact Below.refl _ _⟩)
  | some c => exact derive_ideal hs _ hw _ _ _ _ _ ((idKey_long (.pointer (some c)) _ _ _ len hl w ((key_ok (Bytes.nil w (fun _ => True)) (Bytes.nil w (fun _ => True)) (by simp) (by simp) 1 0 (Nat.le_refl _) (by omega) (by omega)).mono (by
      rintro e w' ⟨v, rfl, h1, h2⟩
      obtain ⟨a, c, rfl, _, _⟩ := (Cells.own h1).shape
      exact ⟨a, _, c, rfl, h2⟩))).mono fun e w' h => ⟨none, 0, 0, 1, h.1, h⟩)
end

set_option maxRecDepth 100000 in
set_option maxHeartbeats 4000000 in
theorem made_ideal (t : Option Addr) (w : World) (Q : Ending → World → Prop) (h : Calls Try.prog 15 #[.pointer t] w fun e w' => ∃ p, e = .returned (.pointer (some p)) ∧ Q e w') : Calls Try.prog 9 #[.pointer t, .bool true] w Q := by
  replace h := Lib.hid h
  go_enter Try.func9, Try.ntmps9
  go_wp2_with fail
  refine h.out.mono ?_
  rintro e w' ⟨p, rfl, hQ⟩
  replace hQ := Lib.hid hQ
  go_wp2
  exact hQ.out
set_option maxRecDepth 100000 in
set_option maxHeartbeats 4000000 in
theorem made_real (t : Option Addr) (w : World) (Q : Ending → World → Prop) (h : Calls Try.prog 18 #[.pointer t] w fun e w' => ∃ p, e = .returned (.pointer (some p)) ∧ Q e w') : Calls Try.prog 9 #[.pointer t, .bool false] w Q := by
  replace h := Lib.hid h
  go_enter Try.func9, Try.ntmps9
  go_wp2_with fail
  refine h.out.mono ?_
  rintro e w' ⟨p, rfl, hQ⟩
  replace hQ := Lib.hid hQ
  go_wp2
  exact hQ.out
theorem suMade_ok (t : Option Addr) (b : Bool) (w : World) : Calls Try.prog 9 #[.pointer t, .bool b] w fun e w' => ∃ s c, e = .returned (.pointer (some ⟨s, 0, none⟩)) ∧ SuiteAt w' s c t ∧ Below w.heap.size w w' := by
  cases b with
  | false => exact made_real t w _ ((real_ok t w).mono fun e w' ⟨p, h1, _, h3, h4⟩ => ⟨_, h1, p, none, h1, h3, h4⟩)
  | true => exact made_ideal t w _ ((suIdeal_ok t w).mono fun e w' ⟨s, p, m, k, h1, _, _, _, _, h2, h3, h4⟩ => ⟨_, h1, s, some ⟨p, 0, none⟩, h1, h2, h4⟩)

set_option maxRecDepth 100000 in
set_option maxHeartbeats 8000000 in
theorem forms_ok (b : Bool) (k : Int) (w : World) : Calls Try.prog 4 #[.bool b, .int .i64 k] w fun e w' => e = .returned (.bool true) ∧ Below w.heap.size w w' := by
  obtain ⟨B, hB⟩ : ∃ B, B = w.heap.size := ⟨_, rfl⟩
  have ht := Lib.hid (alTape_ok 2 1000 (by omega) (by omega) w)
  have hr : ∀ w, _ := round8_ok k
  have hr1 : roundK k 8 = 0 ∨ roundK k 8 = 1 ∨ roundK k 8 = 2 ∨ roundK k 8 = 3 ∨ roundK k 8 = 4 ∨ roundK k 8 = 5 ∨ roundK k 8 = 6 ∨ roundK k 8 = 7 := by
    have t1 := Int.lt_tmod_of_pos k (by omega : (0 : Int) < 8)
    have t2 := Int.tmod_lt_of_pos k (by omega : (0 : Int) < 8)
    have t3 := Int.tmod_lt_of_pos (k.tmod 8 + 8) (by omega : (0 : Int) < 8)
    have t4 := Int.tmod_nonneg (a := k.tmod 8 + 8) 8 (by omega)
    unfold roundK
    omega
  obtain ⟨R, hR⟩ : ∃ R, R = roundK k 8 := ⟨_, rfl⟩
  rw [← hR] at hr1 hr
  clear hR
  replace hr := Lib.hid hr
  replace hB := Lib.hid hB
  go_enter Try.func4, Try.ntmps4
  go_wp2_with fail
  refine ht.out.mono ?_
  rintro e w1 ⟨v, l, rfl, hl, hbl, hb1⟩
  have hnew := Lib.hid (tapeNewO_ok hbl (by omega))
  obtain ⟨va, vc, rfl, hv1, hv2⟩ := hbl.shape
  rw [hl] at hv1 ⊢
  unfold maxLen at hv2
  have k1 : Below B w w1 := hB.out ▸ hb1
  replace k1 := Lib.hid k1
  replace hl := Lib.hid hl
  rw [hl.out] at hnew
  clear hbl hb1 ht
  go_wp2_with fail
  refine hnew.out.mono ?_
  rintro e w2 ⟨p, bv, rfl, hT, hb2⟩
  have hmd := Lib.hid (suMade_ok (some ⟨p, 0, none⟩) b w2)
  have k2 : Below B w w2 := k1.out.trans (hb2.mono (by have := k1.out.size; have := hB.out; omega))
  replace k2 := Lib.hid k2
  replace hT := Lib.hid hT
  clear hnew hb2 k1
  go_wp2_with fail
  refine hmd.out.mono ?_
  rintro e w3 ⟨s, c, rfl, hs, hb3⟩
  have hT3 := hT.out.after hb3
  have k3 : Below B w w3 := k2.out.trans (hb3.mono (by have := k2.out.size; have := hB.out; omega))
  obtain ⟨X, hX⟩ : ∃ X, X = w3.alloc (.cells (u8s (zl 32)).toArray 5) := ⟨_, rfl⟩
  have aX : Arr X w3.heap.size 5 (zl 32) := hX ▸ heap_alloc_new w3 _
  have bX : Below w3.heap.size w3 X := by rw [hX]; exact (Below.refl _ _).alloc (Nat.le_refl _) _
  have hTX := hT3.after bX
  have hsX : SuiteAt X s c (some ⟨p, 0, none⟩) := (bX.block _ (heap_lt hs)).trans hs
  have kX : Below B w X := k3.trans (bX.mono (by have := k3.size; have := hB.out; omega))
  have hmk : (Instr.makeSlice 22 (.int .i64 32) (.int .i64 32)).run Try.prog w3 = .ok (.slice (some ⟨w3.heap.size, 0, none⟩) 32 32) X := by rw [hX]; exact mk_zl w3 32 32 rfl (by omega)
  have hleft : ∀ Y, Below X.heap.size X Y → Calls Try.prog 11 #[.pointer (some ⟨p, 0, none⟩)] Y fun e w' => e = .returned (.int .i64 1000) ∧ Chg No Y w' := fun Y hY => by
    have h := left_ok (hTX.after hY).at
    rw [hl.out] at h
    exact h
  obtain ⟨kb, hkb⟩ : ∃ kb, kb = w3.heap.size := ⟨_, rfl⟩
  rw [← hkb] at aX
  have hmkX : ∀ n : Nat, (Instr.makeSlice 22 (.int .i64 n) (.int .i64 n)).run Try.prog X = .ok (.slice (some ⟨X.heap.size, 0, none⟩) n n) (X.alloc (.cells (u8s (zl n)).toArray 5)) ∨ 1000000 < n := fun n => by
    by_cases h : n ≤ 1000000
    · exact .inl (mk_zl X n n rfl h)
    · exact .inr (by omega)
  have hbK : ∀ Y, Below X.heap.size X Y → Bytes Y (fun _ => True) (.slice (some ⟨kb, 0, none⟩) 32 32) (zl 32) := fun Y hY => arr_bytes' (aX.keep (hY.block _ (heap_lt aX))) zl_length (by omega)
  have hsY : ∀ Y, Below X.heap.size X Y → SuiteAt Y s c (some ⟨p, 0, none⟩) := fun Y hY => (hY.block _ (heap_lt hsX)).trans hsX
  have hal : ∀ n : Nat, Below X.heap.size X (X.alloc (.cells (u8s (zl n)).toArray 5)) := fun n => (Below.refl _ _).alloc (Nat.le_refl _) _
  have hfin : ∀ Y Z V, Below X.heap.size X Y → Chg No Y Z → Below Z.heap.size Z V → Below w.heap.size w V := fun Y Z V h1 h2 h3 => by
    have hBX : B ≤ X.heap.size := by have := kX.size; have := hB.out; omega
    have h4 := (kX.trans (h1.mono hBX)).trans ((Chg.no h2).mono (Nat.le_trans hBX h1.size))
    rw [← hB.out]
    exact h4.trans (h3.mono (Nat.le_trans hBX (Nat.le_trans h1.size h2.size)))
  replace hmk := Lib.hid hmk
  have hmk' := hmk.out
  replace hleft := Lib.hid hleft
  replace hbK := Lib.hid hbK
  replace hsY := Lib.hid hsY
  replace hal := Lib.hid hal
  replace hfin := Lib.hid hfin
  replace hmkX := Lib.hid hmkX
  replace hkb := Lib.hid hkb
  clear hTX hsX kX bX aX hX hT3 k3 hs hb3 hmd k2 hT
  go_wp2_with fail
  refine (hr.out X).mono ?_
  rintro e w' ⟨rfl, rfl⟩
  clear hmk hmk' hr
  rw [← hkb.out]
  rcases hr1 with h | h | h | h | h | h | h | h
  · subst h
    have hm := (hmkX.out 16).resolve_right (by omega)
    have hq := hal.out 16
    have hcall := seal_bad (hsY.out _ hq) (.string ⟨#[119]⟩) (.slice (some ⟨X.heap.size, 0, none⟩) 16 16) (.slice (some ⟨kb, 0, none⟩) 32 32) 0 (mayBad_ok _ 16 16 0 (by omega) (by omega) (by omega) (by rintro ⟨h, _⟩; omega) _ _)
    obtain ⟨Y, hY⟩ : ∃ Y, Y = X.alloc (.cells (u8s (zl 16)).toArray 5) := ⟨_, rfl⟩
    rw [← hY] at hm hq hcall
    clear hY
    have hm2 : (Instr.makeSlice 22 (.int .i64 16) (.int .i64 16)).run Try.prog X = .ok (.slice (some ⟨X.heap.size, 0, none⟩) 16 16) Y := hm
    clear hm
    replace hcall := Lib.hid hcall
    replace hq := Lib.hid hq
    go_wp2_with fail
    refine hcall.out.mono ?_
    rintro e Z ⟨rfl, hz⟩
    have hXZ := hq.out.trans (hz.mono hq.out.size)
    have hlf := Lib.hid (hleft.out Z hXZ)
    replace hXZ := Lib.hid hXZ
    clear hcall hz
    go_wp2_with fail
    refine hlf.out.mono ?_
    rintro e U ⟨rfl, hU⟩
    have haw := Lib.hid (awake_ok U)
    replace hU := Lib.hid hU
    clear hlf
    go_wp2_with fail
    refine haw.out.mono ?_
    rintro e V ⟨rfl, hV⟩
    replace hV := Lib.hid hV
    clear haw
    go_wp2
    go_ret
    exact ⟨rfl, hfin.out _ _ _ hXZ.out hU.out hV.out⟩
  · subst h
    have hq : Below X.heap.size X X := Below.refl _ _
    have hcall := seal_bad (hsY.out X hq) (.string ⟨#[119]⟩) (.slice (some ⟨kb, 0, none⟩) 32 32) (.slice (some ⟨kb, 0, none⟩) 32 32) (-1) (mayBad_ok _ 32 32 (-1) (by omega) (by omega) (by omega) (by rintro ⟨_, h, _⟩; omega) _ _)
    replace hcall := Lib.hid hcall
    replace hq := Lib.hid hq
    go_wp2_with fail
    refine hcall.out.mono ?_
    rintro e Z ⟨rfl, hz⟩
    have hXZ := hq.out.trans (hz.mono hq.out.size)
    have hlf := Lib.hid (hleft.out Z hXZ)
    replace hXZ := Lib.hid hXZ
    clear hcall hz
    go_wp2_with fail
    refine hlf.out.mono ?_
    rintro e U ⟨rfl, hU⟩
    have haw := Lib.hid (awake_ok U)
    replace hU := Lib.hid hU
    clear hlf
    go_wp2_with fail
    refine haw.out.mono ?_
    rintro e V ⟨rfl, hV⟩
    replace hV := Lib.hid hV
    clear haw
    go_wp2
    go_ret
    exact ⟨rfl, hfin.out _ _ _ hXZ.out hU.out hV.out⟩
  · subst h
    have hq : Below X.heap.size X X := Below.refl _ _
    have hcall := open_bad (hsY.out X hq) (.string ⟨#[119]⟩) (.slice (some ⟨kb, 0, none⟩) 32 32) (.slice (some ⟨kb, 0, none⟩) 32 32) 1099511627777 (mayBad_ok _ 32 32 1099511627777 (by omega) (by omega) (by omega) (by rintro ⟨_, _, h⟩; omega) _ _)
    replace hcall := Lib.hid hcall
    replace hq := Lib.hid hq
    go_wp2_with fail
    refine hcall.out.mono ?_
    rintro e Z ⟨rfl, hz⟩
    have hXZ := hq.out.trans (hz.mono hq.out.size)
    have hlf := Lib.hid (hleft.out Z hXZ)
    replace hXZ := Lib.hid hXZ
    clear hcall hz
    go_wp2_with fail
    refine hlf.out.mono ?_
    rintro e U ⟨rfl, hU⟩
    have haw := Lib.hid (awake_ok U)
    replace hU := Lib.hid hU
    clear hlf
    go_wp2_with fail
    refine haw.out.mono ?_
    rintro e V ⟨rfl, hV⟩
    replace hV := Lib.hid hV
    clear haw
    go_wp2
    go_ret
    exact ⟨rfl, hfin.out _ _ _ hXZ.out hU.out hV.out⟩
  · subst h
    have hm := (hmkX.out 17).resolve_right (by omega)
    have hq := hal.out 17
    have hcall := open_bad (hsY.out _ hq) (.string ⟨#[119]⟩) (.slice (some ⟨kb, 0, none⟩) 32 32) (.slice (some ⟨X.heap.size, 0, none⟩) 17 17) 0 (mayKey_ok (hbK.out _ hq) 0 ⟨.inl zl_length, by omega, by omega⟩ _ 17 17 (by omega))
    obtain ⟨Y, hY⟩ : ∃ Y, Y = X.alloc (.cells (u8s (zl 17)).toArray 5) := ⟨_, rfl⟩
    rw [← hY] at hm hq hcall
    clear hY
    have hm2 : (Instr.makeSlice 22 (.int .i64 17) (.int .i64 17)).run Try.prog X = .ok (.slice (some ⟨X.heap.size, 0, none⟩) 17 17) Y := hm
    clear hm
    replace hcall := Lib.hid hcall
    replace hq := Lib.hid hq
    go_wp2_with fail
    refine hcall.out.mono ?_
    rintro e Z ⟨rfl, hz⟩
    have hXZ := hq.out.trans (hz.mono hq.out.size)
    have hlf := Lib.hid (hleft.out Z hXZ)
    replace hXZ := Lib.hid hXZ
    clear hcall hz
    go_wp2_with fail
    refine hlf.out.mono ?_
    rintro e U ⟨rfl, hU⟩
    have haw := Lib.hid (awake_ok U)
    replace hU := Lib.hid hU
    clear hlf
    go_wp2_with fail
    refine haw.out.mono ?_
    rintro e V ⟨rfl, hV⟩
    replace hV := Lib.hid hV
    clear haw
    go_wp2
    go_ret
    exact ⟨rfl, hfin.out _ _ _ hXZ.out hU.out hV.out⟩
  · subst h
    have hm := (hmkX.out 4112).resolve_right (by omega)
    have hq := hal.out 4112
    have hcall := seal_bad (hsY.out _ hq) (.string ⟨#[119]⟩) (.slice (some ⟨kb, 0, none⟩) 32 32) (.slice (some ⟨X.heap.size, 0, none⟩) 4112 4112) 0 (mayKey_ok (hbK.out _ hq) 0 ⟨.inl zl_length, by omega, by omega⟩ _ 4112 4112 (by omega))
    obtain ⟨Y, hY⟩ : ∃ Y, Y = X.alloc (.cells (u8s (zl 4112)).toArray 5) := ⟨_, rfl⟩
    rw [← hY] at hm hq hcall
    clear hY
    have hm2 : (Instr.makeSlice 22 (.int .i64 4112) (.int .i64 4112)).run Try.prog X = .ok (.slice (some ⟨X.heap.size, 0, none⟩) 4112 4112) Y := hm
    clear hm
    replace hcall := Lib.hid hcall
    replace hq := Lib.hid hq
    go_wp2_with fail
    refine hcall.out.mono ?_
    rintro e Z ⟨rfl, hz⟩
    have hXZ := hq.out.trans (hz.mono hq.out.size)
    have hlf := Lib.hid (hleft.out Z hXZ)
    replace hXZ := Lib.hid hXZ
    clear hcall hz
    go_wp2_with fail
    refine hlf.out.mono ?_
    rintro e U ⟨rfl, hU⟩
    have haw := Lib.hid (awake_ok U)
    replace hU := Lib.hid hU
    clear hlf
    go_wp2_with fail
    refine haw.out.mono ?_
    rintro e V ⟨rfl, hV⟩
    replace hV := Lib.hid hV
    clear haw
    go_wp2
    go_ret
    exact ⟨rfl, hfin.out _ _ _ hXZ.out hU.out hV.out⟩
  · subst h
    have hm := (hmkX.out 129).resolve_right (by omega)
    have hq := hal.out 129
    have hcall := derive_bad (hsY.out _ hq) ⟨#[119]⟩ (by decide) (some ⟨X.heap.size, 0, none⟩) none 129 129 0 0 1 1 (by decide) (by decide)
    obtain ⟨Y, hY⟩ : ∃ Y, Y = X.alloc (.cells (u8s (zl 129)).toArray 5) := ⟨_, rfl⟩
    rw [← hY] at hm hq hcall
    clear hY
    have hm2 : (Instr.makeSlice 22 (.int .i64 129) (.int .i64 129)).run Try.prog X = .ok (.slice (some ⟨X.heap.size, 0, none⟩) 129 129) Y := hm
    clear hm
    replace hcall := Lib.hid hcall
    replace hq := Lib.hid hq
    go_wp2_with fail
    refine hcall.out.mono ?_
    rintro e Z ⟨rfl, hz⟩
    have hXZ := hq.out.trans (hz.mono hq.out.size)
    have hlf := Lib.hid (hleft.out Z hXZ)
    replace hXZ := Lib.hid hXZ
    clear hcall hz
    go_wp2_with fail
    refine hlf.out.mono ?_
    rintro e U ⟨rfl, hU⟩
    have haw := Lib.hid (awake_ok U)
    replace hU := Lib.hid hU
    clear hlf
    go_wp2_with fail
    refine haw.out.mono ?_
    rintro e V ⟨rfl, hV⟩
    replace hV := Lib.hid hV
    clear haw
    go_wp2
    go_ret
    exact ⟨rfl, hfin.out _ _ _ hXZ.out hU.out hV.out⟩
  · subst h
    have hq : Below X.heap.size X X := Below.refl _ _
    have hcall := derive_bad (hsY.out X hq) ⟨#[119]⟩ (by decide) none none 0 0 0 0 0 1 (by decide) (by decide)
    replace hcall := Lib.hid hcall
    replace hq := Lib.hid hq
    go_wp2_with fail
    refine hcall.out.mono ?_
    rintro e Z ⟨rfl, hz⟩
    have hXZ := hq.out.trans (hz.mono hq.out.size)
    have hlf := Lib.hid (hleft.out Z hXZ)
    replace hXZ := Lib.hid hXZ
    clear hcall hz
    go_wp2_with fail
    refine hlf.out.mono ?_
    rintro e U ⟨rfl, hU⟩
    have haw := Lib.hid (awake_ok U)
    replace hU := Lib.hid hU
    clear hlf
    go_wp2_with fail
    refine haw.out.mono ?_
    rintro e V ⟨rfl, hV⟩
    replace hV := Lib.hid hV
    clear haw
    go_wp2
    go_ret
    exact ⟨rfl, hfin.out _ _ _ hXZ.out hU.out hV.out⟩
  · subst h
    have hq : Below X.heap.size X X := Below.refl _ _
    have hcall := derive_long (hsY.out X hq) ⟨#[119]⟩ (by decide) 257 (by omega)
    replace hcall := Lib.hid hcall
    replace hq := Lib.hid hq
    go_wp2_with fail
    refine hcall.out.mono ?_
    rintro e Z ⟨rfl, hz⟩
    have hXZ := hq.out.trans (hz.mono hq.out.size)
    have hlf := Lib.hid (hleft.out Z hXZ)
    replace hXZ := Lib.hid hXZ
    clear hcall hz
    go_wp2_with fail
    refine hlf.out.mono ?_
    rintro e U ⟨rfl, hU⟩
    have haw := Lib.hid (awake_ok U)
    replace hU := Lib.hid hU
    clear hlf
    go_wp2_with fail
    refine haw.out.mono ?_
    rintro e V ⟨rfl, hV⟩
    replace hV := Lib.hid hV
    clear haw
    go_wp2
    go_ret
    exact ⟨rfl, hfin.out _ _ _ hXZ.out hU.out hV.out⟩
end Go.Proofs.Ytbgfdbidbjlaaaa.Fd

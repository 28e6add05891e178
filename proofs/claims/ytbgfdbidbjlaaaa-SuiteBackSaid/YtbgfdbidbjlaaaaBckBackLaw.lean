/-
  SuiteBack answers true. No condition.
-/
import Derived.Test.YtbgfdbidbjlaaaaBckBackOk
namespace Go.Proofs.Ytbgfdbidbjlaaaa.Fd
open Go Go.RowKit K

set_option maxRecDepth 100000 in
set_option maxHeartbeats 8000000 in
/-- what is not looked at -/
theorem back_skip {w : World} (b : Bool) (seed unit : Int) (x y : Option Addr) (n1 n2 c1 c2 : Nat) (h1 : n1 ≤ maxLen) (h2 : n2 ≤ maxLen) (h : ¬ ((n1 = 32 ∨ n1 = 64) ∧ 0 ≤ unit ∧ unit ≤ 1099511627776 ∧ n2 % 16 = 0 ∧ n2 ≤ 400)) :
    Calls Try.prog 3 #[.bool b, .int .i64 seed, .slice x n1 c1, .int .i64 unit, .slice y n2 c2] w fun e w' => e = .returned (.bool true) ∧ Below w.heap.size w w' := by
  have haw := Lib.hid (awake_ok w)
  unfold maxLen at h1 h2
  by_cases g1 : n1 = 32
  · by_cases g2 : 0 ≤ unit
    · by_cases g3 : unit ≤ 1099511627776
      · by_cases g4 : n2 % 16 = 0
        · have g5 : 400 < n2 := by omega
          clear h
          subst g1
          go_enter Try.func3, Try.ntmps3
          go_wp2_with (go_at_call 6; refine haw.out.mono ?_; rintro e w' ⟨rfl, hb⟩; replace hb := Lib.hid hb)
          all_goals go_ret
          all_goals exact ⟨rfl, hb.out⟩
        · clear h
          subst g1
          go_enter Try.func3, Try.ntmps3
          go_wp2_with (go_at_call 6; refine haw.out.mono ?_; rintro e w' ⟨rfl, hb⟩; replace hb := Lib.hid hb)
          all_goals go_ret
          all_goals exact ⟨rfl, hb.out⟩
      · clear h
        subst g1
        go_enter Try.func3, Try.ntmps3
        go_wp2_with (go_at_call 6; refine haw.out.mono ?_; rintro e w' ⟨rfl, hb⟩; replace hb := Lib.hid hb)
        all_goals go_ret
        all_goals exact ⟨rfl, hb.out⟩
    · clear h
      subst g1
      go_enter Try.func3, Try.ntmps3
      go_wp2_with (go_at_call 6; refine haw.out.mono ?_; rintro e w' ⟨rfl, hb⟩; replace hb := Lib.hid hb)
      all_goals go_ret
      all_goals exact ⟨rfl, hb.out⟩
  · by_cases g1' : n1 = 64
    · by_cases g2 : 0 ≤ unit
      · by_cases g3 : unit ≤ 1099511627776
        · by_cases g4 : n2 % 16 = 0
          · have g5 : 400 < n2 := by omega
            clear h
            subst g1'
            go_enter Try.func3, Try.ntmps3
            go_wp2_with (go_at_call 6; refine haw.out.mono ?_; rintro e w' ⟨rfl, hb⟩; replace hb := Lib.hid hb)
            all_goals go_ret
            all_goals exact ⟨rfl, hb.out⟩
          · clear h
            subst g1'
            go_enter Try.func3, Try.ntmps3
            go_wp2_with (go_at_call 6; refine haw.out.mono ?_; rintro e w' ⟨rfl, hb⟩; replace hb := Lib.hid hb)
            all_goals go_ret
            all_goals exact ⟨rfl, hb.out⟩
        · clear h
          subst g1'
          go_enter Try.func3, Try.ntmps3
          go_wp2_with (go_at_call 6; refine haw.out.mono ?_; rintro e w' ⟨rfl, hb⟩; replace hb := Lib.hid hb)
          all_goals go_ret
          all_goals exact ⟨rfl, hb.out⟩
      · clear h
        subst g1'
        go_enter Try.func3, Try.ntmps3
        go_wp2_with (go_at_call 6; refine haw.out.mono ?_; rintro e w' ⟨rfl, hb⟩; replace hb := Lib.hid hb)
        all_goals go_ret
        all_goals exact ⟨rfl, hb.out⟩
    · clear h
      go_enter Try.func3, Try.ntmps3
      go_wp2_with (go_at_call 6; refine haw.out.mono ?_; rintro e w' ⟨rfl, hb⟩; replace hb := Lib.hid hb)
      all_goals go_ret
      all_goals exact ⟨rfl, hb.out⟩

set_option maxRecDepth 100000 in
set_option maxHeartbeats 8000000 in
theorem back_mainfalse32 {w : World} {seed : Int} {a1 a2 : Option Addr} {n1 m c1 c2 unit : Nat} (hc1 : n1 ≤ c1) (_hc1m : c1 ≤ maxLen) (_hc2 : m ≤ c2) (_hc2m : c2 ≤ maxLen) (hn1 : n1 = 32) (hu : unit ≤ 1099511627776) (h16 : m % 16 = 0) (h400 : m ≤ 400)
    (hmade : ∀ w2 p bv l, Below w.heap.size w w2 → w.heap.size ≤ w2.heap.size → TapeO w2 w.heap.size p bv (.slice none 0 0) l 0 [] → l.length = 2000 → Calls Try.prog 9 #[.pointer (some ⟨p, 0, none⟩), .bool false] w2 fun e w3 => ∃ s, e = .returned (.pointer (some ⟨s, 0, none⟩)) ∧ BackOk false w.heap.size w (.slice a1 n1 c1) (.slice a2 m c2) unit m p s w3) :
    Calls Try.prog 3 #[.bool false, .int .i64 seed, .slice a1 n1 c1, .int .i64 unit, .slice a2 m c2] w fun e w' => e = .returned (.bool true) ∧ Below w.heap.size w w' := by
  subst hn1
  have ht := Lib.hid (alTape_ok seed 2000 (by omega) (by omega) w)
  replace hmade := Lib.hid hmade
  obtain ⟨B, hB⟩ : ∃ B, B = w.heap.size := ⟨_, rfl⟩
  replace hB := Lib.hid hB
  go_enter Try.func3, Try.ntmps3
  go_wp2_with fail
  refine ht.out.mono ?_
  rintro e w1 ⟨v, l, rfl, hl, hbl, hb1⟩
  have hnew := tapeNewO_ok hbl (by omega)
  obtain ⟨va, vc, rfl, hv1, hv2⟩ := hbl.shape
  rw [hl] at hv1 hnew ⊢
  unfold maxLen at hv2
  replace hnew := Lib.hid hnew
  replace hb1 := Lib.hid hb1
  replace hl := Lib.hid hl
  clear hbl ht
  go_wp2_with fail
  refine hnew.out.mono ?_
  rintro e w2 ⟨p, bv, rfl, hT, hb2⟩
  have hT' : TapeO w2 w.heap.size p bv (.slice none 0 0) l 0 [] := ⟨hT.box, Nat.le_trans hb1.out.size hT.base, owns_base hT.bytes hb1.out.size, hT.few, hT.within, World.ownsRow_nil _ _ _ _, hT.count⟩
  have hmd := Lib.hid (hmade.out w2 p bv l (hb1.out.trans (hb2.mono hb1.out.size)) (Nat.le_trans hb1.out.size hb2.size) hT' hl.out)
  clear hT hT' hb2 hnew hb1 hmade
  go_wp2_with fail
  refine hmd.out.mono ?_
  rintro e w3 ⟨s, rfl, L, X, D, hL, hseal⟩
  replace hseal := Lib.hid hseal
  clear hmd
  go_wp2_with fail
  refine hseal.out.mono ?_
  rintro e w4 ⟨a, c, rfl, q1, q2, hlf⟩
  unfold maxLen at q2
  replace hlf := Lib.hid hlf
  clear hseal
  go_wp2_with fail
  refine hlf.out.mono ?_
  rintro e w5 ⟨rfl, hop⟩
  replace hop := Lib.hid hop
  clear hlf
  go_wp2_with fail
  refine hop.out.mono ?_
  rintro e w6 ⟨d1, c3, rfl, q3, q4, hsl⟩
  unfold maxLen at q4
  replace hsl := Lib.hid hsl
  clear hop
  go_wp2_with fail
  refine hsl.out.mono ?_
  rintro e w7 ⟨d2, c4, rfl, q5, q6, s1, s2, s3, s4, hlg⟩
  unfold maxLen at q6
  unfold strOf at s1 s2 s3 s4
  replace hlg := Lib.hid hlg
  clear hsl
  go_wp2_with fail
  refine hlg.out.mono ?_
  rintro e w8 ⟨rfl, hb8⟩
  have haw := Lib.hid (awake_ok w8)
  replace hb8 := Lib.hid hb8
  clear hlg s1 s2 s3 s4
  obtain rfl : L = 2000 := by simpa using hL
  go_wp2_with fail
  refine haw.out.mono ?_
  rintro e V ⟨rfl, hV⟩
  replace hV := Lib.hid hV
  clear haw
  go_wp2
  go_ret
  refine ⟨rfl, ?_⟩
  have h9 := hb8.out
  exact h9.trans (hV.out.mono h9.size)


set_option maxRecDepth 100000 in
set_option maxHeartbeats 8000000 in
theorem back_mainfalse64 {w : World} {seed : Int} {a1 a2 : Option Addr} {n1 m c1 c2 unit : Nat} (hc1 : n1 ≤ c1) (_hc1m : c1 ≤ maxLen) (_hc2 : m ≤ c2) (_hc2m : c2 ≤ maxLen) (hn1 : n1 = 64) (hu : unit ≤ 1099511627776) (h16 : m % 16 = 0) (h400 : m ≤ 400)
    (hmade : ∀ w2 p bv l, Below w.heap.size w w2 → w.heap.size ≤ w2.heap.size → TapeO w2 w.heap.size p bv (.slice none 0 0) l 0 [] → l.length = 2000 → Calls Try.prog 9 #[.pointer (some ⟨p, 0, none⟩), .bool false] w2 fun e w3 => ∃ s, e = .returned (.pointer (some ⟨s, 0, none⟩)) ∧ BackOk false w.heap.size w (.slice a1 n1 c1) (.slice a2 m c2) unit m p s w3) :
    Calls Try.prog 3 #[.bool false, .int .i64 seed, .slice a1 n1 c1, .int .i64 unit, .slice a2 m c2] w fun e w' => e = .returned (.bool true) ∧ Below w.heap.size w w' := by
  subst hn1
  have ht := Lib.hid (alTape_ok seed 2000 (by omega) (by omega) w)
  replace hmade := Lib.hid hmade
  obtain ⟨B, hB⟩ : ∃ B, B = w.heap.size := ⟨_, rfl⟩
  replace hB := Lib.hid hB
  go_enter Try.func3, Try.ntmps3
  go_wp2_with fail
  refine ht.out.mono ?_
  rintro e w1 ⟨v, l, rfl, hl, hbl, hb1⟩
  have hnew := tapeNewO_ok hbl (by omega)
  obtain ⟨va, vc, rfl, hv1, hv2⟩ := hbl.shape
  rw [hl] at hv1 hnew ⊢
  unfold maxLen at hv2
  replace hnew := Lib.hid hnew
  replace hb1 := Lib.hid hb1
  replace hl := Lib.hid hl
  clear hbl ht
  go_wp2_with fail
  refine hnew.out.mono ?_
  rintro e w2 ⟨p, bv, rfl, hT, hb2⟩
  have hT' : TapeO w2 w.heap.size p bv (.slice none 0 0) l 0 [] := ⟨hT.box, Nat.le_trans hb1.out.size hT.base, owns_base hT.bytes hb1.out.size, hT.few, hT.within, World.ownsRow_nil _ _ _ _, hT.count⟩
  have hmd := Lib.hid (hmade.out w2 p bv l (hb1.out.trans (hb2.mono hb1.out.size)) (Nat.le_trans hb1.out.size hb2.size) hT' hl.out)
  clear hT hT' hb2 hnew hb1 hmade
  go_wp2_with fail
  refine hmd.out.mono ?_
  rintro e w3 ⟨s, rfl, L, X, D, hL, hseal⟩
  replace hseal := Lib.hid hseal
  clear hmd
  go_wp2_with fail
  refine hseal.out.mono ?_
  rintro e w4 ⟨a, c, rfl, q1, q2, hlf⟩
  unfold maxLen at q2
  replace hlf := Lib.hid hlf
  clear hseal
  go_wp2_with fail
  refine hlf.out.mono ?_
  rintro e w5 ⟨rfl, hop⟩
  replace hop := Lib.hid hop
  clear hlf
  go_wp2_with fail
  refine hop.out.mono ?_
  rintro e w6 ⟨d1, c3, rfl, q3, q4, hsl⟩
  unfold maxLen at q4
  replace hsl := Lib.hid hsl
  clear hop
  go_wp2_with fail
  refine hsl.out.mono ?_
  rintro e w7 ⟨d2, c4, rfl, q5, q6, s1, s2, s3, s4, hlg⟩
  unfold maxLen at q6
  unfold strOf at s1 s2 s3 s4
  replace hlg := Lib.hid hlg
  clear hsl
  go_wp2_with fail
  refine hlg.out.mono ?_
  rintro e w8 ⟨rfl, hb8⟩
  have haw := Lib.hid (awake_ok w8)
  replace hb8 := Lib.hid hb8
  clear hlg s1 s2 s3 s4
  obtain rfl : L = 2000 := by simpa using hL
  go_wp2_with fail
  refine haw.out.mono ?_
  rintro e V ⟨rfl, hV⟩
  replace hV := Lib.hid hV
  clear haw
  go_wp2
  go_ret
  refine ⟨rfl, ?_⟩
  have h9 := hb8.out
  exact h9.trans (hV.out.mono h9.size)


set_option maxRecDepth 100000 in
set_option maxHeartbeats 8000000 in
theorem back_maintrue32 {w : World} {seed : Int} {a1 a2 : Option Addr} {n1 m c1 c2 unit : Nat} (hc1 : n1 ≤ c1) (_hc1m : c1 ≤ maxLen) (_hc2 : m ≤ c2) (_hc2m : c2 ≤ maxLen) (hn1 : n1 = 32) (hu : unit ≤ 1099511627776) (h16 : m % 16 = 0) (h400 : m ≤ 400)
    (hmade : ∀ w2 p bv l, Below w.heap.size w w2 → w.heap.size ≤ w2.heap.size → TapeO w2 w.heap.size p bv (.slice none 0 0) l 0 [] → l.length = 2000 → Calls Try.prog 9 #[.pointer (some ⟨p, 0, none⟩), .bool true] w2 fun e w3 => ∃ s, e = .returned (.pointer (some ⟨s, 0, none⟩)) ∧ BackOk true w.heap.size w (.slice a1 n1 c1) (.slice a2 m c2) unit m p s w3) :
    Calls Try.prog 3 #[.bool true, .int .i64 seed, .slice a1 n1 c1, .int .i64 unit, .slice a2 m c2] w fun e w' => e = .returned (.bool true) ∧ Below w.heap.size w w' := by
  subst hn1
  have ht := Lib.hid (alTape_ok seed 2000 (by omega) (by omega) w)
  replace hmade := Lib.hid hmade
  obtain ⟨B, hB⟩ : ∃ B, B = w.heap.size := ⟨_, rfl⟩
  replace hB := Lib.hid hB
  go_enter Try.func3, Try.ntmps3
  go_wp2_with fail
  refine ht.out.mono ?_
  rintro e w1 ⟨v, l, rfl, hl, hbl, hb1⟩
  have hnew := tapeNewO_ok hbl (by omega)
  obtain ⟨va, vc, rfl, hv1, hv2⟩ := hbl.shape
  rw [hl] at hv1 hnew ⊢
  unfold maxLen at hv2
  replace hnew := Lib.hid hnew
  replace hb1 := Lib.hid hb1
  replace hl := Lib.hid hl
  clear hbl ht
  go_wp2_with fail
  refine hnew.out.mono ?_
  rintro e w2 ⟨p, bv, rfl, hT, hb2⟩
  have hT' : TapeO w2 w.heap.size p bv (.slice none 0 0) l 0 [] := ⟨hT.box, Nat.le_trans hb1.out.size hT.base, owns_base hT.bytes hb1.out.size, hT.few, hT.within, World.ownsRow_nil _ _ _ _, hT.count⟩
  have hmd := Lib.hid (hmade.out w2 p bv l (hb1.out.trans (hb2.mono hb1.out.size)) (Nat.le_trans hb1.out.size hb2.size) hT' hl.out)
  clear hT hT' hb2 hnew hb1 hmade
  go_wp2_with fail
  refine hmd.out.mono ?_
  rintro e w3 ⟨s, rfl, L, X, D, hL, hseal⟩
  replace hseal := Lib.hid hseal
  clear hmd
  go_wp2_with fail
  refine hseal.out.mono ?_
  rintro e w4 ⟨a, c, rfl, q1, q2, hlf⟩
  unfold maxLen at q2
  replace hlf := Lib.hid hlf
  clear hseal
  go_wp2_with fail
  refine hlf.out.mono ?_
  rintro e w5 ⟨rfl, hop⟩
  replace hop := Lib.hid hop
  clear hlf
  go_wp2_with fail
  refine hop.out.mono ?_
  rintro e w6 ⟨d1, c3, rfl, q3, q4, hsl⟩
  unfold maxLen at q4
  replace hsl := Lib.hid hsl
  clear hop
  go_wp2_with fail
  refine hsl.out.mono ?_
  rintro e w7 ⟨d2, c4, rfl, q5, q6, s1, s2, s3, s4, hlg⟩
  unfold maxLen at q6
  unfold strOf at s1 s2 s3 s4
  replace hlg := Lib.hid hlg
  clear hsl
  go_wp2_with fail
  refine hlg.out.mono ?_
  rintro e w8 ⟨rfl, hb8⟩
  have haw := Lib.hid (awake_ok w8)
  replace hb8 := Lib.hid hb8
  clear hlg s1 s2 s3 s4
  clear hL
  go_wp2_with fail
  refine haw.out.mono ?_
  rintro e V ⟨rfl, hV⟩
  replace hV := Lib.hid hV
  clear haw
  go_wp2
  go_ret
  refine ⟨rfl, ?_⟩
  have h9 := hb8.out
  exact h9.trans (hV.out.mono h9.size)


set_option maxRecDepth 100000 in
set_option maxHeartbeats 8000000 in
theorem back_maintrue64 {w : World} {seed : Int} {a1 a2 : Option Addr} {n1 m c1 c2 unit : Nat} (hc1 : n1 ≤ c1) (_hc1m : c1 ≤ maxLen) (_hc2 : m ≤ c2) (_hc2m : c2 ≤ maxLen) (hn1 : n1 = 64) (hu : unit ≤ 1099511627776) (h16 : m % 16 = 0) (h400 : m ≤ 400)
    (hmade : ∀ w2 p bv l, Below w.heap.size w w2 → w.heap.size ≤ w2.heap.size → TapeO w2 w.heap.size p bv (.slice none 0 0) l 0 [] → l.length = 2000 → Calls Try.prog 9 #[.pointer (some ⟨p, 0, none⟩), .bool true] w2 fun e w3 => ∃ s, e = .returned (.pointer (some ⟨s, 0, none⟩)) ∧ BackOk true w.heap.size w (.slice a1 n1 c1) (.slice a2 m c2) unit m p s w3) :
    Calls Try.prog 3 #[.bool true, .int .i64 seed, .slice a1 n1 c1, .int .i64 unit, .slice a2 m c2] w fun e w' => e = .returned (.bool true) ∧ Below w.heap.size w w' := by
  subst hn1
  have ht := Lib.hid (alTape_ok seed 2000 (by omega) (by omega) w)
  replace hmade := Lib.hid hmade
  obtain ⟨B, hB⟩ : ∃ B, B = w.heap.size := ⟨_, rfl⟩
  replace hB := Lib.hid hB
  go_enter Try.func3, Try.ntmps3
  go_wp2_with fail
  refine ht.out.mono ?_
  rintro e w1 ⟨v, l, rfl, hl, hbl, hb1⟩
  have hnew := tapeNewO_ok hbl (by omega)
  obtain ⟨va, vc, rfl, hv1, hv2⟩ := hbl.shape
  rw [hl] at hv1 hnew ⊢
  unfold maxLen at hv2
  replace hnew := Lib.hid hnew
  replace hb1 := Lib.hid hb1
  replace hl := Lib.hid hl
  clear hbl ht
  go_wp2_with fail
  refine hnew.out.mono ?_
  rintro e w2 ⟨p, bv, rfl, hT, hb2⟩
  have hT' : TapeO w2 w.heap.size p bv (.slice none 0 0) l 0 [] := ⟨hT.box, Nat.le_trans hb1.out.size hT.base, owns_base hT.bytes hb1.out.size, hT.few, hT.within, World.ownsRow_nil _ _ _ _, hT.count⟩
  have hmd := Lib.hid (hmade.out w2 p bv l (hb1.out.trans (hb2.mono hb1.out.size)) (Nat.le_trans hb1.out.size hb2.size) hT' hl.out)
  clear hT hT' hb2 hnew hb1 hmade
  go_wp2_with fail
  refine hmd.out.mono ?_
  rintro e w3 ⟨s, rfl, L, X, D, hL, hseal⟩
  replace hseal := Lib.hid hseal
  clear hmd
  go_wp2_with fail
  refine hseal.out.mono ?_
  rintro e w4 ⟨a, c, rfl, q1, q2, hlf⟩
  unfold maxLen at q2
  replace hlf := Lib.hid hlf
  clear hseal
  go_wp2_with fail
  refine hlf.out.mono ?_
  rintro e w5 ⟨rfl, hop⟩
  replace hop := Lib.hid hop
  clear hlf
  go_wp2_with fail
  refine hop.out.mono ?_
  rintro e w6 ⟨d1, c3, rfl, q3, q4, hsl⟩
  unfold maxLen at q4
  replace hsl := Lib.hid hsl
  clear hop
  go_wp2_with fail
  refine hsl.out.mono ?_
  rintro e w7 ⟨d2, c4, rfl, q5, q6, s1, s2, s3, s4, hlg⟩
  unfold maxLen at q6
  unfold strOf at s1 s2 s3 s4
  replace hlg := Lib.hid hlg
  clear hsl
  go_wp2_with fail
  refine hlg.out.mono ?_
  rintro e w8 ⟨rfl, hb8⟩
  have haw := Lib.hid (awake_ok w8)
  replace hb8 := Lib.hid hb8
  clear hlg s1 s2 s3 s4
  clear hL
  go_wp2_with fail
  refine haw.out.mono ?_
  rintro e V ⟨rfl, hV⟩
  replace hV := Lib.hid hV
  clear haw
  go_wp2
  go_ret
  refine ⟨rfl, ?_⟩
  have h9 := hb8.out
  exact h9.trans (hV.out.mono h9.size)


theorem backLaw_ok {w : World} {S1 S2 : Nat → Prop} {b : Bool} {seed unit : Int} {v1 v2 : Value} {key data : List UInt8} (h1 : Bytes w S1 v1 key) (h2 : Bytes w S2 v2 data) :
    Calls Try.prog 3 #[.bool b, .int .i64 seed, v1, .int .i64 unit, v2] w fun e w' => e = .returned (.bool true) ∧ Below w.heap.size w w' := by
  have hkeep : ∀ {S : Nat → Prop} {v : Value} {l : List UInt8}, Bytes w S v l → ∀ w3, Below w.heap.size w w3 → Bytes w3 (fun _ => True) v l := fun h w3 h3 =>
    (Cells.keep h h3.size (fun g _ hg => h3.block g hg)).mono (fun _ _ _ => trivial)
  have e1 := hkeep h1
  have e2 := hkeep h2
  obtain ⟨a1, c1, rfl, p1, q1⟩ := h1.shape
  obtain ⟨a2, c2, rfl, p2, q2⟩ := h2.shape
  by_cases h : (key.length = 32 ∨ key.length = 64) ∧ 0 ≤ unit ∧ unit ≤ 1099511627776 ∧ data.length % 16 = 0 ∧ data.length ≤ 400
  · obtain ⟨hk, g2, g3, g4, g5⟩ := h
    obtain ⟨u, rfl⟩ := Int.eq_ofNat_of_zero_le g2
    have hu : u ≤ 1099511627776 := by omega
    have hko : keyOk key.length u := ⟨hk, by omega, g3⟩
    cases b with
    | false =>
      have hm : ∀ w2 p bv l, Below w.heap.size w w2 → w.heap.size ≤ w2.heap.size → TapeO w2 w.heap.size p bv (.slice none 0 0) l 0 [] → l.length = 2000 → Calls Try.prog 9 #[.pointer (some ⟨p, 0, none⟩), .bool false] w2 fun e w3 => ∃ s, e = .returned (.pointer (some ⟨s, 0, none⟩)) ∧ BackOk false w.heap.size w (.slice a1 key.length c1) (.slice a2 data.length c2) u data.length p s w3 := fun w2 p bv l b2 s2 hT hl =>
        made_real _ w2 _ ((real_ok (some ⟨p, 0, none⟩) w2).mono fun e w3 ⟨s, r1, _, r3, r4⟩ => ⟨_, r1, s, r1, back_real rfl (b2.trans (r4.mono s2)) r3 (hT.after r4) hl e1 e2 hko g4 g5⟩)
      rcases hk with hk | hk
      · exact back_mainfalse32 p1 q1 p2 q2 hk hu g4 g5 hm
      · exact back_mainfalse64 p1 q1 p2 q2 hk hu g4 g5 hm
    | true =>
      have hm : ∀ w2 p bv l, Below w.heap.size w w2 → w.heap.size ≤ w2.heap.size → TapeO w2 w.heap.size p bv (.slice none 0 0) l 0 [] → l.length = 2000 → Calls Try.prog 9 #[.pointer (some ⟨p, 0, none⟩), .bool true] w2 fun e w3 => ∃ s, e = .returned (.pointer (some ⟨s, 0, none⟩)) ∧ BackOk true w.heap.size w (.slice a1 key.length c1) (.slice a2 data.length c2) u data.length p s w3 := fun w2 p bv l b2 s2 hT hl =>
        made_ideal _ w2 _ ((suIdeal_ok (some ⟨p, 0, none⟩) w2).mono fun e w3 ⟨s, c, m, k, r1, i1, i2, i3, i4, r2, r3, r4⟩ => ⟨_, r1, s, r1,
          back_ideal (S := ⟨p, c, m, k, bv, .slice none 0 0, l, 0, [], 0, 0, []⟩) rfl (b2.trans (r4.mono s2)) r2 (idealO_new (hT.after r4) r3 (Nat.le_trans s2 r4.size) (by omega) (by omega)) rfl rfl rfl hl e1 e2 hko g4 g5⟩)
      rcases hk with hk | hk
      · exact back_maintrue32 p1 q1 p2 q2 hk hu g4 g5 hm
      · exact back_maintrue64 p1 q1 p2 q2 hk hu g4 g5 hm
  · exact back_skip b seed unit a1 a2 key.length data.length c1 c2 (Nat.le_trans p1 q1) (Nat.le_trans p2 q2) h
end Go.Proofs.Ytbgfdbidbjlaaaa.Fd

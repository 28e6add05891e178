/-
  SuiteTakes answers true. No condition.
-/
import Derived.Test.YtbgfdbidbjlaaaaTksSuMany
import Derived.Test.YtbgfdbidbjlaaaaTksAwake
namespace Go.Proofs.Ytbgfdbidbjlaaaa.Fd
open Go Go.RowKit K

theorem take_guard (w : World) (x x' : Operand) (op : BinOp) (u v : Array Value) : (eqGuard op 41 x x' (.agg u) (.agg v)).run Try.prog w = .ok () w := run_eqGuard_agg _ _ _ _ _ _ _ (by kernel_rfl)
theorem take_neq (w : World) (s : ByteArray) (a b : Int) : (binOp .neq 41 (.agg #[.string s, .int .i64 a, .int .i64 b]) (.agg #[.string s, .int .i64 a, .int .i64 b])).run Try.prog w = .ok (.bool false) w := by
  have hS : Try.prog.underlying 41 = some (.struct (Try.prog.fieldsOf 41)) := by kernel_rfl
  have hp : Try.prog.stoodInHeld 41 = false := by kernel_rfl
  have u3 := Try.underlying3
  have a3 := Try.isAgg3
  have z3 := Try.sizeOf3
  have u4 := Try.underlying9
  have a4 := Try.isAgg9
  have z4 := Try.sizeOf9
  rw [run_neq_struct, show (10000 : Nat) = 9999 + 1 from rfl, run_equalIn_agg w 9999 41 _ _ hS hp]
  simp only [Program.fieldsOf, Try.underlying41]
  go_simp

section
variable {P : Program}
theorem wpList_build {w : World} {ops : Array Oper} {rest : List Oper} {o : Oper} {a : Act} {Q : Exit → Act → World → Prop} (hgd : o.guard = none) (t : TypeId) (parts : Array (Nat × Operand)) (ho : o.op = .build t parts) (vs : Array (Nat × Value)) (hx : parts.map (fun (i, x) => (i, a.eval x)) = vs)
    (v : Value) (hr : (Instr.build t vs).run P w = .ok v w) (h : wpList P ops Q rest (a.put o.dst v) w) : wpList P ops Q (o :: rest) a w :=
  wpList_plain hgd fun K hK => by
    unfold Oper.wp execOp
    simp only [ho, hx, Sem.run_bind, hr, Result.andThen_ok, Sem.run_pure]
    exact hK _ _ h
theorem wpList_bin {w : World} {ops : Array Oper} {rest : List Oper} {o : Oper} {a : Act} {Q : Exit → Act → World → Prop} (hgd : o.guard = none) (op : BinOp) (t t' : TypeId) (x y : Operand) (ho : o.op = .binOp op t x y t') (p q v : Value) (hx : a.eval x = p) (hy : a.eval y = q)
    (hr : ((do eqGuard op t x y p q; binOp op t p q) : Sem Value).run P w = .ok v w) (h : wpList P ops Q rest (a.put o.dst v) w) : wpList P ops Q (o :: rest) a w :=
  wpList_plain hgd fun K hK => by
    unfold Oper.wp execOp
    rw [Sem.run_bind] at hr
    simp only [ho, hx, hy, Sem.run_bind]
    rw [hr]
    simp only [Result.andThen_ok, Sem.run_pure]
    exact hK _ _ h
end
theorem take_build (w : World) (s : ByteArray) (a b : Int) : (Instr.build 41 #[(0, .string s), (1, .int .i64 a), (2, .int .i64 b)]).run Try.prog w = .ok (.agg #[.string s, .int .i64 a, .int .i64 b]) w := by
  go_simp
def whatS : ByteArray := ⟨#[119, 104, 97, 116]⟩
set_option maxRecDepth 100000 in
set_option maxHeartbeats 8000000 in
/-- what is not looked at -/
theorem takes_skip {w : World} (a b c : Option Addr) (n0 n1 n2 c0 c1 c2 : Nat) (h0 : n0 ≤ maxLen) (h1 : n1 ≤ maxLen) (h2 : n2 ≤ maxLen) (h : ¬ ((n1 = 32 ∨ n1 = 64) ∧ n2 % 16 = 0 ∧ n2 ≤ 200 ∧ n2 ≤ n0 ∧ n0 ≤ 500)) :
    Calls Try.prog 5 #[.slice a n0 c0, .slice b n1 c1, .slice c n2 c2] w fun e w' => e = .returned (.bool true) ∧ Below w.heap.size w w' := by
  have haw := Lib.hid (awake_ok w)
  unfold maxLen at h0 h1 h2
  by_cases g1 : n1 = 32
  · by_cases g2 : n2 % 16 = 0
    · by_cases g3 : n2 ≤ 200
      · by_cases g4 : n2 ≤ n0
        · have g5 : 500 < n0 := by omega
          clear h
          subst g1
          go_enter Try.func5, Try.ntmps5
          go_wp2_with (go_at_call 6; refine haw.out.mono ?_; rintro e w' ⟨rfl, hb⟩; replace hb := Lib.hid hb)
          all_goals go_ret
          all_goals exact ⟨rfl, hb.out⟩
        · clear h
          subst g1
          go_enter Try.func5, Try.ntmps5
          go_wp2_with (go_at_call 6; refine haw.out.mono ?_; rintro e w' ⟨rfl, hb⟩; replace hb := Lib.hid hb)
          all_goals go_ret
          all_goals exact ⟨rfl, hb.out⟩
      · clear h
        subst g1
        go_enter Try.func5, Try.ntmps5
        go_wp2_with (go_at_call 6; refine haw.out.mono ?_; rintro e w' ⟨rfl, hb⟩; replace hb := Lib.hid hb)
        all_goals go_ret
        all_goals exact ⟨rfl, hb.out⟩
    · clear h
      subst g1
      go_enter Try.func5, Try.ntmps5
      go_wp2_with (go_at_call 6; refine haw.out.mono ?_; rintro e w' ⟨rfl, hb⟩; replace hb := Lib.hid hb)
      all_goals go_ret
      all_goals exact ⟨rfl, hb.out⟩
  · by_cases g1' : n1 = 64
    · by_cases g2 : n2 % 16 = 0
      · by_cases g3 : n2 ≤ 200
        · by_cases g4 : n2 ≤ n0
          · have g5 : 500 < n0 := by omega
            clear h
            subst g1'
            go_enter Try.func5, Try.ntmps5
            go_wp2_with (go_at_call 6; refine haw.out.mono ?_; rintro e w' ⟨rfl, hb⟩; replace hb := Lib.hid hb)
            all_goals go_ret
            all_goals exact ⟨rfl, hb.out⟩
          · clear h
            subst g1'
            go_enter Try.func5, Try.ntmps5
            go_wp2_with (go_at_call 6; refine haw.out.mono ?_; rintro e w' ⟨rfl, hb⟩; replace hb := Lib.hid hb)
            all_goals go_ret
            all_goals exact ⟨rfl, hb.out⟩
        · clear h
          subst g1'
          go_enter Try.func5, Try.ntmps5
          go_wp2_with (go_at_call 6; refine haw.out.mono ?_; rintro e w' ⟨rfl, hb⟩; replace hb := Lib.hid hb)
          all_goals go_ret
          all_goals exact ⟨rfl, hb.out⟩
      · clear h
        subst g1'
        go_enter Try.func5, Try.ntmps5
        go_wp2_with (go_at_call 6; refine haw.out.mono ?_; rintro e w' ⟨rfl, hb⟩; replace hb := Lib.hid hb)
        all_goals go_ret
        all_goals exact ⟨rfl, hb.out⟩
    · clear h
      go_enter Try.func5, Try.ntmps5
      go_wp2_with (go_at_call 6; refine haw.out.mono ?_; rintro e w' ⟨rfl, hb⟩; replace hb := Lib.hid hb)
      all_goals go_ret
      all_goals exact ⟨rfl, hb.out⟩

theorem take_load {w : World} {g off : Nat} {l : List Value} (hl : l.length = 3) (hx : ∀ j v, j < 3 → l[j]? = some v → w.cell? ⟨g, off + j, none⟩ = some v) : (Instr.loadAt 41 (.pointer (some ⟨g, off, none⟩))).run Try.prog w = .ok (.agg l.toArray) w := by
  have hl2 : (loadCells ⟨g, off, none⟩ l.length).run Try.prog w = .ok l.toArray w :=
    run_loadCells_list (P := Try.prog) w ⟨g, off, none⟩ l (fun j v hv => by
      have hj : j < 3 := by
        rcases Nat.lt_or_ge j 3 with hj | hj
        · exact hj
        · rw [List.getElem?_eq_none (by rw [hl]; exact hj)] at hv
          cases hv
      rw [Addr.add_lit]
      exact hx j v hj hv)
  have hi : (Try.prog.info? 41).map (·.size) = some 3 := by kernel_rfl
  have h : (loadVar 41 ⟨g, off, none⟩).run Try.prog w = .ok (.agg l.toArray) w := by
    cases hq : Try.prog.info? 41 with
    | none => simp [hq] at hi
    | some i =>
      have hs : i.size = 3 := by simpa [hq] using hi
      have hagg : (isAgg 41).run Try.prog w = .ok true w := by
        unfold isAgg
        rw [Sem.run_bind, run_underlying Try.underlying41 w]
        rfl
      rw [hl] at hl2
      simp [loadVar, Sem.run_bind, hagg, sizeOf, typeInfo, hq, hs, hl2]
  simp only [Instr.loadAt, Instr.sureAddr, Sem.run_bind, Sem.run_pure, Result.andThen]
  exact h
theorem flat3 : ∀ (l : List (ByteArray × Nat × Nat)) (i : Nat) (t : ByteArray × Nat × Nat) (j : Nat), l[i]? = some t → j < 3 → (l.flatMap takeCells)[i * 3 + j]? = (takeCells t)[j]?
  | [], i, t, j, h, _ => by simp at h
  | x :: l, 0, t, j, h, hj => by
    simp at h
    subst h
    rw [List.flatMap_cons, List.getElem?_append_left (by simp [takeCells]; omega)]
    simp
  | x :: l, i + 1, t, j, h, hj => by
    rw [List.flatMap_cons, List.getElem?_append_right (by simp [takeCells]; omega)]
    have e : (i + 1) * 3 + j - (takeCells x).length = i * 3 + j := by simp [takeCells]; omega
    rw [e]
    exact flat3 l i t j (by simpa using h) hj
set_option maxRecDepth 100000 in
set_option maxHeartbeats 8000000 in
theorem takes_main32 {w : World} {S0 S1 S2 : Nat → Prop} {a0 a1 a2 : Option Addr} {c0 c1 c2 n1 : Nat} {b key data : List UInt8} (h0 : Bytes w S0 (.slice a0 b.length c0) b) (h1 : Bytes w S1 (.slice a1 key.length c1) key) (h2 : Bytes w S2 (.slice a2 data.length c2) data)
    (hkl : key.length = n1) (hn1 : n1 = 32) (h16 : data.length % 16 = 0) (h200 : data.length ≤ 200) (hbd : data.length ≤ b.length) (h500 : b.length ≤ 500) :
    Calls Try.prog 5 #[.slice a0 b.length c0, .slice a1 key.length c1, .slice a2 data.length c2] w fun e w' => e = .returned (.bool true) ∧ Below w.heap.size w w' := by
  obtain ⟨B, hB⟩ : ∃ B, B = w.heap.size := ⟨_, rfl⟩
  obtain ⟨hc0, hc0m⟩ : b.length ≤ c0 ∧ c0 ≤ maxLen := by obtain ⟨_, _, h, k1, k2⟩ := h0.shape; cases h; exact ⟨k1, k2⟩
  obtain ⟨hc1, hc1m⟩ : key.length ≤ c1 ∧ c1 ≤ maxLen := by obtain ⟨_, _, h, k1, k2⟩ := h1.shape; cases h; exact ⟨k1, k2⟩
  obtain ⟨hc2, hc2m⟩ : data.length ≤ c2 ∧ c2 ≤ maxLen := by obtain ⟨_, _, h, k1, k2⟩ := h2.shape; cases h; exact ⟨k1, k2⟩
  unfold maxLen at hc0m hc1m hc2m
  have hnew := Lib.hid (tapeNewO_ok h0 (by omega))
  have hkeep : ∀ {S : Nat → Prop} {v : Value} {l : List UInt8}, Bytes w S v l → ∀ w3, Below B w w3 → Bytes w3 (fun _ => True) v l := fun h w3 h3 =>
    (Cells.keep h (by have := h3.size; omega) (fun g _ hg => h3.block g (by rw [hB]; exact hg))).mono (fun _ _ _ => trivial)
  have e0 := hkeep h0
  have e1 := hkeep h1
  have e2 := hkeep h2
  clear hkeep h0 h1 h2
  obtain ⟨m0, hm0⟩ : ∃ m, m = b.length := ⟨_, rfl⟩
  obtain ⟨m1, hm1⟩ : ∃ m, m = key.length := ⟨_, rfl⟩
  obtain ⟨m2, hm2⟩ : ∃ m, m = data.length := ⟨_, rfl⟩
  rw [← hm0] at hnew hc0 hbd h500
  rw [← hm1] at hc1 hkl
  rw [← hm2] at hc2 h16 h200 hbd
  have hn1' : m1 = 32 := by omega
  rw [← hm0, ← hm1, ← hm2]
  replace hm0 := Lib.hid hm0
  replace hm1 := Lib.hid hm1
  replace hm2 := Lib.hid hm2
  replace e0 := Lib.hid e0
  replace e1 := Lib.hid e1
  replace e2 := Lib.hid e2
  have hn1h := Lib.hid hn1'
  replace hB := Lib.hid hB
  subst hkl
  clear hn1
  go_enter Try.func5, Try.ntmps5
  go_wp2_with fail
  refine hnew.out.mono ?_
  rintro e w1 ⟨p, bv, rfl, hT, hb1⟩
  have hid := Lib.hid (suIdeal_ok (some ⟨p, 0, none⟩) w1)
  clear hnew
  replace hT := Lib.hid hT
  replace hb1 := Lib.hid hb1
  go_wp2_with fail
  refine hid.out.mono ?_
  rintro e w2 ⟨s, c, m, k, rfl, i1, i2, i3, i4, hs, hI, hb2⟩
  obtain ⟨S, hSd⟩ : ∃ S : IdSt, S = ⟨p, c, m, k, bv, .slice none 0 0, b, 0, [], 0, 0, []⟩ := ⟨_, rfl⟩
  have kw1 : Below B w w1 := by have h := hb1.out; rw [← hB.out] at h; exact h
  have hBw1 : B ≤ w1.heap.size := by have := kw1.size; have := hB.out; omega
  have kw2 : Below B w w2 := kw1.trans (hb2.mono hBw1)
  have hI2 : IdealO w2 B S := by
    have hT2 := hT.out.after hb2
    rw [← hB.out] at hT2
    rw [hSd]
    exact idealO_new hT2 hI (Nat.le_trans hBw1 hb2.size) (by omega) (by omega)
  have hSb : S.b = b := by rw [hSd]
  have hStp : S.tp = p := by rw [hSd]
  have hs2 : SuiteAt w2 s (some ⟨S.c, 0, none⟩) (some ⟨p, 0, none⟩) := by rw [hSd]; exact hs
  have hk7 : keyOk key.length 7 := ⟨by rw [← hm1.out]; omega, by omega, by omega⟩
  have hb0 : ∀ w3, Kept B w2 w3 → Bytes w3 (fun _ => True) (.slice a0 b.length c0) b := fun w3 h3 => e0.out w3 (kw2.trans h3.below)
  have hb1' : ∀ w3, Kept B w2 w3 → Bytes w3 (fun _ => True) (.slice a1 key.length c1) key := fun w3 h3 => e1.out w3 (kw2.trans h3.below)
  have hb2' : ∀ w3, Kept B w2 w3 → Bytes w3 (fun _ => True) (.slice a2 data.length c2) data := fun w3 h3 => e2.out w3 (kw2.trans h3.below)
  have hseal := seal_fresh hs2 hI2 (by rw [hSd]) (by rw [hSd]) (by rw [hSd]) whatS hb1' hb2' 7 hk7 (by rw [← hm2.out]; exact h16) (by rw [← hm2.out]; omega)
  rw [← hm2.out, ← hm1.out, hn1h.out] at hseal
  replace hseal := Lib.hid hseal
  replace hI2 := Lib.hid hI2
  replace hs2 := Lib.hid hs2
  replace hSb := Lib.hid hSb
  replace hStp := Lib.hid hStp
  replace hk7 := Lib.hid hk7
  replace hb0 := Lib.hid hb0
  replace hb1' := Lib.hid hb1'
  replace hb2' := Lib.hid hb2'
  replace kw2 := Lib.hid kw2
  clear hSd hs hI hb2 hb1 hT hid kw1 hBw1 i1 i2 i3 i4 e0 e1 e2
  go_wp2_with fail
  refine hseal.out.mono ?_
  rintro e w3 ⟨hK3, ⟨hle, aa, ca, S', rfl, hrow3, hSl⟩ | ⟨hlt, -⟩⟩
  case inr =>
    exfalso
    rw [hSb.out, ← hm0.out] at hlt
    omega
  have hs3 := hs2.out.kept' hK3
  have htk := takes_ok hSl.st.tape.at
  rw [hSl.tp, hStp.out, hSl.ts] at htk
  obtain ⟨N, hN⟩ : ∃ N, N = m2 / 16 := ⟨_, rfl⟩
  have hNl : (takesL whatS (m2 / 16)).length = N := by simp [takesL, hN]
  rw [hNl] at htk
  obtain ⟨hca1, hca2⟩ : m2 ≤ ca ∧ ca ≤ maxLen := by obtain ⟨_, _, h, q1, q2⟩ := (Cells.own hrow3).shape; cases h; exact ⟨q1, q2⟩
  unfold maxLen at hca2
  replace htk := Lib.hid htk
  replace hK3 := Lib.hid hK3
  replace hrow3 := Lib.hid hrow3
  replace hSl := Lib.hid hSl
  replace hs3 := Lib.hid hs3
  replace hNl := Lib.hid hNl
  clear hseal hle
  have hN16 : m2 = 16 * N := by omega
  replace hN := Lib.hid hN
  replace hN16 := Lib.hid hN16
  go_wp2_with fail
  refine htk.out.mono ?_
  rintro e w4 ⟨xt, ct, rfl, hrow4, hb4⟩
  have hBw3 : B ≤ w3.heap.size := hSl.out.st.room
  have hK4 : Kept B w3 w4 := Kept.chg hBw3 (Chg.of_below hb4 _)
  have hs4 := hs3.out.kept' hK4
  have hr4 := row_kept hrow3.out hK4
  have hbb4 := hb0.out w4 (hK3.out.trans hK4)
  have hI4 := hSl.out.st.after hb4
  have hSl4 : Sealed w4 B S whatS ⟨key.toArray⟩ 7 data (m2 / 16) S' := ⟨hI4, hSl.out.c, hSl.out.tp, hSl.out.b, hSl.out.bv, hSl.out.a, hSl.out.ts, hSl.out.len, hSl.out.low, hSl.out.all⟩
  obtain ⟨hct1, hct2⟩ : N ≤ ct ∧ ct ≤ maxLen := by obtain ⟨_, _, h, q1, q2⟩ := (Cells.own hrow4).shape; cases h; exact ⟨q1, q2⟩
  unfold maxLen at hct2
  have hdr : ∀ w5, Chg No w4.drew w5 → Chg No w4 w5 := fun w5 h => ⟨h.os, h.tape, h.output, h.size, h.block⟩
  have hcv1 : ∀ w5, Chg No w4 w5 → (convert 22 9 (.slice aa m2 ca)).run Try.prog w5 = .ok (.string ⟨(b.take m2).toArray⟩) w5 := fun w5 h5 => by
    have h := ((Cells.own hr4).chg h5 (fun _ _ _ => id)).mono (S' := fun _ => True) (fun _ _ _ => trivial)
    rw [hSb.out] at h
    have hl : (b.take m2).length = m2 := by rw [List.length_take, ← hm0.out]; omega
    have h' : Bytes w5 (fun _ => True) (.slice aa m2 ca) (b.take m2) := by show Cells _ _ _ (b.take m2).length 1 _; rw [hl]; exact h
    exact run_string w5 _ _ _ Try.underlying22 Try.underlying5 Try.underlying9 _ _ _ h'
  have hct : ∀ w5, (Instr.sliceAt 22 (.slice a0 m0 c0) none (some (.int .i64 m2)) none).run Try.prog w5 = .ok (sliced a0 0 m2 c0 1) w5 := fun w5 => cut_hi (P := Try.prog) (s := 1) w5 Try.underlying22 (by kernel_rfl) a0 _ c0 m2 (by omega)
  have hcv2 : ∀ w5, Chg No w4 w5 → (convert 22 9 (sliced a0 0 m2 c0 1)).run Try.prog w5 = .ok (.string ⟨(b.take m2).toArray⟩) w5 := fun w5 h5 => by
    have h := bytes_cut (Bytes.chg hbb4 h5 (fun _ _ _ => id)) 0 m2 (by omega) (by rw [← hm0.out]; omega)
    rw [List.drop_zero, Nat.sub_zero] at h
    exact run_string w5 _ _ _ Try.underlying22 Try.underlying5 Try.underlying9 _ _ _ h
  replace hdr := Lib.hid hdr
  replace hcv1 := Lib.hid hcv1
  replace hcv2 := Lib.hid hcv2
  replace hct := Lib.hid hct
  replace hrow4 := Lib.hid hrow4
  replace hK4 := Lib.hid hK4
  replace hs4 := Lib.hid hs4
  replace hr4 := Lib.hid hr4
  replace hSl4 := Lib.hid hSl4
  replace hb4 := Lib.hid hb4
  clear htk hbb4 hI4 hs3 hBw3
  have hNq : (m2 : Int) / 16 = N := by have := hN16.out; omega
  go_wp2
  refine RA.region (fun a b => Chg No a b) (· = ·) [1, 1, 1, 1, 1, 1, 1, 1, 1, 1, 1, 1, 1, 1, 1, 1, 1, 1, 1, 1] (fun _ _ _ => True) (fun _ => True) (by kernel_rfl) (Chg.refl _ _) (fun _ _ h => h ▸ Chg.refl _ _) (fun _ _ _ h k => h.trans k) (fun _ _ h k => h ▸ k) trivial (by kernel_rfl) ?_
  intro cx
  repeat (first | refine RA.mv (by kernel_rfl) (by rfl) (by rfl) ?_ | refine RA.as (by kernel_rfl) (by rfl) (by rfl) ?_ | refine RA.nc (by kernel_rfl) (by rfl) (by rfl) ?_)
  refine RA.ne false (by kernel_rfl) (by rfl) (by rfl) (by rfl) (by rfl) ?_
  repeat (first | refine RA.mv (by kernel_rfl) (by rfl) (by rfl) ?_ | refine RA.as (by kernel_rfl) (by rfl) (by rfl) ?_ | refine RA.nc (by kernel_rfl) (by rfl) (by rfl) ?_)
  refine RA.cv (by kernel_rfl) (by rfl) (by rfl) (fun w5 hp => hcv1.out w5 (hdr.out _ hp.1)) ?_
  repeat (first | refine RA.mv (by kernel_rfl) (by rfl) (by rfl) ?_ | refine RA.as (by kernel_rfl) (by rfl) (by rfl) ?_ | refine RA.nc (by kernel_rfl) (by rfl) (by rfl) ?_)
  refine RA.ln (by kernel_rfl) (by rfl) (by rfl) (y' := .int .i64 m2) (fun w3 _ => by show (Builtin.len_ _ _ _).run Try.prog w3 = _; go_simp) ?_
  refine RA.shi (by kernel_rfl) (by rfl) (by rfl) (by rfl) (fun w5 hp => hct.out w5) ?_
  refine RA.cv (by kernel_rfl) (by rfl) (by rfl) (fun w5 hp => hcv2.out w5 (hdr.out _ hp.1)) ?_
  refine RA.ns false (by kernel_rfl) (by rfl) (by rfl) (by rfl) (by simp) ?_
  refine RA.pf (by kernel_rfl) (by rfl) (by rfl) (by rfl) ?_
  repeat (first | refine RA.mv (by kernel_rfl) (by rfl) (by rfl) ?_ | refine RA.as (by kernel_rfl) (by rfl) (by rfl) ?_ | refine RA.nc (by kernel_rfl) (by rfl) (by rfl) ?_)
  refine RA.ln (by kernel_rfl) (by rfl) (by rfl) (y' := .int .i64 N) (fun w3 _ => by show (Builtin.len_ _ _ _).run Try.prog w3 = _; go_simp) ?_
  repeat (first | refine RA.mv (by kernel_rfl) (by rfl) (by rfl) ?_ | refine RA.as (by kernel_rfl) (by rfl) (by rfl) ?_ | refine RA.nc (by kernel_rfl) (by rfl) (by rfl) ?_)
  refine RA.ln (by kernel_rfl) (by rfl) (by rfl) (y' := .int .i64 m2) (fun w3 _ => by show (Builtin.len_ _ _ _).run Try.prog w3 = _; go_simp) ?_
  refine RA.v Try.prog (x := .int .i64 N) (by kernel_rfl) (by rfl) (by rfl) (fun w hp => by (try go_simp); rw [IntKind.wrap_i64]; omega) ?_
  simp only [RA.add]
  refine RA.ne false (by kernel_rfl) (by rfl) (by rfl) (by rfl) (by simp) ?_
  refine RA.pf (by kernel_rfl) (by rfl) (by rfl) (by rfl) ?_
  refine RA.RA.done rfl (fun W hR hF hH => ?_)
  clear hF hH
  simp only [RA.put, List.foldr_cons, List.foldr_nil, cx, Act.put, List.setIfInBounds_toArray, List.set_cons_succ, List.set_cons_zero]
  have hRW := hdr.out _ hR
  clear hR hdr hcv1 hcv2 hct cx
  have hrowW := owns_keep hrow4.out (fun g hg => hRW.block g (hrow4.out.lt g hg).2 id)
  have hsW := hs4.out.kept' (Kept.chg hSl4.out.st.room hRW)
  have hKW : Kept B w4 W := Kept.chg hSl4.out.st.room hRW
  have hIW := hSl4.out.st.after (Chg.no hRW)
  have hSlW : Sealed W B S whatS ⟨key.toArray⟩ 7 data (m2 / 16) S' := ⟨hIW, hSl4.out.c, hSl4.out.tp, hSl4.out.b, hSl4.out.bv, hSl4.out.a, hSl4.out.ts, hSl4.out.len, hSl4.out.low, hSl4.out.all⟩
  have hrW := row_kept hr4.out hKW
  have hKW2 : Kept B w2 W := hK3.out.trans (hK4.out.trans hKW)
  replace hsW := Lib.hid hsW
  replace hSlW := Lib.hid hSlW
  replace hrW := Lib.hid hrW
  replace hKW2 := Lib.hid hKW2
  replace hrowW := Lib.hid hrowW
  clear hRW hKW hIW hrow4 hs4 hK4 hr4 hSl4 hb4 hSl hrow3 hK3 hs2 hI2 hNq
  have hN12 : N ≤ 12 := by have := hN16.out; omega
  go_wp2
  go_loopw [12] (fun i' wr => ∃ i : Nat, i ≤ N ∧ i' = .int .i64 i ∧ Hid (wr = W)) (fun i' _ => N - (intOf i').toNat)
  case atStart => exact ⟨0, by omega, rfl, Lib.hid rfl⟩
  case round =>
    obtain ⟨i, hiN, rfl, hw⟩ := hrel
    obtain rfl := hw.out
    by_cases hlt : i < N
    · obtain ⟨g, cp, e, -, -⟩ := own_shape hrowW.out (by omega)
      simp only [Value.slice.injEq] at e
      obtain ⟨rfl, -, rfl⟩ := e
      have hget : (takesL whatS (m2 / 16))[i]? = some (whatS, 16 * i, 16) := by
        rw [← hN.out]
        simp [takesL, hlt]
      have hcell : ∀ j v, j < 3 → (takeCells (whatS, 16 * i, 16))[j]? = some v → wr.cell? ⟨g, i * 3 + j, none⟩ = some v := fun j v hj hv => by
        have h := hrowW.out.cells (g := g) rfl (i * 3 + j) v ((flat3 _ i _ j hget hj).trans hv)
        rw [Addr.add_lit, Nat.zero_add] at h
        exact h
      have hld : (Instr.loadAt 41 (.pointer (some ⟨g, i * 3, none⟩))).run Try.prog wr = .ok (.agg #[.string ⟨#[119, 104, 97, 116]⟩, .int .i64 (16 * (i : Int)), .int .i64 16]) wr := by
        have h := take_load (w := wr) (g := g) (off := i * 3) (l := takeCells (whatS, 16 * i, 16)) rfl hcell
        have e : (takeCells (whatS, 16 * i, 16)).toArray = #[.string ⟨#[119, 104, 97, 116]⟩, .int .i64 (16 * (i : Int)), .int .i64 16] := by simp [takeCells, whatS]
        rw [e] at h
        exact h
      replace hld := Lib.hid hld
      have hbd2 := Lib.hid (take_build wr ⟨#[119, 104, 97, 116]⟩ (16 * (i : Int)) 16)
      have hneq : ∀ x y, ((do eqGuard .neq 41 x y (.agg #[.string ⟨#[119, 104, 97, 116]⟩, .int .i64 (16 * (i : Int)), .int .i64 16]) (.agg #[.string ⟨#[119, 104, 97, 116]⟩, .int .i64 (16 * (i : Int)), .int .i64 16]); binOp .neq 41 (.agg #[.string ⟨#[119, 104, 97, 116]⟩, .int .i64 (16 * (i : Int)), .int .i64 16]) (.agg #[.string ⟨#[119, 104, 97, 116]⟩, .int .i64 (16 * (i : Int)), .int .i64 16])) : Sem Value).run Try.prog wr = .ok (.bool false) wr := fun x y => by
        rw [Sem.run_bind, take_guard, Result.andThen_ok]
        exact take_neq wr _ _ _
      replace hneq := Lib.hid hneq
      clear hcell
      replace hget := Lib.hid hget
      go_wp2_with (first | (refine wpList_load rfl 41 _ rfl _ _ rfl hld.out ?_) | (refine wpList_build rfl 41 _ rfl _ rfl _ hbd2.out ?_) | (refine wpList_bin rfl .neq 41 _ _ _ rfl _ _ _ rfl rfl (hneq.out _ _) ?_))
      go_roundw
      case rel => exact ⟨i + 1, by omega, by go_num⟩
      case measure => simp [intOf]; omega
    · have hiN' : i = N := by omega
      subst hiN'
      have hsx : SuiteAt wr s (some ⟨S'.c, 0, none⟩) (some ⟨p, 0, none⟩) := by rw [hSlW.out.c]; exact hsW.out
      have hdl : m2 ≤ S.b.length := by rw [hSb.out, ← hm0.out]; exact hbd
      have hdt : ∀ w5, Kept B wr w5 → Bytes w5 (fun _ => True) (.slice aa (S.b.take data.length).length ca) (S.b.take data.length) := fun w5 h5 => by
        have h := (Cells.own (row_kept hrW.out h5)).mono (S' := fun _ => True) (fun _ _ _ => trivial)
        have hl : (S.b.take data.length).length = m2 := by rw [List.length_take, ← hm2.out]; omega
        rw [hl]
        show Cells _ _ _ (S.b.take data.length).length 1 _
        rw [hl, ← hm2.out]
        exact h
      have hopen := open_known hsx whatS 7 (by rw [← hm2.out]; exact hSlW.out) (fun w5 h5 => hb1'.out w5 (hKW2.out.trans h5)) hdt hk7.out (by rw [← hm2.out]; exact h16) (by rw [← hm2.out]; omega) (by rw [← hm2.out]; exact hdl)
      rw [← hm2.out, ← hm1.out, hn1h.out] at hopen
      replace hopen := Lib.hid hopen
      clear hdt hsx hdl
      go_wp2_with fail
      refine hopen.out.mono ?_
      rintro e w5 ⟨hK5, ab, cb, rfl, hrow5, hI5⟩
      obtain ⟨hcb1, hcb2⟩ : m2 ≤ cb ∧ cb ≤ maxLen := by obtain ⟨_, _, h, q1, q2⟩ := (Cells.own hrow5).shape; cases h; exact ⟨q1, q2⟩
      unfold maxLen at hcb2
      have hcvA : (convert 22 9 (.slice ab m2 cb)).run Try.prog w5 = .ok (.string ⟨data.toArray⟩) w5 := by
        have h := (Cells.own hrow5).mono (S' := fun _ => True) (fun _ _ _ => trivial)
        have h' : Bytes w5 (fun _ => True) (.slice ab m2 cb) data := by show Cells _ _ _ data.length 1 _; rw [← hm2.out]; exact h
        exact run_string w5 _ _ _ Try.underlying22 Try.underlying5 Try.underlying9 _ _ _ h'
      have hcvB : (convert 22 9 (.slice a2 m2 c2)).run Try.prog w5 = .ok (.string ⟨data.toArray⟩) w5 := by
        have h := hb2'.out w5 (hKW2.out.trans hK5)
        rw [← hm2.out] at h
        exact run_string w5 _ _ _ Try.underlying22 Try.underlying5 Try.underlying9 _ _ _ h
      have hleft := left_ok hI5.tape.at
      have hla : ((S'.b.length - S'.a : Nat) : Int) = (m0 : Int) - m2 := by
        rw [hSlW.out.b, hSb.out, ← hm0.out, hSlW.out.a, ← hN.out]
        have := hN16.out
        omega
      rw [hla, hSlW.out.tp, hStp.out] at hleft
      have hs5 := hsW.out.kept' hK5
      have hB5 : B ≤ w5.heap.size := hI5.room
      replace hleft := Lib.hid hleft
      replace hK5 := Lib.hid hK5
      replace hs5 := Lib.hid hs5
      obtain ⟨DS, hDS⟩ : ∃ D : ByteArray, D = ⟨data.toArray⟩ := ⟨_, rfl⟩
      rw [← hDS] at hcvA hcvB
      clear hDS hopen hrow5 hI5 hla
      go_wp2_with fail
      refine hleft.out.mono ?_
      rintro e w6 ⟨rfl, hc6⟩
      have hK6 : Kept B w5 w6 := Kept.chg hB5 hc6
      have htape := Lib.hid (suTape_ok (hs5.out.kept' hK6))
      have heq := tape_same ⟨p, 0, none⟩ w6
      have haw := Lib.hid (awake_ok w6)
      replace hK6 := Lib.hid hK6
      clear hcvA hcvB hleft hc6
      go_wp2_with fail
      refine htape.out.mono ?_
      rintro e w' ⟨rfl, rfl⟩
      go_wp2_with fail
      refine haw.out.mono ?_
      rintro e V ⟨rfl, hV⟩
      replace hV := Lib.hid hV
      clear haw htape heq
      go_wp2
      go_ret
      refine ⟨rfl, ?_⟩
      have hfin := (kw2.out.trans (hKW2.out.trans (hK5.out.trans hK6.out)).below).trans (hV.out.mono (Nat.le_trans hB5 hK6.out.below.size))
      rw [hB.out] at hfin
      exact hfin


set_option maxRecDepth 100000 in
set_option maxHeartbeats 8000000 in
theorem takes_main64 {w : World} {S0 S1 S2 : Nat → Prop} {a0 a1 a2 : Option Addr} {c0 c1 c2 n1 : Nat} {b key data : List UInt8} (h0 : Bytes w S0 (.slice a0 b.length c0) b) (h1 : Bytes w S1 (.slice a1 key.length c1) key) (h2 : Bytes w S2 (.slice a2 data.length c2) data)
    (hkl : key.length = n1) (hn1 : n1 = 64) (h16 : data.length % 16 = 0) (h200 : data.length ≤ 200) (hbd : data.length ≤ b.length) (h500 : b.length ≤ 500) :
    Calls Try.prog 5 #[.slice a0 b.length c0, .slice a1 key.length c1, .slice a2 data.length c2] w fun e w' => e = .returned (.bool true) ∧ Below w.heap.size w w' := by
  obtain ⟨B, hB⟩ : ∃ B, B = w.heap.size := ⟨_, rfl⟩
  obtain ⟨hc0, hc0m⟩ : b.length ≤ c0 ∧ c0 ≤ maxLen := by obtain ⟨_, _, h, k1, k2⟩ := h0.shape; cases h; exact ⟨k1, k2⟩
  obtain ⟨hc1, hc1m⟩ : key.length ≤ c1 ∧ c1 ≤ maxLen := by obtain ⟨_, _, h, k1, k2⟩ := h1.shape; cases h; exact ⟨k1, k2⟩
  obtain ⟨hc2, hc2m⟩ : data.length ≤ c2 ∧ c2 ≤ maxLen := by obtain ⟨_, _, h, k1, k2⟩ := h2.shape; cases h; exact ⟨k1, k2⟩
  unfold maxLen at hc0m hc1m hc2m
  have hnew := Lib.hid (tapeNewO_ok h0 (by omega))
  have hkeep : ∀ {S : Nat → Prop} {v : Value} {l : List UInt8}, Bytes w S v l → ∀ w3, Below B w w3 → Bytes w3 (fun _ => True) v l := fun h w3 h3 =>
    (Cells.keep h (by have := h3.size; omega) (fun g _ hg => h3.block g (by rw [hB]; exact hg))).mono (fun _ _ _ => trivial)
  have e0 := hkeep h0
  have e1 := hkeep h1
  have e2 := hkeep h2
  clear hkeep h0 h1 h2
  obtain ⟨m0, hm0⟩ : ∃ m, m = b.length := ⟨_, rfl⟩
  obtain ⟨m1, hm1⟩ : ∃ m, m = key.length := ⟨_, rfl⟩
  obtain ⟨m2, hm2⟩ : ∃ m, m = data.length := ⟨_, rfl⟩
  rw [← hm0] at hnew hc0 hbd h500
  rw [← hm1] at hc1 hkl
  rw [← hm2] at hc2 h16 h200 hbd
  have hn1' : m1 = 64 := by omega
  rw [← hm0, ← hm1, ← hm2]
  replace hm0 := Lib.hid hm0
  replace hm1 := Lib.hid hm1
  replace hm2 := Lib.hid hm2
  replace e0 := Lib.hid e0
  replace e1 := Lib.hid e1
  replace e2 := Lib.hid e2
  have hn1h := Lib.hid hn1'
  replace hB := Lib.hid hB
  subst hkl
  clear hn1
  go_enter Try.func5, Try.ntmps5
  go_wp2_with fail
  refine hnew.out.mono ?_
  rintro e w1 ⟨p, bv, rfl, hT, hb1⟩
  have hid := Lib.hid (suIdeal_ok (some ⟨p, 0, none⟩) w1)
  clear hnew
  replace hT := Lib.hid hT
  replace hb1 := Lib.hid hb1
  go_wp2_with fail
  refine hid.out.mono ?_
  rintro e w2 ⟨s, c, m, k, rfl, i1, i2, i3, i4, hs, hI, hb2⟩
  obtain ⟨S, hSd⟩ : ∃ S : IdSt, S = ⟨p, c, m, k, bv, .slice none 0 0, b, 0, [], 0, 0, []⟩ := ⟨_, rfl⟩
  have kw1 : Below B w w1 := by have h := hb1.out; rw [← hB.out] at h; exact h
  have hBw1 : B ≤ w1.heap.size := by have := kw1.size; have := hB.out; omega
  have kw2 : Below B w w2 := kw1.trans (hb2.mono hBw1)
  have hI2 : IdealO w2 B S := by
    have hT2 := hT.out.after hb2
    rw [← hB.out] at hT2
    rw [hSd]
    exact idealO_new hT2 hI (Nat.le_trans hBw1 hb2.size) (by omega) (by omega)
  have hSb : S.b = b := by rw [hSd]
  have hStp : S.tp = p := by rw [hSd]
  have hs2 : SuiteAt w2 s (some ⟨S.c, 0, none⟩) (some ⟨p, 0, none⟩) := by rw [hSd]; exact hs
  have hk7 : keyOk key.length 7 := ⟨by rw [← hm1.out]; omega, by omega, by omega⟩
  have hb0 : ∀ w3, Kept B w2 w3 → Bytes w3 (fun _ => True) (.slice a0 b.length c0) b := fun w3 h3 => e0.out w3 (kw2.trans h3.below)
  have hb1' : ∀ w3, Kept B w2 w3 → Bytes w3 (fun _ => True) (.slice a1 key.length c1) key := fun w3 h3 => e1.out w3 (kw2.trans h3.below)
  have hb2' : ∀ w3, Kept B w2 w3 → Bytes w3 (fun _ => True) (.slice a2 data.length c2) data := fun w3 h3 => e2.out w3 (kw2.trans h3.below)
  have hseal := seal_fresh hs2 hI2 (by rw [hSd]) (by rw [hSd]) (by rw [hSd]) whatS hb1' hb2' 7 hk7 (by rw [← hm2.out]; exact h16) (by rw [← hm2.out]; omega)
  rw [← hm2.out, ← hm1.out, hn1h.out] at hseal
  replace hseal := Lib.hid hseal
  replace hI2 := Lib.hid hI2
  replace hs2 := Lib.hid hs2
  replace hSb := Lib.hid hSb
  replace hStp := Lib.hid hStp
  replace hk7 := Lib.hid hk7
  replace hb0 := Lib.hid hb0
  replace hb1' := Lib.hid hb1'
  replace hb2' := Lib.hid hb2'
  replace kw2 := Lib.hid kw2
  clear hSd hs hI hb2 hb1 hT hid kw1 hBw1 i1 i2 i3 i4 e0 e1 e2
  go_wp2_with fail
  refine hseal.out.mono ?_
  rintro e w3 ⟨hK3, ⟨hle, aa, ca, S', rfl, hrow3, hSl⟩ | ⟨hlt, -⟩⟩
  case inr =>
    exfalso
    rw [hSb.out, ← hm0.out] at hlt
    omega
  have hs3 := hs2.out.kept' hK3
  have htk := takes_ok hSl.st.tape.at
  rw [hSl.tp, hStp.out, hSl.ts] at htk
  obtain ⟨N, hN⟩ : ∃ N, N = m2 / 16 := ⟨_, rfl⟩
  have hNl : (takesL whatS (m2 / 16)).length = N := by simp [takesL, hN]
  rw [hNl] at htk
  obtain ⟨hca1, hca2⟩ : m2 ≤ ca ∧ ca ≤ maxLen := by obtain ⟨_, _, h, q1, q2⟩ := (Cells.own hrow3).shape; cases h; exact ⟨q1, q2⟩
  unfold maxLen at hca2
  replace htk := Lib.hid htk
  replace hK3 := Lib.hid hK3
  replace hrow3 := Lib.hid hrow3
  replace hSl := Lib.hid hSl
  replace hs3 := Lib.hid hs3
  replace hNl := Lib.hid hNl
  clear hseal hle
  have hN16 : m2 = 16 * N := by omega
  replace hN := Lib.hid hN
  replace hN16 := Lib.hid hN16
  go_wp2_with fail
  refine htk.out.mono ?_
  rintro e w4 ⟨xt, ct, rfl, hrow4, hb4⟩
  have hBw3 : B ≤ w3.heap.size := hSl.out.st.room
  have hK4 : Kept B w3 w4 := Kept.chg hBw3 (Chg.of_below hb4 _)
  have hs4 := hs3.out.kept' hK4
  have hr4 := row_kept hrow3.out hK4
  have hbb4 := hb0.out w4 (hK3.out.trans hK4)
  have hI4 := hSl.out.st.after hb4
  have hSl4 : Sealed w4 B S whatS ⟨key.toArray⟩ 7 data (m2 / 16) S' := ⟨hI4, hSl.out.c, hSl.out.tp, hSl.out.b, hSl.out.bv, hSl.out.a, hSl.out.ts, hSl.out.len, hSl.out.low, hSl.out.all⟩
  obtain ⟨hct1, hct2⟩ : N ≤ ct ∧ ct ≤ maxLen := by obtain ⟨_, _, h, q1, q2⟩ := (Cells.own hrow4).shape; cases h; exact ⟨q1, q2⟩
  unfold maxLen at hct2
  have hdr : ∀ w5, Chg No w4.drew w5 → Chg No w4 w5 := fun w5 h => ⟨h.os, h.tape, h.output, h.size, h.block⟩
  have hcv1 : ∀ w5, Chg No w4 w5 → (convert 22 9 (.slice aa m2 ca)).run Try.prog w5 = .ok (.string ⟨(b.take m2).toArray⟩) w5 := fun w5 h5 => by
    have h := ((Cells.own hr4).chg h5 (fun _ _ _ => id)).mono (S' := fun _ => True) (fun _ _ _ => trivial)
    rw [hSb.out] at h
    have hl : (b.take m2).length = m2 := by rw [List.length_take, ← hm0.out]; omega
    have h' : Bytes w5 (fun _ => True) (.slice aa m2 ca) (b.take m2) := by show Cells _ _ _ (b.take m2).length 1 _; rw [hl]; exact h
    exact run_string w5 _ _ _ Try.underlying22 Try.underlying5 Try.underlying9 _ _ _ h'
  have hct : ∀ w5, (Instr.sliceAt 22 (.slice a0 m0 c0) none (some (.int .i64 m2)) none).run Try.prog w5 = .ok (sliced a0 0 m2 c0 1) w5 := fun w5 => cut_hi (P := Try.prog) (s := 1) w5 Try.underlying22 (by kernel_rfl) a0 _ c0 m2 (by omega)
  have hcv2 : ∀ w5, Chg No w4 w5 → (convert 22 9 (sliced a0 0 m2 c0 1)).run Try.prog w5 = .ok (.string ⟨(b.take m2).toArray⟩) w5 := fun w5 h5 => by
    have h := bytes_cut (Bytes.chg hbb4 h5 (fun _ _ _ => id)) 0 m2 (by omega) (by rw [← hm0.out]; omega)
    rw [List.drop_zero, Nat.sub_zero] at h
    exact run_string w5 _ _ _ Try.underlying22 Try.underlying5 Try.underlying9 _ _ _ h
  replace hdr := Lib.hid hdr
  replace hcv1 := Lib.hid hcv1
  replace hcv2 := Lib.hid hcv2
  replace hct := Lib.hid hct
  replace hrow4 := Lib.hid hrow4
  replace hK4 := Lib.hid hK4
  replace hs4 := Lib.hid hs4
  replace hr4 := Lib.hid hr4
  replace hSl4 := Lib.hid hSl4
  replace hb4 := Lib.hid hb4
  clear htk hbb4 hI4 hs3 hBw3
  have hNq : (m2 : Int) / 16 = N := by have := hN16.out; omega
  go_wp2
  refine RA.region (fun a b => Chg No a b) (· = ·) [1, 1, 1, 1, 1, 1, 1, 1, 1, 1, 1, 1, 1, 1, 1, 1, 1, 1, 1, 1] (fun _ _ _ => True) (fun _ => True) (by kernel_rfl) (Chg.refl _ _) (fun _ _ h => h ▸ Chg.refl _ _) (fun _ _ _ h k => h.trans k) (fun _ _ h k => h ▸ k) trivial (by kernel_rfl) ?_
  intro cx
  repeat (first | refine RA.mv (by kernel_rfl) (by rfl) (by rfl) ?_ | refine RA.as (by kernel_rfl) (by rfl) (by rfl) ?_ | refine RA.nc (by kernel_rfl) (by rfl) (by rfl) ?_)
  refine RA.ne false (by kernel_rfl) (by rfl) (by rfl) (by rfl) (by rfl) ?_
  repeat (first | refine RA.mv (by kernel_rfl) (by rfl) (by rfl) ?_ | refine RA.as (by kernel_rfl) (by rfl) (by rfl) ?_ | refine RA.nc (by kernel_rfl) (by rfl) (by rfl) ?_)
  refine RA.cv (by kernel_rfl) (by rfl) (by rfl) (fun w5 hp => hcv1.out w5 (hdr.out _ hp.1)) ?_
  repeat (first | refine RA.mv (by kernel_rfl) (by rfl) (by rfl) ?_ | refine RA.as (by kernel_rfl) (by rfl) (by rfl) ?_ | refine RA.nc (by kernel_rfl) (by rfl) (by rfl) ?_)
  refine RA.ln (by kernel_rfl) (by rfl) (by rfl) (y' := .int .i64 m2) (fun w3 _ => by show (Builtin.len_ _ _ _).run Try.prog w3 = _; go_simp) ?_
  refine RA.shi (by kernel_rfl) (by rfl) (by rfl) (by rfl) (fun w5 hp => hct.out w5) ?_
  refine RA.cv (by kernel_rfl) (by rfl) (by rfl) (fun w5 hp => hcv2.out w5 (hdr.out _ hp.1)) ?_
  refine RA.ns false (by kernel_rfl) (by rfl) (by rfl) (by rfl) (by simp) ?_
  refine RA.pf (by kernel_rfl) (by rfl) (by rfl) (by rfl) ?_
  repeat (first | refine RA.mv (by kernel_rfl) (by rfl) (by rfl) ?_ | refine RA.as (by kernel_rfl) (by rfl) (by rfl) ?_ | refine RA.nc (by kernel_rfl) (by rfl) (by rfl) ?_)
  refine RA.ln (by kernel_rfl) (by rfl) (by rfl) (y' := .int .i64 N) (fun w3 _ => by show (Builtin.len_ _ _ _).run Try.prog w3 = _; go_simp) ?_
  repeat (first | refine RA.mv (by kernel_rfl) (by rfl) (by rfl) ?_ | refine RA.as (by kernel_rfl) (by rfl) (by rfl) ?_ | refine RA.nc (by kernel_rfl) (by rfl) (by rfl) ?_)
  refine RA.ln (by kernel_rfl) (by rfl) (by rfl) (y' := .int .i64 m2) (fun w3 _ => by show (Builtin.len_ _ _ _).run Try.prog w3 = _; go_simp) ?_
  refine RA.v Try.prog (x := .int .i64 N) (by kernel_rfl) (by rfl) (by rfl) (fun w hp => by (try go_simp); rw [IntKind.wrap_i64]; omega) ?_
  simp only [RA.add]
  refine RA.ne false (by kernel_rfl) (by rfl) (by rfl) (by rfl) (by simp) ?_
  refine RA.pf (by kernel_rfl) (by rfl) (by rfl) (by rfl) ?_
  refine RA.RA.done rfl (fun W hR hF hH => ?_)
  clear hF hH
  simp only [RA.put, List.foldr_cons, List.foldr_nil, cx, Act.put, List.setIfInBounds_toArray, List.set_cons_succ, List.set_cons_zero]
  have hRW := hdr.out _ hR
  clear hR hdr hcv1 hcv2 hct cx
  have hrowW := owns_keep hrow4.out (fun g hg => hRW.block g (hrow4.out.lt g hg).2 id)
  have hsW := hs4.out.kept' (Kept.chg hSl4.out.st.room hRW)
  have hKW : Kept B w4 W := Kept.chg hSl4.out.st.room hRW
  have hIW := hSl4.out.st.after (Chg.no hRW)
  have hSlW : Sealed W B S whatS ⟨key.toArray⟩ 7 data (m2 / 16) S' := ⟨hIW, hSl4.out.c, hSl4.out.tp, hSl4.out.b, hSl4.out.bv, hSl4.out.a, hSl4.out.ts, hSl4.out.len, hSl4.out.low, hSl4.out.all⟩
  have hrW := row_kept hr4.out hKW
  have hKW2 : Kept B w2 W := hK3.out.trans (hK4.out.trans hKW)
  replace hsW := Lib.hid hsW
  replace hSlW := Lib.hid hSlW
  replace hrW := Lib.hid hrW
  replace hKW2 := Lib.hid hKW2
  replace hrowW := Lib.hid hrowW
  clear hRW hKW hIW hrow4 hs4 hK4 hr4 hSl4 hb4 hSl hrow3 hK3 hs2 hI2 hNq
  have hN12 : N ≤ 12 := by have := hN16.out; omega
  go_wp2
  go_loopw [12] (fun i' wr => ∃ i : Nat, i ≤ N ∧ i' = .int .i64 i ∧ Hid (wr = W)) (fun i' _ => N - (intOf i').toNat)
  case atStart => exact ⟨0, by omega, rfl, Lib.hid rfl⟩
  case round =>
    obtain ⟨i, hiN, rfl, hw⟩ := hrel
    obtain rfl := hw.out
    by_cases hlt : i < N
    · obtain ⟨g, cp, e, -, -⟩ := own_shape hrowW.out (by omega)
      simp only [Value.slice.injEq] at e
      obtain ⟨rfl, -, rfl⟩ := e
      have hget : (takesL whatS (m2 / 16))[i]? = some (whatS, 16 * i, 16) := by
        rw [← hN.out]
        simp [takesL, hlt]
      have hcell : ∀ j v, j < 3 → (takeCells (whatS, 16 * i, 16))[j]? = some v → wr.cell? ⟨g, i * 3 + j, none⟩ = some v := fun j v hj hv => by
        have h := hrowW.out.cells (g := g) rfl (i * 3 + j) v ((flat3 _ i _ j hget hj).trans hv)
        rw [Addr.add_lit, Nat.zero_add] at h
        exact h
      have hld : (Instr.loadAt 41 (.pointer (some ⟨g, i * 3, none⟩))).run Try.prog wr = .ok (.agg #[.string ⟨#[119, 104, 97, 116]⟩, .int .i64 (16 * (i : Int)), .int .i64 16]) wr := by
        have h := take_load (w := wr) (g := g) (off := i * 3) (l := takeCells (whatS, 16 * i, 16)) rfl hcell
        have e : (takeCells (whatS, 16 * i, 16)).toArray = #[.string ⟨#[119, 104, 97, 116]⟩, .int .i64 (16 * (i : Int)), .int .i64 16] := by simp [takeCells, whatS]
        rw [e] at h
        exact h
      replace hld := Lib.hid hld
      have hbd2 := Lib.hid (take_build wr ⟨#[119, 104, 97, 116]⟩ (16 * (i : Int)) 16)
      have hneq : ∀ x y, ((do eqGuard .neq 41 x y (.agg #[.string ⟨#[119, 104, 97, 116]⟩, .int .i64 (16 * (i : Int)), .int .i64 16]) (.agg #[.string ⟨#[119, 104, 97, 116]⟩, .int .i64 (16 * (i : Int)), .int .i64 16]); binOp .neq 41 (.agg #[.string ⟨#[119, 104, 97, 116]⟩, .int .i64 (16 * (i : Int)), .int .i64 16]) (.agg #[.string ⟨#[119, 104, 97, 116]⟩, .int .i64 (16 * (i : Int)), .int .i64 16])) : Sem Value).run Try.prog wr = .ok (.bool false) wr := fun x y => by
        rw [Sem.run_bind, take_guard, Result.andThen_ok]
        exact take_neq wr _ _ _
      replace hneq := Lib.hid hneq
      clear hcell
      replace hget := Lib.hid hget
      go_wp2_with (first | (refine wpList_load rfl 41 _ rfl _ _ rfl hld.out ?_) | (refine wpList_build rfl 41 _ rfl _ rfl _ hbd2.out ?_) | (refine wpList_bin rfl .neq 41 _ _ _ rfl _ _ _ rfl rfl (hneq.out _ _) ?_))
      go_roundw
      case rel => exact ⟨i + 1, by omega, by go_num⟩
      case measure => simp [intOf]; omega
    · have hiN' : i = N := by omega
      subst hiN'
      have hsx : SuiteAt wr s (some ⟨S'.c, 0, none⟩) (some ⟨p, 0, none⟩) := by rw [hSlW.out.c]; exact hsW.out
      have hdl : m2 ≤ S.b.length := by rw [hSb.out, ← hm0.out]; exact hbd
      have hdt : ∀ w5, Kept B wr w5 → Bytes w5 (fun _ => True) (.slice aa (S.b.take data.length).length ca) (S.b.take data.length) := fun w5 h5 => by
        have h := (Cells.own (row_kept hrW.out h5)).mono (S' := fun _ => True) (fun _ _ _ => trivial)
        have hl : (S.b.take data.length).length = m2 := by rw [List.length_take, ← hm2.out]; omega
        rw [hl]
        show Cells _ _ _ (S.b.take data.length).length 1 _
        rw [hl, ← hm2.out]
        exact h
      have hopen := open_known hsx whatS 7 (by rw [← hm2.out]; exact hSlW.out) (fun w5 h5 => hb1'.out w5 (hKW2.out.trans h5)) hdt hk7.out (by rw [← hm2.out]; exact h16) (by rw [← hm2.out]; omega) (by rw [← hm2.out]; exact hdl)
      rw [← hm2.out, ← hm1.out, hn1h.out] at hopen
      replace hopen := Lib.hid hopen
      clear hdt hsx hdl
      go_wp2_with fail
      refine hopen.out.mono ?_
      rintro e w5 ⟨hK5, ab, cb, rfl, hrow5, hI5⟩
      obtain ⟨hcb1, hcb2⟩ : m2 ≤ cb ∧ cb ≤ maxLen := by obtain ⟨_, _, h, q1, q2⟩ := (Cells.own hrow5).shape; cases h; exact ⟨q1, q2⟩
      unfold maxLen at hcb2
      have hcvA : (convert 22 9 (.slice ab m2 cb)).run Try.prog w5 = .ok (.string ⟨data.toArray⟩) w5 := by
        have h := (Cells.own hrow5).mono (S' := fun _ => True) (fun _ _ _ => trivial)
        have h' : Bytes w5 (fun _ => True) (.slice ab m2 cb) data := by show Cells _ _ _ data.length 1 _; rw [← hm2.out]; exact h
        exact run_string w5 _ _ _ Try.underlying22 Try.underlying5 Try.underlying9 _ _ _ h'
      have hcvB : (convert 22 9 (.slice a2 m2 c2)).run Try.prog w5 = .ok (.string ⟨data.toArray⟩) w5 := by
        have h := hb2'.out w5 (hKW2.out.trans hK5)
        rw [← hm2.out] at h
        exact run_string w5 _ _ _ Try.underlying22 Try.underlying5 Try.underlying9 _ _ _ h
      have hleft := left_ok hI5.tape.at
      have hla : ((S'.b.length - S'.a : Nat) : Int) = (m0 : Int) - m2 := by
        rw [hSlW.out.b, hSb.out, ← hm0.out, hSlW.out.a, ← hN.out]
        have := hN16.out
        omega
      rw [hla, hSlW.out.tp, hStp.out] at hleft
      have hs5 := hsW.out.kept' hK5
      have hB5 : B ≤ w5.heap.size := hI5.room
      replace hleft := Lib.hid hleft
      replace hK5 := Lib.hid hK5
      replace hs5 := Lib.hid hs5
      obtain ⟨DS, hDS⟩ : ∃ D : ByteArray, D = ⟨data.toArray⟩ := ⟨_, rfl⟩
      rw [← hDS] at hcvA hcvB
      clear hDS hopen hrow5 hI5 hla
      go_wp2_with fail
      refine hleft.out.mono ?_
      rintro e w6 ⟨rfl, hc6⟩
      have hK6 : Kept B w5 w6 := Kept.chg hB5 hc6
      have htape := Lib.hid (suTape_ok (hs5.out.kept' hK6))
      have heq := tape_same ⟨p, 0, none⟩ w6
      have haw := Lib.hid (awake_ok w6)
      replace hK6 := Lib.hid hK6
      clear hcvA hcvB hleft hc6
      go_wp2_with fail
      refine htape.out.mono ?_
      rintro e w' ⟨rfl, rfl⟩
      go_wp2_with fail
      refine haw.out.mono ?_
      rintro e V ⟨rfl, hV⟩
      replace hV := Lib.hid hV
      clear haw htape heq
      go_wp2
      go_ret
      refine ⟨rfl, ?_⟩
      have hfin := (kw2.out.trans (hKW2.out.trans (hK5.out.trans hK6.out)).below).trans (hV.out.mono (Nat.le_trans hB5 hK6.out.below.size))
      rw [hB.out] at hfin
      exact hfin



theorem takesLaw_ok {w : World} {S0 S1 S2 : Nat → Prop} {v0 v1 v2 : Value} {b key data : List UInt8} (h0 : Bytes w S0 v0 b) (h1 : Bytes w S1 v1 key) (h2 : Bytes w S2 v2 data) :
    Calls Try.prog 5 #[v0, v1, v2] w fun e w' => e = .returned (.bool true) ∧ Below w.heap.size w w' := by
  obtain ⟨a0, c0, rfl, p0, q0⟩ := h0.shape
  obtain ⟨a1, c1, rfl, p1, q1⟩ := h1.shape
  obtain ⟨a2, c2, rfl, p2, q2⟩ := h2.shape
  by_cases h : (key.length = 32 ∨ key.length = 64) ∧ data.length % 16 = 0 ∧ data.length ≤ 200 ∧ data.length ≤ b.length ∧ b.length ≤ 500
  · obtain ⟨hk | hk, g2, g3, g4, g5⟩ := h
    · exact takes_main32 h0 h1 h2 rfl hk g2 g3 g4 g5
    · exact takes_main64 h0 h1 h2 rfl hk g2 g3 g4 g5
  · exact takes_skip a0 a1 a2 b.length key.length data.length c0 c1 c2 (Nat.le_trans p0 q0) (Nat.le_trans p1 q1) (Nat.le_trans p2 q2) h
end Go.Proofs.Ytbgfdbidbjlaaaa.Fd

/-
  plan's functions with their answers written out; what the document fixes (awake). No condition beyond what each theorem names.
-/
import Derived.Test.YtifocofpplhacaaPlanE
import Derived.Laws.StructEq
namespace Go.Proofs.Ytifocofpplhacaa.P
open Go Go.RowKit K

def BoxA (w : World) (b : Nat) (x y : Int) : Prop := w.heap[b]? = some (.cells #[.int .i64 x, .int .i64 y] 46 (0, 0))
theorem box_new (w : World) (x y : Int) : BoxA (w.alloc (.cells #[.int .i64 x, .int .i64 y] 46)) w.heap.size x y := heap_alloc_new _ _
theorem BoxA.keep {w w1 : World} {b : Nat} {x y : Int} (h : BoxA w b x y) (hb : Below w.heap.size w w1) : BoxA w1 b x y := (hb.block b (heap_lt h)).trans h
theorem BoxA.alloc {w : World} {b : Nat} {x y : Int} (h : BoxA w b x y) (o : Obj) : BoxA (w.alloc o) b x y := (Below.heap_alloc _ _ _ (heap_lt h)).trans h
theorem BoxA.c0 {w : World} {b : Nat} {x y : Int} (h : BoxA w b x y) : w.cell? ⟨b, 0, none⟩ = some (.int .i64 x) := cell_of h 0
theorem BoxA.c1 {w : World} {b : Nat} {x y : Int} (h : BoxA w b x y) : w.cell? ⟨b, 1, none⟩ = some (.int .i64 y) := cell_of h 1
theorem BoxA.lt {w : World} {b : Nat} {x y : Int} (h : BoxA w b x y) : b < w.heap.size := heap_lt h
theorem BoxA.chg {w w1 : World} {b : Nat} {x y : Int} (h : BoxA w b x y) (hb : Chg No w w1) : BoxA w1 b x y := (hb.block b (heap_lt h) id).trans h
theorem BoxA.ld {w : World} {b : Nat} {x y : Int} (h : BoxA w b x y) : (Instr.loadAt 46 (.pointer (some ⟨b, 0, none⟩))).run Try.prog w = .ok (.agg #[.int .i64 x, .int .i64 y]) w := by
  have h0 := h.c0
  have h1 := h.c1
  go_simp

theorem may_at {n : Int} {b : Bool} (h : mayB n = b) (w : World) : Calls Try.prog 27 #[.int .i64 n] w fun e w' => e = .returned (.bool b) ∧ w = w' := h ▸ may_ok n w
theorem slot_at {n k f c : Int} {b : Bool} (h1 : slotA n k = (f, c)) (h2 : slotB n k = b) (w : World) : Calls Try.prog 24 #[.int .i64 n, .int .i64 k] w fun e w' => e = .returned (.tuple #[.agg #[.int .i64 f, .int .i64 c], .bool b]) ∧ Below w.heap.size w w' := by
  have h := slot_ok n k w
  rw [h1, h2] at h
  exact h
theorem whole_at {n f c : Int} {b : Bool} (h1 : wholeA n = (f, c)) (h2 : mayB n = b) (w : World) : Calls Try.prog 25 #[.int .i64 n] w fun e w' => e = .returned (.tuple #[.agg #[.int .i64 f, .int .i64 c], .bool b]) ∧ Below w.heap.size w w' := by
  have h := whole_ok n w
  rw [h1, h2] at h
  exact h
theorem split_at {x y f c g d : Int} {b : Bool} (h1 : metaA (x, y) = (f, c)) (h2 : dataA (x, y) = (g, d)) (h3 : splitB (x, y) = b) (w : World) : Calls Try.prog 30 #[.agg #[.int .i64 x, .int .i64 y]] w fun e w' => e = .returned (.tuple #[.agg #[.int .i64 f, .int .i64 c], .agg #[.int .i64 g, .int .i64 d], .bool b]) ∧ Below w.heap.size w w' := by
  have h := split_ok (x, y) w
  rw [h1, h2, h3] at h
  exact h
theorem inside_at {x y p q f c : Int} {b : Bool} (h1 : insideA (x, y) p q = (f, c)) (h2 : insideB (x, y) p q = b) (w : World) : Calls Try.prog 33 #[.agg #[.int .i64 x, .int .i64 y], .int .i64 p, .int .i64 q] w fun e w' => e = .returned (.tuple #[.agg #[.int .i64 f, .int .i64 c], .bool b]) ∧ Below w.heap.size w w' := by
  have h := inside_ok (x, y) p q w
  rw [h1, h2] at h
  exact h
theorem has_at {x y t : Int} {b : Bool} (h : 0 ≤ x ∧ x ≤ 1000000000 ∧ y ≤ 1000000000 ∧ 0 ≤ t ∧ t ≤ 1000000000) (h2 : hasB (x, y) t = b) (w : World) : Calls Try.prog 36 #[.agg #[.int .i64 x, .int .i64 y], .int .i64 t] w fun e w' => e = .returned (.bool b) ∧ Below w.heap.size w w' := by
  have h := has_ok (x, y) t h w
  rw [h2] at h
  exact h
theorem over_at {x y u v : Int} {b : Bool} (h : 0 ≤ x ∧ x ≤ 1000000000 ∧ y ≤ 1000000000 ∧ 0 ≤ u ∧ u ≤ 1000000000 ∧ v ≤ 1000000000) (h2 : overB (x, y) (u, v) = b) (w : World) : Calls Try.prog 37 #[.agg #[.int .i64 x, .int .i64 y], .agg #[.int .i64 u, .int .i64 v]] w fun e w' => e = .returned (.bool b) ∧ Below w.heap.size w w' := by
  have h := over_ok (x, y) (u, v) h w
  rw [h2] at h
  exact h

theorem area_eq (w : World) (x x' : Operand) (a b c d : Int) (r : Bool) (h : (decide (a = c) && decide (b = d)) = r) : ((do eqGuard .eql 46 x x' (.agg #[.int .i64 a, .int .i64 b]) (.agg #[.int .i64 c, .int .i64 d]); binOp .eql 46 (.agg #[.int .i64 a, .int .i64 b]) (.agg #[.int .i64 c, .int .i64 d])) : Sem Value).run Try.prog w = .ok (.bool r) w := by
  have hS : Try.prog.underlying 46 = some (.struct (Try.prog.fieldsOf 46)) := by kernel_rfl
  have hp : Try.prog.stoodInHeld 46 = false := by kernel_rfl
  have hm : Try.prog.eqGuardType Try.prog.depth 46 = false := by kernel_rfl
  have u3 := Try.underlying3
  have a3 := Try.isAgg3
  have z3 := Try.sizeOf3
  rw [Sem.run_bind, run_eqGuard_agg _ _ _ _ _ _ _ hm, Result.andThen_ok, run_eql_struct, show (10000 : Nat) = 9999 + 1 from rfl, run_equalIn_agg w 9999 46 _ _ hS hp]
  simp only [Program.fieldsOf, Try.underlying46]
  go_simp
  subst h
  by_cases h1 : a = c <;> by_cases h2 : b = d <;> simp [h1, h2]
theorem area_ne (w : World) (x x' : Operand) (a b c d : Int) (r : Bool) (h : (!(decide (a = c) && decide (b = d))) = r) : ((do eqGuard .neq 46 x x' (.agg #[.int .i64 a, .int .i64 b]) (.agg #[.int .i64 c, .int .i64 d]); binOp .neq 46 (.agg #[.int .i64 a, .int .i64 b]) (.agg #[.int .i64 c, .int .i64 d])) : Sem Value).run Try.prog w = .ok (.bool r) w := by
  have hS : Try.prog.underlying 46 = some (.struct (Try.prog.fieldsOf 46)) := by kernel_rfl
  have hp : Try.prog.stoodInHeld 46 = false := by kernel_rfl
  have hm : Try.prog.eqGuardType Try.prog.depth 46 = false := by kernel_rfl
  have u3 := Try.underlying3
  have a3 := Try.isAgg3
  have z3 := Try.sizeOf3
  rw [Sem.run_bind, run_eqGuard_agg _ _ _ _ _ _ _ hm, Result.andThen_ok, run_neq_struct, show (10000 : Nat) = 9999 + 1 from rfl, run_equalIn_agg w 9999 46 _ _ hS hp]
  simp only [Program.fieldsOf, Try.underlying46]
  go_simp
  subst h
  by_cases h1 : a = c <;> by_cases h2 : b = d <;> simp [h1, h2]

theorem area_guard (w : World) (x x' : Operand) (u v : Array Value) (op : BinOp) : (eqGuard op 46 x x' (.agg u) (.agg v)).run Try.prog w = .ok () w := run_eqGuard_agg _ _ _ _ _ _ _ (by kernel_rfl)
theorem area_eql (w : World) (a b c d : Int) : (binOp .eql 46 (.agg #[.int .i64 a, .int .i64 b]) (.agg #[.int .i64 c, .int .i64 d])).run Try.prog w = .ok (.bool (decide (a = c) && decide (b = d))) w := by
  have h := area_eq w (.tmp 0) (.tmp 0) a b c d _ rfl
  rw [Sem.run_bind, area_guard, Result.andThen_ok] at h
  exact h
theorem area_neq (w : World) (a b c d : Int) : (binOp .neq 46 (.agg #[.int .i64 a, .int .i64 b]) (.agg #[.int .i64 c, .int .i64 d])).run Try.prog w = .ok (.bool (!(decide (a = c) && decide (b = d)))) w := by
  have h := area_ne w (.tmp 0) (.tmp 0) a b c d _ rfl
  rw [Sem.run_bind, area_guard, Result.andThen_ok] at h
  exact h

/-- Areas that a call has laid side by side. -/
theorem cells_areas (w : World) (l : List Ar) (h : l.length ≤ 1000) : Cells (w.alloc (.cells (arCells l).toArray 46)) (· = w.heap.size) (.slice (some ⟨w.heap.size, 0, none⟩) l.length l.length) l.length 2 (arCells l) := by
  refine ⟨arCells_length l, _, _, rfl, Nat.le_refl _, by unfold maxLen; omega, fun h => (by cases h), .inr ⟨_, 0, rfl, rfl, by simp, fun j u hu => ?_⟩⟩
  rw [Nat.zero_add, cell_of (heap_alloc_new _ _)]
  simpa using hu

set_option maxRecDepth 100000 in
set_option maxHeartbeats 4000000 in
theorem awake14_ok (w : World) : Calls Try.prog 35 #[] w fun e w' => e = .returned (.bool true) ∧ Below w.heap.size w w' := by
  have hag := area_guard
  have hae := area_eql
  go_enter Try.func35, Try.ntmps35
  go_wp2_with fail
  refine (whole_at (f := 8) (c := 80) (b := true) (by decide) (by decide) _).mono ?_
  rintro e w1 ⟨rfl, hb⟩
  have B := Lib.hid (hb.alloc hb.size (.cells #[.int .i64 (8), .int .i64 (80)] 46))
  have Xp1 := Lib.hid (box_new w1 (8) (80))
  clear hb
  go_wp2_with fail
  obtain ⟨p1, hp1⟩ : ∃ p1, p1 = w1.heap.size := ⟨_, rfl⟩
  rw [← hp1] at Xp1 ⊢
  clear hp1
  generalize w1.alloc (.cells #[.int .i64 8, .int .i64 80] 46) = W1 at *
  refine (slot_at (f := 92) (c := 4) (b := true) (by decide) (by decide) _).mono ?_
  rintro e w2 ⟨rfl, hb⟩
  replace B := Lib.hid ((B.out.trans (hb.mono B.out.size)).alloc (Nat.le_trans B.out.size hb.size) (.cells #[.int .i64 (92), .int .i64 (4)] 46))
  replace Xp1 := Lib.hid (Xp1.out.keep hb)
  have c0 := Xp1.out.c0
  have c1 := Xp1.out.c1
  have l1 := Xp1.out.lt
  replace Xp1 := Lib.hid (Xp1.out.alloc (.cells #[.int .i64 (92), .int .i64 (4)] 46))
  have Xp2 := Lib.hid (box_new w2 (92) (4))
  clear hb
  go_wp2_with fail
  obtain ⟨p2, hp2⟩ : ∃ p2, p2 = w2.heap.size := ⟨_, rfl⟩
  rw [← hp2] at Xp2 ⊢
  clear hp2
  generalize w2.alloc (.cells #[.int .i64 92, .int .i64 4] 46) = W2 at *
  clear c0 c1 l1
  refine (split_at (f := 8) (c := 40) (g := 48) (d := 40) (b := true) (by decide) (by decide) (by decide) _).mono ?_
  rintro e w3 ⟨rfl, hb⟩
  have hbb := (B.out.trans (hb.mono B.out.size)).alloc (Nat.le_trans B.out.size hb.size) (.cells #[.int .i64 8, .int .i64 40] 46)
  replace B := Lib.hid (hbb.alloc hbb.size (.cells #[.int .i64 48, .int .i64 40] 46))
  replace Xp1 := Lib.hid (Xp1.out.keep hb)
  replace Xp2 := Lib.hid (Xp2.out.keep hb)
  replace Xp1 := Lib.hid (Xp1.out.alloc (.cells #[.int .i64 (8), .int .i64 (40)] 46))
  replace Xp2 := Lib.hid (Xp2.out.alloc (.cells #[.int .i64 (8), .int .i64 (40)] 46))
  have Xp3 := Lib.hid (box_new w3 8 40)
  clear hb hbb
  replace Xp1 := Lib.hid (Xp1.out.alloc (.cells #[.int .i64 (48), .int .i64 (40)] 46))
  replace Xp2 := Lib.hid (Xp2.out.alloc (.cells #[.int .i64 (48), .int .i64 (40)] 46))
  replace Xp3 := Lib.hid (Xp3.out.alloc (.cells #[.int .i64 (48), .int .i64 (40)] 46))
  have xp4 := box_new (w3.alloc (.cells #[.int .i64 8, .int .i64 40] 46)) 48 40
  simp only [World.size_alloc] at xp4
  have Xp4 := Lib.hid xp4
  clear xp4
  go_wp2_with fail
  obtain ⟨p3, hp3⟩ : ∃ p3, p3 = w3.heap.size := ⟨_, rfl⟩
  obtain ⟨p4, hp4⟩ : ∃ p4, p4 = w3.heap.size + 1 := ⟨_, rfl⟩
  rw [← hp4] at Xp4 ⊢
  rw [← hp3] at Xp3 ⊢
  clear hp3 hp4
  generalize (w3.alloc (.cells #[.int .i64 8, .int .i64 40] 46)).alloc (.cells #[.int .i64 48, .int .i64 40] 46) = W3 at *
  refine (inside_at (f := 50) (c := 50) (b := true) (by decide) (by decide) _).mono ?_
  rintro e w4 ⟨rfl, hb⟩
  replace B := Lib.hid ((B.out.trans (hb.mono B.out.size)).alloc (Nat.le_trans B.out.size hb.size) (.cells #[.int .i64 50, .int .i64 50] 46))
  replace Xp1 := Lib.hid (Xp1.out.keep hb)
  replace Xp2 := Lib.hid (Xp2.out.keep hb)
  replace Xp3 := Lib.hid (Xp3.out.keep hb)
  replace Xp4 := Lib.hid (Xp4.out.keep hb)
  replace Xp1 := Lib.hid (Xp1.out.alloc (.cells #[.int .i64 (50), .int .i64 (50)] 46))
  replace Xp2 := Lib.hid (Xp2.out.alloc (.cells #[.int .i64 (50), .int .i64 (50)] 46))
  replace Xp3 := Lib.hid (Xp3.out.alloc (.cells #[.int .i64 (50), .int .i64 (50)] 46))
  replace Xp4 := Lib.hid (Xp4.out.alloc (.cells #[.int .i64 (50), .int .i64 (50)] 46))
  have Xp5 := Lib.hid (box_new w4 50 50)
  clear hb
  go_wp2_with fail
  obtain ⟨p5, hp5⟩ : ∃ p5, p5 = w4.heap.size := ⟨_, rfl⟩
  rw [← hp5] at Xp5 ⊢
  clear hp5
  generalize w4.alloc (.cells #[.int .i64 50, .int .i64 50] 46) = W4 at *
  refine (slot_at (f := 0) (c := 0) (b := false) (by decide) (by decide) _).mono ?_
  rintro e w5 ⟨rfl, hb⟩
  replace B := Lib.hid ((B.out.trans (hb.mono B.out.size)).alloc (Nat.le_trans B.out.size hb.size) (.cells #[.int .i64 0, .int .i64 0] 46))
  replace Xp1 := Lib.hid (Xp1.out.keep hb)
  replace Xp2 := Lib.hid (Xp2.out.keep hb)
  replace Xp3 := Lib.hid (Xp3.out.keep hb)
  replace Xp4 := Lib.hid (Xp4.out.keep hb)
  replace Xp5 := Lib.hid (Xp5.out.keep hb)
  replace Xp1 := Lib.hid (Xp1.out.alloc (.cells #[.int .i64 (0), .int .i64 (0)] 46))
  replace Xp2 := Lib.hid (Xp2.out.alloc (.cells #[.int .i64 (0), .int .i64 (0)] 46))
  replace Xp3 := Lib.hid (Xp3.out.alloc (.cells #[.int .i64 (0), .int .i64 (0)] 46))
  replace Xp4 := Lib.hid (Xp4.out.alloc (.cells #[.int .i64 (0), .int .i64 (0)] 46))
  replace Xp5 := Lib.hid (Xp5.out.alloc (.cells #[.int .i64 (0), .int .i64 (0)] 46))
  clear hb
  go_wp2_with fail
  generalize w5.alloc (.cells #[.int .i64 0, .int .i64 0] 46) = W5 at *
  have ap1 := Xp1.out.c0
  have bp1 := Xp1.out.c1
  have lp1 := Xp1.out.lt
  have ap2 := Xp2.out.c0
  have bp2 := Xp2.out.c1
  have lp2 := Xp2.out.lt
  have ap3 := Xp3.out.c0
  have bp3 := Xp3.out.c1
  have lp3 := Xp3.out.lt
  have ap4 := Xp4.out.c0
  have bp4 := Xp4.out.c1
  have lp4 := Xp4.out.lt
  have ap5 := Xp5.out.c0
  have bp5 := Xp5.out.c1
  have lp5 := Xp5.out.lt
  refine (may_at (b := true) (by decide) _).mono ?_
  rintro e w6 ⟨rfl, rfl⟩
  go_wp2_with fail
  refine (may_at (b := false) (by decide) _).mono ?_
  rintro e w6 ⟨rfl, rfl⟩
  go_wp2_with fail
  clear ap1 bp1 lp1 ap2 bp2 lp2 ap3 bp3 lp3 ap4 bp4 lp4 ap5 bp5 lp5
  refine (over_at (b := true) (by decide) (by decide) _).mono ?_
  rintro e w6 ⟨rfl, hb⟩
  replace B := Lib.hid (B.out.trans (hb.mono B.out.size))
  replace Xp1 := Lib.hid (Xp1.out.keep hb)
  replace Xp2 := Lib.hid (Xp2.out.keep hb)
  replace Xp3 := Lib.hid (Xp3.out.keep hb)
  replace Xp4 := Lib.hid (Xp4.out.keep hb)
  replace Xp5 := Lib.hid (Xp5.out.keep hb)
  clear hb
  have ap3 := Xp3.out.c0
  have bp3 := Xp3.out.c1
  have lp3 := Xp3.out.lt
  have ap4 := Xp4.out.c0
  have bp4 := Xp4.out.c1
  have lp4 := Xp4.out.lt
  go_wp2_with fail
  clear ap3 bp3 lp3 ap4 bp4 lp4
  refine (over_at (b := false) (by decide) (by decide) _).mono ?_
  rintro e w6 ⟨rfl, hb⟩
  replace B := Lib.hid (B.out.trans (hb.mono B.out.size))
  replace Xp1 := Lib.hid (Xp1.out.keep hb)
  replace Xp2 := Lib.hid (Xp2.out.keep hb)
  replace Xp3 := Lib.hid (Xp3.out.keep hb)
  replace Xp4 := Lib.hid (Xp4.out.keep hb)
  replace Xp5 := Lib.hid (Xp5.out.keep hb)
  clear hb
  have ap3 := Xp3.out.c0
  have bp3 := Xp3.out.c1
  have lp3 := Xp3.out.lt
  have ap4 := Xp4.out.c0
  have bp4 := Xp4.out.c1
  have lp4 := Xp4.out.lt
  go_wp2_with fail
  clear ap3 bp3 lp3 ap4 bp4 lp4
  refine (has_at (b := true) (by decide) (by decide) _).mono ?_
  rintro e w6 ⟨rfl, hb⟩
  replace B := Lib.hid (B.out.trans (hb.mono B.out.size))
  replace Xp1 := Lib.hid (Xp1.out.keep hb)
  replace Xp2 := Lib.hid (Xp2.out.keep hb)
  replace Xp3 := Lib.hid (Xp3.out.keep hb)
  replace Xp4 := Lib.hid (Xp4.out.keep hb)
  replace Xp5 := Lib.hid (Xp5.out.keep hb)
  clear hb
  have ap3 := Xp3.out.c0
  have bp3 := Xp3.out.c1
  have lp3 := Xp3.out.lt
  have ap4 := Xp4.out.c0
  have bp4 := Xp4.out.c1
  have lp4 := Xp4.out.lt
  go_wp2_with fail
  clear ap3 bp3 lp3 ap4 bp4 lp4
  refine (has_at (b := false) (by decide) (by decide) _).mono ?_
  rintro e w6 ⟨rfl, hb⟩
  replace B := Lib.hid (B.out.trans (hb.mono B.out.size))
  replace Xp1 := Lib.hid (Xp1.out.keep hb)
  replace Xp2 := Lib.hid (Xp2.out.keep hb)
  replace Xp3 := Lib.hid (Xp3.out.keep hb)
  replace Xp4 := Lib.hid (Xp4.out.keep hb)
  replace Xp5 := Lib.hid (Xp5.out.keep hb)
  clear hb
  have ap3 := Xp3.out.c0
  have bp3 := Xp3.out.c1
  have lp3 := Xp3.out.lt
  have ap4 := Xp4.out.c0
  have bp4 := Xp4.out.c1
  have lp4 := Xp4.out.lt
  go_wp2_with fail
  clear ap3 bp3 lp3 ap4 bp4 lp4
  refine (join_ok (cells_areas w6 [(8, 40), (48, 40), (48, 40)] (by decide)) (by decide) 88 (by decide)).mono ?_
  rintro e w7 ⟨rfl, hb⟩
  have hfin := B.out.trans (((Below.refl _ _).alloc (Nat.le_refl _) _).trans (hb.mono (by simp)) |>.mono B.out.size)
  rw [show ((cov [(8, 40), (48, 40), (48, 40)] 88 : Nat) : Int) = 80 by decide]
  clear hb
  go_wp2_with fail
  go_ret
  exact ⟨rfl, hfin⟩
end Go.Proofs.Ytifocofpplhacaa.P

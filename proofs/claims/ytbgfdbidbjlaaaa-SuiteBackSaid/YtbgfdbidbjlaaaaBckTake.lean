/-
  tape.New, tape.Take with what a tape owns. No condition beyond what each theorem names.
-/
import Derived.Test.YtbgfdbidbjlaaaaBckMaps
import Derived.Test.YtbgfdbidbjlaaaaBckTag
namespace Go.Proofs.Ytbgfdbidbjlaaaa.Fd
open Go Go.RowKit K

/-- a tape that owns its bytes and its takes -/
structure TapeO (w : World) (B : Nat) (p : Nat) (bv tv : Value) (b : List UInt8) (a : Nat) (ts : List (ByteArray × Nat × Nat)) : Prop where
  box : w.heap[p]? = some (.cells #[bv, .int .i64 a, tv] 46 (0, 0))
  base : B ≤ p
  bytes : w.ownsRow B 5 1 bv b.length (u8s b)
  few : b.length ≤ 1000000
  within : a ≤ b.length
  takes : w.ownsRow B 41 3 tv ts.length (ts.flatMap takeCells)
  count : ts.length ≤ 1000000
theorem own_cells {w : World} {base : Nat} {e : TypeId} {sz : Nat} {v : Value} {n : Nat} {xs : List Value} (h : w.ownsRow base e sz v n xs) {g : Nat} (hg : v.ownBlock = some g) : ∃ cur, w.heap[g]? = some (.cells cur e (0, 0)) := by
  rcases h.2 with ⟨rfl, _⟩ | ⟨g', cap, cur, rfl, _, h3, _⟩
  · cases hg
  · cases hg
    exact ⟨cur, h3⟩
theorem apart_type {w : World} {base : Nat} {e : TypeId} {sz : Nat} {v : Value} {n : Nat} {xs : List Value} (h : w.ownsRow base e sz v n xs) {p : Nat} {cs : Array Value} {t : TypeId} {m : Nat × Nat} (hp : w.heap[p]? = some (.cells cs t m)) (hne : e ≠ t) : v.ownBlock ≠ some p := by
  intro hg
  obtain ⟨cur, hc⟩ := own_cells h hg
  rw [hp] at hc
  simp only [Option.some.injEq, Obj.cells.injEq] at hc
  exact hne hc.2.1.symm
theorem TapeO.at {w : World} {B p : Nat} {bv tv : Value} {b : List UInt8} {a : Nat} {ts : List (ByteArray × Nat × Nat)} (h : TapeO w B p bv tv b a ts) : TapeAt w (fun g => B ≤ g) p bv tv b a ts :=
  ⟨h.box, h.base, (Cells.own h.bytes).mono (fun _ _ h => h.2), h.few, h.within, (Cells.own h.takes).mono (fun _ _ h => h.2), h.count⟩
theorem TapeO.keep {w w' : World} {B p : Nat} {bv tv : Value} {b : List UInt8} {a : Nat} {ts : List (ByteArray × Nat × Nat)} (h : TapeO w B p bv tv b a ts) (hk : ∀ g, g = p ∨ bv.ownBlock = some g ∨ tv.ownBlock = some g → w'.heap[g]? = w.heap[g]?) : TapeO w' B p bv tv b a ts :=
  ⟨(hk p (.inl rfl)).trans h.box, h.base, owns_keep h.bytes (fun g hg => hk g (.inr (.inl hg))), h.few, h.within, owns_keep h.takes (fun g hg => hk g (.inr (.inr hg))), h.count⟩
theorem TapeO.lt {w : World} {B p : Nat} {bv tv : Value} {b : List UInt8} {a : Nat} {ts : List (ByteArray × Nat × Nat)} (h : TapeO w B p bv tv b a ts) {g : Nat} (hg : g = p ∨ bv.ownBlock = some g ∨ tv.ownBlock = some g) : g < w.heap.size := by
  rcases hg with rfl | hg | hg
  · exact heap_lt h.box
  · exact (h.bytes.lt g hg).2
  · exact (h.takes.lt g hg).2
theorem TapeO.after {w w' : World} {B p : Nat} {bv tv : Value} {b : List UInt8} {a : Nat} {ts : List (ByteArray × Nat × Nat)} (h : TapeO w B p bv tv b a ts) (hk : Below w.heap.size w w') : TapeO w' B p bv tv b a ts :=
  h.keep fun g hg => hk.block g (h.lt hg)
theorem TapeO.apart {w : World} {B p : Nat} {bv tv : Value} {b : List UInt8} {a : Nat} {ts : List (ByteArray × Nat × Nat)} (h : TapeO w B p bv tv b a ts) {g : Nat} {cs : Array Value} {t : TypeId} {m : Nat × Nat} (hp : w.heap[g]? = some (.cells cs t m)) (h1 : t ≠ 46) (h2 : t ≠ 41) : ¬ (g = p ∨ tv.ownBlock = some g) := by
  rintro (rfl | hg)
  · rw [h.box] at hp
    simp only [Option.some.injEq, Obj.cells.injEq] at hp
    exact h1 hp.2.1.symm
  · exact apart_type h.takes hp h2.symm hg
theorem TapeO.apartM {w : World} {B p : Nat} {bv tv : Value} {b : List UInt8} {a : Nat} {ts : List (ByteArray × Nat × Nat)} (h : TapeO w B p bv tv b a ts) {g : Nat} {es : Array MapEntry} {c : Nat} (hp : w.heap[g]? = some (.map es c)) : ¬ (g = p ∨ tv.ownBlock = some g) := by
  rintro (rfl | hg)
  · rw [h.box] at hp
    cases hp
  · obtain ⟨cur, hc⟩ := own_cells h.takes hg
    rw [hp] at hc
    cases hc
/-- whatever is a tape's is no map, and of three types -/
theorem TapeO.kind {w : World} {B p : Nat} {bv tv : Value} {b : List UInt8} {a : Nat} {ts : List (ByteArray × Nat × Nat)} (h : TapeO w B p bv tv b a ts) {g : Nat} (hg : g = p ∨ bv.ownBlock = some g ∨ tv.ownBlock = some g) :
    ∃ cs t, w.heap[g]? = some (.cells cs t (0, 0)) ∧ (t = 46 ∨ t = 5 ∨ t = 41) := by
  rcases hg with rfl | hg | hg
  · exact ⟨_, _, h.box, .inl rfl⟩
  · obtain ⟨cur, hc⟩ := own_cells h.bytes hg
    exact ⟨_, _, hc, .inr (.inl rfl)⟩
  · obtain ⟨cur, hc⟩ := own_cells h.takes hg
    exact ⟨_, _, hc, .inr (.inr rfl)⟩
theorem TapeO.far {w : World} {B p : Nat} {bv tv : Value} {b : List UInt8} {a : Nat} {ts : List (ByteArray × Nat × Nat)} (h : TapeO w B p bv tv b a ts) {g : Nat} (hg : g = p ∨ bv.ownBlock = some g ∨ tv.ownBlock = some g) {u : Nat} {cs : Array Value} {t : TypeId} {m : Nat × Nat} (hu : w.heap[u]? = some (.cells cs t m))
    (h1 : t ≠ 46) (h2 : t ≠ 5) (h3 : t ≠ 41) : g ≠ u := by
  rintro rfl
  obtain ⟨cs', t', h4, h5⟩ := h.kind hg
  rw [hu] at h4
  simp only [Option.some.injEq, Obj.cells.injEq] at h4
  obtain ⟨_, rfl, _⟩ := h4
  rcases h5 with h5 | h5 | h5
  · exact h1 h5
  · exact h2 h5
  · exact h3 h5
theorem TapeO.farM {w : World} {B p : Nat} {bv tv : Value} {b : List UInt8} {a : Nat} {ts : List (ByteArray × Nat × Nat)} (h : TapeO w B p bv tv b a ts) {g : Nat} (hg : g = p ∨ bv.ownBlock = some g ∨ tv.ownBlock = some g) {u : Nat} {es : Array MapEntry} {c : Nat} (hu : w.heap[u]? = some (.map es c)) : g ≠ u := by
  rintro rfl
  obtain ⟨cs', t', h4, h5⟩ := h.kind hg
  rw [hu] at h4
  cases h4
theorem infoTake : (Try.prog.info? 41).map (fun i => (i.zero, i.size, i.bytes)) = some (some (.agg #[.string ByteArray.empty, .int .i64 0, .int .i64 0]), 3, 32) := by kernel_rfl

/-- what is turned by a take -/
def TkC (p : Nat) (tv : Value) : Nat → Prop := fun g => g = p ∨ tv.ownBlock = some g
theorem TapeO.push {w w3 : World} {B p : Nat} {bv tv : Value} {b : List UInt8} {a : Nat} {ts : List (ByteArray × Nat × Nat)} (h : TapeO w B p bv tv b a ts) (hB : B ≤ w.heap.size) (hR : Chg No w w3) (t : ByteArray × Nat × Nat) {u : Value} (hu : Cells w3 (fun _ => True) u 1 3 (takeCells t)) (hc : ts.length < 1000000) :
    ∃ v' w4, (Builtin.append_ #[38, 38] 38 #[tv, u]).run Try.prog w3 = .ok v' w4 ∧ w4.cell? ⟨p, 2, none⟩ = some tv ∧ w4.frozen? ⟨p, 2, none⟩ = false ∧ (∃ g cp, v' = .slice (some ⟨g, 0, none⟩) (ts.length + 1) cp) ∧
      TapeO (w4.setCell ⟨p, 2, none⟩ v') B p bv v' b a (ts ++ [t]) ∧ Chg (TkC p tv) w (w4.setCell ⟨p, 2, none⟩ v') ∧ (v'.ownBlock = tv.ownBlock ∨ ∃ g, v'.ownBlock = some g ∧ w.heap.size ≤ g) := by
  obtain ⟨v', w4, hr, r1, r2, r3⟩ := own_push (P := Try.prog) (bytes := 32) Try.underlying38 infoTake rfl (by decide) h.takes hB hR hu (by simp [takeCells, Value.oneCell']) (by unfold maxLen; omega) (by omega) 38
  have hpl := heap_lt h.box
  have hpk : ¬ tv.ownBlock = some p := apart_type h.takes h.box (by decide)
  have hbox := (r2.block p hpl hpk).trans h.box
  have hvp : v'.ownBlock ≠ some p := by
    rcases r3 with e | ⟨g, e, hl⟩
    · rw [e]; exact hpk
    · rw [e]
      intro e2
      simp at e2
      omega
  have hbk : ∀ g, bv.ownBlock = some g → (w4.setCell ⟨p, 2, none⟩ v').heap[g]? = w.heap[g]? := fun g hg => by
    have hne : g ≠ p := by
      rintro rfl
      exact apart_type h.bytes h.box (by decide) hg
    rw [setCell_heap_ne _ _ _ (by exact hne)]
    obtain ⟨cur, hc⟩ := own_cells h.bytes hg
    exact r2.block g (heap_lt hc) (fun e => apart_type h.takes hc (by decide) e)
  refine ⟨v', w4, hr, ?_, frozen_of hbox 2, ?_, ⟨?_, h.base, owns_keep h.bytes hbk, h.few, h.within, ?_, by simp; omega⟩, ?_, r3⟩
  · rw [cell_of hbox]; rfl
  · obtain ⟨g, cp, h1, _, _⟩ := own_shape r1 (by omega)
    exact ⟨g, cp, h1⟩
  · rw [setCell_block hbox]
    rfl
  · have e1 : (ts ++ [t]).flatMap takeCells = ts.flatMap takeCells ++ takeCells t := by simp
    rw [e1, List.length_append, List.length_singleton]
    exact owns_keep r1 (fun g hg => setCell_heap_ne _ _ _ (by rintro rfl; exact hvp hg))
  · exact (r2.mono (fun _ _ e => .inr e)).setCell (fun _ => .inl rfl) _

set_option maxRecDepth 100000 in
set_option maxHeartbeats 2000000 in
theorem tapeNewO_ok {w : World} {S : Nat → Prop} {v : Value} {b : List UInt8} (hb : Bytes w S v b) (hl : b.length ≤ 1000000) :
    Calls Try.prog 7 #[v] w fun e w' => ∃ p bv, e = .returned (.pointer (some ⟨p, 0, none⟩)) ∧ TapeO w' w.heap.size p bv (.slice none 0 0) b 0 [] ∧ Below w.heap.size w w' := by
  have hc := Lib.hid (clone_ok hb (by omega))
  go_enter Try.func7, Try.ntmps7
  go_wp2_with fail
  refine hc.out.mono ?_
  rintro e w1 ⟨bv, rfl, ho, hbe, _⟩
  have HO := Lib.hid ho
  have hbe2 := Lib.hid hbe
  obtain ⟨ba, cap, rfl, hc1, hc2⟩ := (Cells.own ho).shape
  clear ho hbe
  go_wp2
  go_ret
  refine ⟨w1.heap.size, _, rfl, ⟨heap_alloc_new w1 _, hbe2.out.size, owns_keep HO.out (fun g hg => Below.heap_alloc _ _ _ (HO.out.lt g hg).2), hl, by omega, World.ownsRow_nil _ _ _ _, by simp⟩, hbe2.out.alloc hbe2.out.size _⟩

set_option maxRecDepth 100000 in
set_option maxHeartbeats 2000000 in
theorem take_short {w : World} {F : Nat → Prop} {p : Nat} {bv tv : Value} {b : List UInt8} {a : Nat} {ts : List (ByteArray × Nat × Nat)} (h : TapeAt w F p bv tv b a ts) (what : Value) (n : Nat) (hn : b.length < a + n) :
    Calls Try.prog 38 #[.pointer (some ⟨p, 0, none⟩), what, .int .i64 n] w fun e w' => e = .returned (.tuple #[.slice none 0 0, .int .i64 9]) ∧ Chg No w w' := by
  have hw := h.within
  have hl := left_ok h
  obtain ⟨d, hd⟩ : ∃ d, d = b.length - a := ⟨_, rfl⟩
  rw [← hd] at hl
  have hdn : d < n := by omega
  replace hl := Lib.hid hl
  replace hd := Lib.hid hd
  clear hw hn h
  go_enter Try.func38, Try.ntmps38
  go_wp2_with fail
  refine hl.out.mono ?_
  rintro e w' ⟨rfl, hc⟩
  replace hc := Lib.hid hc
  go_wp2
  go_ret2
  exact ⟨rfl, hc.out⟩

set_option maxRecDepth 100000 in
set_option maxHeartbeats 4000000 in
theorem take_ok {w : World} {B p : Nat} {bv tv : Value} {b : List UInt8} {a : Nat} {ts : List (ByteArray × Nat × Nat)} (h : TapeO w B p bv tv b a ts) (hB : B ≤ w.heap.size) (what : ByteArray) (n : Nat) (hn : a + n ≤ b.length) (hc : ts.length < 1000000) :
    Calls Try.prog 38 #[.pointer (some ⟨p, 0, none⟩), .string what, .int .i64 n] w fun e w' => ∃ v tv', e = .returned (.tuple #[v, .int .i64 0]) ∧ w'.ownsRow w.heap.size 5 1 v n (u8s ((b.drop a).take n)) ∧
      TapeO w' B p bv tv' b (a + n) (ts ++ [(what, a, n)]) ∧ Chg (TkC p tv) w w' ∧ (tv'.ownBlock = tv.ownBlock ∨ ∃ g, tv'.ownBlock = some g ∧ w.heap.size ≤ g) := by
  have hl := left_ok h.at
  have hfew := h.few
  obtain ⟨d, hd⟩ : ∃ d, d = b.length - a := ⟨_, rfl⟩
  rw [← hd] at hl
  have hdn : n ≤ d := by omega
  replace hl := Lib.hid hl
  replace hd := Lib.hid hd
  replace h := Lib.hid h
  go_enter Try.func38, Try.ntmps38
  go_wp2_with fail
  refine hl.out.mono ?_
  rintro e w1 ⟨rfl, hc1⟩
  have h1 := h.out.after (Chg.no hc1)
  have hB1 : B ≤ w1.heap.size := Nat.le_trans hB hc1.size
  obtain ⟨ta, tc, rfl, _, _⟩ := (Cells.own h1.takes).shape
  obtain ⟨ba, bc, rfl, hbc1, hbc2⟩ := (Cells.own h1.bytes).shape
  unfold maxLen at hbc2
  have hpl := heap_lt h1.box
  have c1 : w1.cell? ⟨p, 1, none⟩ = some (.int .i64 a) := cell_of h1.box 1
  have c2 : w1.cell? ⟨p, 2, none⟩ = some (.slice ta ts.length tc) := cell_of h1.box 2
  have hdr : ∀ w3, Chg No w1.drew w3 → Chg No w1 w3 := fun w3 h => ⟨h.os, h.tape, h.output, h.size, h.block⟩
  replace hdr := Lib.hid hdr
  replace c1 := Lib.hid c1
  replace c2 := Lib.hid c2
  replace h1 := Lib.hid h1
  replace hc1 := Lib.hid hc1
  obtain ⟨tn, htn⟩ : ∃ l, l = ts.length := ⟨_, rfl⟩
  obtain ⟨bl, hbl⟩ : ∃ l, l = b.length := ⟨_, rfl⟩
  rw [← htn] at c2
  rw [← htn] at h1 h
  rw [← hbl] at h1 h hbc1
  clear hl
  go_wp2
  refine RA.regionT (Chg No) (· = ·) [5, 1, 1, 1, 1, 1, 1, 1, 1, 1, 1, 1, 3, 6, 5, 5, 7] [13, 16] (fun _ _ _ => True) (fun _ => True) (by kernel_rfl) (Chg.refl _ _) (fun _ _ h => h ▸ Chg.refl _ _) (fun _ _ _ h k => h.trans k) (fun _ _ h k => h ▸ k) (trivial) (by kernel_rfl) (by kernel_rfl) ?_
  intro cx
  refine RA.pmv (by rfl) (by rfl) (by rfl) ?_
  repeat (first | refine RA.mv (by kernel_rfl) (by rfl) (by rfl) ?_ | refine RA.as (by kernel_rfl) (by rfl) (by rfl) ?_ | refine RA.nc (by kernel_rfl) (by rfl) (by rfl) ?_)
  refine RA.fa (by kernel_rfl) (by rfl) (by rfl) (y' := .pointer (some ⟨p, 2, none⟩)) (fun w3 hp => by show (Instr.fieldAt _ _ _).run Try.prog w3 = _; go_simp) ?_
  refine RA.ld (by kernel_rfl) (by rfl) (by rfl) (y' := .slice ta tn tc) (fun w3 hp => by
    have h1 := ((hdr.out _ hp.1).cell (p := ⟨p, 2, none⟩) hpl id).trans c2.out
    show (Instr.loadAt _ _).run Try.prog w3 = _
    go_simp) ?_
  repeat (first | refine RA.mv (by kernel_rfl) (by rfl) (by rfl) ?_ | refine RA.as (by kernel_rfl) (by rfl) (by rfl) ?_ | refine RA.nc (by kernel_rfl) (by rfl) (by rfl) ?_)
  refine RA.fa (by kernel_rfl) (by rfl) (by rfl) (y' := .pointer (some ⟨p, 1, none⟩)) (fun w3 hp => by show (Instr.fieldAt _ _ _).run Try.prog w3 = _; go_simp) ?_
  refine RA.ld (by kernel_rfl) (by rfl) (by rfl) (y' := .int .i64 a) (fun w3 hp => by
    have h1 := ((hdr.out _ hp.1).cell (p := ⟨p, 1, none⟩) hpl id).trans c1.out
    show (Instr.loadAt _ _).run Try.prog w3 = _
    go_simp) ?_
  repeat (first | refine RA.mv (by kernel_rfl) (by rfl) (by rfl) ?_ | refine RA.as (by kernel_rfl) (by rfl) (by rfl) ?_ | refine RA.nc (by kernel_rfl) (by rfl) (by rfl) ?_)
  refine RA.v Try.prog (x := .agg #[.string what, .int .i64 a, .int .i64 n]) (by kernel_rfl) (by rfl) (by rfl) (fun w hp => by go_simp) ?_
  simp only [RA.add]
  refine RA.bq (fun x w3 => Cells w3 (fun _ => True) x 1 3 (takeCells (what, a, n))) (fun _ _ => True) (by kernel_rfl) (by rfl) (by kernel_rfl) (fun _ _ _ h k => k.chg h (fun _ _ _ => id)) (fun _ _ _ _ _ => trivial) (fun w3 hp _ => by
    refine ⟨.slice (some ⟨w3.heap.size, 0, none⟩) 1 1, w3.alloc (.cells #[.string what, .int .i64 a, .int .i64 n] 41), ?_, (Chg.refl _ _).alloc _, lit_cells w3 #[.string what, .int .i64 a, .int .i64 n] 41 1 3 rfl (by unfold maxLen; omega), trivial⟩
    show (execOp _ _).run Try.prog w3 = _
    go_simp) (fun x => ?_)
  refine RA.bqt (fun v' w4 => w4.cell? ⟨p, 2, none⟩ = some (.slice ta tn tc) ∧ w4.frozen? ⟨p, 2, none⟩ = false ∧ (∃ g cp, v' = .slice (some ⟨g, 0, none⟩) (ts.length + 1) cp) ∧
      TapeO (w4.setCell ⟨p, 2, none⟩ v') B p (.slice ba bl bc) v' b a (ts ++ [(what, a, n)]) ∧ Chg (TkC p (.slice ta tn tc)) w1 (w4.setCell ⟨p, 2, none⟩ v') ∧ (v'.ownBlock = (Value.slice ta tn tc).ownBlock ∨ ∃ g, v'.ownBlock = some g ∧ w1.heap.size ≤ g)) (by kernel_rfl) (by rfl) (by kernel_rfl) (fun _ _ _ h k => h ▸ k) (fun w3 hp0 _ => by
    have hp := hp0.first (by kernel_rfl)
    obtain ⟨v', w4, h1, h2⟩ := h1.out.push hB1 (hdr.out _ hp.1) (what, a, n) (hp.fact 0 rfl (by kernel_rfl)) hc
    exact ⟨v', w4, RA.ex_append (by rfl) (by rfl) h1, h2⟩) (fun v' => ?_)
  refine RA.pnc (by rfl) (by rfl) (by rfl) ?_
  refine RA.pfa (by rfl) (by rfl) (by rfl) (y' := .pointer (some ⟨p, 2, none⟩)) (fun w3 => by show (Instr.fieldAt _ _ _).run Try.prog w3 = _; go_simp) ?_
  refine RA.stt (fun w5 => (∃ g cp, v' = .slice (some ⟨g, 0, none⟩) (ts.length + 1) cp) ∧ TapeO w5 B p (.slice ba bl bc) v' b a (ts ++ [(what, a, n)]) ∧ Chg (TkC p (.slice ta tn tc)) w1 w5 ∧ (v'.ownBlock = (Value.slice ta tn tc).ownBlock ∨ ∃ g, v'.ownBlock = some g ∧ w1.heap.size ≤ g)) (by rfl) (by rfl) (by kernel_rfl) (fun _ _ h k => h ▸ k) (fun w4 _ hH => by
    obtain ⟨f1, f2, ⟨g', cp, rfl⟩, f3, f4, f5⟩ := hH
    refine ⟨_, RA.ex_store (by rfl) (by rfl) (w' := w4.setCell ⟨p, 2, none⟩ (.slice (some ⟨g', 0, none⟩) (ts.length + 1) cp)) ?_, ⟨g', cp, rfl⟩, f3, f4, f5⟩
    clear f3 f4 f5
    show (Instr.storeAt _ _ _).run Try.prog w4 = _
    go_simp) ?_
  refine RA.RA.doneT (fun w5 hH => ?_)
  simp only [RA.put, List.foldr_cons, List.foldr_nil, cx, Act.put, List.setIfInBounds_toArray, List.set_cons_succ, List.set_cons_zero]
  obtain ⟨⟨g', cp, rfl⟩, hT5, hC5, hr5⟩ := hH
  have hT := Lib.hid hT5
  have c51 : w5.cell? ⟨p, 1, none⟩ = some (.int .i64 a) := cell_of hT5.box 1
  have f51 : w5.frozen? ⟨p, 1, none⟩ = false := frozen_of hT5.box 1
  have hpl5 := heap_lt hT5.box
  obtain ⟨w6, hw6⟩ : ∃ x, x = w5.setCell ⟨p, 1, none⟩ (.int .i64 ((a : Int) + n)) := ⟨_, rfl⟩
  have hT6 : TapeO w6 B p (.slice ba bl bc) (.slice (some ⟨g', 0, none⟩) (ts.length + 1) cp) b (a + n) (ts ++ [(what, a, n)]) := by
    have hk : ∀ g, g ≠ p → w6.heap[g]? = w5.heap[g]? := fun g hg => by rw [hw6]; exact setCell_heap_ne _ _ _ hg
    refine ⟨?_, hT5.base, owns_keep hT5.bytes (fun g hg => hk g ?_), hT5.few, hn, owns_keep hT5.takes (fun g hg => hk g ?_), hT5.count⟩
    · rw [hw6, setCell_block hT5.box]; rfl
    · rintro rfl; exact apart_type hT5.bytes hT5.box (by decide) hg
    · rintro rfl; exact apart_type hT5.takes hT5.box (by decide) hg
  have hC6 : Chg (TkC p (.slice ta tn tc)) w1 w6 := by rw [hw6]; exact hC5.setCell (fun _ => .inl rfl) _
  have hdr6 : ∀ w3, Chg No w6.drew w3 → Chg No w6 w3 := fun w3 h => ⟨h.os, h.tape, h.output, h.size, h.block⟩
  have d0 : w6.cell? ⟨p, 0, none⟩ = some (.slice ba bl bc) := cell_of hT6.box 0
  have d1 : w6.cell? ⟨p, 1, none⟩ = some (.int .i64 (a + n : Nat)) := cell_of hT6.box 1
  have hpl6 := heap_lt hT6.box
  have hcut : ∀ w3, (Instr.sliceAt 22 (.slice ba bl bc) (some (.int .i64 a)) (some (.int .i64 (a + n : Nat))) none).run Try.prog w3 = .ok (sliced ba a (a + n) bc 1) w3 := fun w3 =>
    cut_at (P := Try.prog) (s := 1) w3 Try.underlying22 (by kernel_rfl) ba bl bc a (a + n) (by omega) (by omega)
  have hcl : ∀ w3, Chg No w6 w3 → Calls Try.prog 20 #[sliced ba a (a + n) bc 1] w3 (Cloned w3 (sliced ba a (a + n) bc 1) n 5 1 (u8s ((b.drop a).take n))) := fun w3 hc => by
    have hb := Bytes.chg (Cells.own hT6.bytes) hc (fun _ _ _ => id)
    rw [hbl] at hb
    have hb2 := bytes_cut hb a (a + n) (by omega) hn
    rw [Nat.add_sub_cancel_left] at hb2
    have h3 := clone_ok hb2 (by rw [List.length_take, List.length_drop]; omega)
    rw [show ((b.drop a).take n).length = n by rw [List.length_take, List.length_drop]; omega] at h3
    exact h3
  have hs6 : w.heap.size ≤ w6.heap.size := Nat.le_trans hc1.out.size hC6.size
  replace c51 := Lib.hid c51
  replace hw6 := Lib.hid hw6
  replace hT6 := Lib.hid hT6
  replace hC6 := Lib.hid hC6
  replace hdr6 := Lib.hid hdr6
  replace d0 := Lib.hid d0
  replace d1 := Lib.hid d1
  replace hcut := Lib.hid hcut
  replace hcl := Lib.hid hcl
  replace hr5 := Lib.hid hr5
  clear hT5 hC5 hT c1 c2 hdr
  have c51' := c51.out
  go_wp2
  rw [← hw6.out]
  clear c51' f51
  refine RA.region (fun a b => Chg No a b) (· = ·) [1, 1, 1, 1, 1, 1, 1, 1, 1, 1, 1, 1, 1, 1, 1, 3, 1, 1] (fun _ _ _ => True) (fun _ => True) (by kernel_rfl) (Chg.refl _ _) (fun _ _ h => h ▸ Chg.refl _ _) (fun _ _ _ h k => h.trans k) (fun _ _ h k => h ▸ k) trivial (by kernel_rfl) ?_
  intro cx
  repeat (first | refine RA.mv (by kernel_rfl) (by rfl) (by rfl) ?_ | refine RA.as (by kernel_rfl) (by rfl) (by rfl) ?_ | refine RA.nc (by kernel_rfl) (by rfl) (by rfl) ?_)
  refine RA.fa (by kernel_rfl) (by rfl) (by rfl) (y' := .pointer (some ⟨p, 0, none⟩)) (fun w3 hp => by show (Instr.fieldAt _ _ _).run Try.prog w3 = _; go_simp) ?_
  refine RA.ld (by kernel_rfl) (by rfl) (by rfl) (y' := .slice ba bl bc) (fun w3 hp => by
    have h1 := ((hdr6.out _ hp.1).cell (p := ⟨p, 0, none⟩) hpl6 id).trans d0.out
    show (Instr.loadAt _ _).run Try.prog w3 = _
    go_simp) ?_
  repeat (first | refine RA.mv (by kernel_rfl) (by rfl) (by rfl) ?_ | refine RA.as (by kernel_rfl) (by rfl) (by rfl) ?_ | refine RA.nc (by kernel_rfl) (by rfl) (by rfl) ?_)
  refine RA.fa (by kernel_rfl) (by rfl) (by rfl) (y' := .pointer (some ⟨p, 1, none⟩)) (fun w3 hp => by show (Instr.fieldAt _ _ _).run Try.prog w3 = _; go_simp) ?_
  refine RA.ld (by kernel_rfl) (by rfl) (by rfl) (y' := .int .i64 (a + n : Nat)) (fun w3 hp => by
    have h1 := ((hdr6.out _ hp.1).cell (p := ⟨p, 1, none⟩) hpl6 id).trans d1.out
    show (Instr.loadAt _ _).run Try.prog w3 = _
    go_simp) ?_
  repeat (first | refine RA.mv (by kernel_rfl) (by rfl) (by rfl) ?_ | refine RA.as (by kernel_rfl) (by rfl) (by rfl) ?_ | refine RA.nc (by kernel_rfl) (by rfl) (by rfl) ?_)
  refine RA.si (by kernel_rfl) (by rfl) (by rfl) (by rfl) ((a : Int)) (by omega) (by omega) ?_
  repeat (first | refine RA.mv (by kernel_rfl) (by rfl) (by rfl) ?_ | refine RA.as (by kernel_rfl) (by rfl) (by rfl) ?_ | refine RA.nc (by kernel_rfl) (by rfl) (by rfl) ?_)
  refine RA.fa (by kernel_rfl) (by rfl) (by rfl) (y' := .pointer (some ⟨p, 1, none⟩)) (fun w3 hp => by show (Instr.fieldAt _ _ _).run Try.prog w3 = _; go_simp) ?_
  refine RA.ld (by kernel_rfl) (by rfl) (by rfl) (y' := .int .i64 (a + n : Nat)) (fun w3 hp => by
    have h1 := ((hdr6.out _ hp.1).cell (p := ⟨p, 1, none⟩) hpl6 id).trans d1.out
    show (Instr.loadAt _ _).run Try.prog w3 = _
    go_simp) ?_
  refine RA.slh (by kernel_rfl) (by rfl) (by rfl) (by rfl) (by rfl) (y' := sliced ba a (a + n) bc 1) (fun w3 _ => hcut.out w3) ?_
  refine RA.qc (P := Try.prog) [sliced ba a (a + n) bc 1] (fun v w3 => w3.ownsRow w6.heap.size 5 1 v n (u8s ((b.drop a).take n)) ∧ ∃ x y z, v = .slice x y z) (fun _ _ => True) (fun _ _ => by go_simp) (by kernel_rfl) (by rfl) (by rfl) (by kernel_rfl) (fun v a b h h2 => ⟨owns_keep h2.1 (fun g hg => h.block g (h2.1.lt g hg).2 id), h2.2⟩) (fun _ _ _ _ h => h) rfl (fun w3 hp hH => (hcl.out w3 (hdr6.out _ hp.1)).mono (by
    rintro e w4 ⟨v, rfl, h1, h2, _⟩
    obtain ⟨x, y, hv, _, _⟩ := (Cells.own h1).shape
    exact ⟨v, rfl, Chg.of_below h2 _, ⟨owns_base h1 (hdr6.out _ hp.1).size, x, n, y, hv⟩, trivial⟩)) (fun u => ?_)
  repeat (first | refine RA.mv (by kernel_rfl) (by rfl) (by rfl) ?_ | refine RA.as (by kernel_rfl) (by rfl) (by rfl) ?_ | refine RA.nc (by kernel_rfl) (by rfl) (by rfl) ?_)
  refine RA.RA.done rfl (fun w7 hR hF hH => ?_)
  have hf := hF _ (List.mem_cons_self ..)
  obtain ⟨hu, ux, uy, uz, rfl⟩ := hf
  clear hF hH
  simp only [RA.put, List.foldr_cons, List.foldr_nil, cx, Act.put, List.setIfInBounds_toArray, List.set_cons_succ, List.set_cons_zero]
  have hR7 := hdr6.out _ hR
  replace hu := Lib.hid hu
  replace hR7 := Lib.hid hR7
  clear hR hcut hcl d0 d1
  go_wp2
  go_ret2
  subst hbl
  subst htn
  refine ⟨_, _, rfl, owns_base hu.out hs6, hT6.out.after (Chg.no hR7.out), ?_, ?_⟩
  · exact (((hc1.out.mono (D := TkC p (.slice ta ts.length tc)) (fun _ _ h => h.elim)).then hC6.out (fun _ _ h => h))).then hR7.out (fun _ _ h => h.elim)
  · rcases hr5.out with e | ⟨g, e, hg⟩
    · exact .inl e
    · exact .inr ⟨g, e, Nat.le_trans hc1.out.size hg⟩
end Go.Proofs.Ytbgfdbidbjlaaaa.Fd

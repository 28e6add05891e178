/-
  The disk without a fuse, and what the document fixes (awake). No condition beyond what each theorem names.
-/
import Derived.Test.YtifocofpplhacaaDiskG
namespace Go.Proofs.Ytifocofpplhacaa.D
open Go Go.RowKit K

/-- no fuse, and not dark -/
def Dk.plain (d : Dk) : Prop := d.dark = false ∧ d.fuse = false
theorem Dk.plain.stepped {d : Dk} (h : d.plain) : d.stepped = d := by
  obtain ⟨fu, le, da, s, p⟩ := d
  obtain ⟨h1, h2⟩ := h
  subst h1 h2
  simp [Dk.stepped]

theorem put_plain {w : World} {F : Nat → Prop} {p : Nat} {D : Dk} (h : At w F p D) (hp : D.plain) (hfew : D.pend.length < 1000000000) (n : Nat) (hn : n < D.size) {S : Nat → Prop} {v : Value} {l : List UInt8} (hb : Bytes w S v l) (hS : ∀ k, S k → ¬ F k) (hl : l.length = 64) :
    Calls Try.prog 20 #[.pointer (some ⟨p, 0, none⟩), .int .i64 n, v] w fun e w' => e = .returned (.int .i64 0) ∧ Then w F p { D with pend := D.pend ++ [(n, l)] } w' := by
  have hm : mayE D n 64 = 0 := by simp [mayE]; omega
  refine (put_ok h hfew n hb hS).mono ?_
  rintro e w' ⟨rfl, h2⟩
  refine ⟨ret_int ?_, ?_⟩
  · simp [Dk.putE, hp.stepped, hp.1, hl, hm]
  · rw [Dk.put, hp.stepped, if_pos ⟨hp.1, by rw [hl]; exact hm⟩] at h2
    exact h2

theorem put_bad {w : World} {F : Nat → Prop} {p : Nat} {D : Dk} (h : At w F p D) (hp : D.plain) (hfew : D.pend.length < 1000000000) (n : Int) {S : Nat → Prop} {v : Value} {l : List UInt8} (hb : Bytes w S v l) (hS : ∀ k, S k → ¬ F k) (hm : mayE D n l.length ≠ 0) :
    Calls Try.prog 20 #[.pointer (some ⟨p, 0, none⟩), .int .i64 n, v] w fun e w' => e = .returned (.int .i64 (mayE D n l.length)) ∧ Then w F p D w' := by
  refine (put_ok h hfew n hb hS).mono ?_
  rintro e w' ⟨rfl, h2⟩
  refine ⟨ret_int ?_, ?_⟩
  · simp [Dk.putE, hp.stepped, hp.1]
  · rw [Dk.put, hp.stepped, if_neg (fun h => hm h.2)] at h2
    exact h2

theorem bytes_nil (w : World) : Bytes w (fun _ => False) (.slice none 0 0) [] := ⟨rfl, none, 0, rfl, Nat.le_refl _, by unfold maxLen; omega, fun _ => rfl, .inl rfl⟩

/-- a disk, all of it in memory that is new since w -/
def Fresh (w : World) (p : Nat) (D : Dk) (w' : World) : Prop := ∃ F, At w' F p D ∧ (∀ k, F k → w.heap.size ≤ k) ∧ Below w.heap.size w w'
theorem Fresh.below {w : World} {p : Nat} {D : Dk} {w1 : World} (h : Fresh w p D w1) : Below w.heap.size w w1 := let ⟨_, _, _, hb⟩ := h; hb
theorem Fresh.keep {w : World} {p : Nat} {D : Dk} {w1 w2 : World} (h : Fresh w p D w1) (hb : Below w1.heap.size w1 w2) : Fresh w p D w2 :=
  let ⟨F, h1, h2, h3⟩ := h
  ⟨F, h1.keep hb.size (fun b _ hbl => hb.block b hbl), h2, h3.trans (hb.mono h3.size)⟩
theorem Fresh.then {w w1 w2 w3 : World} {p : Nat} {D D' : Dk} {F : Nat → Prop} (h1 : Fresh w p D w1) (h2 : ∀ k, F k → w.heap.size ≤ k) (hb : Below w1.heap.size w1 w2) (h : Then w2 F p D' w3) : Fresh w p D' w3 := by
  obtain ⟨F', q1, q2, q3⟩ := h
  have hs := Nat.le_trans h1.below.size hb.size
  refine ⟨F', q1, fun k hk => (q3 k hk).elim (h2 k) (fun h => Nat.le_trans hs h), ?_⟩
  have hbw := h1.below.trans (hb.mono h1.below.size)
  exact ⟨q2.os.trans hbw.os, q2.tape.trans hbw.tape, q2.output.trans hbw.output, Nat.le_trans hs q2.size, fun k hk => (q2.block k (by omega) (fun hF => by have := h2 k hF; omega)).trans (hbw.block k hk)⟩

theorem Fresh.put {w w1 w2 : World} {p : Nat} {D : Dk} (h : Fresh w p D w1) (hb : Below w1.heap.size w1 w2) (hp : D.plain) (hfew : D.pend.length < 1000000000) (n : Nat) (hn : n < D.size) {S : Nat → Prop} {v : Value} {l : List UInt8} (hv : Bytes w2 S v l) (hS : ∀ k, S k → w1.heap.size ≤ k) (hl : l.length = 64) :
    Calls Try.prog 20 #[.pointer (some ⟨p, 0, none⟩), .int .i64 n, v] w2 fun e w' => e = .returned (.int .i64 0) ∧ Fresh w p { D with pend := D.pend ++ [(n, l)] } w' := by
  have hh := h
  obtain ⟨F, h1, h2, h3⟩ := h
  refine (put_plain (h1.keep hb.size (fun b _ hbl => hb.block b hbl)) hp hfew n hn hv (fun k hk hF => by have := h1.lim k hF; have := hS k hk; omega) hl).mono ?_
  rintro e w' ⟨rfl, ht⟩
  exact ⟨rfl, hh.then h2 hb ht⟩
theorem Fresh.putBad {w w1 w2 : World} {p : Nat} {D : Dk} (h : Fresh w p D w1) (hb : Below w1.heap.size w1 w2) (hp : D.plain) (hfew : D.pend.length < 1000000000) (n : Int) {S : Nat → Prop} {v : Value} {l : List UInt8} (hv : Bytes w2 S v l) (hS : ∀ k, S k → w1.heap.size ≤ k) (m : Int) (hm : mayE D n l.length = m) (h0 : m ≠ 0) :
    Calls Try.prog 20 #[.pointer (some ⟨p, 0, none⟩), .int .i64 n, v] w2 fun e w' => e = .returned (.int .i64 m) ∧ Fresh w p D w' := by
  have hh := h
  obtain ⟨F, h1, h2, h3⟩ := h
  subst hm
  refine (put_bad (h1.keep hb.size (fun b _ hbl => hb.block b hbl)) hp hfew n hv (fun k hk hF => by have := h1.lim k hF; have := hS k hk; omega) h0).mono ?_
  rintro e w' ⟨rfl, ht⟩
  exact ⟨rfl, hh.then h2 hb ht⟩
theorem Fresh.fall {w w1 : World} {p : Nat} {D : Dk} (h : Fresh w p D w1) {S : Nat → Prop} {ka : Option Addr} {kn kc : Nat} {ks : List Bool} (hks : Cells w1 S (.slice ka kn kc) kn 1 (ks.map .bool)) :
    Calls Try.prog 22 #[.pointer (some ⟨p, 0, none⟩), .slice ka kn kc] w1 fun e w' => ∃ q, e = .returned (.pointer (some ⟨q, 0, none⟩)) ∧ Fresh w p D w' ∧ Fresh w q (D.fall ks) w' := by
  have hh := h
  obtain ⟨F, h1, h2, h3⟩ := h
  refine (fall_ok h1 hks).mono ?_
  rintro e w' ⟨q, F', rfl, q1, q2, q3⟩
  exact ⟨q, rfl, hh.keep q3, F', q1, fun k hk => Nat.le_trans h3.size (q2 k hk), h3.trans (q3.mono h3.size)⟩
theorem Fresh.new (n : Nat) (h1 : 1 ≤ n) (h2 : n ≤ 65536) (w : World) : Calls Try.prog 18 #[.int .i64 n] w fun e w' => ∃ p, e = .returned (.tuple #[.pointer (some ⟨p, 0, none⟩), .int .i64 0]) ∧ Fresh w p (.new n) w' := by
  refine (new_ok n h1 h2 w).mono ?_
  rintro e w1 ⟨p, F, rfl, hat, hF, hb1⟩
  exact ⟨p, rfl, F, hat, hF, hb1⟩
/-- What Get gives: 64 bytes in new memory. -/
theorem Fresh.get {w w1 : World} {p : Nat} {D : Dk} (h : Fresh w p D w1) (hp : D.pend = []) (n : Nat) (hn : n < D.size) :
    Calls Try.prog 17 #[.pointer (some ⟨p, 0, none⟩), .int .i64 n] w1 fun e w' => ∃ g cap, e = .returned (.tuple #[.slice (some ⟨g, 0, none⟩) 64 cap, .int .i64 0]) ∧ w1.heap.size ≤ g ∧ Bytes w' (· = g) (.slice (some ⟨g, 0, none⟩) 64 cap) (D.at n) ∧ Below w1.heap.size w1 w' := by
  obtain ⟨F, h1, h2, h3⟩ := h
  refine (get_ok h1 hp n hn).mono ?_
  rintro e w' ⟨v, rfl, ho, hb⟩
  have hc := Cells.own ho
  rcases ho.2 with ⟨_, h0⟩ | ⟨g, cap, cur, rfl, hg, _⟩
  · omega
  · have hl : (D.at n).length = 64 := by have := ho.1; simpa [u8s] using this
    refine ⟨g, cap, rfl, hg, ?_, hb⟩
    show Cells _ _ _ _ _ _
    rw [hl]
    exact hc.mono (fun k _ hk => by have := hk.1; simp [Value.ownBlock] at this; exact this.symm)

/-- A slice that a call has built. -/
theorem cells_new (w : World) (t : TypeId) (xs : List Value) (h : xs.length ≤ maxLen) : Cells (w.alloc (.cells xs.toArray t)) (· = w.heap.size) (.slice (some ⟨w.heap.size, 0, none⟩) xs.length xs.length) xs.length 1 xs := by
  refine ⟨by simp, _, _, rfl, Nat.le_refl _, h, fun h => (by cases h), .inr ⟨_, 0, rfl, rfl, by simp, fun j u hu => ?_⟩⟩
  rw [Nat.zero_add, cell_of (heap_alloc_new _ _)]
  simpa using hu

set_option maxRecDepth 100000 in
set_option maxHeartbeats 4000000 in
theorem awake13_ok (w : World) : Calls Try.prog 11 #[] w fun e w' => e = .returned (.bool true) ∧ Below w.heap.size w w' := by
  have hmk : ∀ u : World, _ := fun u => make_full (P := Try.prog) u Try.underlying22 infoByte rfl 63 63 rfl (by omega) (by omega)
  go_enter Try.func11, Try.ntmps11
  go_wp2_with fail
  refine (Fresh.new 2 (by omega) (by omega) _).mono ?_
  rintro e w1 ⟨p, rfl, hf⟩
  have HF := Lib.hid hf
  clear hf
  go_wp2_with fail
  refine (new_bad 0 (by omega) _).mono ?_
  rintro e w1' ⟨rfl, rfl⟩
  go_wp2_with fail
  have hz : Bytes (w1.alloc (.cells (madeCells #[.int .u8 0] 63) 5)) (· = w1.heap.size) (.slice (some ⟨w1.heap.size, 0, none⟩) 63 63) (List.replicate 63 0) := by
    refine ⟨by simp [u8s], _, 63, rfl, by simp, by unfold maxLen; omega, fun h => (by cases h), .inr ⟨_, 0, rfl, rfl, by simp, fun j u hu => ?_⟩⟩
    rw [Nat.zero_add, cell_of (heap_alloc_new _ _), ← Array.getElem?_toList, u8s_zero]
    exact hu
  refine (of_bad hz (by simp) (by simp)).mono ?_
  rintro e w2 ⟨rfl, hb2⟩
  have hb12 : Below w1.heap.size w1 w2 := ((Below.refl _ w1).alloc (Nat.le_refl _) _).trans (hb2.mono (by simp))
  have HF2 := Lib.hid (HF.out.keep hb12)
  clear hz hb2 hb12 HF
  go_wp2_with fail
  refine (sector_ok _ _).mono ?_
  rintro e w3 ⟨rfl, hs3, hb3⟩
  have HC := Lib.hid (HF2.out.put hb3 ⟨rfl, rfl⟩ (by simp [Dk.new]) 0 (by simp [Dk.new, Dk.size]) hs3 (fun k hk => by omega) (sec_length _))
  clear hs3 hb3 HF2
  go_wp2_with fail
  refine HC.out.mono ?_
  rintro e w4 ⟨rfl, hf⟩
  have HF4 := Lib.hid hf
  clear hf HC
  go_wp2_with fail
  refine (sector_ok _ _).mono ?_
  rintro e w5 ⟨rfl, hs3, hb3⟩
  have HC := Lib.hid (HF4.out.put hb3 ⟨rfl, rfl⟩ (by simp [Dk.new]) 1 (by simp [Dk.new, Dk.size]) hs3 (fun k hk => by omega) (sec_length _))
  clear hs3 hb3 HF4
  go_wp2_with fail
  refine HC.out.mono ?_
  rintro e w6 ⟨rfl, hf⟩
  have HC := Lib.hid (hf.putBad (Below.refl _ _) ⟨rfl, rfl⟩ (by simp [Dk.new]) 5 (bytes_nil _) (fun k hk => hk.elim) 3 (by rfl) (by omega))
  clear hf
  go_wp2_with fail
  refine HC.out.mono ?_
  rintro e w7 ⟨rfl, hf⟩
  have HC := Lib.hid (hf.putBad (Below.refl _ _) ⟨rfl, rfl⟩ (by simp [Dk.new]) 0 (bytes_nil _) (fun k hk => hk.elim) 1 (by rfl) (by omega))
  clear hf
  go_wp2_with fail
  refine HC.out.mono ?_
  rintro e w8 ⟨rfl, hf⟩
  have HF8 := Lib.hid hf
  clear hf HC
  go_wp2_with fail
  have hks := cells_new w8 4 [.bool false, .bool true] (by unfold maxLen; simp)
  have HC := Lib.hid ((HF8.out.keep ((Below.refl _ w8).alloc (Nat.le_refl _) (.cells #[.bool false, .bool true] 4))).fall (ks := [false, true]) hks)
  clear hks HF8
  refine HC.out.mono ?_
  rintro e w9 ⟨q, rfl, _, hq⟩
  have HQ := Lib.hid hq
  clear hq HC
  go_wp2_with fail
  refine (HQ.out.get rfl 0 (by decide +kernel)).mono ?_
  rintro e w10 ⟨xg, xc, rfl, xl, xb, hb10⟩
  have HX := Lib.hid xb
  have HQ2 := Lib.hid (HQ.out.keep hb10)
  clear xb HQ
  go_wp2_with fail
  refine (HQ2.out.get rfl 1 (by decide +kernel)).mono ?_
  rintro e w11 ⟨yg, yc, rfl, yl, yb, hb11⟩
  have hx11 := Cells.keep HX.out hb11.size (fun k hk hkl => hb11.block k hkl)
  have HF := Lib.hid (HQ2.out.keep hb11).below
  have ya : Bytes w11 (· = yg) (.slice (some ⟨yg, 0, none⟩) 64 yc) (sec [98]) := by
    refine cast (congrArg (Bytes w11 (· = yg) (.slice (some ⟨yg, 0, none⟩) 64 yc)) ?_) yb
    kernel_rfl
  have xa : Bytes w11 (· = xg) (.slice (some ⟨xg, 0, none⟩) 64 xc) (sec []) := by
    refine cast (congrArg (Bytes w11 (· = xg) (.slice (some ⟨xg, 0, none⟩) 64 xc)) ?_) hx11
    kernel_rfl
  have HXA := Lib.hid xa
  have HYA := Lib.hid ya
  clear xa ya hx11 yb HX HQ2
  go_wp2_with fail
  have hdr : ∀ w3, Chg No w11.drew w3 → Chg No w11 w3 := fun w3 h => ⟨h.os, h.tape, h.output, h.size, h.block⟩
  refine RA.region (fun a b => Chg No a b) (· = ·) [1, 1, 1, 1, 1, 1, 1, 1, 1, 3, 1, 1, 1, 1, 1, 1, 3, 1, 1, 1, 1, 1, 4, 1, 1, 1, 4, 1, 1, 1, 1, 4, 1, 1, 1, 1, 4, 1, 1, 1, 1] (fun _ _ _ => True) (fun _ => True) (by kernel_rfl) (Chg.refl _ _) (fun _ _ h => h ▸ Chg.refl _ _) (fun _ _ _ h k => h.trans k) (fun _ _ h k => h ▸ k) trivial (by kernel_rfl) ?_
  intro c
  repeat (first | refine RA.mv (by rfl) (by rfl) (by rfl) ?_ | refine RA.eq true (by rfl) (by rfl) (by rfl) (by rfl) (by rfl) ?_ | refine RA.pt (by rfl) (by rfl) (by rfl) (by rfl) ?_ | refine RA.as (by rfl) (by rfl) (by rfl) ?_ | refine RA.es true (by rfl) (by rfl) (by rfl) (by rfl) (by simp) ?_)
  refine RA.cv (by rfl) (by rfl) (by rfl) (fun w3 hp => by exact run_string _ _ _ _ Try.underlying22 Try.underlying5 Try.underlying9 _ _ _ (HXA.out.chg (hdr _ hp.1) (fun _ _ _ => id))) ?_
  refine RA.qc (P := Try.prog) [_] (fun v w3 => ∃ g, v = .slice (some ⟨g, 0, none⟩) 64 64 ∧ Bytes w3 (fun _ => True) v (sec [])) (fun _ _ => True) (fun _ _ => by go_simp) (by rfl) (by rfl) (by rfl) (by kernel_rfl) (fun _ _ _ h ⟨g, h1, h2⟩ => ⟨g, h1, h2.chg h (fun _ _ _ => id)⟩) (fun _ _ _ _ h => h) rfl (fun w3 hp hH => (sector_ok _ _).mono (by rintro e w4 ⟨rfl, h1, h2⟩; exact ⟨_, rfl, Chg.of_below h2 _, ⟨_, rfl, h1.mono (fun _ _ _ => trivial)⟩, trivial⟩)) (fun u => ?_)
  refine RA.cv (by rfl) (by rfl) (by rfl) (fun w3 hp => by obtain ⟨g, hg, hb⟩ := hp.fact 0 rfl (by kernel_rfl); exact run_string _ _ _ _ Try.underlying22 Try.underlying5 Try.underlying9 _ _ _ hb) ?_
  repeat (first | refine RA.mv (by rfl) (by rfl) (by rfl) ?_ | refine RA.eq true (by rfl) (by rfl) (by rfl) (by rfl) (by rfl) ?_ | refine RA.pt (by rfl) (by rfl) (by rfl) (by rfl) ?_ | refine RA.as (by rfl) (by rfl) (by rfl) ?_ | refine RA.es true (by rfl) (by rfl) (by rfl) (by rfl) (by simp) ?_)
  refine RA.cv (by rfl) (by rfl) (by rfl) (fun w3 hp => by exact run_string _ _ _ _ Try.underlying22 Try.underlying5 Try.underlying9 _ _ _ (HYA.out.chg (hdr _ hp.1) (fun _ _ _ => id))) ?_
  refine RA.qc (P := Try.prog) [_] (fun v w3 => ∃ g, v = .slice (some ⟨g, 0, none⟩) 64 64 ∧ Bytes w3 (fun _ => True) v (sec [98])) (fun _ _ => True) (fun _ _ => by go_simp) (by rfl) (by rfl) (by rfl) (by kernel_rfl) (fun _ _ _ h ⟨g, h1, h2⟩ => ⟨g, h1, h2.chg h (fun _ _ _ => id)⟩) (fun _ _ _ _ h => h) rfl (fun w3 hp hH => (sector_ok _ _).mono (by rintro e w4 ⟨rfl, h1, h2⟩; exact ⟨_, rfl, Chg.of_below h2 _, ⟨_, rfl, h1.mono (fun _ _ _ => trivial)⟩, trivial⟩)) (fun u => ?_)
  refine RA.cv (by rfl) (by rfl) (by rfl) (fun w3 hp => by obtain ⟨g, hg, hb⟩ := hp.fact 0 rfl (by kernel_rfl); exact run_string _ _ _ _ Try.underlying22 Try.underlying5 Try.underlying9 _ _ _ hb) ?_
  repeat (first | refine RA.mv (by rfl) (by rfl) (by rfl) ?_ | refine RA.eq true (by rfl) (by rfl) (by rfl) (by rfl) (by rfl) ?_ | refine RA.pt (by rfl) (by rfl) (by rfl) (by rfl) ?_ | refine RA.as (by rfl) (by rfl) (by rfl) ?_ | refine RA.es true (by rfl) (by rfl) (by rfl) (by rfl) (by simp) ?_)
  refine RA.kc (P := Try.prog) [_] (.bool true) (fun _ => True) (fun _ _ => by go_simp) (by rfl) (by rfl) (by rfl) (by kernel_rfl) (fun _ _ _ h => h) rfl (fun w3 hp hH => (dark_nil _).mono (by rintro e w4 ⟨rfl, rfl⟩; exact ⟨rfl, Chg.refl _ _, trivial⟩)) ?_
  repeat (first | refine RA.mv (by rfl) (by rfl) (by rfl) ?_ | refine RA.eq true (by rfl) (by rfl) (by rfl) (by rfl) (by rfl) ?_ | refine RA.pt (by rfl) (by rfl) (by rfl) (by rfl) ?_ | refine RA.as (by rfl) (by rfl) (by rfl) ?_ | refine RA.es true (by rfl) (by rfl) (by rfl) (by rfl) (by simp) ?_)
  refine RA.kc (P := Try.prog) [_] (.int .i64 11) (fun _ => True) (fun _ _ => by go_simp) (by rfl) (by rfl) (by rfl) (by kernel_rfl) (fun _ _ _ h => h) rfl (fun w3 hp hH => (flush_nil _).mono (by rintro e w4 ⟨rfl, rfl⟩; exact ⟨rfl, Chg.refl _ _, trivial⟩)) ?_
  repeat (first | refine RA.mv (by rfl) (by rfl) (by rfl) ?_ | refine RA.eq true (by rfl) (by rfl) (by rfl) (by rfl) (by rfl) ?_ | refine RA.pt (by rfl) (by rfl) (by rfl) (by rfl) ?_ | refine RA.as (by rfl) (by rfl) (by rfl) ?_ | refine RA.es true (by rfl) (by rfl) (by rfl) (by rfl) (by simp) ?_)
  refine RA.kc (P := Try.prog) [_, _] (.pointer none) (fun _ => True) (fun _ _ => by go_simp) (by rfl) (by rfl) (by rfl) (by kernel_rfl) (fun _ _ _ h => h) rfl (fun w3 hp hH => (fall_nil _ _).mono (by rintro e w4 ⟨rfl, rfl⟩; exact ⟨rfl, Chg.refl _ _, trivial⟩)) ?_
  repeat (first | refine RA.mv (by rfl) (by rfl) (by rfl) ?_ | refine RA.eq true (by rfl) (by rfl) (by rfl) (by rfl) (by rfl) ?_ | refine RA.pt (by rfl) (by rfl) (by rfl) (by rfl) ?_ | refine RA.as (by rfl) (by rfl) (by rfl) ?_ | refine RA.es true (by rfl) (by rfl) (by rfl) (by rfl) (by simp) ?_)
  refine RA.v Try.prog (x := .bool true) (by rfl) (by rfl) (by rfl) (fun w hp => by go_simp) ?_
  simp only [RA.add]
  repeat (first | refine RA.mv (by rfl) (by rfl) (by rfl) ?_ | refine RA.eq true (by rfl) (by rfl) (by rfl) (by rfl) (by rfl) ?_ | refine RA.pt (by rfl) (by rfl) (by rfl) (by rfl) ?_ | refine RA.as (by rfl) (by rfl) (by rfl) ?_ | refine RA.es true (by rfl) (by rfl) (by rfl) (by rfl) (by simp) ?_)
  refine RA.kc (P := Try.prog) [_] (.slice none 0 0) (fun _ => True) (fun _ _ => by go_simp) (by rfl) (by rfl) (by rfl) (by kernel_rfl) (fun _ _ _ h => h) rfl (fun w3 hp hH => (image_nil _).mono (by rintro e w4 ⟨rfl, rfl⟩; exact ⟨rfl, Chg.refl _ _, trivial⟩)) ?_
  repeat (first | refine RA.mv (by rfl) (by rfl) (by rfl) ?_ | refine RA.eq true (by rfl) (by rfl) (by rfl) (by rfl) (by rfl) ?_ | refine RA.pt (by rfl) (by rfl) (by rfl) (by rfl) ?_ | refine RA.as (by rfl) (by rfl) (by rfl) ?_ | refine RA.es true (by rfl) (by rfl) (by rfl) (by rfl) (by simp) ?_)
  refine RA.v Try.prog (x := .int .i64 0) (by rfl) (by rfl) (by rfl) (fun w hp => by go_simp) ?_
  simp only [RA.add]
  repeat (first | refine RA.mv (by rfl) (by rfl) (by rfl) ?_ | refine RA.eq true (by rfl) (by rfl) (by rfl) (by rfl) (by rfl) ?_ | refine RA.pt (by rfl) (by rfl) (by rfl) (by rfl) ?_ | refine RA.as (by rfl) (by rfl) (by rfl) ?_ | refine RA.es true (by rfl) (by rfl) (by rfl) (by rfl) (by simp) ?_)
  refine RA.RA.done rfl (fun w12 hR hF hH => ?_)
  have hR : Chg No w11.drew w12 := hR
  have hfin := HF.out.trans ((hdr _ hR).no.mono HF.out.size)
  clear hF hH
  simp only [RA.put, List.foldr_cons, List.foldr_nil, c, Act.put, List.setIfInBounds_toArray, List.set_cons_succ, List.set_cons_zero]
  go_wp2
  go_ret
  exact ⟨rfl, hfin⟩
end Go.Proofs.Ytifocofpplhacaa.D

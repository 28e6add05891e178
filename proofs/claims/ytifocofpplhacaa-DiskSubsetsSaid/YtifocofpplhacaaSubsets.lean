/-
  DiskSubsets. No condition beyond what each theorem names.
-/
import Derived.Test.YtifocofpplhacaaOver
namespace Go.Proofs.Ytifocofpplhacaa.D
open Go Go.RowKit K

/-- a disk in memory that is new since w, beside a row at c -/
def FreshX (c : Nat) (w : World) (p : Nat) (D : Dk) (cs : Array Value) (w' : World) : Prop :=
  ∃ F, At w' F p D ∧ (∀ k, F k → w.heap.size ≤ k ∧ k ≠ c) ∧ Below w.heap.size w w' ∧ w'.heap[c]? = some (.cells cs 9 (0, 0)) ∧ w.heap.size ≤ c
theorem FreshX.below {c : Nat} {w w1 : World} {p : Nat} {D : Dk} {cs : Array Value} (h : FreshX c w p D cs w1) : Below w.heap.size w w1 := let ⟨_, _, _, hb, _⟩ := h; hb
theorem FreshX.row {c : Nat} {w w1 : World} {p : Nat} {D : Dk} {cs : Array Value} (h : FreshX c w p D cs w1) : w1.heap[c]? = some (.cells cs 9 (0, 0)) := let ⟨_, _, _, _, hc, _⟩ := h; hc
theorem FreshX.at {c : Nat} {w w1 : World} {p : Nat} {D : Dk} {cs : Array Value} (h : FreshX c w p D cs w1) : w.heap.size ≤ c := let ⟨_, _, _, _, _, hc⟩ := h; hc
theorem FreshX.fresh {c : Nat} {w w1 : World} {p : Nat} {D : Dk} {cs : Array Value} (h : FreshX c w p D cs w1) : Fresh w p D w1 := let ⟨F, h1, h2, h3, _, _⟩ := h; ⟨F, h1, fun k hk => (h2 k hk).1, h3⟩
theorem FreshX.keep {c : Nat} {w w1 w2 : World} {p : Nat} {D : Dk} {cs : Array Value} (h : FreshX c w p D cs w1) (hb : Below w1.heap.size w1 w2) : FreshX c w p D cs w2 :=
  let ⟨F, h1, h2, h3, h4, h5⟩ := h
  ⟨F, h1.keep hb.size (fun b _ hbl => hb.block b hbl), h2, h3.trans (hb.mono h3.size), (hb.block c (heap_lt h4)).trans h4, h5⟩
theorem one_byte (w : World) (z : Int) (h : 0 ≤ z ∧ z < 256) : (convert 22 9 (.slice (some ⟨w.heap.size, 0, none⟩) 1 1)).run Try.prog (w.alloc (.cells #[.int .u8 z] 5)) = .ok (.string ⟨#[UInt8.ofNat z.toNat]⟩) (w.alloc (.cells #[.int .u8 z] 5)) := by
  refine run_string (P := Try.prog) _ _ 9 _ Try.underlying22 Try.underlying5 Try.underlying9 (· = w.heap.size) _ [UInt8.ofNat z.toNat] ⟨rfl, some ⟨w.heap.size, 0, none⟩, 1, rfl, Nat.le_refl _, by unfold maxLen; omega, fun h => (by cases h), .inr ⟨_, 0, rfl, rfl, by simp, fun j u hu => ?_⟩⟩
  rw [Nat.zero_add, cell_of (heap_alloc_new _ _), ← hu]
  have e : (UInt8.ofNat z.toNat).toNat = z.toNat := by simp; omega
  cases j with
  | zero => simp [u8s, u8, e]; omega
  | succ j => simp [u8s]
theorem infoString : (Try.prog.info? 9).map (fun i => (i.zero, i.size, i.bytes)) = some (some (.string ByteArray.empty), 1, 16) := by kernel_rfl
theorem FreshX.make {w w1 : World} {p : Nat} {D : Dk} (h : Fresh w p D w1) (cs : Array Value) : FreshX w1.heap.size w p D cs (w1.alloc (.cells cs 9)) := by
  obtain ⟨F, h1, h2, h3⟩ := h
  refine ⟨F, h1.keep (by simp) (fun b _ hbl => Below.heap_alloc _ _ _ hbl), fun k hk => ⟨h2 k hk, fun e => by have := h1.lim k hk; omega⟩, h3.alloc h3.size _, heap_alloc_new _ _, h3.size⟩
theorem FreshX.set {c : Nat} {w w1 : World} {p : Nat} {D : Dk} {cs : Array Value} (h : FreshX c w p D cs w1) (j : Nat) (v : Value) : FreshX c w p D (cs.setIfInBounds j v) (w1.setCell ⟨c, j, none⟩ v) := by
  obtain ⟨F, h1, h2, h3, h4, h5⟩ := h
  have hc : Chg (· = c) w1 (w1.setCell ⟨c, j, none⟩ v) := Chg.setCell (C := (· = c)) (Chg.refl _ _) (fun _ => rfl) _
  exact ⟨F, h1.chg hc (fun b hb => (h2 b hb).2), h2, h3.setCell (p := ⟨c, j, none⟩) h5 _, setCell_block h4 j v, h5⟩
theorem FreshX.then {c : Nat} {w w1 w2 w3 : World} {p : Nat} {D D' : Dk} {cs : Array Value} {F : Nat → Prop} (h1 : FreshX c w p D cs w1) (h2 : ∀ k, F k → w.heap.size ≤ k ∧ k ≠ c) (hb : Below w1.heap.size w1 w2) (h : Then w2 F p D' w3) : FreshX c w p D' cs w3 := by
  have hk := h1.keep hb
  obtain ⟨_, _, _, q3, q4, q5⟩ := hk
  obtain ⟨F', r1, r2, r3⟩ := h
  refine ⟨F', r1, fun k hk => ?_, ?_, (r2.block c (heap_lt q4) (fun e => (h2 c e).2 rfl)).trans q4, q5⟩
  · rcases r3 k hk with e | e
    · exact h2 k e
    · exact ⟨Nat.le_trans q3.size e, fun e' => by have := heap_lt q4; omega⟩
  · exact ⟨r2.os.trans q3.os, r2.tape.trans q3.tape, r2.output.trans q3.output, Nat.le_trans q3.size r2.size, fun k hk => (r2.block k (Nat.lt_of_lt_of_le hk q3.size) (fun hF => by have := (h2 k hF).1; omega)).trans (q3.block k hk)⟩
theorem FreshX.setPut {c : Nat} {w w1 w2 : World} {p : Nat} {D : Dk} {cs : Array Value} (h : FreshX c w p D cs w1) (hb : Below w1.heap.size w1 w2) (hp : D.plain) (hfew : D.pend.length < 1000000000) (n : Nat) (hn : n < D.size) {S : Nat → Prop} {v : Value} {l : List UInt8} (hv : Bytes w2 S v l) (hS : ∀ k, S k → w1.heap.size ≤ k) (hl : l.length = 64) (j : Nat) (v0 : Value) :
    Calls Try.prog 20 #[.pointer (some ⟨p, 0, none⟩), .int .i64 n, v] (w2.setCell ⟨c, j, none⟩ v0) fun e w' => e = .returned (.int .i64 0) ∧ FreshX c w p { D with pend := D.pend ++ [(n, l)] } (cs.setIfInBounds j v0) w' := by
  have hh := (h.keep hb).set j v0
  obtain ⟨F, h1, h2, h3, h4, h5⟩ := h
  have hc : Chg (· = c) w2 (w2.setCell ⟨c, j, none⟩ v0) := Chg.setCell (C := (· = c)) (Chg.refl _ _) (fun _ => rfl) _
  have h1' := (h1.keep hb.size (fun b _ hbl => hb.block b hbl)).chg hc (fun b hb => (h2 b hb).2)
  have hcl := heap_lt h4
  refine (put_plain h1' hp hfew n hn (hv.chg hc (fun b _ hb e => by have := hS b hb; omega)) (fun k hk hF => by have := h1.lim k hF; have := hS k hk; omega) hl).mono ?_
  rintro e w' ⟨rfl, ht⟩
  exact ⟨rfl, hh.then h2 (Below.refl _ _) ht⟩
theorem FreshX.put {c : Nat} {w w1 w2 : World} {p : Nat} {D : Dk} {cs : Array Value} (h : FreshX c w p D cs w1) (hb : Below w1.heap.size w1 w2) (hp : D.plain) (hfew : D.pend.length < 1000000000) (n : Nat) (hn : n < D.size) {S : Nat → Prop} {v : Value} {l : List UInt8} (hv : Bytes w2 S v l) (hS : ∀ k, S k → w1.heap.size ≤ k) (hl : l.length = 64) :
    Calls Try.prog 20 #[.pointer (some ⟨p, 0, none⟩), .int .i64 n, v] w2 fun e w' => e = .returned (.int .i64 0) ∧ FreshX c w p { D with pend := D.pend ++ [(n, l)] } cs w' := by
  have hh := h
  obtain ⟨F, h1, h2, h3, h4, h5⟩ := h
  refine (put_plain (h1.keep hb.size (fun b _ hbl => hb.block b hbl)) hp hfew n hn hv (fun k hk hF => by have := h1.lim k hF; have := hS k hk; omega) hl).mono ?_
  rintro e w' ⟨rfl, ht⟩
  exact ⟨rfl, hh.then h2 hb ht⟩
theorem FreshX.flush {c : Nat} {w w1 : World} {p : Nat} {D : Dk} {cs : Array Value} (h : FreshX c w p D cs w1) (hp : D.plain) : Calls Try.prog 21 #[.pointer (some ⟨p, 0, none⟩)] w1 fun e w' => e = .returned (.int .i64 0) ∧ FreshX c w p { D with sure := D.image, pend := [] } cs w' := by
  have hh := h
  obtain ⟨F, h1, h2, h3, h4, h5⟩ := h
  refine (flush_ok h1 (by rw [hp.stepped]; exact hp.1)).mono ?_
  rintro e w' ⟨rfl, ht⟩
  refine ⟨rfl, hh.then h2 (Below.refl _ _) ?_⟩
  have e : D.flushed = { D with sure := D.image, pend := [] } := by rw [Dk.flushed, hp.stepped]; rfl
  rw [← e]
  exact ht
theorem FreshX.fall {c : Nat} {w w1 : World} {p : Nat} {D : Dk} {cs : Array Value} (h : FreshX c w p D cs w1) {S : Nat → Prop} {ka : Option Addr} {kn kc : Nat} {ks : List Bool} (hks : Cells w1 S (.slice ka kn kc) kn 1 (ks.map .bool)) :
    Calls Try.prog 22 #[.pointer (some ⟨p, 0, none⟩), .slice ka kn kc] w1 fun e w' => ∃ q, e = .returned (.pointer (some ⟨q, 0, none⟩)) ∧ FreshX c w q (D.fall ks) cs w' := by
  obtain ⟨F, h1, h2, h3, h4, h5⟩ := h
  refine (fall_ok h1 hks).mono ?_
  rintro e w' ⟨q, F', rfl, q1, q2, q3⟩
  refine ⟨q, rfl, F', q1, fun k hk => ?_, h3.trans (q3.mono h3.size), (q3.block c (heap_lt h4)).trans h4, h5⟩
  have := q2 k hk
  have := heap_lt h4
  have := h3.size
  exact ⟨by omega, by omega⟩

theorem Fresh.dark {w w1 : World} {p : Nat} {D : Dk} (h : Fresh w p D w1) : Calls Try.prog 23 #[.pointer (some ⟨p, 0, none⟩)] w1 fun e w' => e = .returned (.bool D.dark) ∧ w1 = w' := by
  obtain ⟨F, h1, h2, h3⟩ := h
  exact dark_ok h1
/-- five sectors, one behind the other -/
structure Five (ws : List (List UInt8)) (img : List UInt8) : Prop where
  img : img = ws.flatten
  len : ws.length = 5
  all : ∀ x ∈ ws, x.length = 64
theorem flatten_len : ∀ {ws : List (List UInt8)}, (∀ x ∈ ws, x.length = 64) → ws.flatten.length = 64 * ws.length := by
  intro ws
  induction ws with
  | nil => intro _; rfl
  | cons x ws ih =>
    intro h
    have := ih (fun y hy => h y (by simp [hy]))
    have := h x (by simp)
    simp only [List.flatten_cons, List.length_append, List.length_cons]
    omega
theorem flatten_set (b : List UInt8) (hb : b.length = 64) : ∀ (ws : List (List UInt8)) (k : Nat), k < ws.length → (∀ x ∈ ws, x.length = 64) → splice ws.flatten (k * 64) b = (ws.set k b).flatten := by
  intro ws
  induction ws with
  | nil => intro k h; simp at h
  | cons x ws ih =>
    intro k hk h
    have hx := h x (by simp)
    cases k with
    | zero => simp [splice, hb, ← hx]
    | succ k =>
      have := ih k (by simpa using hk) (fun y hy => h y (by simp [hy]))
      simp only [List.set_cons_succ, List.flatten_cons, ← this, splice]
      rw [List.take_append, List.drop_append, List.take_of_length_le (by rw [hx]; omega), List.drop_eq_nil_of_le (by rw [hx]; omega)]
      have e1 : (k + 1) * 64 - x.length = k * 64 := by omega
      have e2 : (k + 1) * 64 + b.length - x.length = k * 64 + b.length := by omega
      rw [e1, e2]
      simp
theorem flatten_get : ∀ (ws : List (List UInt8)) (k : Nat) (h : k < ws.length), (∀ x ∈ ws, x.length = 64) → (ws.flatten.drop (k * 64)).take 64 = ws[k] := by
  intro ws
  induction ws with
  | nil => intro k h; simp at h
  | cons x ws ih =>
    intro k hk h
    have hx := h x (by simp)
    cases k with
    | zero => simp [← hx]
    | succ k =>
      have := ih k (by simpa using hk) (fun y hy => h y (by simp [hy]))
      simp only [List.flatten_cons, List.getElem_cons_succ, ← this]
      rw [List.drop_append, List.drop_eq_nil_of_le (by rw [hx]; omega)]
      have e1 : (k + 1) * 64 - x.length = k * 64 := by omega
      rw [e1]
      simp
theorem Five.set {ws : List (List UInt8)} {img : List UInt8} (h : Five ws img) (k : Nat) (hk : k < 5) (b : List UInt8) (hb : b.length = 64) : Five (ws.set k b) (splice img (k * 64) b) :=
  ⟨by rw [h.img, flatten_set b hb ws k (by rw [h.len]; exact hk) h.all], by simp [h.len], fun x hx => by
    rcases List.mem_or_eq_of_mem_set hx with hx | rfl
    · exact h.all x hx
    · exact hb⟩
theorem Five.len320 {ws : List (List UInt8)} {img : List UInt8} (h : Five ws img) : img.length = 320 := by
  rw [h.img, flatten_len h.all, h.len]

def strV (x : List UInt8) : Value := .string ⟨x.toArray⟩

/-- what the two loops have made: the pending writes and the five texts -/
structure Mid (c : Nat) (w : World) (p : Nat) (sure : List UInt8) (ps : List (Nat × List UInt8)) (img : List UInt8) (wr : World) : Prop where
  ex : ∃ ws, FreshX c w p ⟨false, 0, false, sure, ps⟩ (ws.map strV).toArray wr ∧ Five ws img
  ok : ∀ q ∈ ps, q.1 < 5 ∧ q.2.length = 64
theorem kept_append (ps : List (Nat × List UInt8)) (q : Nat × List UInt8) (ks : List Bool) : kept (ps ++ [q]) ks = kept ps ks ++ (if ks[ps.length]?.getD false then [q] else []) := by
  have h := kept_snoc (ps ++ [q]) ks ps.length (by simp)
  rw [List.take_of_length_le (by simp), List.take_left' rfl] at h
  simpa using h

def Zk (k : Nat) : Array Value := ((List.replicate k (sec []) ++ List.replicate (5 - k) []).map strV).toArray
theorem Zk_zero : madeCells #[.string ByteArray.empty] 5 = Zk 0 := by rw [← Array.toList_inj, toList_madeCells_one]; rfl
theorem Zk_set (k : Nat) (hk : k < 5) : (Zk k).setIfInBounds k (.string ⟨(sec []).toArray⟩) = Zk (k + 1) := by
  have : k = 0 ∨ k = 1 ∨ k = 2 ∨ k = 3 ∨ k = 4 := by omega
  rcases this with rfl | rfl | rfl | rfl | rfl <;> rfl
theorem Zk_get (k : Nat) (hk : k < 5) : (Zk k)[k]? = some (.string ByteArray.empty) := by
  have : k = 0 ∨ k = 1 ∨ k = 2 ∨ k = 3 ∨ k = 4 := by omega
  rcases this with rfl | rfl | rfl | rfl | rfl <;> rfl
theorem strs_get (ws : List (List UInt8)) (k : Nat) (hk : k < ws.length) : (ws.map strV).toArray[k]? = some (.string ⟨(ws[k]).toArray⟩) := by simp [strV, hk]
theorem strs_set (ws : List (List UInt8)) (k : Nat) (b : List UInt8) : (ws.map strV).toArray.setIfInBounds k (.string ⟨b.toArray⟩) = ((ws.set k b).map strV).toArray := by
  simp [List.map_set, strV]

set_option maxRecDepth 100000 in
set_option maxHeartbeats 4000000 in
theorem subsets_ok {w : World} {S T U : Nat → Prop} {fa : Option Addr} {fn fc : Nat} {fl : List Int} {wa : Option Addr} {wn wc : Nat} {wl : List Int} {ka : Option Addr} {kn kc : Nat} {ks : List Bool}
    (hf : Cells w S (.slice fa fn fc) fn 1 (fl.map (.int .i64))) (hw : Cells w T (.slice wa wn wc) wn 1 (wl.map (.int .i64))) (hk : Cells w U (.slice ka kn kc) kn 1 (ks.map .bool)) :
    Calls Try.prog 4 #[.slice fa fn fc, .slice wa wn wc, .slice ka kn kc] w fun e w' => e = .returned (.bool true) ∧ Below w.heap.size w w' := by
  have HA := Lib.hid (awake13_ok w)
  have hfm : fn ≤ maxLen := by obtain ⟨_, _, hv, h1, h2⟩ := Cells.shape hf; cases hv; omega
  have hwm : wn ≤ maxLen := by obtain ⟨_, _, hv, h1, h2⟩ := Cells.shape hw; cases hv; omega
  have hkm : kn ≤ maxLen := by obtain ⟨_, _, hv, h1, h2⟩ := Cells.shape hk; cases hv; omega
  have hfl : fl.length = fn := by have := hf.1; simpa using this
  have hwl : wl.length = wn := by have := hw.1; simpa using this
  have hkl : ks.length = kn := by have := hk.1; simpa using this
  have HF := Lib.hid hf
  have HW := Lib.hid hw
  have HK := Lib.hid hk
  have HFL := Lib.hid hfl
  have HWL := Lib.hid hwl
  have HKL := Lib.hid hkl
  clear hf hw hk hfl hwl hkl
  unfold maxLen at hfm hwm hkm
  by_cases hbig : 30 < fn ∨ 30 < wn ∨ 40 < kn
  · go_enter Try.func4, Try.ntmps4
    go_wp2_with (first | (go_at_call 11; with_reducible refine HA.out.mono ?_; rintro e w' ⟨rfl, hb⟩))
    all_goals go_ret
    all_goals exact ⟨rfl, by assumption⟩
  · have hf30 : fn ≤ 30 := by omega
    have hw30 : wn ≤ 30 := by omega
    have hk40 : kn ≤ 40 := by omega
    clear hbig
    have hmk : ∀ u : World, _ := fun u => make_full (P := Try.prog) u Try.underlying38 infoString rfl 5 5 rfl (by omega) (by omega)
    go_enter Try.func4, Try.ntmps4
    go_wp2_with fail
    refine (Fresh.new 5 (by omega) (by omega) _).mono ?_
    rintro e w1 ⟨p, rfl, hf⟩
    have HX := Lib.hid (FreshX.make hf (madeCells #[.string ByteArray.empty] 5))
    clear hf
    go_wp2_with fail
    obtain ⟨c, hc⟩ : ∃ c, c = w1.heap.size := ⟨_, rfl⟩
    rw [← hc] at HX ⊢
    obtain ⟨W2, hW2⟩ : ∃ W2, W2 = w1.alloc (.cells (madeCells #[.string ByteArray.empty] 5) 9) := ⟨_, rfl⟩
    have hcw : w.heap.size ≤ c := HX.out.at
    have HX2 : Hid (FreshX c w p (.new 5) (Zk 0) W2) := by
      have h := HX.out
      rw [← hW2, Zk_zero] at h
      exact h
    rw [← hW2]
    clear HX hW2 hc
    go_loopw [10] (fun i wr => ∃ k : Nat, k ≤ 5 ∧ i = .int .i64 k ∧ Hid (FreshX c w p (.new 5) (Zk k) wr)) (fun i _ => 5 - (intOf i).toNat)
    case atStart => exact ⟨0, by omega, rfl, HX2.out⟩
    case round =>
      obtain ⟨k, hk, rfl, HR⟩ := hrel
      by_cases hlt : k < 5
      · go_wp2_with fail
        refine (sector_ok _ _).mono ?_
        rintro e w3 ⟨rfl, hs, hb⟩
        have hx := HR.out.keep hb
        have hr := hx.row
        have hcell := cell_of hr k
        rw [Zk_get k hlt] at hcell
        have hfr := frozen_of hr k
        have hcl : c < w3.heap.size := heap_lt hr
        have hcv := run_string (P := Try.prog) _ _ 9 _ Try.underlying22 Try.underlying5 Try.underlying9 _ _ _ hs
        have HX3 := Lib.hid (hx.set k (.string ⟨(sec []).toArray⟩))
        rw [Zk_set k hlt] at HX3
        clear hs hb hx hr
        go_wp2
        go_roundw
        case rel => exact ⟨k + 1, by omega, by go_num, HX3.out⟩
        case measure => simp [intOf]; omega
      · obtain rfl : k = 5 := by omega
        have h0 : Mid c w p (List.replicate 320 0) [] (List.replicate 320 0) wr := by
          refine ⟨⟨List.replicate 5 (sec []), ?_, ⟨?_, by simp, fun x hx => by rw [List.eq_of_mem_replicate hx]; exact sec_length _⟩⟩, fun q hq => by cases hq⟩
          · have h := HR.out
            refine cast (congrArg (fun D => FreshX c w p D _ wr) ?_) h
            rfl
          · decide +kernel
        have H0 := Lib.hid h0
        clear h0 HR hlt hk HX2
        go_wp2_with fail
        rw [show ((5 : Nat) : Int) = 5 from rfl]
        go_loopw [11] (fun i wr => ∃ k : Nat, k ≤ fn ∧ i = .int .i64 k ∧ ∃ ps img, ps.length = k ∧ Hid (Mid c w p (List.replicate 320 0) ps img wr ∧ img = layAll (List.replicate 320 0) ps)) (fun i _ => fn - (intOf i).toNat)
        case atStart => exact ⟨0, by omega, rfl, [], _, rfl, H0.out, rfl⟩
        case round =>
          obtain ⟨k, hk, rfl, ps, img, hpl, HR⟩ := hrel
          by_cases hlt : k < fn
          · obtain ⟨fb, fo, _, hfv, _, _, _, hfbl, hfc⟩ := HF.out.at (by omega)
            cases hfv
            have hkl : k < fl.length := by rw [HFL.out]; exact hlt
            obtain ⟨⟨⟨ws, hx, h5⟩, hok⟩, himg⟩ := HR.out
            have hbe := hx.below
            have hcw2 : w.cell? ⟨fb, fo + k, none⟩ = some (.int .i64 fl[k]) := hfc k _ (by simp [hkl])
            have hce : wr.cell? ⟨fb, fo + k, none⟩ = some (.int .i64 fl[k]) := (hbe.cell (p := ⟨fb, fo + k, none⟩) hfbl).trans hcw2
            have hfbr : fb < wr.heap.size := Nat.lt_of_lt_of_le hfbl hbe.size
            obtain ⟨x, hxk⟩ : ∃ x, x = fl[k] := ⟨_, rfl⟩
            rw [← hxk] at hce
            have hm5 : 0 ≤ x % 5 ∧ x % 5 < 5 := ⟨Int.emod_nonneg _ (by omega), Int.emod_lt_of_pos _ (by omega)⟩
            obtain ⟨kk, hkk⟩ : ∃ kk : Nat, x % 5 = kk := ⟨(x % 5).toNat, by omega⟩
            have hk5 : kk < 5 := by omega
            have HRD := Lib.hid (round_ok x 5 (by omega) wr)
            rw [hkk] at HRD
            have HX := Lib.hid hx
            have H5 := Lib.hid h5
            have HOK := Lib.hid hok
            have HIM := Lib.hid himg
            have HPL := Lib.hid hpl
            clear hfc hx h5 hok himg hbe hcw2 hxk hm5 hkk hpl
            go_wp2_with fail
            refine HRD.out.mono ?_
            rintro e w3 ⟨rfl, rfl⟩
            go_wp2_with fail
            have hcv1 := one_byte wr (97 + (k : Int)) (by omega)
            have hba : Below wr.heap.size wr (wr.alloc (.cells #[.int .u8 (97 + (k : Int))] 5)) := (Below.refl _ wr).alloc (Nat.le_refl _) _
            have HBA := Lib.hid hba
            clear hba
            go_wp2_with fail
            rw [hcv1]
            clear hcv1
            go_wp2_with fail
            refine (sector_ok _ _).mono ?_
            rintro e w4 ⟨rfl, hs, hb⟩
            simp only [World.size_alloc] at hs
            obtain ⟨b, hbb, hbl⟩ : ∃ b, b = sec _ ∧ b.length = 64 := ⟨_, rfl, sec_length _⟩
            rw [← hbb] at hs
            have hs4 := hs
            have hb4 : Below wr.heap.size wr w4 := HBA.out.trans (hb.mono (by simp))
            have hr := (HX.out.keep hb4).row
            have hcell := cell_of hr kk
            rw [strs_get ws kk (by rw [H5.out.len]; exact hk5)] at hcell
            have hfr := frozen_of hr kk
            have hcl : c < w4.heap.size := heap_lt hr
            have hcv := run_string (P := Try.prog) _ _ 9 _ Try.underlying22 Try.underlying5 Try.underlying9 _ _ _ hs
            have HC := Lib.hid (HX.out.setPut hb4 ⟨rfl, rfl⟩ (by rw [HPL.out]; omega) kk (by simp [Dk.size]; omega) hs4 (fun k hk => by have hk : k = _ := hk; omega) hbl kk (.string ⟨b.toArray⟩))
            have HBL := Lib.hid hbl
            clear hs hb hbb hs4 hb4 hr hbl HBA
            go_wp2_with fail
            refine HC.out.mono ?_
            rintro e w5 ⟨rfl, hx5⟩
            have HX5 := Lib.hid hx5
            clear hx5 HC hcv hcell hfr
            go_wp2_with fail
            go_roundw
            case rel =>
              refine ⟨k + 1, by omega, by go_num, ps ++ [(kk, b)], splice img (kk * 64) b, by rw [List.length_append, HPL.out]; rfl, ⟨⟨ws.set kk b, ?_, H5.out.set kk hk5 b HBL.out⟩, ?_⟩, ?_⟩
              · have h := HX5.out
                rw [strs_set] at h
                exact h
              · intro q hq
                rcases List.mem_append.1 hq with hq | hq
                · exact HOK.out q hq
                · simp at hq
                  subst hq
                  exact ⟨hk5, HBL.out⟩
              · rw [layAll_append, ← HIM.out]
                rfl
            case measure => simp [intOf]; omega
          · obtain ⟨hm, himg⟩ := HR.out
            obtain ⟨⟨ws, hx, h5⟩, hok⟩ := hm
            have HC := Lib.hid (hx.flush ⟨rfl, rfl⟩)
            have H5 := Lib.hid h5
            have HIM := Lib.hid himg
            clear hx h5 hok himg HR H0
            go_wp2_with fail
            refine HC.out.mono ?_
            rintro e w5 ⟨rfl, hx5⟩
            have h0 : Mid c w p img [] img w5 := by
              refine ⟨⟨ws, ?_, H5.out⟩, fun q hq => by cases hq⟩
              refine cast (congrArg (fun D => FreshX c w p D _ w5) ?_) hx5
              simp only [Dk.image, ← HIM.out]
            have H0 := Lib.hid h0
            obtain ⟨S0, hS0⟩ : ∃ S0, S0 = img := ⟨_, rfl⟩
            have H320 := Lib.hid (H5.out.len320)
            rw [← hS0] at H0 H320
            clear hx5 h0 HC HIM H5 hS0
            go_wp2_with fail
            go_loopw [14] (fun i wr => ∃ k : Nat, k ≤ wn ∧ i = .int .i64 k ∧ ∃ ps im, ps.length = k ∧ Hid (Mid c w p S0 ps im wr ∧ im = layAll S0 (kept ps ks))) (fun i _ => wn - (intOf i).toNat)
            case atStart => exact ⟨0, by omega, rfl, [], _, rfl, H0.out, rfl⟩
            case round =>
              obtain ⟨k, hk, rfl, ps, im, hpl, HR⟩ := hrel
              by_cases hlt : k < wn
              · obtain ⟨fb, fo, _, hfv, _, _, _, hfbl, hfc⟩ := HW.out.at (by omega)
                cases hfv
                have hkl : k < wl.length := by rw [HWL.out]; exact hlt
                obtain ⟨⟨⟨ws, hx, h5⟩, hok⟩, himg⟩ := HR.out
                have hbe := hx.below
                have hcw2 : w.cell? ⟨fb, fo + k, none⟩ = some (.int .i64 wl[k]) := hfc k _ (by simp [hkl])
                have hce : wr.cell? ⟨fb, fo + k, none⟩ = some (.int .i64 wl[k]) := (hbe.cell (p := ⟨fb, fo + k, none⟩) hfbl).trans hcw2
                have hfbr : fb < wr.heap.size := Nat.lt_of_lt_of_le hfbl hbe.size
                obtain ⟨x, hxk⟩ : ∃ x, x = wl[k] := ⟨_, rfl⟩
                rw [← hxk] at hce
                have hm5 : 0 ≤ x % 5 ∧ x % 5 < 5 := ⟨Int.emod_nonneg _ (by omega), Int.emod_lt_of_pos _ (by omega)⟩
                obtain ⟨kk, hkk⟩ : ∃ kk : Nat, x % 5 = kk := ⟨(x % 5).toNat, by omega⟩
                have hk5 : kk < 5 := by omega
                have HRD := Lib.hid (round_ok x 5 (by omega) wr)
                rw [hkk] at HRD
                have HX := Lib.hid hx
                have H5 := Lib.hid h5
                have HOK := Lib.hid hok
                have HIM := Lib.hid himg
                have HPL := Lib.hid hpl
                clear hfc hx h5 hok himg hbe hcw2 hxk hm5 hkk hpl
                go_wp2_with fail
                refine HRD.out.mono ?_
                rintro e w3 ⟨rfl, rfl⟩
                have hcv1 := one_byte wr (97 + (k : Int)) (by omega)
                have hba : Below wr.heap.size wr (wr.alloc (.cells #[.int .u8 (97 + (k : Int))] 5)) := (Below.refl _ wr).alloc (Nat.le_refl _) _
                have HBA := Lib.hid hba
                clear hba
                go_wp2_with fail
                try (rw [hcv1]; go_wp2_with fail)
                clear hcv1
                refine (sector_ok _ _).mono ?_
                rintro e w4 ⟨rfl, hs, hb⟩
                simp only [World.size_alloc] at hs
                obtain ⟨b, hbb, hbl⟩ : ∃ b, b = sec _ ∧ b.length = 64 := ⟨_, rfl, sec_length _⟩
                rw [← hbb] at hs
                have hs4 := hs
                have hb4 : Below wr.heap.size wr w4 := HBA.out.trans (hb.mono (by simp))
                have hr := (HX.out.keep hb4).row
                have hcell := cell_of hr kk
                rw [strs_get ws kk (by rw [H5.out.len]; exact hk5)] at hcell
                have hfr := frozen_of hr kk
                have hcl : c < w4.heap.size := heap_lt hr
                have hcv := run_string (P := Try.prog) _ _ 9 _ Try.underlying22 Try.underlying5 Try.underlying9 _ _ _ hs
                have HC := Lib.hid (HX.out.setPut hb4 ⟨rfl, rfl⟩ (by rw [HPL.out]; omega) kk (by have := H320.out; simp [Dk.size]; omega) hs4 (fun k hk => by have hk : k = _ := hk; omega) hbl kk (.string ⟨b.toArray⟩))
                have HC2 := Lib.hid (HX.out.put hb4 ⟨rfl, rfl⟩ (by rw [HPL.out]; omega) kk (by have := H320.out; simp [Dk.size]; omega) hs4 (fun k hk => by have hk : k = _ := hk; omega) hbl)
                have HBL := Lib.hid hbl
                have HKA := Lib.hid (kept_append ps (kk, b) ks)
                rw [HPL.out] at HKA
                have hb04 : Below w.heap.size w w4 := HX.out.below.trans (hb4.mono HX.out.below.size)
                clear hs hb hbb hs4 hb4 hr hbl HBA
                by_cases hkk2 : k < kn
                · obtain ⟨kb, ko, _, hkv, _, _, _, hkbl, hkc⟩ := HK.out.at (by omega)
                  cases hkv
                  have hkk3 : k < ks.length := by rw [HKL.out]; exact hkk2
                  have hke : w4.cell? ⟨kb, ko + k, none⟩ = some (.bool ks[k]) := (hb04.cell (p := ⟨kb, ko + k, none⟩) hkbl).trans (hkc k _ (by simp [hkk3]))
                  have hkb4 : kb < w4.heap.size := Nat.lt_of_lt_of_le hkbl hb04.size
                  clear hkc hb04
                  cases hkv : ks[k] with
                  | true =>
                    rw [hkv] at hke
                    have HKV : Hid (ks[k]?.getD false = true) := by rw [List.getElem?_eq_getElem hkk3, hkv]; rfl
                    clear hkv HC2
                    go_wp2_with fail
                    refine HC.out.mono ?_
                    rintro e w5 ⟨rfl, hx5⟩
                    have HX5 := Lib.hid hx5
                    clear hx5 HC hcv hcell hfr hke
                    go_wp2_with fail
                    go_roundw
                    case rel =>
                      refine ⟨k + 1, by omega, by go_num, ps ++ [(kk, b)], splice im (kk * 64) b, by rw [List.length_append, HPL.out]; rfl, ⟨⟨ws.set kk b, ?_, H5.out.set kk hk5 b HBL.out⟩, ?_⟩, ?_⟩
                      · have h := HX5.out
                        rw [strs_set] at h
                        exact h
                      · intro q hq
                        rcases List.mem_append.1 hq with hq | hq
                        · exact HOK.out q hq
                        · simp at hq
                          subst hq
                          exact ⟨hk5, HBL.out⟩
                      · rw [HKA.out, HKV.out, if_pos rfl, layAll_append, ← HIM.out]
                        rfl
                    case measure => simp [intOf]; omega
                  | false =>
                    rw [hkv] at hke
                    have HKV : Hid (ks[k]?.getD false = false) := by rw [List.getElem?_eq_getElem hkk3, hkv]; rfl
                    clear hkv HC hcv hcell hfr
                    go_wp2_with fail
                    refine HC2.out.mono ?_
                    rintro e w5 ⟨rfl, hx5⟩
                    have HX5 := Lib.hid hx5
                    clear hx5 HC2 hke
                    go_wp2_with fail
                    go_roundw
                    case rel =>
                      refine ⟨k + 1, by omega, by go_num, ps ++ [(kk, b)], im, by rw [List.length_append, HPL.out]; rfl, ⟨⟨ws, HX5.out, H5.out⟩, ?_⟩, ?_⟩
                      · intro q hq
                        rcases List.mem_append.1 hq with hq | hq
                        · exact HOK.out q hq
                        · simp at hq
                          subst hq
                          exact ⟨hk5, HBL.out⟩
                      · rw [HKA.out, HKV.out, if_neg (by simp), List.append_nil, ← HIM.out]
                    case measure => simp [intOf]; omega
                · have HKV : Hid (ks[k]?.getD false = false) := by rw [List.getElem?_eq_none (by rw [HKL.out]; omega)]; rfl
                  clear HC hcv hcell hfr hb04
                  go_wp2_with fail
                  refine HC2.out.mono ?_
                  rintro e w5 ⟨rfl, hx5⟩
                  have HX5 := Lib.hid hx5
                  clear hx5 HC2
                  go_wp2_with fail
                  go_roundw
                  case rel =>
                    refine ⟨k + 1, by omega, by go_num, ps ++ [(kk, b)], im, by rw [List.length_append, HPL.out]; rfl, ⟨⟨ws, HX5.out, H5.out⟩, ?_⟩, ?_⟩
                    · intro q hq
                      rcases List.mem_append.1 hq with hq | hq
                      · exact HOK.out q hq
                      · simp at hq
                        subst hq
                        exact ⟨hk5, HBL.out⟩
                    · rw [HKA.out, HKV.out, if_neg (by simp), List.append_nil, ← HIM.out]
                  case measure => simp [intOf]; omega
              · obtain ⟨hm, himg⟩ := HR.out
                obtain ⟨⟨ws, hx, h5⟩, hok⟩ := hm
                have HC := Lib.hid (hx.fall (ks := ks) (HK.out.keep hx.below.size (fun j _ hj => hx.below.block j hj)))
                have H5 := Lib.hid h5
                have HIM := Lib.hid himg
                clear hx h5 hok himg HR H0
                go_wp2_with fail
                refine HC.out.mono ?_
                rintro e w5 ⟨q, rfl, hq⟩
                have HQ : Hid (FreshX c w q ⟨false, 0, false, im, []⟩ (ws.map strV).toArray w5) := by
                  refine cast (congrArg (fun D => FreshX c w q D _ w5) ?_) hq
                  simp only [Dk.fall, ← HIM.out]
                clear hq HC HIM
                go_wp2_with fail
                go_loopw [18] (fun i wr => ∃ k : Nat, k ≤ 5 ∧ i = .int .i64 k ∧ Hid (FreshX c w q ⟨false, 0, false, im, []⟩ (ws.map strV).toArray wr)) (fun i _ => 5 - (intOf i).toNat)
                case atStart => exact ⟨0, by omega, rfl, HQ.out⟩
                case round =>
                  obtain ⟨j, hj, rfl, HR⟩ := hrel
                  by_cases hlt : j < 5
                  · have hjw : j < ws.length := by rw [H5.out.len]; exact hlt
                    have HC := Lib.hid (HR.out.fresh.get rfl j (by have := H5.out.len320; simp [Dk.size]; omega))
                    go_wp2_with fail
                    refine HC.out.mono ?_
                    rintro e w6 ⟨xg, xc, rfl, xl, xb, hb6⟩
                    have hat : (Dk.at ⟨false, 0, false, im, []⟩ j) = ws[j] := by
                      simp only [Dk.at, H5.out.img]
                      exact flatten_get ws j hjw H5.out.all
                    rw [hat] at xb
                    have hx := HR.out.keep hb6
                    have HX := Lib.hid hx
                    have HXB := Lib.hid xb
                    have hcell := cell_of hx.row j
                    rw [strs_get ws j hjw] at hcell
                    have hcl : c < w6.heap.size := heap_lt hx.row
                    clear xb hx hat HC
                    go_wp2_with fail
                    have hdr : ∀ w3, Chg No w6.drew w3 → Chg No w6 w3 := fun w3 h => ⟨h.os, h.tape, h.output, h.size, h.block⟩
                    refine RA.region (fun a b => Chg No a b) (· = ·) [1, 1, 1, 1, 1, 1, 1, 1, 1, 1, 1] (fun _ _ _ => True) (fun _ => True) (by kernel_rfl) (Chg.refl _ _) (fun _ _ h => h ▸ Chg.refl _ _) (fun _ _ _ h k => h.trans k) (fun _ _ h k => h ▸ k) trivial (by kernel_rfl) ?_
                    intro cx
                    repeat (first | refine RA.mv (by rfl) (by rfl) (by rfl) ?_ | refine RA.as (by rfl) (by rfl) (by rfl) ?_ | refine RA.pt (by rfl) (by rfl) (by rfl) (by rfl) ?_ | refine RA.pf (by rfl) (by rfl) (by rfl) (by rfl) ?_)
                    refine RA.ne false (by rfl) (by rfl) (by rfl) (by rfl) (by rfl) ?_
                    repeat (first | refine RA.mv (by rfl) (by rfl) (by rfl) ?_ | refine RA.as (by rfl) (by rfl) (by rfl) ?_ | refine RA.pt (by rfl) (by rfl) (by rfl) (by rfl) ?_ | refine RA.pf (by rfl) (by rfl) (by rfl) (by rfl) ?_)
                    refine RA.cv (by rfl) (by rfl) (by rfl) (fun w3 hp => by exact run_string _ _ _ _ Try.underlying22 Try.underlying5 Try.underlying9 _ _ _ (HXB.out.chg (hdr _ hp.1) (fun _ _ _ => id))) ?_
                    repeat (first | refine RA.mv (by rfl) (by rfl) (by rfl) ?_ | refine RA.as (by rfl) (by rfl) (by rfl) ?_ | refine RA.pt (by rfl) (by rfl) (by rfl) (by rfl) ?_ | refine RA.pf (by rfl) (by rfl) (by rfl) (by rfl) ?_)
                    refine RA.ia (by rfl) (by rfl) (by rfl) (by rfl) (y' := .pointer (some ⟨c, j, none⟩)) (fun w3 hp => by
                      show (Instr.indexAt _ _ _).run Try.prog w3 = _
                      go_simp) ?_
                    refine RA.ld (by rfl) (by rfl) (by rfl) (y' := .string ⟨(ws[j]).toArray⟩) (fun w3 hp => by
                      have h1 := ((hdr _ hp.1).cell (p := ⟨c, j, none⟩) hcl id).trans hcell
                      show (Instr.loadAt _ _).run Try.prog w3 = _
                      go_simp) ?_
                    refine RA.ns false (by rfl) (by rfl) (by rfl) (by rfl) (by simp) ?_
                    repeat (first | refine RA.mv (by rfl) (by rfl) (by rfl) ?_ | refine RA.as (by rfl) (by rfl) (by rfl) ?_ | refine RA.pt (by rfl) (by rfl) (by rfl) (by rfl) ?_ | refine RA.pf (by rfl) (by rfl) (by rfl) (by rfl) ?_)
                    refine RA.RA.done rfl (fun w7 hR hF hH => ?_)
                    clear hF hH
                    simp only [RA.put, List.foldr_cons, List.foldr_nil, cx, Act.put, List.setIfInBounds_toArray, List.set_cons_succ, List.set_cons_zero]
                    have HX7 := Lib.hid (HX.out.keep (hdr _ hR).no)
                    clear hR hdr HX HXB hcell hcl
                    go_wp2_with fail
                    go_roundw
                    case rel => exact ⟨j + 1, by omega, by go_num, HX7.out⟩
                    case measure => simp [intOf]; omega
                  · go_wp2_with fail
                    refine HR.out.fresh.pending.mono ?_
                    rintro e w6 ⟨sa, sc, rfl, hb6⟩
                    have HX6 := Lib.hid (HR.out.keep hb6)
                    have HD := Lib.hid (HX6.out.fresh.dark)
                    have HA6 := Lib.hid (awake13_ok w6)
                    clear hb6 HR
                    go_wp2_with fail
                    refine HD.out.mono ?_
                    rintro e w7 ⟨rfl, rfl⟩
                    go_wp2_with fail
                    refine HA6.out.mono ?_
                    rintro e w7 ⟨rfl, hb7⟩
                    have hfin := HX6.out.below.trans (hb7.mono HX6.out.below.size)
                    go_wp2_with fail
                    go_ret
                    exact ⟨rfl, hfin⟩
end Go.Proofs.Ytifocofpplhacaa.D

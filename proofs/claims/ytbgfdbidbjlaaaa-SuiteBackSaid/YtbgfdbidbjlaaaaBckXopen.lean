/-
  xts.open: two ciphers of a key. No condition beyond what each theorem names.
-/
import Derived.Test.YtbgfdbidbjlaaaaBckNew
import Derived.Test.YtbgfdbidbjlaaaaBckAlTapePk
namespace Go.Proofs.Ytbgfdbidbjlaaaa.Fd
open Go Go.RowKit K

theorem new_ok {w : World} {S : Nat → Prop} {kv : Value} {key : List UInt8} (hb : Bytes w S kv key) (hl : key.length = 16 ∨ key.length = 32) :
    Calls Try.prog 52 #[kv] w fun e w' => ∃ p tb kv', e = .returned (.tuple #[.pointer (some ⟨p, 0, none⟩), .int .i64 0]) ∧ CipherAt w' (fun g => w.heap.size ≤ g) p tb kv' (sched key) ∧ Below w.heap.size w w' := by
  rcases hl with h | h
  · exact new16_ok hb h
  · exact new32_ok hb h
theorem bytes_cut {w : World} {S : Nat → Prop} {a : Option Addr} {cap : Nat} {l : List UInt8} (h : Bytes w S (.slice a l.length cap) l) (lo hi : Nat) (h1 : lo ≤ hi) (h2 : hi ≤ l.length) : Bytes w S (sliced a lo hi cap 1) ((l.drop lo).take (hi - lo)) := by
  have h3 := Cells.sliced h lo hi h1 h2
  have e : ((l.drop lo).take (hi - lo)).length = hi - lo := by simp; omega
  unfold Bytes
  rw [e]
  simpa [u8s, List.map_take, List.map_drop] using h3
theorem results_ct {P : Program} {fn : Func} {p q : Tmp} {ty : TypeId} (h : fn.results = #[.cell p ty, .tmp q]) (tmps : Array Value) (w : World) {a : Addr} {u v : Value}
    (hp : tmps.getD p undef = .pointer (some a)) (hq : tmps.getD q undef = v) (h0 : (loadVar ty a).run P w = .ok u w) : (results fn tmps).run P w = .ok (.tuple #[u, v]) w := by
  have hp' : tmps[p]?.getD undef = .pointer (some a) := by simpa using hp
  have hq' : tmps[q]?.getD undef = v := by simpa using hq
  simp [results, h, hp', hq', asAddr, h0]
/-- two ciphers -/
def PairAt (w : World) (F : Nat → Prop) (p1 p2 : Nat) (k1 k2 : List UInt32) : Prop := (∃ t v, CipherAt w F p1 t v k1) ∧ ∃ t v, CipherAt w F p2 t v k2
theorem PairAt.keep {w w' : World} {F : Nat → Prop} {p1 p2 : Nat} {k1 k2 : List UInt32} (h : PairAt w F p1 p2 k1 k2) (hs : w.heap.size ≤ w'.heap.size) (hk : ∀ g, F g → g < w.heap.size → w'.heap[g]? = w.heap[g]?) : PairAt w' F p1 p2 k1 k2 := by
  obtain ⟨⟨t, v, h1⟩, t', v', h2⟩ := h
  exact ⟨⟨t, v, h1.keep hs hk⟩, t', v', h2.keep hs hk⟩
theorem CipherAt.mono {w : World} {F G : Nat → Prop} {p b : Nat} {kv : Value} {ks : List UInt32} (h : CipherAt w F p b kv ks) (hs : ∀ g, F g → G g) : CipherAt w G p b kv ks :=
  ⟨h.box, hs _ h.own, h.tab, hs _ h.tabF, h.few, h.keys.mono (fun _ _ => hs _)⟩
theorem PairAt.mono {w : World} {F G : Nat → Prop} {p1 p2 : Nat} {k1 k2 : List UInt32} (h : PairAt w F p1 p2 k1 k2) (hs : ∀ g, F g → G g) : PairAt w G p1 p2 k1 k2 := by
  obtain ⟨⟨t, v, h1⟩, t', v', h2⟩ := h
  exact ⟨⟨t, v, h1.mono hs⟩, t', v', h2.mono hs⟩
def k1of (key : List UInt8) : List UInt32 := sched (key.take (key.length / 2))
def k2of (key : List UInt8) : List UInt32 := sched (key.drop (key.length / 2))

set_option maxRecDepth 100000 in
set_option maxHeartbeats 4000000 in
theorem xtsOpen32_ok {w : World} {S : Nat → Prop} {kv : Value} {key : List UInt8} (hb : Bytes w S kv key) (hl : key.length = 32) (z : Nat) (hz : z ≤ 1099511627776) :
    Calls Try.prog 42 #[kv, .int .i64 z] w fun e w' => ∃ p1 p2, e = .returned (.tuple #[.agg #[.pointer (some ⟨p1, 0, none⟩), .pointer (some ⟨p2, 0, none⟩)], .int .i64 0]) ∧ PairAt w' (fun g => w.heap.size ≤ g) p1 p2 (k1of key) (k2of key) ∧ Below w.heap.size w w' := by
  obtain ⟨a, cap, rfl, hc1, hc2⟩ := Cells.shape hb
  unfold maxLen at hc2
  have hv1 := bytes_cut hb 0 16 (by omega) (by omega)
  have hv2 := bytes_cut hb 16 32 (by omega) (by omega)
  rw [hl] at hc1 ⊢
  have e1 : (key.drop 0).take (16 - 0) = key.take (key.length / 2) := by simp [hl]
  have e2 : (key.drop 16).take (32 - 16) = key.drop (key.length / 2) := by rw [List.take_of_length_le (by simp; omega), hl]
  rw [e1] at hv1
  rw [e2] at hv2
  have hl1 : (key.take (key.length / 2)).length = 16 := by simp; omega
  have hl2 : (key.drop (key.length / 2)).length = 16 := by simp; omega
  have hcut1 : ∀ w3, (Instr.sliceAt 22 (.slice a 32 cap) none (some (.int .i64 16)) none).run Try.prog w3 = .ok (sliced a 0 16 cap 1) w3 := fun w3 => cut_hi (P := Try.prog) (s := 1) w3 Try.underlying22 (by kernel_rfl) a 32 cap 16 (by omega)
  have hcut2 : ∀ w3, (Instr.sliceAt 22 (.slice a 32 cap) (some (.int .i64 16)) none none).run Try.prog w3 = .ok (sliced a 16 32 cap 1) w3 := fun w3 => cut_lo (P := Try.prog) (s := 1) w3 Try.underlying22 (by kernel_rfl) a 32 cap 16 (by omega)
  obtain ⟨v1, ev1⟩ : ∃ v, v = sliced a 0 16 cap 1 := ⟨_, rfl⟩
  obtain ⟨v2, ev2⟩ : ∃ v, v = sliced a 16 32 cap 1 := ⟨_, rfl⟩
  rw [← ev1] at hcut1 hv1
  rw [← ev2] at hcut2 hv2
  clear ev1 ev2 e1 e2 hb
  have n1 := fun (w3 : World) (h : Bytes w3 S v1 (key.take (key.length / 2))) => new_ok h (by omega)
  have n2 := fun (w3 : World) (h : Bytes w3 S v2 (key.drop (key.length / 2))) => new_ok h (by omega)
  obtain ⟨K1, hK1⟩ : ∃ K, K = k1of key := ⟨_, rfl⟩
  obtain ⟨K2, hK2⟩ : ∃ K, K = k2of key := ⟨_, rfl⟩
  rw [← hK1, ← hK2]
  rw [show sched (key.take (key.length / 2)) = K1 from hK1.symm] at n1
  rw [show sched (key.drop (key.length / 2)) = K2 from hK2.symm] at n2
  clear hK1 hK2
  replace hv1 := Lib.hid hv1
  replace hv2 := Lib.hid hv2
  replace n1 := Lib.hid n1
  replace n2 := Lib.hid n2
  replace hl := Lib.hid hl
  replace hl1 := Lib.hid hl1
  replace hl2 := Lib.hid hl2
  obtain ⟨n, hn⟩ : ∃ n, n = w.heap.size := ⟨_, rfl⟩
  have HN := Lib.hid hn
  rw [← hn]
  clear hn
  go_enter Try.func42, Try.ntmps42
  go_wp2_with fail
  refine (n1.out _ (hv1.out.keep (by simp) (fun g _ hg => Below.heap_alloc _ _ _ hg))).mono ?_
  rintro e w1 ⟨p1, t1, u1, rfl, hc, hb1⟩
  have hbox : w1.heap[n]? = some (.cells #[.pointer none, .pointer none] 71 (0, 0)) := by
    rw [hb1.block n (by simp [HN.out]), HN.out]
    exact heap_alloc_new w _
  have hB1 : Below n w w1 := (((Below.refl _ _).alloc (Nat.le_refl _) _).trans (hb1.mono (by simp)) : Below w.heap.size w w1) |> fun h => HN.out ▸ h
  have hs1 : n < w1.heap.size := heap_lt hbox
  have hp1 : n < p1 := by have := hc.own; simp at this; have := HN.out; omega
  have cc0 := cell_of hbox 0
  have ff0 := frozen_of hbox 0
  have c00 : w1.cell? ⟨n, 0, none⟩ = some (.pointer none) := cc0
  clear cc0
  rw [← HN.out]
  have hC := Lib.hid hc
  have HB1 := Lib.hid hB1
  have HBX := Lib.hid hbox
  clear hc hb1 hB1 hbox
  go_wp2_with fail
  have hw2 : ∃ w2, w2 = w1.setCell ⟨n, 0, none⟩ (.pointer (some ⟨p1, 0, none⟩)) := ⟨_, rfl⟩
  obtain ⟨w2, hw2⟩ := hw2
  rw [← hw2]
  have hB2 : Below n w w2 := hw2 ▸ HB1.out.setCell (p := ⟨n, 0, none⟩) (Nat.le_refl n) _
  have hbox2 : w2.heap[n]? = some (.cells #[.pointer (some ⟨p1, 0, none⟩), .pointer none] 71 (0, 0)) := by
    rw [hw2, setCell_block HBX.out]
    rfl
  have hC2 : CipherAt w2 (fun g => n < g) p1 t1 u1 K1 := (hC.out.mono (G := fun g => n < g) (fun g hg => by simp at hg; have := HN.out; omega)).keep (by rw [hw2]; simp) (fun g hg _ => by rw [hw2]; exact setCell_heap_ne _ _ _ (by simp; omega))
  have hs2 : n < w2.heap.size := heap_lt hbox2
  clear hw2 c00 ff0 hs1
  refine (n2.out w2 (hv2.out.keep (by have := HN.out; omega) (fun g _ hg => hB2.block g (by have := HN.out; omega)))).mono ?_
  rintro e w3 ⟨p2, t2, u2, rfl, hc, hb3⟩
  have hbox3 := (hb3.block n hs2).trans hbox2
  have hC3 := hC2.keep hb3.size (fun g _ hg => hb3.block g hg)
  have hD3 := hc.mono (G := fun g => n < g) (fun g hg => by omega)
  have hB3 : Below n w w3 := hB2.trans (hb3.mono (by omega))
  have hs3 : n < w3.heap.size := heap_lt hbox3
  have cc0 := cell_of hbox3 0
  have cc1 := cell_of hbox3 1
  have ff1 := frozen_of hbox3 1
  have ff0 := frozen_of hbox3 0
  have c00 : w3.cell? ⟨n, 0, none⟩ = some (.pointer (some ⟨p1, 0, none⟩)) := cc0
  have c01 : w3.cell? ⟨n, 1, none⟩ = some (.pointer none) := cc1
  clear cc0 cc1
  have hbox4 := setCell_block hbox3 1 (.pointer (some ⟨p2, 0, none⟩))
  have hbox5 : (w3.setCell ⟨n, 1, none⟩ (.pointer (some ⟨p2, 0, none⟩))).heap[n]? = some (.cells #[.pointer (some ⟨p1, 0, none⟩), .pointer (some ⟨p2, 0, none⟩)] 71 (0, 0)) := hbox4
  have hP : PairAt (w3.setCell ⟨n, 1, none⟩ (.pointer (some ⟨p2, 0, none⟩))) (fun g => n < g) p1 p2 K1 K2 :=
    PairAt.keep ⟨⟨_, _, hC3⟩, _, _, hD3⟩ (by simp) (fun g hg _ => setCell_heap_ne _ _ _ (by simp; omega))
  have hB5 : Below n w (w3.setCell ⟨n, 1, none⟩ (.pointer (some ⟨p2, 0, none⟩))) := hB3.setCell (p := ⟨n, 1, none⟩) (Nat.le_refl n) _
  replace hbox5 := Lib.hid hbox5
  replace hP := Lib.hid hP
  replace hB5 := Lib.hid hB5
  clear hbox4 hbox3 hC3 hD3 hB3 hC2 hbox2 hB2 hb3 hc hC HB1 HBX
  go_wp2
  have keepC : ∀ wx, PairAt wx (fun g => n < g) p1 p2 K1 K2 → ∀ j v, PairAt (wx.setCell ⟨n, j, none⟩ v) (fun g => n < g) p1 p2 K1 K2 := fun wx h j v => h.keep (by simp) (fun g hg _ => setCell_heap_ne _ _ _ (by simp; omega))
  refine bodyPost_ret (v := .tuple #[.agg #[.pointer (some ⟨p1, 0, none⟩), .pointer (some ⟨p2, 0, none⟩)], .int .i64 0]) (results_ct Try.results42 _ _ rfl rfl (run_loadVar_row _ n 71 71 _ (0, 0) _ (setCell_block (setCell_block hbox5.out 0 (.pointer (some ⟨p1, 0, none⟩))) 1 (.pointer (some ⟨p2, 0, none⟩))) Try.underlying71 rfl (by kernel_rfl))) rfl ⟨p1, p2, rfl, PairAt.mono (F := fun g => n < g) ?_ (fun g hg => by omega), ?_⟩
  · exact keepC _ (keepC _ hP.out _ _) _ _
  · exact (hB5.out.setCell (p := ⟨n, 0, none⟩) (Nat.le_refl n) _).setCell (p := ⟨n, 1, none⟩) (Nat.le_refl n) _

set_option maxRecDepth 100000 in
set_option maxHeartbeats 4000000 in
theorem xtsOpen64_ok {w : World} {S : Nat → Prop} {kv : Value} {key : List UInt8} (hb : Bytes w S kv key) (hl : key.length = 64) (z : Nat) (hz : z ≤ 1099511627776) :
    Calls Try.prog 42 #[kv, .int .i64 z] w fun e w' => ∃ p1 p2, e = .returned (.tuple #[.agg #[.pointer (some ⟨p1, 0, none⟩), .pointer (some ⟨p2, 0, none⟩)], .int .i64 0]) ∧ PairAt w' (fun g => w.heap.size ≤ g) p1 p2 (k1of key) (k2of key) ∧ Below w.heap.size w w' := by
  obtain ⟨a, cap, rfl, hc1, hc2⟩ := Cells.shape hb
  unfold maxLen at hc2
  have hv1 := bytes_cut hb 0 32 (by omega) (by omega)
  have hv2 := bytes_cut hb 32 64 (by omega) (by omega)
  rw [hl] at hc1 ⊢
  have e1 : (key.drop 0).take (32 - 0) = key.take (key.length / 2) := by simp [hl]
  have e2 : (key.drop 32).take (64 - 32) = key.drop (key.length / 2) := by rw [List.take_of_length_le (by simp; omega), hl]
  rw [e1] at hv1
  rw [e2] at hv2
  have hl1 : (key.take (key.length / 2)).length = 32 := by simp; omega
  have hl2 : (key.drop (key.length / 2)).length = 32 := by simp; omega
  have hcut1 : ∀ w3, (Instr.sliceAt 22 (.slice a 64 cap) none (some (.int .i64 32)) none).run Try.prog w3 = .ok (sliced a 0 32 cap 1) w3 := fun w3 => cut_hi (P := Try.prog) (s := 1) w3 Try.underlying22 (by kernel_rfl) a 64 cap 32 (by omega)
  have hcut2 : ∀ w3, (Instr.sliceAt 22 (.slice a 64 cap) (some (.int .i64 32)) none none).run Try.prog w3 = .ok (sliced a 32 64 cap 1) w3 := fun w3 => cut_lo (P := Try.prog) (s := 1) w3 Try.underlying22 (by kernel_rfl) a 64 cap 32 (by omega)
  obtain ⟨v1, ev1⟩ : ∃ v, v = sliced a 0 32 cap 1 := ⟨_, rfl⟩
  obtain ⟨v2, ev2⟩ : ∃ v, v = sliced a 32 64 cap 1 := ⟨_, rfl⟩
  rw [← ev1] at hcut1 hv1
  rw [← ev2] at hcut2 hv2
  clear ev1 ev2 e1 e2 hb
  have n1 := fun (w3 : World) (h : Bytes w3 S v1 (key.take (key.length / 2))) => new_ok h (by omega)
  have n2 := fun (w3 : World) (h : Bytes w3 S v2 (key.drop (key.length / 2))) => new_ok h (by omega)
  obtain ⟨K1, hK1⟩ : ∃ K, K = k1of key := ⟨_, rfl⟩
  obtain ⟨K2, hK2⟩ : ∃ K, K = k2of key := ⟨_, rfl⟩
  rw [← hK1, ← hK2]
  rw [show sched (key.take (key.length / 2)) = K1 from hK1.symm] at n1
  rw [show sched (key.drop (key.length / 2)) = K2 from hK2.symm] at n2
  clear hK1 hK2
  replace hv1 := Lib.hid hv1
  replace hv2 := Lib.hid hv2
  replace n1 := Lib.hid n1
  replace n2 := Lib.hid n2
  replace hl := Lib.hid hl
  replace hl1 := Lib.hid hl1
  replace hl2 := Lib.hid hl2
  obtain ⟨n, hn⟩ : ∃ n, n = w.heap.size := ⟨_, rfl⟩
  have HN := Lib.hid hn
  rw [← hn]
  clear hn
  go_enter Try.func42, Try.ntmps42
  go_wp2_with fail
  refine (n1.out _ (hv1.out.keep (by simp) (fun g _ hg => Below.heap_alloc _ _ _ hg))).mono ?_
  rintro e w1 ⟨p1, t1, u1, rfl, hc, hb1⟩
  have hbox : w1.heap[n]? = some (.cells #[.pointer none, .pointer none] 71 (0, 0)) := by
    rw [hb1.block n (by simp [HN.out]), HN.out]
    exact heap_alloc_new w _
  have hB1 : Below n w w1 := (((Below.refl _ _).alloc (Nat.le_refl _) _).trans (hb1.mono (by simp)) : Below w.heap.size w w1) |> fun h => HN.out ▸ h
  have hs1 : n < w1.heap.size := heap_lt hbox
  have hp1 : n < p1 := by have := hc.own; simp at this; have := HN.out; omega
  have cc0 := cell_of hbox 0
  have ff0 := frozen_of hbox 0
  have c00 : w1.cell? ⟨n, 0, none⟩ = some (.pointer none) := cc0
  clear cc0
  rw [← HN.out]
  have hC := Lib.hid hc
  have HB1 := Lib.hid hB1
  have HBX := Lib.hid hbox
  clear hc hb1 hB1 hbox
  go_wp2_with fail
  have hw2 : ∃ w2, w2 = w1.setCell ⟨n, 0, none⟩ (.pointer (some ⟨p1, 0, none⟩)) := ⟨_, rfl⟩
  obtain ⟨w2, hw2⟩ := hw2
  rw [← hw2]
  have hB2 : Below n w w2 := hw2 ▸ HB1.out.setCell (p := ⟨n, 0, none⟩) (Nat.le_refl n) _
  have hbox2 : w2.heap[n]? = some (.cells #[.pointer (some ⟨p1, 0, none⟩), .pointer none] 71 (0, 0)) := by
    rw [hw2, setCell_block HBX.out]
    rfl
  have hC2 : CipherAt w2 (fun g => n < g) p1 t1 u1 K1 := (hC.out.mono (G := fun g => n < g) (fun g hg => by simp at hg; have := HN.out; omega)).keep (by rw [hw2]; simp) (fun g hg _ => by rw [hw2]; exact setCell_heap_ne _ _ _ (by simp; omega))
  have hs2 : n < w2.heap.size := heap_lt hbox2
  clear hw2 c00 ff0 hs1
  refine (n2.out w2 (hv2.out.keep (by have := HN.out; omega) (fun g _ hg => hB2.block g (by have := HN.out; omega)))).mono ?_
  rintro e w3 ⟨p2, t2, u2, rfl, hc, hb3⟩
  have hbox3 := (hb3.block n hs2).trans hbox2
  have hC3 := hC2.keep hb3.size (fun g _ hg => hb3.block g hg)
  have hD3 := hc.mono (G := fun g => n < g) (fun g hg => by omega)
  have hB3 : Below n w w3 := hB2.trans (hb3.mono (by omega))
  have hs3 : n < w3.heap.size := heap_lt hbox3
  have cc0 := cell_of hbox3 0
  have cc1 := cell_of hbox3 1
  have ff1 := frozen_of hbox3 1
  have ff0 := frozen_of hbox3 0
  have c00 : w3.cell? ⟨n, 0, none⟩ = some (.pointer (some ⟨p1, 0, none⟩)) := cc0
  have c01 : w3.cell? ⟨n, 1, none⟩ = some (.pointer none) := cc1
  clear cc0 cc1
  have hbox4 := setCell_block hbox3 1 (.pointer (some ⟨p2, 0, none⟩))
  have hbox5 : (w3.setCell ⟨n, 1, none⟩ (.pointer (some ⟨p2, 0, none⟩))).heap[n]? = some (.cells #[.pointer (some ⟨p1, 0, none⟩), .pointer (some ⟨p2, 0, none⟩)] 71 (0, 0)) := hbox4
  have hP : PairAt (w3.setCell ⟨n, 1, none⟩ (.pointer (some ⟨p2, 0, none⟩))) (fun g => n < g) p1 p2 K1 K2 :=
    PairAt.keep ⟨⟨_, _, hC3⟩, _, _, hD3⟩ (by simp) (fun g hg _ => setCell_heap_ne _ _ _ (by simp; omega))
  have hB5 : Below n w (w3.setCell ⟨n, 1, none⟩ (.pointer (some ⟨p2, 0, none⟩))) := hB3.setCell (p := ⟨n, 1, none⟩) (Nat.le_refl n) _
  replace hbox5 := Lib.hid hbox5
  replace hP := Lib.hid hP
  replace hB5 := Lib.hid hB5
  clear hbox4 hbox3 hC3 hD3 hB3 hC2 hbox2 hB2 hb3 hc hC HB1 HBX
  go_wp2
  have keepC : ∀ wx, PairAt wx (fun g => n < g) p1 p2 K1 K2 → ∀ j v, PairAt (wx.setCell ⟨n, j, none⟩ v) (fun g => n < g) p1 p2 K1 K2 := fun wx h j v => h.keep (by simp) (fun g hg _ => setCell_heap_ne _ _ _ (by simp; omega))
  refine bodyPost_ret (v := .tuple #[.agg #[.pointer (some ⟨p1, 0, none⟩), .pointer (some ⟨p2, 0, none⟩)], .int .i64 0]) (results_ct Try.results42 _ _ rfl rfl (run_loadVar_row _ n 71 71 _ (0, 0) _ (setCell_block (setCell_block hbox5.out 0 (.pointer (some ⟨p1, 0, none⟩))) 1 (.pointer (some ⟨p2, 0, none⟩))) Try.underlying71 rfl (by kernel_rfl))) rfl ⟨p1, p2, rfl, PairAt.mono (F := fun g => n < g) ?_ (fun g hg => by omega), ?_⟩
  · exact keepC _ (keepC _ hP.out _ _) _ _
  · exact (hB5.out.setCell (p := ⟨n, 0, none⟩) (Nat.le_refl n) _).setCell (p := ⟨n, 1, none⟩) (Nat.le_refl n) _
theorem xtsOpen_ok {w : World} {S : Nat → Prop} {kv : Value} {key : List UInt8} (hb : Bytes w S kv key) (hl : key.length = 32 ∨ key.length = 64) (z : Nat) (hz : z ≤ 1099511627776) :
    Calls Try.prog 42 #[kv, .int .i64 z] w fun e w' => ∃ p1 p2, e = .returned (.tuple #[.agg #[.pointer (some ⟨p1, 0, none⟩), .pointer (some ⟨p2, 0, none⟩)], .int .i64 0]) ∧ PairAt w' (fun g => w.heap.size ≤ g) p1 p2 (k1of key) (k2of key) ∧ Below w.heap.size w w' := by
  rcases hl with h | h
  · exact xtsOpen32_ok hb h z hz
  · exact xtsOpen64_ok hb h z hz
end Go.Proofs.Ytbgfdbidbjlaaaa.Fd

import Derived.Test.YtifocofpplhacaaDiskE
namespace Go.Proofs.Ytifocofpplhacaa.D
open Go Go.RowKit K

theorem infoInt : (Try.prog.info? 3).map (fun i => (i.zero, i.size, i.bytes)) = some (some (.int .i64 0), 1, 8) := by kernel_rfl
theorem owns_lt {w : World} {base : Nat} {e : TypeId} {sz : Nat} {v : Value} {n : Nat} {xs : List Value} (h : w.ownsRow base e sz v n xs) (g : Nat) (hg : v.ownBlock = some g) : g < w.heap.size := by
  rcases h.2 with ⟨rfl, _⟩ | ⟨g', cap, cur, rfl, _, hg', _⟩
  · simp [Value.ownBlock] at hg
  · simp [Value.ownBlock] at hg
    subst hg
    exact heap_lt hg'
theorem owns_ge {w : World} {base : Nat} {e : TypeId} {sz : Nat} {v : Value} {n : Nat} {xs : List Value} (h : w.ownsRow base e sz v n xs) (g : Nat) (hg : v.ownBlock = some g) : base ≤ g := by
  rcases h.2 with ⟨rfl, _⟩ | ⟨g', cap, cur, rfl, hb, _, _⟩
  · simp [Value.ownBlock] at hg
  · simp [Value.ownBlock] at hg
    omega
set_option maxHeartbeats 400000 in
theorem flush_nil (w : World) : Calls Try.prog 21 #[.pointer none] w fun e w' => e = .returned (.int .i64 11) ∧ w = w' := by
  go_enter Try.func21, Try.ntmps21
  go_wp2
  go_ret
  exact ⟨rfl, rfl⟩
set_option maxHeartbeats 400000 in
theorem pending_nil (w : World) : Calls Try.prog 15 #[.pointer none] w fun e w' => e = .returned (.slice none 0 0) ∧ w = w' := by
  go_enter Try.func15, Try.ntmps15
  go_wp2
  go_ret
  exact ⟨rfl, rfl⟩

set_option maxHeartbeats 400000 in
theorem round_ok (k n : Int) (h : 1 ≤ n ∧ n ≤ 1000000) (w : World) : Calls Try.prog 16 #[.int .i64 k, .int .i64 n] w fun e w' => e = .returned (.int .i64 (k % n)) ∧ w = w' := by
  have h1 : k.tmod n < n := Int.tmod_lt_of_pos k (by omega)
  have h2 : -n < k.tmod n := by
    have := Int.lt_tmod_of_pos k (b := n) (by omega)
    exact this
  go_enter Try.func16, Try.ntmps16
  go_wp2
  go_ret
  refine ⟨ret_int ?_, rfl⟩
  rw [Int.add_emod_right, Int.tmod_def, Int.sub_mul_emod_self_left]


/-- 64 bytes that begin with a text -/
def sec (l : List UInt8) : List UInt8 := l.take 64 ++ List.replicate (64 - l.length) 0
theorem sec_length (l : List UInt8) : (sec l).length = 64 := by simp [sec]; omega
theorem sec_step {l : List UInt8} {k : Nat} {cu : Array Value} (hk : k < 64) (hl : k < l.length) (h : cu.toList = u8s (l.take k ++ List.replicate (64 - k) 0)) : (cu.setIfInBounds k (.int .u8 (l[k]).toNat)).toList = u8s (l.take (k + 1) ++ List.replicate (64 - (k + 1)) 0) := by
  have h1 : (u8s (l.take k)).length = k := by simp [u8s]; omega
  have h2 : 64 - k = (64 - (k + 1)) + 1 := by omega
  rw [Array.toList_setIfInBounds, h, h2, List.replicate_succ, List.take_succ_eq_append_getElem hl]
  simp only [u8s, List.map_append, List.map_cons] at h1 ⊢
  rw [List.set_append_right _ _ (by omega), h1, Nat.sub_self]
  simp [u8]
theorem sec_done {w : World} {g : Nat} {cu : Array Value} {l m : List UInt8} (hg : w.heap[g]? = some (.cells cu 5 (0, 0))) (h : cu.toList = u8s m) (hm : m = sec l) : Bytes w (· = g) (.slice (some ⟨g, 0, none⟩) 64 64) (sec l) := by
  subst hm
  refine ⟨by simp [u8s], some ⟨g, 0, none⟩, 64, by rw [sec_length], by rw [sec_length]; exact Nat.le_refl _, by unfold maxLen; omega, fun h => (by cases h), .inr ⟨g, 0, rfl, rfl, heap_lt hg, fun j u hu => ?_⟩⟩
  rw [Nat.zero_add, cell_of hg, ← Array.getElem?_toList, h]
  exact hu

set_option maxRecDepth 100000 in
set_option maxHeartbeats 400000 in
theorem sector_ok (s : ByteArray) (w : World) : Calls Try.prog 19 #[.string s] w fun e w' => e = .returned (.slice (some ⟨w.heap.size, 0, none⟩) 64 64) ∧ Bytes w' (· = w.heap.size) (.slice (some ⟨w.heap.size, 0, none⟩) 64 64) (sec s.data.toList) ∧ Below w.heap.size w w' := by
  have hmk : ∀ u : World, _ := fun u => make_full (P := Try.prog) u Try.underlying22 infoByte rfl 64 64 rfl (by omega) (by omega)
  go_enter Try.func19, Try.ntmps19
  go_wp2
  go_loopw [4] (fun i wr => ∃ k : Nat, k ≤ 64 ∧ k ≤ s.size ∧ i = .int .i64 k ∧ Below w.heap.size w wr ∧ ∃ cu : Array Value, Hid (wr.heap[w.heap.size]? = some (.cells cu 5 (0, 0)) ∧ cu.toList = u8s (s.data.toList.take k ++ List.replicate (64 - k) 0)))
    (fun i _ => 64 - (intOf i).toNat)
  case atStart => exact ⟨0, by omega, by omega, rfl, (Below.refl _ _).alloc (Nat.le_refl _) _, _, heap_alloc_new _ _, by rw [u8s_zero]; simp⟩
  case round =>
    obtain ⟨k, hk, hk2, rfl, hbr, cu, HCU⟩ := hrel
    by_cases hlt : k < 64
    · by_cases hlt2 : k < s.size
      · have hcz : wr.cell? ⟨w.heap.size, k, none⟩ = some (.int .u8 0) := by
          rw [cell_of HCU.out.1, ← Array.getElem?_toList, HCU.out.2]
          have h1 : (s.data.toList.take k).length = k := by rw [List.length_take, Array.length_toList]; exact Nat.min_eq_left hk2
          simp only [u8s, List.getElem?_map]
          rw [List.getElem?_append_right (by omega), h1, Nat.sub_self, List.getElem?_replicate, if_pos (by omega)]
          rfl
        have hfz := frozen_of HCU.out.1 k
        go_wp2
        go_roundw
        case rel =>
          refine ⟨k + 1, by omega, by omega, by go_num, ?_, _, setCell_block HCU.out.1 _ _, ?_⟩
          · exact (Chg.setCell (C := (· = w.heap.size)) (Chg.of_below hbr _) (fun _ => rfl) _).below (Nat.le_refl _) (fun k hk => by omega)
          · exact sec_step hlt (by simpa using hlt2) HCU.out.2
        case measure => simp [intOf]; omega
      · go_wp2
        go_ret
        have hks : k = s.data.toList.length := by simp; omega
        refine ⟨rfl, sec_done HCU.out.1 HCU.out.2 (by rw [sec, ← hks, List.take_of_length_le (by omega), List.take_of_length_le (by omega)]), hbr⟩
    · go_wp2
      go_ret
      have hks : k = 64 := by omega
      subst hks
      refine ⟨rfl, sec_done HCU.out.1 HCU.out.2 (by
        have : 64 ≤ s.data.toList.length := by simpa using hk2
        rw [sec, Nat.sub_self, Nat.sub_eq_zero_of_le this]), hbr⟩

set_option maxRecDepth 100000 in
set_option maxHeartbeats 1000000 in
theorem of_bad {w : World} {S : Nat → Prop} {v : Value} {l : List UInt8} (hb : Bytes w S v l) (hbad : l.length < 64 ∨ l.length % 64 ≠ 0) (hl : l.length ≤ 4000000) : Calls Try.prog 12 #[v] w fun e w' => e = .returned (.tuple #[.pointer none, .int .i64 1]) ∧ Below w.heap.size w w' := by
  obtain ⟨a, cap, hv, hc1, hc2⟩ := Cells.shape hb
  obtain ⟨m, hm⟩ : ∃ m, m = l.length := ⟨_, rfl⟩
  rw [← hm] at hv hc1 hbad hl
  clear hm hb
  subst hv
  have hd : (m : Int).tdiv 64 = ((m / 64 : Nat) : Int) := by
    rw [Int.tdiv_eq_ediv_of_nonneg (by omega)]
    omega
  have hr : (m : Int).tmod 64 = ((m % 64 : Nat) : Int) := by
    rw [Int.tmod_eq_emod_of_nonneg (by omega)]
    omega
  by_cases hlt : m / 64 < 1
  · have HN := Lib.hid (new_bad ((m / 64 : Nat) : Int) (by omega) w)
    go_enter Try.func12, Try.ntmps12
    go_wp2_with fail
    refine HN.out.mono ?_
    rintro e w1 ⟨rfl, rfl⟩
    go_wp2
    go_ret2
    exact ⟨rfl, Below.refl _ _⟩
  · have HN := Lib.hid (new_ok (m / 64) (by omega) (by omega) w)
    have hrn : ((m % 64 : Nat) : Int) ≠ 0 := by omega
    go_enter Try.func12, Try.ntmps12
    go_wp2_with fail
    refine HN.out.mono ?_
    rintro e w1 ⟨p, F, rfl, hat, hF, hbel⟩
    go_wp2
    go_ret2
    exact ⟨rfl, hbel⟩

set_option maxRecDepth 100000 in
set_option maxHeartbeats 1000000 in
theorem pending_ok {w : World} {F : Nat → Prop} {p : Nat} {D : Dk} (h : At w F p D) : Calls Try.prog 15 #[.pointer (some ⟨p, 0, none⟩)] w (fun e w' => ∃ v, e = .returned v ∧ w'.ownsRow w.heap.size 3 1 v D.pend.length (D.pend.map fun q => .int .i64 q.1) ∧ Below w.heap.size w w') := by
  obtain ⟨pv, pcs, c4, hpc, hpe⟩ := h.pendAt
  obtain ⟨n, hn⟩ : ∃ n, n = D.pend.length := ⟨_, rfl⟩
  rw [← hn] at hpc
  have hnb : n ≤ 1000000000 := by have := h.few; omega
  obtain ⟨pa, pcap, rfl, hp1, hp2⟩ := Cells.shape hpc
  have H := Lib.hid h
  have HN := Lib.hid hn
  have HPC := Lib.hid hpc
  have HPE := Lib.hid hpe
  clear h hn hpc hpe
  have HP : ∀ wr, Below w.heap.size w wr → Cells wr (fun k => F k ∧ k ≠ p) (.slice pa n pcap) n 2 pcs ∧ Pend wr F D.pend pcs := fun wr hb =>
    ⟨HPC.out.keep hb.size (fun b _ hbl => hb.block b hbl), HPE.out.keep hb.size (fun b _ hbl => hb.block b hbl)⟩
  have HPH := Lib.hid HP
  clear HP
  have hz1 : (Value.int .i64 0).cells.size = 1 := rfl
  go_enter Try.func15, Try.ntmps15
  go_wp2
  go_loopw [2, 12] (fun o i wr => ∃ k : Nat, k ≤ n ∧ i = .int .i64 k ∧ Below w.heap.size w wr ∧ Hid (wr.ownsRow w.heap.size 3 1 o k ((D.pend.take k).map fun q => .int .i64 q.1)))
    (fun _ i _ => n - (intOf i).toNat)
  case atStart => exact ⟨0, Nat.zero_le _, rfl, Below.refl _ _, World.ownsRow_nil _ _ _ _⟩
  case round =>
    obtain ⟨k, hk, rfl, hbr, HO⟩ := hrel
    by_cases hlt : k < n
    · obtain ⟨hcl, hpd⟩ := HPH.out wr hbr
      obtain ⟨b, off, ba, bc, rfl, _, hbl, hSb, hc0, hc1, hbb, hb64⟩ := pend_at hcl hpd HN.out k hlt
      obtain ⟨q, hq⟩ : ∃ q, q = D.pend[k]'(HN.out ▸ hlt) := ⟨_, rfl⟩
      rw [← hq] at hc0 hbb hb64
      have HQ := Lib.hid hq
      clear hcl hpd hq hbb hb64
      have ho2 : ((wr.alloc (.cells #[.int .i64 q.1, .slice ba 64 bc] 72)).alloc (.cells #[.int .i64 q.1] 3)).ownsRow _ _ _ _ _ _ := owns_keep HO.out (fun g hg => (Below.heap_alloc _ _ _ (by have := owns_lt HO.out g hg; simp; omega)).trans (Below.heap_alloc _ _ _ (owns_lt HO.out g hg)))
      have hcb : Cells ((wr.alloc (.cells #[.int .i64 q.1, .slice ba 64 bc] 72)).alloc (.cells #[.int .i64 q.1] 3)) (fun _ => True) (.slice (some ⟨wr.heap.size + 1, 0, none⟩) 1 1) 1 1 [.int .i64 q.1] := by
        refine ⟨rfl, some ⟨wr.heap.size + 1, 0, none⟩, 1, rfl, Nat.le_refl _, by unfold maxLen; omega, fun h => (by cases h), .inr ⟨_, 0, rfl, trivial, by simp, fun j u hu => ?_⟩⟩
        have := heap_alloc_new (wr.alloc (.cells #[.int .i64 q.1, .slice ba 64 bc] 72)) (.cells #[.int .i64 q.1] 3)
        simp only [World.size_alloc] at this
        rw [cell_of this, ← hu, Nat.zero_add]
        simp
      have HO2 := Lib.hid ho2
      have HCB := Lib.hid hcb
      have hbk := fun g => owns_ge HO.out g
      have HBK := Lib.hid hbk
      clear ho2 hcb HO hbk
      go_wp2_with (at_builtin; refine K.append ?_ (.tmp 16) (.tmp 19) 30 ?_ w.heap.size 3 (.int .i64 0) 1 8 Try.underlying30 infoInt hz1 (by omega) _ k _ ?_ HO2.out (fun _ => True) _ 1 [.int .i64 q.1] ?_ HCB.out (by simp [Value.oneCell']) (by unfold maxLen; omega) (by omega) ?_ ?_)
      · rfl
      · rfl
      · rfl
      · rfl
      · have := hbr.size; simp; omega
      intro v' w2 x1 x2 x3 x4
      have X1 := Lib.hid x1
      clear x1
      go_wp2
      go_roundw
      case rel =>
        refine ⟨k + 1, by omega, by go_num, ?_, ?_⟩
        · have hb2 : Below w.heap.size w ((wr.alloc (.cells #[.int .i64 q.1, .slice ba 64 bc] 72)).alloc (.cells #[.int .i64 q.1] 3)) := (hbr.alloc hbr.size _).alloc (by have := hbr.size; simp; omega) _
          exact ((Chg.of_below hb2 No).grown x2 (fun g hg hl => absurd (HBK.out g hg) (by omega))).no
        · show Hid _
          have e : (D.pend.take (k + 1)).map (fun q : Nat × List UInt8 => Value.int .i64 q.1) = (D.pend.take k).map (fun q => .int .i64 q.1) ++ [.int .i64 q.1] := by
            rw [HQ.out, List.take_succ_eq_append_getElem (HN.out ▸ hlt), List.map_append]
            rfl
          rw [e, List.map_take]
          exact X1
      case measure => simp [intOf]; omega
    · go_wp2
      go_ret
      have hkn : k = D.pend.length := by rw [← HN.out]; omega
      have := HO.out
      rw [hkn, List.take_length] at this
      exact ⟨_, rfl, this, hbr⟩
end Go.Proofs.Ytifocofpplhacaa.D

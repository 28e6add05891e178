/-
  Texts of this claim, laid together by a program of mine. No condition beyond what each theorem names.
-/
import Derived.Test.YtbgfdbidbjlaaaaBckXopen
/-
  Blocks built into a slice. No condition beyond what each theorem names.
-/
namespace Go.Proofs.Ytbgfdbidbjlaaaa.Fd
open Go Go.RowKit K

theorem run_lit1 {b : List UInt8} (hb : b.length = 16) (w : World) : (Instr.buildSlice 93 1 #[(0, .agg (u8s b).toArray)]).run Try.prog w = .ok (.slice (some ⟨w.heap.size, 0, none⟩) 1 1) (w.alloc (.cells (u8s b).toArray 61)) := by
  match b, hb with
  | [a0, a1, a2, a3, a4, a5, a6, a7, a8, a9, a10, a11, a12, a13, a14, a15], _ =>
    simp only [u8s, List.map_cons, List.map_nil]
    go_simp
theorem run_lit2 {b c : List UInt8} (hb : b.length = 16) (hc : c.length = 16) (w : World) : (Instr.buildSlice 93 2 #[(0, .agg (u8s b).toArray), (1, .agg (u8s c).toArray)]).run Try.prog w = .ok (.slice (some ⟨w.heap.size, 0, none⟩) 2 2) (w.alloc (.cells (u8s (b ++ c)).toArray 61)) := by
  match b, hb with
  | [a0, a1, a2, a3, a4, a5, a6, a7, a8, a9, a10, a11, a12, a13, a14, a15], _ =>
    match c, hc with
    | [c0, c1, c2, c3, c4, c5, c6, c7, c8, c9, c10, c11, c12, c13, c14, c15], _ =>
      simp only [u8s, List.map_cons, List.map_nil]
      go_simp
theorem run_arrayAt (w : World) (a : Addr) (cap : Nat) : (Instr.arrayAt 61 (.slice (some a) 16 cap)).run Try.prog w = .ok (.pointer (some a)) w := by
  simp only [Instr.arrayAt, run_underlying Try.underlying61, Sem.run_bind, Result.andThen]
  rfl
theorem ex_lit1 {ρ : Operand → Value} {x : Operand} {ds : Option Tmp} {ty : TypeId} {ps : String} {af : Array Edge} {gu : Option (Nat × Bool)} {b : List UInt8} (hb : b.length = 16) (hx : ρ x = .agg (u8s b).toArray) (w : World) :
    (execOp ρ ⟨ds, .buildSlice 93 1 #[(0, x)], ty, ps, af, gu⟩).run Try.prog w = .ok (.value (.slice (some ⟨w.heap.size, 0, none⟩) 1 1)) (w.alloc (.cells (u8s b).toArray 61)) := by
  have h := run_lit1 hb w
  unfold execOp
  simp [hx, h, Result.andThen]
theorem ex_lit2 {ρ : Operand → Value} {x y : Operand} {ds : Option Tmp} {ty : TypeId} {ps : String} {af : Array Edge} {gu : Option (Nat × Bool)} {b c : List UInt8} (hb : b.length = 16) (hc : c.length = 16) (hx : ρ x = .agg (u8s b).toArray) (hy : ρ y = .agg (u8s c).toArray) (w : World) :
    (execOp ρ ⟨ds, .buildSlice 93 2 #[(0, x), (1, y)], ty, ps, af, gu⟩).run Try.prog w = .ok (.value (.slice (some ⟨w.heap.size, 0, none⟩) 2 2)) (w.alloc (.cells (u8s (b ++ c)).toArray 61)) := by
  have h := run_lit2 hb hc w
  unfold execOp
  simp [hx, hy, h, Result.andThen]
theorem wpList_run {P : Program} {w w' : World} {ops : Array Oper} {rest : List Oper} {o : Oper} {a : Act} {Q : Exit → Act → World → Prop} (hgd : o.guard = none) (v : Value) (hr : (execOp a.eval o).run P w = .ok (.value v) w')
    (h : wpList P ops Q rest (a.put o.dst v) w') : wpList P ops Q (o :: rest) a w :=
  wpList_plain hgd fun K hK => by
    unfold Oper.wp
    rw [hr]
    exact hK _ _ h
end Go.Proofs.Ytbgfdbidbjlaaaa.Fd
/-
  xts: the tweaks of a unit. No condition beyond what each theorem names.
-/
namespace Go.Proofs.Ytbgfdbidbjlaaaa.Fd
open Go Go.RowKit K

theorem infoBlock : (Try.prog.info? 61).map (fun i => (i.zero, i.size, i.bytes)) = some (some (.agg #[.int .u8 0, .int .u8 0, .int .u8 0, .int .u8 0, .int .u8 0, .int .u8 0, .int .u8 0, .int .u8 0, .int .u8 0, .int .u8 0, .int .u8 0, .int .u8 0, .int .u8 0, .int .u8 0, .int .u8 0, .int .u8 0]), 16, 16) := by kernel_rfl
/-- the cells of blocks, one behind the other -/
def blkCells (L : Nat → List UInt8) (k : Nat) : List Value := (List.range k).flatMap fun j => u8s (L j)
theorem blkCells_succ {L : Nat → List UInt8} {k : Nat} : blkCells L (k + 1) = blkCells L k ++ u8s (L k) := by simp [blkCells, List.range_succ]
theorem blkCells_length {L : Nat → List UInt8} (hL : ∀ m, (L m).length = 16) {k : Nat} : (blkCells L k).length = k * 16 := by
  induction k with
  | zero => rfl
  | succ k ih => rw [blkCells_succ, List.length_append, ih, u8s_length, hL]; omega
theorem blkCells_get {L : Nat → List UInt8} (hL : ∀ m, (L m).length = 16) {k : Nat} : ∀ {j i : Nat}, j < k → i < 16 → (blkCells L k)[j * 16 + i]? = some (.int .u8 ((L j).getD i 0).toNat) := by
  induction k with
  | zero => intro j i h; omega
  | succ k ih =>
    intro j i hj hi
    rw [blkCells_succ]
    by_cases h : j < k
    · rw [List.getElem?_append_left (by rw [blkCells_length hL]; omega)]
      exact ih h hi
    · obtain rfl : j = k := by omega
      rw [List.getElem?_append_right (by rw [blkCells_length hL]; omega), blkCells_length hL, Nat.add_sub_cancel_left]
      simp [u8s, u8, List.getD, hL, hi]
/-- the tweaks, from the first one on -/
def twB (t : List UInt8) : Nat → List UInt8
  | 0 => t
  | k + 1 => double (twB t k)
theorem twB_length {t : List UInt8} (h : t.length = 16) (k : Nat) : (twB t k).length = 16 := by
  cases k with
  | zero => exact h
  | succ k => exact double_length
theorem encrypt_length {ks : List UInt32} {b : List UInt8} (hb : b.length = 16) : (encrypt ks b).length = 16 := encR_length hb

set_option maxRecDepth 100000 in
set_option maxHeartbeats 4000000 in
theorem tweaks_ok {w : World} {F : Nat → Prop} {p1 p2 : Nat} {k1 k2 : List UInt32} (h : PairAt w F p1 p2 k1 k2) (h4 : 8 ≤ k2.length) (hk4 : k2.length % 4 = 0) (unit m : Nat) (hu : unit ≤ 9223372036854775807) (hm : m ≤ 1000) :
    Calls Try.prog 43 #[.agg #[.pointer (some ⟨p1, 0, none⟩), .pointer (some ⟨p2, 0, none⟩)], .int .i64 unit, .int .i64 m] w fun e w' => ∃ v, e = .returned v ∧
      w'.ownsRow w.heap.size 61 16 v m (blkCells (twB (encrypt k2 (number unit))) m) ∧ Below w.heap.size w w' := by
  obtain ⟨n, hn⟩ : ∃ n, n = w.heap.size := ⟨_, rfl⟩
  have HN := Lib.hid hn
  obtain ⟨_, tb2, v2, hc2⟩ := h
  have hbox : (w.alloc (.cells #[.pointer (some ⟨p1, 0, none⟩), .pointer (some ⟨p2, 0, none⟩)] 71)).heap[n]? = some (.cells #[.pointer (some ⟨p1, 0, none⟩), .pointer (some ⟨p2, 0, none⟩)] 71 (0, 0)) := by
    rw [hn]
    exact heap_alloc_new w _
  have hcA : CipherAt (w.alloc (.cells #[.pointer (some ⟨p1, 0, none⟩), .pointer (some ⟨p2, 0, none⟩)] 71)) F p2 tb2 v2 k2 := hc2.keep (by simp) (fun g _ hl => Below.heap_alloc _ _ _ hl)
  have hBA : Below n w (w.alloc (.cells #[.pointer (some ⟨p1, 0, none⟩), .pointer (some ⟨p2, 0, none⟩)] 71)) := by
    rw [hn]
    exact (Below.refl _ _).alloc (Nat.le_refl _) _
  replace hbox := Lib.hid hbox
  replace hcA := Lib.hid hcA
  replace hBA := Lib.hid hBA
  obtain ⟨T, hT⟩ : ∃ T, T = encrypt k2 (number unit) := ⟨_, rfl⟩
  have hTl : T.length = 16 := hT ▸ encrypt_length number_length
  rw [← hn, ← hT]
  replace hT := Lib.hid hT
  clear hn hc2
  go_enter Try.func43, Try.ntmps43
  go_wp2
  rw [← HN.out]
  obtain ⟨w1, hw1⟩ : ∃ w1, w1 = w.alloc (.cells #[.pointer (some ⟨p1, 0, none⟩), .pointer (some ⟨p2, 0, none⟩)] 71) := ⟨_, rfl⟩
  rw [← hw1] at hbox hcA hBA ⊢
  clear hw1
  have hdr : ∀ w3, Chg No w1.drew w3 → Chg No w1 w3 := fun w3 h => ⟨h.os, h.tape, h.output, h.size, h.block⟩
  replace hdr := Lib.hid hdr
  have hnl := heap_lt hbox.out
  have hcP := cell_of hbox.out 1
  have hcP2 : w1.cell? ⟨n, 1, none⟩ = some (.pointer (some ⟨p2, 0, none⟩)) := hcP
  clear hcP
  replace hcP2 := Lib.hid hcP2
  refine RA.regionT (Chg No) (Chg No) [1, 1, 1, 4, 4, 2, 7] [6] (fun _ v w3 => ∃ b, v = .pointer (some ⟨b, 0, none⟩) ∧ w1.heap.size ≤ b ∧ Arr w3 b 61 (List.replicate 16 0)) (fun _ => True) (by kernel_rfl) (Chg.refl _ _) (fun _ _ h => h) (fun _ _ _ h k => h.trans k) (fun _ _ h k => k) (trivial) (by kernel_rfl) (by kernel_rfl) ?_
  intro cx
  refine RA.fa (by kernel_rfl) (by rfl) (by rfl) (y' := .pointer (some ⟨n, 1, none⟩)) (fun w3 hp => by show (Instr.fieldAt _ _ _).run Try.prog w3 = _; go_simp) ?_
  refine RA.ld (by kernel_rfl) (by rfl) (by rfl) (y' := .pointer (some ⟨p2, 0, none⟩)) (fun w3 hp => by
    have h1 := ((hdr.out _ hp.1).cell (p := ⟨n, 1, none⟩) hnl id).trans hcP2.out
    show (Instr.loadAt _ _).run Try.prog w3 = _
    go_simp) ?_
  repeat (first | refine RA.mv (by kernel_rfl) (by rfl) (by rfl) ?_ | refine RA.as (by kernel_rfl) (by rfl) (by rfl) ?_ | refine RA.nc (by kernel_rfl) (by rfl) (by rfl) ?_)
  refine RA.kc (P := Try.prog) [_] (.agg (u8s (number unit)).toArray) (fun _ => True) (fun _ _ => by go_simp) (by kernel_rfl) (by rfl) (by rfl) (by kernel_rfl) (fun _ _ _ h => h) rfl (fun w3 hp hH => (number_ok unit hu w3).mono (by rintro e w4 ⟨rfl, h2⟩; exact ⟨rfl, Chg.of_below h2 _, trivial⟩)) ?_
  refine RA.kc (P := Try.prog) [_, _] (.agg (u8s T).toArray) (fun _ => True) (fun _ _ => by go_simp) (by kernel_rfl) (by rfl) (by rfl) (by kernel_rfl) (fun _ _ _ h => h) rfl (fun w3 hp hH => (encrypt_ok (hcA.out.keep (hdr.out _ hp.1).size (fun g _ hl => (hdr.out _ hp.1).block g hl id)) h4 hk4 (number unit) number_length).mono (by rintro e w4 ⟨rfl, h2⟩; exact ⟨by rw [hT.out], Chg.of_below h2 _, trivial⟩)) ?_
  refine RA.fr (by kernel_rfl) (by rfl) (fun v a b h h2 => by obtain ⟨b1, h3, h4, h5⟩ := h2; exact ⟨b1, h3, h4, h5.keep (h.block b1 (heap_lt h5) id)⟩) (fun w3 hp => ⟨.pointer (some ⟨w3.heap.size, 0, none⟩), w3.alloc (.cells #[.int .u8 0, .int .u8 0, .int .u8 0, .int .u8 0, .int .u8 0, .int .u8 0, .int .u8 0, .int .u8 0, .int .u8 0, .int .u8 0, .int .u8 0, .int .u8 0, .int .u8 0, .int .u8 0, .int .u8 0, .int .u8 0] 61), by
    show (execOp _ _).run Try.prog w3 = _
    go_simp, (Chg.refl _ _).alloc _, w3.heap.size, rfl, hp.1.size, heap_alloc_new w3 _⟩) (fun u => ?_)
  refine RA.stt (fun w4 => ∃ b, u = .pointer (some ⟨b, 0, none⟩) ∧ w1.heap.size ≤ b ∧ Arr w4 b 61 (T) ∧ Chg No w1 w4) (by kernel_rfl) (by rfl) (by kernel_rfl) (fun _ _ h k => by obtain ⟨b1, h3, h4, h5, h6⟩ := k; exact ⟨b1, h3, h4, h5.keep (h.block b1 (heap_lt h5) id), h6.trans h⟩) (fun w3 hp0 _ => by
    have hp := hp0.first (by kernel_rfl)
    obtain ⟨b1, rfl, h4, h5⟩ := hp.fact 0 rfl (by kernel_rfl)
    refine ⟨w3.setRow b1 (u8s (T)).toArray, RA.ex_store (by rfl) (by rfl) (block_store h5 List.length_replicate _ hTl), b1, rfl, h4, h5.setRow _, ((hdr.out _ hp.1).setRow (g := b1) (fun h => absurd h4 (by omega)) _)⟩) ?_
  refine RA.RA.doneT (fun w5 hH => ?_)
  simp only [RA.put, List.foldr_cons, List.foldr_nil, cx, Act.put, List.setIfInBounds_toArray, List.set_cons_succ, List.set_cons_zero]
  obtain ⟨b, rfl, hb1, hA, hC⟩ := hH
  have hB5 : Below n w w5 := hBA.out.trans ((Chg.no hC).mono (by omega))
  have hnb : n ≤ b := by omega
  have hs5 : b < w5.heap.size := heap_lt hA
  replace hA := Lib.hid hA
  replace hB5 := Lib.hid hB5
  clear hC hcP2 hcA hBA hbox hdr hb1
  have hz1 : (Value.agg #[.int .u8 0, .int .u8 0, .int .u8 0, .int .u8 0, .int .u8 0, .int .u8 0, .int .u8 0, .int .u8 0, .int .u8 0, .int .u8 0, .int .u8 0, .int .u8 0, .int .u8 0, .int .u8 0, .int .u8 0, .int .u8 0]).cells.size = 16 := rfl
  go_wp2
  go_loopw [6, 14] (fun o i wr => ∃ k : Nat, k ≤ m ∧ i = .int .i64 k ∧ Below n w wr ∧ b < wr.heap.size ∧ o.ownBlock ≠ some b ∧ Hid (Arr wr b 61 (twB T k)) ∧ Hid (wr.ownsRow n 61 16 o k (blkCells (twB T) k)))
    (fun _ i _ => m - (intOf i).toNat)
  case atStart => exact ⟨0, by omega, rfl, hB5.out, hs5, by simp [Value.ownBlock], hA.out, World.ownsRow_nil _ _ _ _⟩
  case round =>
    clear hA hB5 hs5
    obtain ⟨k, hk, rfl, hbr, hs, hne, HA, HO⟩ := hrel
    by_cases hlt : k < m
    · obtain ⟨X, hX⟩ : ∃ X, X = twB T k := ⟨_, rfl⟩
      have hXl : X.length = 16 := hX ▸ twB_length hTl k
      rw [← hX] at HA
      have hld := Lib.hid (run_loadAt_arr (P := Try.prog) HA.out Try.underlying61 (size61 hXl))
      have hX1 : twB T (k + 1) = double X := by rw [twB, hX]
      have hX2 : blkCells (twB T) (k + 1) = blkCells (twB T) k ++ u8s X := by rw [blkCells_succ, hX]
      obtain ⟨C, hC⟩ : ∃ C, C = blkCells (twB T) k := ⟨_, rfl⟩
      rw [← hC] at HO hX2
      have HO2 := Lib.hid (show (wr.alloc (.cells (u8s X).toArray 61)).ownsRow _ _ _ _ _ _ from owns_keep HO.out (fun g hg => Below.heap_alloc _ _ _ (owns_lt HO.out g hg)))
      have HCB := Lib.hid (lit_cells wr (u8s X).toArray 61 1 16 (by simp [u8s_length, hXl]) (by unfold maxLen; omega))
      have HBK := Lib.hid (fun g => owns_ge HO.out g)
      have HNB := Lib.hid hbr.size
      replace hbr := Lib.hid hbr
      replace hne := Lib.hid hne
      replace hX := Lib.hid hX
      replace hX1 := Lib.hid hX1
      replace hX2 := Lib.hid hX2
      replace hC := Lib.hid hC
      clear HO
      go_wp2_with (first
        | (refine wpList_load rfl 61 _ rfl _ _ rfl hld.out ?_)
        | (refine wpList_run rfl _ (ex_lit1 hXl rfl wr) ?_)
        | (at_builtin; refine K.append ?_ (.tmp 16) (.tmp 18) 93 ?_ n 61 (.agg #[.int .u8 0, .int .u8 0, .int .u8 0, .int .u8 0, .int .u8 0, .int .u8 0, .int .u8 0, .int .u8 0, .int .u8 0, .int .u8 0, .int .u8 0, .int .u8 0, .int .u8 0, .int .u8 0, .int .u8 0, .int .u8 0]) 16 16 Try.underlying93 infoBlock hz1 (by omega) _ k _ ?_ HO2.out (fun _ => True) _ 1 (u8s X).toArray.toList ?_ HCB.out (u8s_one X) (by unfold maxLen; omega) (by omega) ?_ ?_))
      · rfl
      · rfl
      · have := HNB.out; have := HN.out; omega
      intro v' w2 x1 x2 x3 x4
      have hA2 : Arr w2 b 61 X := HA.out.keep ((x2.block b (by simp; omega) (fun h => hne.out (by rw [← h]))).trans (Below.heap_alloc _ _ _ hs))
      have hb2 : Below n w w2 := by
        have hB := hbr.out.alloc (by have := HNB.out; have := HN.out; omega) (.cells (u8s X).toArray 61)
        refine ⟨x2.os.trans hB.os, x2.tape.trans hB.tape, x2.output.trans hB.output, Nat.le_trans hB.size x2.size, fun q hq => ?_⟩
        exact (x2.block q (by have := HNB.out; have := HN.out; simp; omega) (fun h => by have := HBK.out q h.symm; omega)).trans (hB.block q hq)
      have hs2 : b < w2.heap.size := heap_lt hA2
      have hne2 : v'.ownBlock ≠ some b := by
        rcases x4 with e | ⟨g, e, hg⟩
        · rw [e]; exact hne.out
        · rw [e]; simp at hg ⊢; omega
      have hld2 := Lib.hid (run_loadAt_arr (P := Try.prog) hA2 Try.underlying61 (size61 hXl))
      replace x1 := Lib.hid x1
      replace hA2 := Lib.hid hA2
      replace hb2 := Lib.hid hb2
      replace hne2 := Lib.hid hne2
      clear x2 x3 x4 HO2 HCB HA hld HBK hne
      go_wp2_with (refine wpList_load rfl 61 _ rfl _ _ rfl hld2.out ?_)
      refine (double_ok X hXl _).mono ?_
      rintro e w3 ⟨rfl, hb3⟩
      have hA3 := hA2.out.keep (hb3.block b hs2)
      have hst := Lib.hid (block_store hA3 hXl (double X) double_length)
      have hO3 := owns_keep x1.out (fun g hg => hb3.block g (owns_lt x1.out g hg))
      have hO4 : (w3.setRow b (u8s (double X)).toArray).ownsRow n 61 16 v' (k + 1) (C ++ u8s X) := owns_keep hO3 (fun g hg => setRow_other _ _ _ _ (fun e => hne2.out (by rw [← e]; exact hg)))
      have hB3 : Below n w w3 := hb2.out.trans (hb3.mono (by omega))
      have hA4 := Lib.hid (hA3.setRow (double X))
      have hB4 := Lib.hid (below_setRow hB3 hnb (u8s (double X)).toArray)
      have hs4 : b < (w3.setRow b (u8s (double X)).toArray).heap.size := heap_lt hA4.out
      replace hO4 := Lib.hid hO4
      clear hA3 hO3 hB3 hb3
      go_wp2_with (refine wpList_store rfl 61 _ _ rfl _ _ rfl rfl hst.out ?_)
      go_roundw
      case rel =>
        refine ⟨k + 1, by omega, by go_num, hB4.out, hs4, hne2.out, ?_, ?_⟩
        · show Arr _ _ _ _
          rw [hX1.out]
          exact hA4.out
        · show World.ownsRow _ _ _ _ _ _ _
          rw [hX2.out]
          exact hO4.out
      case measure => simp [intOf]; omega
    · obtain rfl : k = m := by omega
      have HO2 := HO
      replace hbr := Lib.hid hbr
      replace hne := Lib.hid hne
      clear HA
      go_wp2
      go_ret
      exact ⟨_, rfl, HO2.out, hbr.out⟩
end Go.Proofs.Ytbgfdbidbjlaaaa.Fd
/-
  xts.May. No condition beyond what each theorem names.
-/
namespace Go.Proofs.Ytbgfdbidbjlaaaa.Fd
open Go Go.RowKit K

def keyOk (n : Nat) (z : Int) : Prop := (n = 32 ∨ n = 64) ∧ 0 ≤ z ∧ z ≤ 1099511627776

set_option maxRecDepth 100000 in
set_option maxHeartbeats 4000000 in
theorem mayBad_ok (a : Option Addr) (n cap : Nat) (z : Int) (hn : n ≤ 1000000) (hz : -9223372036854775808 ≤ z) (hz1 : z ≤ 9223372036854775807) (hb : ¬ keyOk n z) (d : Value) (w : World) :
    Calls Try.prog 30 #[.slice a n cap, .int .i64 z, d] w fun e w' => e = .returned (.bool false) ∧ Below w.heap.size w w' := by
  have hc := Lib.hid (xtsOpen_bad a n cap z hn hz hz1 hb w)
  go_enter Try.func30, Try.ntmps30
  go_wp2_with fail
  refine hc.out.mono ?_
  rintro e w1 ⟨rfl, hb1⟩
  have hB := Lib.hid hb1
  clear hb1
  go_wp2
  go_ret
  refine ⟨rfl, ?_⟩
  have := hB.out.alloc hB.out.size (.cells #[.pointer none, .pointer none] 71)
  exact this
theorem ok_of {key : List UInt8} {z : Nat} (h : keyOk key.length z) : (key.length = 32 ∨ key.length = 64) ∧ z ≤ 1099511627776 := ⟨h.1, by have := h.2.2; omega⟩

set_option maxRecDepth 100000 in
set_option maxHeartbeats 4000000 in
theorem mayKey_ok {w : World} {S : Nat → Prop} {kv : Value} {key : List UInt8} (hb : Bytes w S kv key) (z : Nat) (hk : keyOk key.length z) (a : Option Addr) (n cap : Nat) (hn : n ≤ 1000000) :
    Calls Try.prog 30 #[kv, .int .i64 z, .slice a n cap] w fun e w' => e = .returned (.bool (decide (n % 16 = 0 ∧ n ≤ 4096))) ∧ Below w.heap.size w w' := by
  have hc := Lib.hid (xtsOpen_ok hb (ok_of hk).1 z (ok_of hk).2)
  obtain ⟨q, hq⟩ : ∃ q, q = n % 16 := ⟨_, rfl⟩
  have hq1 : (n : Int) % 16 = q := by omega
  have hq2 : (n : Int).tmod 16 = q := by rw [Int.tmod_eq_emod_of_nonneg (by omega)]; exact hq1
  rw [← hq]
  replace hq := Lib.hid hq
  have hfin : ∀ w1 p1 p2, Below w.heap.size w w1 → Below w.heap.size w (w1.alloc (.cells #[.pointer (some ⟨p1, 0, none⟩), .pointer (some ⟨p2, 0, none⟩)] 71)) := fun w1 p1 p2 h => h.alloc h.size _
  replace hfin := Lib.hid hfin
  by_cases h0 : q = 0
  · subst h0
    by_cases h1 : n ≤ 4096
    all_goals go_enter Try.func30, Try.ntmps30
    all_goals go_wp2_with fail
    all_goals refine hc.out.mono ?_
    all_goals rintro e w1 ⟨p1, p2, rfl, _, hb1⟩
    all_goals replace hb1 := Lib.hid hb1
    all_goals go_wp2
    all_goals go_ret
    all_goals exact ⟨ret_bool (by simp; omega), hfin.out _ _ _ hb1.out⟩
  · have e0 : ((q : Int) == 0) = false := by simp; omega
    go_enter Try.func30, Try.ntmps30
    go_wp2_with fail
    refine hc.out.mono ?_
    rintro e w1 ⟨p1, p2, rfl, _, hb1⟩
    replace hb1 := Lib.hid hb1
    go_wp2
    go_ret
    exact ⟨ret_bool (by simp; omega), hfin.out _ _ _ hb1.out⟩
end Go.Proofs.Ytbgfdbidbjlaaaa.Fd

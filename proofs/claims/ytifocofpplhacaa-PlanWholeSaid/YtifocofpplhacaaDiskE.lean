/-
  The disk: Put, Flush, Pending. No condition beyond what each theorem names.
-/
import Derived.Test.YtifocofpplhacaaDiskD
namespace Go.Proofs.Ytifocofpplhacaa.D
open Go Go.RowKit K

theorem setCell_size (w : World) (a : Addr) (v : Value) : (w.setCell a v).heap.size = w.heap.size := by simp

/-- One more pending write. -/
theorem At.push {w : World} {F : Nat → Prop} {p : Nat} {D : Dk} (h : At w F p D) : ∃ pv pcs, w.cell? ⟨p, 4, none⟩ = some pv ∧ w.ownsRow 0 72 2 pv D.pend.length pcs ∧ pv.ownBlock ≠ some p ∧ (∀ u ∈ pcs, u.oneCell' = true) ∧
    ∀ (v' cv : Value) (n : Nat) (l : List UInt8) (w2 : World), n < D.size → l.length = 64 → D.pend.length < 1000000000 → w2.ownsRow 0 72 2 v' (D.pend.length + 1) (pcs ++ [.int .i64 n, cv]) →
      Chg (fun k => pv.ownBlock = some k) w w2 → (v'.ownBlock = pv.ownBlock ∨ ∃ g, v'.ownBlock = some g ∧ w.heap.size ≤ g) → Bytes w2 (fun k => w.heap.size ≤ k ∧ v'.ownBlock ≠ some k) cv l →
      Then w F p { D with pend := D.pend ++ [(n, l)] } (w2.setCell ⟨p, 4, none⟩ v') := by
  obtain ⟨⟨sv, pv, pcs, h1, h2, h3, h4, h5, h6, h7, h8, h9⟩, hF, hl, a1, a2, a3, a4⟩ := h
  refine ⟨pv, pcs, cell_of h1 4, h3, h5, h8.one, ?_⟩
  intro v' cv n l w2 hn hl64 hfew hown hch hblk hcv
  have hps := hl p hF
  have hp2 : w2.heap[p]? = w.heap[p]? := hch.block p hps h5
  have hv'p : v'.ownBlock ≠ some p := by
    rcases hblk with e | ⟨g, e, hg⟩
    · rw [e]; exact h5
    · rw [e]; intro h; cases h; omega
  have hk3 : ∀ k, k ≠ p → (w2.setCell ⟨p, 4, none⟩ v').heap[k]? = w2.heap[k]? := fun k hk => setCell_heap_ne _ _ _ hk
  have hsvv : ∀ g, sv.ownBlock = some g → v'.ownBlock ≠ some g := by
    intro g hg
    rcases hblk with e | ⟨g', e, hg'⟩
    · rw [e]; exact h6 g hg
    · rw [e]; intro h; cases h; have := hl g (h7 g (.inl hg)); omega
  have hF2 : ∀ k, F k → k < w2.heap.size := fun k hk => Nat.lt_of_lt_of_le (hl k hk) hch.size
  refine ⟨fun k => (F k ∨ w.heap.size ≤ k) ∧ k < w2.heap.size, ⟨⟨sv, v', pcs ++ [.int .i64 n, cv], ?_, ?_, ?_, h4, hv'p, hsvv, ?_, ?_, h9⟩, ⟨.inl hF, hF2 p hF⟩, fun k hk => by simpa using hk.2, a1, a2, ?_, by simp; omega⟩, ?_, fun k hk => hk.1⟩
  · rw [setCell_block (hp2.trans h1)]
    rfl
  · refine ⟨h2.1, h2.2.imp id ?_⟩
    rintro ⟨g, cap, cur, e, hb, hg, r⟩
    subst e
    have hgp : g ≠ p := fun e => h4 (by simp [Value.ownBlock, e])
    have hgs := heap_lt hg
    exact ⟨g, cap, cur, rfl, hb, (hk3 g hgp).trans ((hch.block g hgs (h6 g rfl)).trans hg), r⟩
  · refine ⟨by have := hown.1; simp at this ⊢; try omega, hown.2.imp (fun h => by simp at h ⊢; try omega) ?_⟩
    rintro ⟨g, cap, cur, e, hb, hg, r⟩
    subst e
    refine ⟨g, cap, cur, by simp, hb, (hk3 g (fun e => hv'p (by simp [Value.ownBlock, e]))).trans hg, by simpa using r⟩
  · intro g hg
    rcases hg with hg | hg
    · exact ⟨.inl (h7 g (.inl hg)), hF2 g (h7 g (.inl hg))⟩
    · rcases hblk with e | ⟨g', e, hg'⟩
      · have := h7 g (.inr (by rw [← e]; exact hg))
        exact ⟨.inl this, hF2 g this⟩
      · rw [e] at hg
        cases hg
        exact ⟨.inr hg', (hown.lt _ e).2⟩
  · refine Pend.snoc (p := (n, l)) ?_ hl64 ?_
    · refine (Cells.keep hcv (by simp) (fun k hk hkl => hk3 k (fun e => by have := hk.1; omega))).mono (fun k hk hS => ⟨⟨.inr hS.1, by simpa using hk⟩, fun e => by have := hS.1; omega, fun e => ?_, hS.2⟩)
      have := hl k (h7 k (.inl e))
      have := hS.1
      omega
    · refine (Pend.keep hch.size (fun k hk hkl => hch.block k hkl (fun e => hk.2.2.2 e)) h8 |>.keep (w' := w2.setCell ⟨p, 4, none⟩ v') (by simp) (fun k hk _ => hk3 k hk.2.1)).mono (fun k hk hS => ⟨⟨.inl hS.1, by simpa using hk⟩, hS.2.1, hS.2.2.1, ?_⟩)
      rcases hblk with e | ⟨g', e, hg'⟩
      · rw [e]; exact hS.2.2.2
      · rw [e]; intro h; cases h; have := hl k hS.1; omega
  · intro q hq
    rcases List.mem_append.1 hq with hq | hq
    · exact a3 q hq
    · simp at hq; subst hq; exact hn
  · exact (hch.mono (fun k hk e => h7 k (.inr e))).setCell (fun _ => hF) _

set_option maxHeartbeats 400000 in
theorem put_nil (n : Int) (v : Value) (w : World) : Calls Try.prog 20 #[.pointer none, .int .i64 n, v] w fun e w' => e = .returned (.int .i64 11) ∧ w = w' := by
  go_enter Try.func20, Try.ntmps20
  go_wp2
  go_ret
  exact ⟨rfl, rfl⟩

/-- A write: what it tells, and what it leaves. -/
def Dk.putE (d : Dk) (n : Int) (l : Nat) : Int := if d.stepped.dark then 11 else mayE d.stepped n l
def Dk.put (d : Dk) (n : Int) (l : List UInt8) : Dk := if d.stepped.dark = false ∧ mayE d.stepped n l.length = 0 then { d.stepped with pend := d.stepped.pend ++ [(n.toNat, l)] } else d.stepped

def PutPost (w : World) (F : Nat → Prop) (p : Nat) (D : Dk) (n : Int) (l : List UInt8) (e : Ending) (w' : World) : Prop := e = .returned (.int .i64 (D.putE n l.length)) ∧ Then w F p (D.put n l) w'

set_option maxRecDepth 100000 in
set_option maxHeartbeats 1000000 in
theorem put_ok {w : World} {F : Nat → Prop} {p : Nat} {D : Dk} (h : At w F p D) (hfew : D.pend.length < 1000000000) (n : Int) {S : Nat → Prop} {v : Value} {l : List UInt8} (hb : Bytes w S v l) (hS : ∀ k, S k → ¬ F k) :
    Calls Try.prog 20 #[.pointer (some ⟨p, 0, none⟩), .int .i64 n, v] w (PutPost w F p D n l) := by
  have HST := Lib.hid (step_ok h)
  have HB := Lib.hid hb
  obtain ⟨a, cap, rfl, hc1, hc2⟩ := Cells.shape hb
  clear hb
  cases hdk : D.stepped.dark with
  | true =>
    have HDK := Lib.hid hdk
    clear hdk
    go_enter Try.func20, Try.ntmps20
    go_wp2_with fail
    refine HST.out.mono ?_
    rw [HDK.out]
    rintro e w1 ⟨rfl, hat, hch⟩
    go_wp2
    go_ret
    refine ⟨ret_int ?_, ?_⟩
    · rw [Dk.putE, if_pos HDK.out]
    · have e : D.put n l = D.stepped := by rw [Dk.put, if_neg (by rw [HDK.out]; simp)]
      rw [e]
      exact ⟨F, hat, hch, fun _ => .inl⟩
  | false =>
    by_cases hm : mayE D.stepped n l.length = 0
    · obtain ⟨hn, hl64⟩ : (0 ≤ n ∧ n < D.stepped.size) ∧ l.length = 64 := by
        unfold mayE at hm
        split at hm
        · rename_i h1
          split at hm
          · rename_i h2; exact ⟨h1, h2⟩
          · omega
        · omega
      have HDK := Lib.hid hdk
      clear hdk
      have HME := Lib.hid hm
      clear hm
      have HLL := Lib.hid hl64
      clear hl64
      go_enter Try.func20, Try.ntmps20
      go_wp2_with fail
      refine HST.out.mono ?_
      rw [HDK.out]
      rintro e w1 ⟨rfl, hat, hch⟩
      go_wp2_with fail
      refine (may_ok hat n (HB.out.chg hch (fun k _ hk => hS k hk))).mono ?_
      rw [HME.out]
      rintro e w2 ⟨rfl, rfl⟩
      obtain ⟨pv, pcs, hc4, hown, hpvp, hone, hpush⟩ := hat.push
      have HPU := Lib.hid hpush
      have HOW := Lib.hid hown
      have HON := Lib.hid hone
      clear hpush hown hone
      obtain ⟨np, hnp⟩ : ∃ np, np = D.stepped.pend.length := ⟨_, rfl⟩
      have hnp9 : np < 1000000000 := by rw [hnp]; exact hfew
      have hB1 := HB.out.chg hch (fun k _ hk => hS k hk)
      have HB1 := Lib.hid hB1
      clear hB1
      go_wp2
      refine RA.regionT (Chg No) (· = ·) [5, 5, 5, 5, 1, 5, 5, 3, 1, 3, 6, 5, 5, 7] [10, 13] (fun _ _ _ => True) (fun _ => True) (by kernel_rfl) (Chg.refl _ _) (fun _ _ h => h ▸ Chg.refl _ _) (fun _ _ _ h k => h.trans k) (fun _ _ h k => h ▸ k) trivial (by kernel_rfl) (by kernel_rfl) ?_
      intro c
      have hdr : ∀ w3, Chg No w1.drew w3 → Chg No w1 w3 := fun w3 h => ⟨h.os, h.tape, h.output, h.size, h.block⟩
      refine RA.pmv (by rfl) (by rfl) (by rfl) ?_
      refine RA.pmv (by rfl) (by rfl) (by rfl) ?_
      refine RA.pnc (by rfl) (by rfl) (by rfl) ?_
      refine RA.pfa (by rfl) (by rfl) (by rfl) (y' := .pointer (some ⟨p, 4, none⟩)) (fun w3 => by show (Instr.fieldAt _ _ _).run Try.prog w3 = _; go_simp) ?_
      refine RA.ld (by kernel_rfl) (by rfl) (by rfl) (y' := pv) (fun w3 hp => by
        have h1 := ((hdr _ hp.1).cell (p := ⟨p, 4, none⟩) (cell_lt hc4) id).trans hc4
        show (Instr.loadAt _ _).run Try.prog w3 = _
        go_simp) ?_
      refine RA.pmv (by rfl) (by rfl) (by rfl) ?_
      refine RA.pmv (by rfl) (by rfl) (by rfl) ?_
      refine RA.qc (P := Try.prog) [_] (fun u w3 => ∃ ba bc, u = .slice ba 64 bc ∧ Bytes w3 (fun k => w1.heap.size ≤ k) u l) (fun _ _ => True) (fun _ _ => by go_simp) (by kernel_rfl) (by rfl) (by rfl) (by kernel_rfl)
        (fun u a b h ⟨ba, bc, h1, h2⟩ => ⟨ba, bc, h1, h2.chg h (fun _ _ _ => id)⟩) (fun _ _ _ _ _ => trivial) rfl (fun w3 hp _ => by
        have hR := hdr _ hp.1
        refine (clone_ok (w := w3) (HB1.out.chg hR (fun _ _ _ => id)) (by rw [HLL.out]; omega)).mono ?_
        rintro e w4 ⟨u, rfl, ho, hbe, _⟩
        have hcl := Cells.own ho
        obtain ⟨ba, bc, rfl, _, _⟩ := Cells.shape hcl
        refine ⟨_, rfl, Chg.of_below hbe _, ⟨ba, bc, by rw [HLL.out], hcl.mono (fun k _ hk => Nat.le_trans hR.size hk.2)⟩, trivial⟩) (fun u => ?_)
      refine RA.pv (by kernel_rfl) (by rfl) (by rfl) (y := .agg #[.int .i64 n, u]) (fun w3 hp => by
        obtain ⟨ba, bc, hu, _⟩ := hp.fact 0 rfl (by kernel_rfl)
        subst hu
        show (execOp _ _).run Try.prog w3 = _
        go_simp) ?_
      refine RA.bq (fun x w3 => Cells w3 (fun _ => True) x 1 2 [.int .i64 n, u]) (fun _ _ => True) (by kernel_rfl) (by rfl) (by kernel_rfl) (fun _ _ _ h k => k.chg h (fun _ _ _ => id)) (fun _ _ _ _ _ => trivial) (fun w3 hp _ => by
        obtain ⟨ba, bc, hu, hbb⟩ := hp.fact 0 rfl (by kernel_rfl)
        subst hu
        refine ⟨.slice (some ⟨w3.heap.size, 0, none⟩) 1 1, w3.alloc (.cells #[.int .i64 n, .slice ba 64 bc] 72), ?_, (Chg.refl _ _).alloc _, ?_, trivial⟩
        · show (execOp _ _).run Try.prog w3 = _
          go_simp
        · exact (Cells.own (World.ownsRow_lit (base := 0) (e := 72) (size := 2) w3 #[.int .i64 n, .slice ba 64 bc] 1 (Nat.zero_le _) (by unfold maxLen; omega) rfl)).mono (fun _ _ _ => trivial)) (fun x => ?_)
      refine RA.bqt (fun v' w4 => (w4.ownsRow 0 72 2 v' (np + 1) (pcs ++ [.int .i64 n, u]) ∧ Chg (fun k => pv.ownBlock = some k) w1 w4 ∧ (v'.ownBlock = pv.ownBlock ∨ ∃ g, v'.ownBlock = some g ∧ w1.heap.size ≤ g) ∧ Bytes w4 (fun k => w1.heap.size ≤ k ∧ v'.ownBlock ≠ some k) u l)) (by kernel_rfl) (by rfl) (by kernel_rfl) (fun _ _ _ h k => h ▸ k) (fun w3 hp0 _ => by
        have hp := hp0.first (by kernel_rfl)
        have hR := hdr _ hp.1
        have hx := hp.fact 0 rfl (by kernel_rfl)
        obtain ⟨ba, bc, hu, hbb⟩ := hp.fact 1 rfl (by kernel_rfl)
        have hown := HOW.out
        rw [← hnp] at hown
        have hown3 : w3.ownsRow 0 72 2 pv np pcs := owns_keep hown (fun g hg => hR.block g (hown.lt g hg).2 id)
        obtain ⟨i0, hi1, hi2, hi3, hi4⟩ := info_parts infoPut
        obtain ⟨v', w4, hrun, r1, r2, _, r4⟩ := run_append_cells (P := Try.prog) w3 0 67 67 72 i0 _ 2 32 Try.underlying67 hi1 hi2 hi3 hi4 rfl (by decide) pv np pcs hown3 _ x 1 _ hx (by
          intro y hy
          rcases List.mem_cons.1 hy with rfl | hy
          · rfl
          · simp at hy; subst hy; rw [hu]; rfl) (by unfold maxLen; omega) (by omega) (Nat.zero_le _)
        refine ⟨v', w4, RA.ex_append (by rfl) (by rfl) hrun, r1, (hR.mono (fun _ _ h => h.elim)).grown r2 (fun _ h _ => h), ?_, ?_⟩
        · rcases r4 with e | ⟨g, e, hg⟩
          · exact .inl e
          · exact .inr ⟨g, e, Nat.le_trans hR.size hg⟩
        · refine (Cells.keep (hbb.mono (S' := fun k => w1.heap.size ≤ k ∧ k < w3.heap.size) (fun k hk hS => ⟨hS, hk⟩)) r2.size (fun k hS hk => r2.block k hk (fun e => by have := (hown.lt k e.symm).2; have := hS.1; omega))).mono (fun k _ hS => ⟨hS.1, fun e => ?_⟩)
          rcases r4 with e' | ⟨g, e', hg⟩
          · rw [e'] at e
            have := (hown.lt k e).2
            have := hS.1
            omega
          · rw [e'] at e
            cases e
            have := hS.2
            omega) (fun v' => ?_)
      refine RA.pnc (by rfl) (by rfl) (by rfl) ?_
      refine RA.pfa (by rfl) (by rfl) (by rfl) (y' := .pointer (some ⟨p, 4, none⟩)) (fun w3 => by show (Instr.fieldAt _ _ _).run Try.prog w3 = _; go_simp) ?_
      refine RA.stt (fun w5 => Then w1 F p { D.stepped with pend := D.stepped.pend ++ [(n.toNat, l)] } w5) (by kernel_rfl) (by rfl) (by kernel_rfl) (fun _ _ h k => h ▸ k) (fun w4 _ hH => by
        obtain ⟨q1, q2, q3, q4⟩ := hH
        have hcell : w4.cell? ⟨p, 4, none⟩ = some pv := (q2.cell (p := ⟨p, 4, none⟩) (cell_lt hc4) hpvp).trans hc4
        have hfr : w4.frozen? ⟨p, 4, none⟩ = false := by
          obtain ⟨_, _, _, _, _, _, _, _, _, _, hf⟩ := hat.cells
          exact (q2.frozen (p := ⟨p, 4, none⟩) (cell_lt hc4) hpvp).trans (hf 4)
        have hnn : ((n.toNat : Nat) : Int) = n := Int.toNat_of_nonneg hn.1
        have hfin := HPU.out v' u n.toNat l w4 (by omega) HLL.out (by rw [← hnp]; exact hnp9) (by rw [← hnp, hnn]; exact q1) q2 q3 q4
        obtain ⟨g, cp, hv⟩ : ∃ g cp, v' = .slice (some ⟨g, 0, none⟩) (np + 1) cp := by
          rcases q1.2 with ⟨_, h0⟩ | ⟨g, cp, cur, h0, _⟩
          · omega
          · exact ⟨g, cp, h0⟩
        clear q1 q3 q4 hnn
        subst hv
        refine ⟨_, RA.ex_store (by rfl) (by rfl) (w' := w4.setCell ⟨p, 4, none⟩ (.slice (some ⟨g, 0, none⟩) (np + 1) cp)) ?_, hfin⟩
        clear hfin
        show (Instr.storeAt _ _ _).run Try.prog w4 = _
        go_simp) (RA.RA.doneT (fun w5 hH => ?_))
      simp only [RA.put, List.foldr_cons, List.foldr_nil, c, Act.put, List.setIfInBounds_toArray, List.set_cons_succ, List.set_cons_zero]
      have HF5 := Lib.hid hH
      clear hH
      go_wp2
      go_ret
      obtain ⟨F', f1, f2, f3⟩ := HF5.out
      refine ⟨ret_int ?_, F', ?_, hch.then f2 (fun _ _ h => h), fun k hk => (f3 k hk).imp id (fun h => Nat.le_trans hch.size h)⟩
      · rw [Dk.putE, if_neg (by rw [HDK.out]; simp), HME.out]
      · have e : D.put n l = { D.stepped with pend := D.stepped.pend ++ [(n.toNat, l)] } := by
          rw [Dk.put, if_pos ⟨HDK.out, HME.out⟩]
        rw [e]
        exact f1
    · have HDK := Lib.hid hdk
      clear hdk
      obtain ⟨me, hme⟩ : ∃ me, me = mayE D.stepped n l.length := ⟨_, rfl⟩
      have hme0 : (me != 0) = true := by rw [hme]; simpa using hm
      have HME := Lib.hid hme
      clear hme hm
      go_enter Try.func20, Try.ntmps20
      go_wp2_with fail
      refine HST.out.mono ?_
      rw [HDK.out]
      rintro e w1 ⟨rfl, hat, hch⟩
      go_wp2_with fail
      refine (may_ok hat n (HB.out.chg hch (fun k _ hk => hS k hk))).mono ?_
      rw [← HME.out]
      rintro e w2 ⟨rfl, rfl⟩
      go_wp2
      go_ret
      refine ⟨ret_int ?_, ?_⟩
      · rw [Dk.putE, if_neg (by rw [HDK.out]; simp), HME.out]
      · have e : D.put n l = D.stepped := by
          rw [Dk.put, if_neg]
          rw [← HME.out]
          simp at hme0
          exact fun h => hme0 h.2
        rw [e]
        exact ⟨F, hat, hch, fun _ => .inl⟩
end Go.Proofs.Ytifocofpplhacaa.D

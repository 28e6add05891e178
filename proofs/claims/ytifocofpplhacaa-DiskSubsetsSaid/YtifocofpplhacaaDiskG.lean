/-
  Get where nothing is pending. No condition beyond what each theorem names.
-/
import Derived.Test.YtifocofpplhacaaDiskF
import Derived.RangeFuncNested
import Derived.RangeFuncBound
import Derived.RangeFuncCalls
import Derived.RangeFuncLeaves
import Derived.RangeFuncFrom
import Derived.RangeFuncKeeps
import Derived.Shelf.Abstract
import Derived.WalkKit
import Derived.OwnWalkIn
import Derived.TacticsInMore
import Derived.LoopNIn
import Derived.LoopIn
namespace Go.Proofs.Ytifocofpplhacaa.D
open Go Go.RowKit Go.Shelf K
attribute [local go_sem] Oper.semAt_some

theorem back_in (F : Fence) (n : Nat) (h6 : F.fn 42) (hro : F.round = none) (a : Option Addr) (len cap : Nat) (w : World) :
    CallsIn F n Try.prog 42 #[.slice a len cap] w fun e w' => e = .returned (.func (.func 52) #[] #[.pointer (some ⟨w.heap.size, 0, none⟩)]) ∧ w' = w.alloc (.cells #[.slice a len cap] 67) := by
  refine callsIn_of_wp Try.func42 rfl h6 ?_ hro
  simp only [Try.ntmps42, List.size_toArray, List.length_cons, List.length_nil, Nat.reduceAdd, Nat.reduceSub, Array.replicate_succ, Array.replicate_zero, List.push_toArray, List.append_toArray, List.nil_append, List.cons_append]
  gi_wp2
  go_ret
  exact ⟨rfl, rfl⟩

set_option maxRecDepth 100000 in
theorem back1_nil_in (F : Fence) (n : Nat) (h8 : F.fn 52) (hro : F.round = none) (l Bs : Nat) (a : Option Addr) (cap : Nat) (J : World → Prop) (W : World) (hBs : W.cell? ⟨Bs, 0, none⟩ = some (.slice a 0 cap)) (h0 : J W) :
    CallsIn F n Try.prog 52 #[.func (.yield l) #[] #[], .pointer (some ⟨Bs, 0, none⟩)] W fun e W' => (∃ v, e = .returned v) ∧ J W' := by
  refine callsIn_of_wp Try.func52 rfl h8 ?_ hro
  simp only [Try.ntmps52, List.size_toArray, List.length_cons, List.length_nil, Nat.reduceAdd, Nat.reduceSub, Array.replicate_succ, Array.replicate_zero, List.push_toArray, List.append_toArray, List.nil_append, List.cons_append]
  gi_wp2
  gi_loopw [3] (fun i wr => i = .int .i64 (-1) ∧ J wr) (fun _ _ => 0)
  case atStart => exact ⟨rfl, h0⟩
  case round =>
    obtain ⟨rfl, hJs⟩ := hrel
    gi_wp2
    go_end0
    exact ⟨⟨_, rfl⟩, hJs⟩

theorem back_stops_nil (F : Fence) (n : Nat) (h8 : F.fn 52) (hro : F.round = none) (Bs : Nat) (a : Option Addr) (cap : Nat) (w : World) (hBs : w.cell? ⟨Bs, 0, none⟩ = some (.slice a 0 cap)) (hl : Bs < w.heap.size) :
    SeqStopsK F n Try.prog 52 #[.pointer (some ⟨Bs, 0, none⟩)] (fun x : Empty => x.elim) (fun _ _ => True) (fun _ => True) (fun _ => False) 0 w := fun l J _ W hW _ _ _ h0 =>
  (back1_nil_in F n h8 hro l Bs a cap (J []) W ((hW.cell (p := ⟨Bs, 0, none⟩) hl).trans hBs) h0).mono fun _ _ ⟨he, hj⟩ => ⟨he, .inl ⟨[], trivial, hj⟩⟩

theorem back_ok (a : Option Addr) (len cap : Nat) (w : World) :
    Calls Try.prog 42 #[.slice a len cap] w fun e w' => e = .returned (.func (.func 52) #[] #[.pointer (some ⟨w.heap.size, 0, none⟩)]) ∧ w' = w.alloc (.cells #[.slice a len cap] 67) := callsIn_wide.1 (back_in .wide 3 trivial rfl a len cap w)

/-- what stands in a sector -/
def Dk.at (d : Dk) (n : Nat) : List UInt8 := (d.sure.drop (n * 64)).take 64

set_option maxRecDepth 100000 in
set_option maxHeartbeats 1000000 in
theorem get_ok {w : World} {F : Nat → Prop} {p : Nat} {D : Dk} (h : At w F p D) (hp : D.pend = []) (n : Nat) (hn : n < D.size) : Calls Try.prog 17 #[.pointer (some ⟨p, 0, none⟩), .int .i64 n] w (fun e w' => ∃ v, e = .returned (.tuple #[v, .int .i64 0]) ∧ w'.ownsRow w.heap.size 5 1 v 64 (u8s (D.at n)) ∧ Below w.heap.size w w') := by
  obtain ⟨sg, scap, c3, hsb⟩ := h.sureBytes
  obtain ⟨pv, pcs, c4, hpc, hpe⟩ := h.pendAt
  obtain ⟨pa, pcap, rfl, hp1, hp2⟩ := Cells.shape hpc
  rw [hp] at c4
  clear hpc hpe hp1 hp2
  obtain ⟨m, hm⟩ : ∃ m, m = D.sure.length := ⟨_, rfl⟩
  rw [← hm] at c3 hsb
  have hd : (decide ((0 : Int) ≤ n ∧ (n : Int) < D.size)) = true := by simp; omega
  have hpl := h.lim p h.self
  have hHH : ∀ u, Below w.heap.size w u → Calls Try.prog 41 #[.pointer (some ⟨p, 0, none⟩), .int .i64 n] u fun e w' => e = .returned (.bool true) ∧ u = w' := fun u hb => by
    have := has_ok (h.keep hb.size (fun k hk hl => hb.block k hl)) n
    rw [hd] at this
    exact this
  have HHH := Lib.hid hHH
  have H := Lib.hid h
  have HM := Lib.hid hm
  clear h hHH
  refine (callsIn_wide (n := 3)).1 ?_
  refine callsIn_of_wp_marks Try.func17 rfl trivial ?_ rfl
  simp only [Try.ntmps17, List.size_toArray, List.length_cons, List.length_nil, Nat.reduceAdd, Nat.reduceSub, Array.replicate_succ, Array.replicate_zero, List.push_toArray, List.append_toArray, List.nil_append, List.cons_append]
  refine wpIn_wide.2 ?_
  go_wp2_with fail
  refine (HHH.out _ ((((Below.refl _ w).alloc (Nat.le_refl _) _).alloc (by simp) _).alloc (by simp; omega) _)).mono ?_
  rintro e w1 ⟨rfl, rfl⟩
  have b0 := ((Boxed.new w 3 (.int .i64 n)).alloc (.cells #[.slice none 0 0] 22)).alloc (.cells #[.int .i64 0] 25)
  have b1 := (Boxed.new (w.alloc (.cells #[.int .i64 n] 3)) 22 (.slice none 0 0)).alloc (.cells #[.int .i64 0] 25)
  have b2 := Boxed.new ((w.alloc (.cells #[.int .i64 n] 3)).alloc (.cells #[.slice none 0 0] 22)) 25 (.int .i64 0)
  have hb3 : Below w.heap.size w (((w.alloc (.cells #[.int .i64 n] 3)).alloc (.cells #[.slice none 0 0] 22)).alloc (.cells #[.int .i64 0] 25)) := ((((Below.refl _ w).alloc (Nat.le_refl _) _).alloc (by simp) _).alloc (by simp; omega) _)
  simp only [World.size_alloc] at b1 b2
  have hs3 : (((w.alloc (.cells #[.int .i64 n] 3)).alloc (.cells #[.slice none 0 0] 22)).alloc (.cells #[.int .i64 0] 25)).heap.size = w.heap.size + 3 := by simp
  generalize (((w.alloc (.cells #[.int .i64 n] 3)).alloc (.cells #[.slice none 0 0] 22)).alloc (.cells #[.int .i64 0] 25)) = W3 at *
  have c4' := (hb3.cell (p := ⟨p, 4, none⟩) hpl).trans c4
  go_wp2_with fail
  refine (back_ok _ _ _ _).mono ?_
  rintro e w1 ⟨rfl, rfl⟩
  have bk := Boxed.new W3 67 (.slice pa 0 pcap)
  have hb4 : Below w.heap.size w (W3.alloc (.cells #[.slice pa 0 pcap] 67)) := hb3.alloc (by omega) _
  have b0' := b0.alloc (.cells #[.slice pa 0 pcap] 67)
  have b1' := b1.alloc (.cells #[.slice pa 0 pcap] 67)
  have b2' := b2.alloc (.cells #[.slice pa 0 pcap] 67)
  have hs4 : (W3.alloc (.cells #[.slice pa 0 pcap] 67)).heap.size = w.heap.size + 4 := by simp; omega
  have hst := back_stops_nil .wide 2 trivial rfl W3.heap.size pa pcap _ bk.cell bk.lt
  rw [hs3] at hst
  generalize (W3.alloc (.cells #[.slice pa 0 pcap] 67)) = W4 at *
  go_wp2_with fail
  refine (wpIn_wide (n := 3)).1 ?_
  refine wpIn_rangeFunc_ownF (F := .wide) (n := 3) (P := Try.prog) (α := Empty) rfl (by omega) (gf := 52) (lb := #[.pointer (some ⟨w.heap.size + 3, 0, none⟩)]) ?hg trivial (enters_of Try.func52 (by kernel_rfl) rfl) hst (fun _ _ => trivial) (fun _ _ _ _ _ _ _ _ => trivial) (Below.refl _ _) (fun x => x.elim)
    (fun _ W => Below W4.heap.size W4 W) (fun _ _ _ => False) (ownFrom_below (Nat.le_refl _) (Nat.le_refl _)) (fun _ _ _ _ _ hs _ _ => hs) (Below.refl _ _) (fun x => x.elim) (fun _ x => x.elim) (fun _ _ x => x.elim) ?done (fun _ _ _ _ _ h => h.elim)
  case hg => rfl
  case done =>
    rintro Dd ys W hD _ hI hK
    have hbW : Below w.heap.size w W := hb4.trans (hI.mono (by omega))
    have c3' := (hbW.cell (p := ⟨p, 3, none⟩) hpl).trans c3
    have z0 : Boxed W w.heap.size 3 (.int .i64 n) := (hI.block _ (by omega)).trans b0'
    have z1 : Boxed W (w.heap.size + 1) 22 (.slice none 0 0) := (hI.block _ (by omega)).trans b1'
    have z2 : Boxed W (w.heap.size + 1 + 1) 25 (.int .i64 0) := (hI.block _ (by omega)).trans b2'
    have hsW := hI.size
    have hsbW : Bytes W F (.slice (some ⟨sg, 0, none⟩) m scap) D.sure := Cells.keep hsb hbW.size (fun k _ hk => hbW.block k hk)
    have hnm : n * 64 + 64 ≤ m := by
      have := H.out.full.1
      have := HM.out
      have h3 : D.size = D.sure.length / 64 := rfl
      omega
    have hmb : m ≤ 4194304 := by have := H.out.full; have := HM.out; omega
    have hsec : Bytes W F (.slice (some ⟨sg, n * 64, none⟩) 64 (scap - n * 64)) (D.at n) := by
      have h0 : Cells W F (.slice (some ⟨sg, 0, none⟩) m scap) m 1 (u8s D.sure) := by
        have h := hsbW
        unfold Bytes at h
        rw [← HM.out] at h
        exact h
      have h1 := Cells.sliced h0 (n * 64) (n * 64 + 64) (by omega) hnm
      have hcp : m ≤ scap := by obtain ⟨_, _, hv, h1, _⟩ := Cells.shape hsb; cases hv; rw [← HM.out] at h1; exact h1
      rw [sliced_in _ _ _ _ _ _ (by omega)] at h1
      have e1 : n * 64 + 64 - n * 64 = 64 := by omega
      have hl : (D.at n).length = 64 := by simp only [Dk.at, List.length_take, List.length_drop]; have := HM.out; omega
      simp only [e1, Nat.mul_one, Nat.zero_add] at h1
      show Cells _ _ _ _ _ _
      rw [hl]
      simpa [Dk.at, u8s] using h1
    have hcap : n * 64 + 64 ≤ scap := by obtain ⟨_, _, hv, h1, _⟩ := Cells.shape hsb; cases hv; have := HM.out; omega
    have hl64 : (D.at n).length = 64 := by simp only [Dk.at, List.length_take, List.length_drop]; have := HM.out; omega
    have HSEC := Lib.hid hsec
    have H64 := Lib.hid hl64
    clear hsec hsbW hl64
    go_wp2_with fail
    have hdr : ∀ w3, Chg No W.drew w3 → Chg No W w3 := fun w3 h => ⟨h.os, h.tape, h.output, h.size, h.block⟩
    refine RA.regionT (Chg No) (· = ·) [5, 5, 5, 1, 1, 1, 1, 1, 1, 1, 3, 7, 7] [11, 12] (fun _ _ _ => True) (fun _ => True) (by kernel_rfl) (Chg.refl _ _) (fun _ _ h => h ▸ Chg.refl _ _) (fun _ _ _ h k => h.trans k) (fun _ _ h k => h ▸ k) trivial (by kernel_rfl) (by kernel_rfl) ?_
    intro c
    refine RA.pmv (by rfl) (by rfl) (by rfl) ?_
    refine RA.pnc (by rfl) (by rfl) (by rfl) ?_
    refine RA.pfa (by rfl) (by rfl) (by rfl) (y' := .pointer (some ⟨p, 3, none⟩)) (fun w3 => by show (Instr.fieldAt _ _ _).run Try.prog w3 = _; go_simp) ?_
    refine RA.ld (by kernel_rfl) (by rfl) (by rfl) (y' := .slice (some ⟨sg, 0, none⟩) m scap) (fun w3 hp => by
      have h1 := ((hdr _ hp.1).cell (p := ⟨p, 3, none⟩) (cell_lt c3') id).trans c3'
      show (Instr.loadAt _ _).run Try.prog w3 = _
      go_simp) ?_
    refine RA.ld (by kernel_rfl) (by rfl) (by rfl) (y' := .int .i64 n) (fun w3 hp => by
      have h1 := ((hdr _ hp.1).cell (p := ⟨w.heap.size, 0, none⟩) z0.lt id).trans z0.cell
      show (Instr.loadAt _ _).run Try.prog w3 = _
      go_simp) ?_
    refine RA.mi (by kernel_rfl) (by rfl) (by rfl) (by rfl) ((n * 64 : Nat) : Int) (by omega) (by omega) ?_
    refine RA.ld (by kernel_rfl) (by rfl) (by rfl) (y' := .int .i64 n) (fun w3 hp => by
      have h1 := ((hdr _ hp.1).cell (p := ⟨w.heap.size, 0, none⟩) z0.lt id).trans z0.cell
      show (Instr.loadAt _ _).run Try.prog w3 = _
      go_simp) ?_
    refine RA.ai (by kernel_rfl) (by rfl) (by rfl) (by rfl) ((n + 1 : Nat) : Int) (by omega) (by omega) ?_
    refine RA.mi (by kernel_rfl) (by rfl) (by rfl) (by rfl) ((n * 64 + 64 : Nat) : Int) (by omega) (by omega) ?_
    refine RA.slh (by kernel_rfl) (by rfl) (by rfl) (by rfl) (by rfl) (y' := .slice (some ⟨sg, n * 64, none⟩) 64 (scap - n * 64)) (fun w3 _ => by
      have h1 := cut_at (P := Try.prog) w3 Try.underlying22 sizeByte (some ⟨sg, 0, none⟩) m scap (n * 64) (n * 64 + 64) (by omega) hcap
      rw [sliced_in _ _ _ _ _ _ (by omega)] at h1
      have e1 : n * 64 + 64 - n * 64 = 64 := by omega
      simp only [e1, Nat.mul_one, Nat.zero_add] at h1
      exact h1) ?_
    refine RA.qc (P := Try.prog) [_] (fun _ _ => True) (fun v w3 => w3.ownsRow W.heap.size 5 1 v 64 (u8s (D.at n)) ∧ Below W.heap.size W w3) (fun _ _ => by go_simp) (by kernel_rfl) (by rfl) (by rfl) (by kernel_rfl) (fun _ _ _ _ _ => trivial) (fun _ _ _ h k => h ▸ k) rfl (fun w3 hp _ => by
      have hR := hdr _ hp.1
      refine (clone_ok (w := w3) (HSEC.out.chg hR (fun _ _ _ => id)) (by rw [H64.out]; omega)).mono ?_
      rintro e w4 ⟨u, rfl, ho, hbe, _⟩
      rw [H64.out] at ho
      refine ⟨_, rfl, Chg.of_below hbe _, trivial, ⟨ho.1, ho.2.imp id ?_⟩, hR.no.trans (hbe.mono hR.size)⟩
      rintro ⟨g, cap, cur, e1, e2, r⟩
      exact ⟨g, cap, cur, e1, Nat.le_trans hR.size e2, r⟩) (fun u => ?_)
    refine RA.stt (fun w4 => ∃ w3, w3.ownsRow W.heap.size 5 1 u 64 (u8s (D.at n)) ∧ Below W.heap.size W w3 ∧ w4 = w3.setCell ⟨w.heap.size + 1, 0, none⟩ u) (by kernel_rfl) (by rfl) (by kernel_rfl) (fun _ _ h k => h ▸ k) (fun w3 _ hH => by
      obtain ⟨r1, r2⟩ := hH
      have z := (show Boxed w3 _ _ _ from (r2.block _ z1.lt).trans z1)
      have hc := z.cell
      have hf := z.frozen
      refine ⟨_, RA.ex_store (by rfl) (by rfl) (w' := w3.setCell ⟨w.heap.size + 1, 0, none⟩ u) ?_, w3, r1, r2, rfl⟩
      rcases r1.2 with ⟨_, h0⟩ | ⟨g, cap, cur, rfl, _⟩
      · omega
      · clear r1
        show (Instr.storeAt _ _ _).run Try.prog w3 = _
        go_simp) ?_
    refine RA.stt (fun w4 => ∃ w3, w3.ownsRow W.heap.size 5 1 u 64 (u8s (D.at n)) ∧ Below W.heap.size W w3 ∧ w4 = (w3.setCell ⟨w.heap.size + 1, 0, none⟩ u).setCell ⟨w.heap.size + 1 + 1, 0, none⟩ (.int .i64 0)) (by kernel_rfl) (by rfl) (by kernel_rfl) (fun _ _ h k => h ▸ k) (fun w4 _ hH => by
      obtain ⟨w3, r1, r2, rfl⟩ := hH
      have z := (show Boxed w3 _ _ _ from (r2.block _ z2.lt).trans z2)
      have z' : Boxed (w3.setCell ⟨w.heap.size + 1, 0, none⟩ u) (w.heap.size + 1 + 1) 25 (.int .i64 0) := z.kept (grownBy_setCell' w3 _ u) (by simp)
      have hc := z'.cell
      have hf := z'.frozen
      refine ⟨_, RA.ex_store (by rfl) (by rfl) (w' := (w3.setCell ⟨w.heap.size + 1, 0, none⟩ u).setCell ⟨w.heap.size + 1 + 1, 0, none⟩ (.int .i64 0)) ?_, w3, r1, r2, rfl⟩
      generalize w3.setCell ⟨w.heap.size + 1, 0, none⟩ u = w5 at *
      show (Instr.storeAt _ _ _).run Try.prog w5 = _
      go_simp) ?_
    refine RA.RA.doneT (fun w5 hH => ?_)
    simp only [RA.put, List.foldr_cons, List.foldr_nil, c, Act.put, List.setIfInBounds_toArray, List.set_cons_succ, List.set_cons_zero]
    obtain ⟨w3, r1, r2, rfl⟩ := hH
    have R1 := Lib.hid r1
    have R2 := Lib.hid r2
    clear r1 r2
    go_wp2_with fail
    have hDl : Dd < W.heap.size := (Array.getElem?_eq_some_iff.1 hK).1
    have hK3 : w3.heap[Dd]? = some (.deferred (some [])) := (R2.out.block _ hDl).trans hK
    have x1 : Boxed w3 (w.heap.size + 1) 22 _ := (R2.out.block _ z1.lt).trans z1
    have x2 : Boxed w3 (w.heap.size + 1 + 1) 25 _ := (R2.out.block _ z2.lt).trans z2
    have x1' : Boxed ((w3.setCell ⟨w.heap.size + 1, 0, none⟩ u).setCell ⟨w.heap.size + 1 + 1, 0, none⟩ (.int .i64 0)) _ _ _ := (x1.set u).kept (grownBy_setCell' _ _ (.int .i64 0)) (by simp)
    have x2' : Boxed ((w3.setCell ⟨w.heap.size + 1, 0, none⟩ u).setCell ⟨w.heap.size + 1 + 1, 0, none⟩ (.int .i64 0)) _ _ _ := (x2.kept (grownBy_setCell' _ _ u) (by simp)).set (.int .i64 0)
    have hK5 : ((w3.setCell ⟨w.heap.size + 1, 0, none⟩ u).setCell ⟨w.heap.size + 1 + 1, 0, none⟩ (.int .i64 0)).heap[Dd]? = some (.deferred (some [])) := by
      rw [setCell_heap_ne _ _ _ (by simp; omega), setCell_heap_ne _ _ _ (by simp; omega)]
      exact hK3
    have hw5 : Below w.heap.size w ((w3.setCell ⟨w.heap.size + 1, 0, none⟩ u).setCell ⟨w.heap.size + 1 + 1, 0, none⟩ (.int .i64 0)) := ((hbW.trans (R2.out.mono hbW.size)).setCell (p := ⟨w.heap.size + 1, 0, none⟩) (by simp) _).setCell (p := ⟨w.heap.size + 1 + 1, 0, none⟩) (by simp; omega) _
    have ho5 : ((w3.setCell ⟨w.heap.size + 1, 0, none⟩ u).setCell ⟨w.heap.size + 1 + 1, 0, none⟩ (.int .i64 0)).ownsRow W.heap.size 5 1 u 64 (u8s (D.at n)) := by
      refine owns_keep R1.out (fun g hg => ?_)
      have := owns_ge R1.out g hg
      rw [setCell_heap_ne _ _ _ (by simp; omega), setCell_heap_ne _ _ _ (by simp; omega)]
    generalize (w3.setCell ⟨w.heap.size + 1, 0, none⟩ u).setCell ⟨w.heap.size + 1 + 1, 0, none⟩ (.int .i64 0) = W5 at *
    refine ⟨by simp, .inl ⟨_, _, rfl, run_takeDeferred hK5, ?_⟩⟩
    have hg5 := grownBy_putObj' W5 Dd (.deferred none)
    have hne : ∀ k, k < w.heap.size + 4 → some k ≠ some Dd := fun k hk e => by simp at e; omega
    have e1 := (x1'.kept hg5 (hne _ (by omega))).cell
    have e2 := (x2'.kept hg5 (hne _ (by omega))).cell
    refine ⟨.tuple #[u, .int .i64 0], ?_, u, rfl, ?_, ?_⟩
    · simp [results, Try.f17, go_sem, e1, e2]
    · have ho6 := owns_keep ho5 (w' := W5.putObj Dd (.deferred none)) (fun g hg => hg5.block g (owns_lt ho5 g hg) (fun e => by
        cases e
        rcases ho5.2 with ⟨rfl, _⟩ | ⟨g, _, _, rfl, _, h, _⟩
        · simp [Value.ownBlock] at hg
        · simp [Value.ownBlock] at hg
          subst hg
          rw [hK5] at h
          cases h))
      refine ⟨ho6.1, ho6.2.imp id ?_⟩
      rintro ⟨g, cap, cur, q1, q2, q3⟩
      exact ⟨g, cap, cur, q1, Nat.le_trans hbW.size q2, q3⟩
    · exact hw5.trans (belowK_b (w := w) (Nat.le_refl _) W5 Dd _ _ (by omega) hK5 rfl rfl)
end Go.Proofs.Ytifocofpplhacaa.D

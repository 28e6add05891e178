/-
  suite.through. No condition beyond what each theorem names.
-/
import Derived.Test.YtbgfdbidbjlaaaaBckCryptB
import Derived.Test.YtbgfdbidbjlaaaaBckXenc
namespace Go.Proofs.Ytbgfdbidbjlaaaa.RA
open Go Go.RowKit
section
variable {c : Cx} {Z : Act → World → Prop} {os : List Oper} {i : Nat} {K : List (Nat × Value)} {G : List (Nat × (World → Prop))} {U : List Nat} {H : World → Prop}
variable {ty : TypeId} {ps : String} {af : Array Edge} {gu : Option (Nat × Bool)}
/-- A call of a method value. -/
theorem ex_callb {f : FuncId} {p : Value} {z : Operand} {xs : List Operand} {ats : Array TypeId} {ys : List Value} {ds : Option Nat} (hz : evo c K z = some (.func (.func f) #[p] #[])) (ha : xs.map (evo c K) = ys.map some) (w : World) {P : Program}
    (hf : (callFunc f (p :: ys).toArray).run P w = .ok (.enter f (p :: ys).toArray) w) :
    (execOp (ev c.a0 K) ⟨ds, .call ⟨.value z, xs.toArray, ats⟩, ty, ps, af, gu⟩).run P w = .ok (.enter f (p :: ys).toArray) w := by
  unfold execOp
  simp only [resolve, invoke, evo_ev hz, List.map_toArray, map_evo ha]
  simpa [Deferred.ofValue] using hf
theorem kcb {d : Nat} {P : Program} {f : FuncId} {p : Value} {z : Operand} {xs : List Operand} {ats : Array TypeId} (ys : List Value) (y : Value) (h' : World → Prop) (hf : ∀ args w, (callFunc f args).run P w = .ok (.enter f args) w)
    (hk : kindOf c i = 4) (hg : gd c.ops c.a0 K ⟨some d, .call ⟨.value z, xs.toArray, ats⟩, ty, ps, af, gu⟩ = true) (hz : evo c K z = some (.func (.func f) #[p] #[])) (ha : xs.map (evo c K) = ys.map some) (hu : (U.all fun k => (c.pr.getD i 0).testBit k) = true) (he : Stab c.E h') (hP : c.P = P)
    (hr : ∀ w, Pre c i G w → H w → Calls P f (p :: ys).toArray w fun e w' => e = .returned y ∧ c.R w w' ∧ h' w')
    (hn : RA c Z os (i + 1) ((d, y) :: K) G (i :: U) h') : RA c Z (⟨some d, .call ⟨.value z, xs.toArray, ats⟩, ty, ps, af, gu⟩ :: os) i K G U H :=
  k P y h' f (args := (p :: ys).toArray) hk hg he hu hP (fun w => ex_callb hz ha w (hf _ w)) hr hn
theorem pas {d : Nat} {x : Operand} {y : Value} (hk : kindOf c i = 5) (hg : gd c.ops c.a0 K ⟨some d, .assign x, ty, ps, af, gu⟩ = true) (hx : evo c K x = some y) (h : RA c Z os (i + 1) ((d, y) :: K) G U H) : RA c Z (⟨some d, .assign x, ty, ps, af, gu⟩ :: os) i K G U H :=
  pw hk hg (fun w => by simp [execOp, evo_ev hx]) h
theorem pex {d n : Nat} {x : Operand} {y y' : Value} (hk : kindOf c i = 5) (hg : gd c.ops c.a0 K ⟨some d, .extract x n, ty, ps, af, gu⟩ = true) (hx : evo c K x = some y) (hr : ∀ w, (Instr.extract y n).run c.P w = .ok y' w) (h : RA c Z os (i + 1) ((d, y') :: K) G U H) : RA c Z (⟨some d, .extract x n, ty, ps, af, gu⟩ :: os) i K G U H :=
  pw hk hg (fun w => by simp [execOp, evo_ev hx, hr w]) h
end
end Go.Proofs.Ytbgfdbidbjlaaaa.RA
namespace Go.Proofs.Ytbgfdbidbjlaaaa.Fd
open Go Go.RowKit K

/-- what turns no map, and no row but such as hold bytes and are young -/
structure Soft (n : Nat) (a b : World) : Prop where
  size : a.heap.size ≤ b.heap.size
  maps : ∀ (g : Nat) (es : Array MapEntry) (c : Nat), a.heap[g]? = some (.map es c) → b.heap[g]? = a.heap[g]?
  cells : ∀ (g : Nat) (cs : Array Value) (t : TypeId) (m : Nat × Nat), a.heap[g]? = some (.cells cs t m) → (g < n ∨ (t ≠ 5 ∧ t ≠ 61)) → b.heap[g]? = a.heap[g]?
theorem Soft.of_no {n : Nat} {a b : World} (h : Chg No a b) : Soft n a b := ⟨h.size, fun g _ _ hg => h.block g (heap_lt hg) id, fun g _ _ _ hg _ => h.block g (heap_lt hg) id⟩
theorem Soft.trans {n : Nat} {a b c : World} (h : Soft n a b) (k : Soft n b c) : Soft n a c :=
  ⟨Nat.le_trans h.size k.size, fun g es cl hg => (k.maps g es cl ((h.maps g es cl hg).trans hg)).trans (h.maps g es cl hg), fun g cs t m hg hc => (k.cells g cs t m ((h.cells g cs t m hg hc).trans hg) hc).trans (h.cells g cs t m hg hc)⟩
theorem IdealO.soft {a b : World} {B n : Nat} {S : IdSt} (h : IdealO a B S) (hn : ∀ g, S.bv.ownBlock = some g → g < n) (hs : Soft n a b) : IdealO b B S := by
  obtain ⟨es, clk, hp⟩ := h.places
  refine ⟨h.tape.keep (fun g hg => ?_), Nat.le_trans h.room hs.size, (hs.cells _ _ _ _ h.box (.inr (by decide))).trans h.box, h.baseC, h.baseM, ⟨es, clk, (hs.maps _ _ _ hp.box).trans hp.box, hp.row, hp.fit⟩, fun q hq => ?_, h.apart, h.cnt, h.tkn⟩
  · rcases hg with rfl | hg | hg
    · exact hs.cells _ _ _ _ h.tape.box (.inr (by decide))
    · obtain ⟨cur, hc⟩ := own_cells h.tape.bytes hg
      exact hs.cells _ _ _ _ hc (.inl (hn g hg))
    · obtain ⟨cur, hc⟩ := own_cells h.tape.takes hg
      exact hs.cells _ _ _ _ hc (.inr (by decide))
  · obtain ⟨h1, h2, h3, h4⟩ := h.pairs q hq
    obtain ⟨e3, c3, m3⟩ := h3.mapped
    obtain ⟨e4, c4, m4⟩ := h4.mapped
    exact ⟨h1, h2, h3.keep (hs.maps _ _ _ m3), h4.keep (hs.maps _ _ _ m4)⟩
def outs (r : Nat → List UInt8) : Nat → List UInt8
  | 0 => []
  | j + 1 => outs r j ++ r j
theorem outs_zero {r : Nat → List UInt8} : outs r 0 = [] := rfl
theorem outs_succ {r : Nat → List UInt8} {j : Nat} : outs r (j + 1) = outs r j ++ r j := rfl
theorem outs_length {r : Nat → List UInt8} (h : ∀ j, (r j).length = 16) : ∀ j, (outs r j).length = 16 * j
  | 0 => rfl
  | j + 1 => by rw [outs_succ, List.length_append, outs_length h j, h]; omega
attribute [irreducible] outs

/-- a part of data that is read in a later world -/
theorem blk_load {w5 : World} {da : Option Addr} {dc : Nat} {data : List UInt8} {j : Nat} (hj : 16 * j + 16 ≤ data.length) (hb : Bytes w5 (fun _ => True) (.slice da data.length dc) data) {dg doff : Nat} (hda : da = some ⟨dg, doff, none⟩) :
    (Instr.loadAt 61 (.pointer (some ⟨dg, doff + 16 * j, none⟩))).run Try.prog w5 = .ok (.agg (u8s (blk data j)).toArray) w5 := by
  obtain ⟨dg', doff', dc', hdv, _, _, _, hdgl, hdcell⟩ := Cells.at hb (by omega)
  simp only [Value.slice.injEq] at hdv
  obtain ⟨h1, _, _⟩ := hdv
  rw [hda] at h1
  simp only [Option.some.injEq, Addr.mk.injEq] at h1
  obtain ⟨rfl, rfl, _⟩ := h1
  refine run_loadAt_cells Try.underlying61 (size61 (blk_length hj)) (fun k hk => ?_)
  rw [blk_length hj] at hk
  have hjd : 16 * j + k < data.length := by omega
  rw [Nat.add_assoc, hdcell _ _ (u8s_get data _ hjd), blk_get hk]
  simp [List.getD, hjd]

set_option maxRecDepth 100000 in
set_option maxHeartbeats 4000000 in
theorem through_id {w : World} {B : Nat} (hB : B ≤ w.heap.size) {what : ByteArray} {ka da : Option Addr} {kc dc : Nat} {key data : List UInt8}
    (hkb : ∀ w1, Kept B w w1 → Bytes w1 (fun _ => True) (.slice ka key.length kc) key) (hdb : ∀ w1, Kept B w w1 → Bytes w1 (fun _ => True) (.slice da data.length dc) data) (unit : Nat) (hk : keyOk key.length unit) (h16 : data.length % 16 = 0) (hmost : data.length ≤ 4096)
    {f : FuncId} {p : Value} (hf : ∀ args w, (callFunc f args).run Try.prog w = .ok (.enter f args) w) (St : Nat → World → Prop) (r : Nat → List UInt8) (hr : ∀ j, (r j).length = 16) (er : Nat → Int) (her : ∀ j, er j = 0 ∨ er j = 9)
    (hst0 : St 0 w) (hsoft : ∀ j a b, St j a → Soft w.heap.size a b → St j b)
    (hstep : ∀ j w1, j < data.length / 16 → St j w1 → Kept B w w1 → Calls Try.prog f #[p, .string what, .string ⟨key.toArray⟩, .int .i64 unit, .int .i64 j, blkV (blk data j)] w1 fun e w2 => e = .returned (.tuple #[blkV (r j), .int .i64 (er j)]) ∧ Kept B w1 w2 ∧ (er j = 0 → St (j + 1) w2)) :
    Calls Try.prog 21 #[.string what, .slice ka key.length kc, .int .i64 unit, .slice da data.length dc, .func (.func f) #[p] #[]] w fun e w' => ∃ K, K ≤ data.length / 16 ∧ (∀ j, j < K → er j = 0) ∧ Kept B w w' ∧
      ((K = data.length / 16 ∧ ∃ v, e = .returned (.tuple #[v, .int .i64 0]) ∧ w'.ownsRow w.heap.size 5 1 v (16 * K) (u8s (outs r K)) ∧ St K w') ∨ (K < data.length / 16 ∧ er K = 9 ∧ e = .returned (.tuple #[.slice none 0 0, .int .i64 9]))) := by
  obtain ⟨n, hn⟩ : ∃ n, n = w.heap.size := ⟨_, rfl⟩
  have hmay := mayKey_ok (hkb w (Kept.chg hB (Chg.refl _ _))) unit hk da data.length dc (by omega)
  rw [show decide (data.length % 16 = 0 ∧ data.length ≤ 4096) = true by simp [h16, hmost]] at hmay
  have hkl : key.length ≤ 64 := by rcases hk.1 with h | h <;> omega
  obtain ⟨N, hN⟩ : ∃ N, N = data.length / 16 := ⟨_, rfl⟩
  have hdl : data.length = 16 * N := by omega
  have hN256 : N ≤ 256 := by omega
  obtain ⟨dl, hdl'⟩ : ∃ dl, dl = data.length := ⟨_, rfl⟩
  obtain ⟨kl, hkl'⟩ : ∃ kl, kl = key.length := ⟨_, rfl⟩
  have hu : (unit : Int) ≤ 1099511627776 := hk.2.2
  rw [← hN] at hstep ⊢
  have hk1 : kl ≤ kc := by obtain ⟨_, _, h, h1, _⟩ := (hkb w (Kept.chg hB (Chg.refl _ _))).shape; cases h; omega
  obtain ⟨hd1, hd2⟩ : dl ≤ dc ∧ dc ≤ maxLen := by obtain ⟨_, _, h, h1, h2⟩ := (hdb w (Kept.chg hB (Chg.refl _ _))).shape; cases h; exact ⟨by omega, h2⟩
  unfold maxLen at hd2
  rw [← hdl'] at hmay ⊢
  rw [← hkl'] at hmay ⊢
  have hoL := outs_length hr
  replace hmay := Lib.hid hmay
  replace hkb := Lib.hid hkb
  replace hdb := Lib.hid hdb
  replace hstep := Lib.hid hstep
  replace hsoft := Lib.hid hsoft
  replace hst0 := Lib.hid hst0
  replace hr := Lib.hid hr
  replace her := Lib.hid her
  replace hk := Lib.hid hk
  replace hf := Lib.hid hf
  replace hoL := Lib.hid hoL
  have hdl2 : dl = 16 * N := by omega
  replace hdl := Lib.hid hdl
  replace hdl' := Lib.hid hdl'
  replace hkl' := Lib.hid hkl'
  replace hN := Lib.hid hN
  have hN' : (dl : Int) / 16 = N := by omega
  replace hdl2 := Lib.hid hdl2
  clear hkl
  replace hn := Lib.hid hn
  go_enter Try.func21, Try.ntmps21
  go_wp2_with fail
  refine hmay.out.mono ?_
  rintro e w1 ⟨rfl, hb1⟩
  have hK1 : Kept B w w1 := Kept.chg hB (Chg.of_below hb1 _)
  have hS1 : St 0 w1 := hsoft.out 0 _ _ hst0.out (Soft.of_no (Chg.of_below hb1 _))
  replace hK1 := Lib.hid hK1
  replace hS1 := Lib.hid hS1
  clear hmay hb1 hst0
  go_wp2
  go_loopw [10, 23] (fun o' i' wr => ∃ j : Nat, j ≤ N ∧ i' = .int .i64 j ∧ Hid (wr.ownsRow w.heap.size 5 1 o' (16 * j) (u8s (outs r j))) ∧ Hid (St j wr) ∧ Hid (Kept B w wr) ∧ Hid (∀ i, i < j → er i = 0))
    (fun _ i' _ => N - (intOf i').toNat)
  case atStart => exact ⟨0, by omega, rfl, by rw [outs_zero]; exact World.ownsRow_nil _ _ _ _, hS1.out, hK1.out, fun i h => absurd h (Nat.not_lt_zero i)⟩
  case round =>
    obtain ⟨j, hjN, rfl, hO, hS, hK, hE⟩ := hrel
    clear hS1 hK1
    by_cases hlt : j < N
    · obtain ⟨oa, oc, rfl, ho1, ho2⟩ := (Cells.own hO.out).shape
      unfold maxLen at ho2
      obtain ⟨dg, doff, dc', hdv, -, -, -, -, -⟩ := Cells.at (hdb.out wr hK.out) (by have := hdl.out; omega)
      simp only [Value.slice.injEq] at hdv
      obtain ⟨rfl, -, -⟩ := hdv
      obtain ⟨lo, hlo⟩ : ∃ lo, lo = 16 * j := ⟨_, rfl⟩
      obtain ⟨hi, hhi⟩ : ∃ hi, hi = 16 * j + 16 := ⟨_, rfl⟩
      have hlo1 : (j : Int) * 16 = lo := by omega
      have hhi1 : ((j : Int) + 1) * 16 = hi := by omega
      have hjd : 16 * j + 16 ≤ data.length := by have := hdl.out; omega
      have hhd : hi ≤ dc := by have := hdl2.out; omega
      obtain ⟨X, hX⟩ : ∃ X, X = (u8s (blk data j)).toArray := ⟨_, rfl⟩
      have hld : ∀ w5, Kept B wr w5 → (Instr.loadAt 61 (.pointer (some ⟨dg, doff + lo, none⟩))).run Try.prog w5 = .ok (.agg X) w5 := fun w5 h5 => by
        rw [hX, hlo]
        exact blk_load hjd (hdb.out w5 (hK.out.trans h5)) rfl
      have hcut : ∀ w5, (Instr.sliceAt 22 (.slice (some ⟨dg, doff, none⟩) dl dc) (some (.int .i64 lo)) (some (.int .i64 hi)) none).run Try.prog w5 = .ok (.slice (some ⟨dg, doff + lo, none⟩) 16 (dc - lo)) w5 := fun w5 => by
        rw [cut_at (P := Try.prog) (s := 1) w5 Try.underlying22 (by kernel_rfl) _ _ _ lo hi (by omega) (by omega), sliced_in _ _ _ _ _ _ (by omega), Nat.mul_one, show hi - lo = 16 by omega]
      have hBr : B ≤ wr.heap.size := Nat.le_trans hB hK.out.below.size
      have hnr : w.heap.size ≤ wr.heap.size := hK.out.below.size
      have hks : ∀ w5, Kept B wr w5 → Bytes w5 (fun _ => True) (.slice ka kl kc) key := fun w5 h5 => by
        have := hkb.out w5 (hK.out.trans h5)
        rw [← hkl'.out] at this
        exact this
      obtain ⟨R, hR⟩ : ∃ R, R = (u8s (r j)).toArray := ⟨_, rfl⟩
      obtain ⟨E, hEj⟩ : ∃ E, E = er j := ⟨_, rfl⟩
      have hcall : ∀ w3, St j w3 → Kept B wr w3 → Calls Try.prog f #[p, .string what, .string ⟨key.toArray⟩, .int .i64 unit, .int .i64 j, .agg X] w3 fun e w4 => e = .returned (.tuple #[.agg R, .int .i64 E]) ∧ Kept B w3 w4 ∧ (E = 0 → St (j + 1) w4) := fun w3 h3 h4 => by
        rw [hX, hR, hEj]
        exact hstep.out j w3 hlt h3 (hK.out.trans h4)
      have hsft := hsoft.out
      replace hX := Lib.hid hX
      replace hR := Lib.hid hR
      replace hEj := Lib.hid hEj
      replace hcall := Lib.hid hcall
      replace hld := Lib.hid hld
      replace hcut := Lib.hid hcut
      replace hks := Lib.hid hks
      replace hlo := Lib.hid hlo
      replace hhi := Lib.hid hhi
      replace hsft := Lib.hid hsft
      have hSd : St j wr.drew := hsft.out _ _ _ hS.out (Soft.of_no ((Chg.refl _ _).drew))
      have hdK : ∀ w3, Kept B wr.drew w3 → Kept B wr w3 := fun w3 h => (Kept.chg hBr ((Chg.refl No wr).drew)).trans h
      replace hSd := Lib.hid hSd
      replace hdK := Lib.hid hdK
      go_wp2
      refine RA.regionT (Kept B) (fun a b => B ≤ a.heap.size ∧ Chg No a b) [1, 1, 1, 1, 1, 1, 1, 1, 1, 1, 1, 1, 1, 1, 1, 4, 1, 1, 5, 2, 7, 5] [20] (fun i v w3 => ∃ b, v = .pointer (some ⟨b, 0, none⟩) ∧ wr.heap.size ≤ b ∧ Arr w3 b 61 (List.replicate 16 0)) (St j) (by kernel_rfl) (Kept.chg hBr (Chg.refl _ _)) (fun _ _ h => Kept.chg h.1 h.2) (fun _ _ _ h k => h.trans k) (fun _ _ h k => hsft.out _ _ _ k (Soft.of_no h.2)) hSd.out (by kernel_rfl) (by kernel_rfl) ?_
      intro cx
      repeat (first | refine RA.mv (by kernel_rfl) (by rfl) (by rfl) ?_ | refine RA.as (by kernel_rfl) (by rfl) (by rfl) ?_ | refine RA.nc (by kernel_rfl) (by rfl) (by rfl) ?_)
      refine RA.cv (by kernel_rfl) (by rfl) (by rfl) (y' := .string ⟨key.toArray⟩) (fun w3 hp => by exact run_string _ _ _ _ Try.underlying22 Try.underlying5 Try.underlying9 _ _ _ (hks.out w3 (hdK.out _ hp.1))) ?_
      repeat (first | refine RA.mv (by kernel_rfl) (by rfl) (by rfl) ?_ | refine RA.as (by kernel_rfl) (by rfl) (by rfl) ?_ | refine RA.nc (by kernel_rfl) (by rfl) (by rfl) ?_)
      refine RA.mi (by kernel_rfl) (by rfl) (by rfl) (by rfl) ((lo : Int)) (hlo1) (by omega) ?_
      repeat (first | refine RA.mv (by kernel_rfl) (by rfl) (by rfl) ?_ | refine RA.as (by kernel_rfl) (by rfl) (by rfl) ?_ | refine RA.nc (by kernel_rfl) (by rfl) (by rfl) ?_)
      refine RA.ai (by kernel_rfl) (by rfl) (by rfl) (by rfl) ((j : Int) + 1) (rfl) (by omega) ?_
      refine RA.mi (by kernel_rfl) (by rfl) (by rfl) (by rfl) ((hi : Int)) (hhi1) (by omega) ?_
      refine RA.slh (by kernel_rfl) (by rfl) (by rfl) (by rfl) (by rfl) (y' := .slice (some ⟨dg, doff + lo, none⟩) 16 (dc - lo)) (fun w3 hp => hcut.out w3) ?_
      refine RA.v Try.prog (x := .pointer (some ⟨dg, doff + lo, none⟩)) (by kernel_rfl) (by rfl) (by rfl) (fun w hp => by (try go_simp); rw [run_arrayAt]; rfl) ?_
      simp only [RA.add]
      refine RA.ld (by kernel_rfl) (by rfl) (by rfl) (y' := .agg X) (fun w3 hp => hld.out w3 (hdK.out _ hp.1)) ?_
      refine RA.kcb (P := Try.prog) (f := f) (p := p) [_, _, _, _, _] (.tuple #[.agg R, .int .i64 E]) (fun w4 => E = 0 → St (j + 1) w4) hf.out (by kernel_rfl) (by rfl) (by rfl) (by rfl) (by kernel_rfl) (fun _ _ h k e => hsft.out _ _ _ (k e) (Soft.of_no h.2)) rfl (fun w3 hp hH => (hcall.out w3 hH (hdK.out _ hp.1)).mono (by
        rintro e w4 ⟨rfl, h2, h3⟩
        exact ⟨rfl, h2, h3⟩)) ?_
      repeat (first | refine RA.mv (by kernel_rfl) (by rfl) (by rfl) ?_ | refine RA.as (by kernel_rfl) (by rfl) (by rfl) ?_ | refine RA.nc (by kernel_rfl) (by rfl) (by rfl) ?_)
      refine RA.v Try.prog (x := .agg R) (by kernel_rfl) (by rfl) (by rfl) (fun w hp => by go_simp) ?_
      simp only [RA.add]
      refine RA.pex (by kernel_rfl) (by rfl) (by rfl) (y' := .int .i64 E) (fun w3 => rfl) ?_
      refine RA.fr (by kernel_rfl) (by rfl) (fun v a b h h2 => by
        obtain ⟨b1, h3, h4, h5⟩ := h2
        exact ⟨b1, h3, h4, h5.keep (h.keep _ _ _ _ h5 (by decide) (by decide) (by decide))⟩) (fun w3 hp => ⟨.pointer (some ⟨w3.heap.size, 0, none⟩), w3.alloc (.cells (u8s (List.replicate 16 0)).toArray 61), by
          show (execOp _ _).run Try.prog w3 = _
          go_simp
          rfl, ⟨Nat.le_trans hBr (hdK.out _ hp.1).below.size, (Chg.refl _ _).alloc _⟩, w3.heap.size, rfl, (hdK.out _ hp.1).below.size, heap_alloc_new w3 _⟩) (fun u13 => ?_)
      refine RA.stt (fun w5 => ∃ b, u13 = .pointer (some ⟨b, 0, none⟩) ∧ wr.heap.size ≤ b ∧ Arr w5 b 61 (r j) ∧ Kept B wr w5 ∧ (E = 0 → St (j + 1) w5)) (by kernel_rfl) (by rfl) (by kernel_rfl) (fun a b h k => by
        obtain ⟨b1, h1, h2, h3, h4, h5⟩ := k
        exact ⟨b1, h1, h2, h3.keep (h.2.block b1 (heap_lt h3) id), h4.trans (Kept.chg h.1 h.2), fun e => hsft.out _ _ _ (h5 e) (Soft.of_no h.2)⟩) (fun w3 hp0 hH => by
        have hp := hp0.first (by kernel_rfl)
        obtain ⟨b1, rfl, h4, h5⟩ := hp.fact 0 rfl (by kernel_rfl)
        have hst := block_store h5 List.length_replicate (r j) (hr.out j)
        rw [← hR.out] at hst
        refine ⟨_, RA.ex_store (by rfl) (by rfl) hst, b1, rfl, h4, by rw [hR.out]; exact h5.setRow _, (hdK.out _ hp.1).put h4 hBr _, fun e => hsft.out _ _ _ (hH e) ⟨by simp [World.setRow], fun g es c hg => setRow_other _ _ _ _ ?_, fun g cs t m hg hc => setRow_other _ _ _ _ ?_⟩⟩
        · rintro rfl
          have h1 : some (Obj.map es c) = some (Obj.cells _ _ _) := hg.symm.trans h5
          cases h1
        · rintro rfl
          have h1 := hg.symm.trans h5
          simp only [Option.some.injEq, Obj.cells.injEq] at h1
          obtain ⟨_, rfl, _⟩ := h1
          rcases hc with hc | hc
          · omega
          · exact hc.2 rfl) ?_
      refine RA.pas (by kernel_rfl) (by rfl) (by rfl) ?_
      refine RA.RA.doneT (fun w5 hH => ?_)
      simp only [RA.put, List.foldr_cons, List.foldr_nil, cx, Act.put, List.setIfInBounds_toArray, List.set_cons_succ, List.set_cons_zero]
      obtain ⟨b, rfl, hbn, hA, hK5, hS5⟩ := hH
      have hK6 : Kept B w w5 := hK.out.trans hK5
      clear hcall hld hcut hks hsft hSd hdK hstep
      rcases her.out j with e0 | e9
      · have hE0 : E = 0 := hEj.out.trans e0
        have hSj := hS5 hE0
        subst hE0
        have ho5 : w5.ownsRow w.heap.size 5 1 (.slice oa (16 * j) oc) (16 * j) (u8s (outs r j)) := owns_keep hO.out (fun g hg => by
          obtain ⟨cur, hc⟩ := own_cells hO.out hg
          exact hK5.keep g _ _ _ hc (by decide) (by decide) (by decide))
        have hu := arr_bytes hA (by rw [hr.out]; unfold maxLen; omega)
        rw [hr.out] at hu
        have hu2 : Cells w5 (fun _ => True) (.slice (some ⟨b, 0, none⟩) 16 16) 16 1 (u8s (r j)) := by
          have h : Cells w5 (fun _ => True) (.slice (some ⟨b, 0, none⟩) 16 16) (r j).length 1 (u8s (r j)) := hu
          rw [hr.out] at h
          exact h
        obtain ⟨v', w6, hrun, r1, r2, _⟩ := own_push (P := Try.prog) (bytes := 1) Try.underlying22 infoByte rfl (by decide) ho5 hK6.below.size (Chg.refl _ _) hu2 (u8s_one _) (by unfold maxLen; omega) (by omega) 22
        rw [← u8s_append, ← outs_succ, show 16 * j + 16 = 16 * (j + 1) by omega] at r1
        have hown : ∀ g, (Value.slice oa (16 * j) oc).ownBlock = some g → w.heap.size ≤ g ∧ ∃ cur, w5.heap[g]? = some (.cells cur 5 (0, 0)) := fun g hg => ⟨(ho5.lt g hg).1, own_cells ho5 hg⟩
        have hS6 : St (j + 1) w6 := hsoft.out _ _ _ hSj ⟨r2.size, fun g es c hg => r2.block g (heap_lt hg) (fun e => by
            obtain ⟨_, cur, hc⟩ := hown g e
            have h1 := hg.symm.trans hc
            cases h1), fun g cs t m hg hc => r2.block g (heap_lt hg) (fun e => by
            obtain ⟨h1, cur, h2⟩ := hown g e
            rcases hc with hc | hc
            · omega
            · have h3 := hg.symm.trans h2
              simp only [Option.some.injEq, Obj.cells.injEq] at h3
              exact hc.1 h3.2.1)⟩
        have hK7 : Kept B w w6 := ⟨hK6.below.trans (r2.below (Nat.le_trans hB hK6.below.size) (fun g hg e => by have := (hown g e).1; omega)), fun g cs t m hg h1 h2 h3 => (r2.block g (Nat.lt_of_lt_of_le (heap_lt hg) hK6.below.size) (fun e => by have := (hown g e).1; have := heap_lt hg; omega)).trans (hK6.keep g cs t m hg h1 h2 h3)⟩
        obtain ⟨g', cp, rfl, _, _⟩ := own_shape r1 (by omega)
        obtain ⟨L, hL⟩ : ∃ L, L = 16 * (j + 1) := ⟨_, rfl⟩
        rw [← hL] at r1 hrun
        replace hL := Lib.hid hL
        replace hrun := Lib.hid hrun
        replace r1 := Lib.hid r1
        replace hS6 := Lib.hid hS6
        replace hK7 := Lib.hid hK7
        clear ho5 hu hu2 hown r2 hS5 hSj hA hK5 hK6 hO hS
        go_wp2_with (at_builtin; (refine wpList_app rfl _ _ 22 rfl _ _ _ rfl rfl hrun.out ?_))
        go_roundw
        case rel => exact ⟨j + 1, by omega, by go_num, by have h := r1.out; rw [hL.out] at h; rw [hL.out]; exact h, hS6.out, hK7.out, fun i hi => by
          rcases Nat.lt_succ_iff_lt_or_eq.1 hi with h | h
          · exact hE.out i h
          · rw [h]; exact e0⟩
        case measure => simp [intOf]; omega
      · have hE9 : E = 9 := hEj.out.trans e9
        subst hE9
        replace hK6 := Lib.hid hK6
        go_wp2
        go_ret2
        exact ⟨j, by omega, hE.out, hK6.out, .inr ⟨hlt, e9, rfl⟩⟩
    · have hjN' : j = N := by omega
      subst hjN'
      obtain ⟨oa, oc, rfl, ho1, ho2⟩ := (Cells.own hO.out).shape
      go_wp2
      go_ret2
      exact ⟨j, Nat.le_refl _, hE.out, hK.out, .inl ⟨rfl, _, rfl, hO.out, hS.out⟩⟩
end Go.Proofs.Ytbgfdbidbjlaaaa.Fd

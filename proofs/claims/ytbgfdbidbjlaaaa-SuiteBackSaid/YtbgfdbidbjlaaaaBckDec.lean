/-
  aes.Decrypt. No condition beyond what each theorem names.
-/
import Derived.Test.YtbgfdbidbjlaaaaBckEnc
namespace Go.Proofs.Ytbgfdbidbjlaaaa.Fd
open Go Go.RowKit K

/-- bytes for bytes, and the rows turned back: k of 16 -/
def unL (T : Nat → UInt8) (x : List UInt8) : Nat → List UInt8
  | 0 => List.replicate 16 0
  | k + 1 => (unL T x k).set ((k + 4 * (k % 4)) % 16) (T (x.getD k 0).toNat)
theorem unL_length {T : Nat → UInt8} {x : List UInt8} {k : Nat} : (unL T x k).length = 16 := by
  induction k with
  | zero => exact List.length_replicate
  | succ k ih => exact List.length_set.trans ih
/-- behind t rounds -/
def decR (ks : List UInt32) (b : List UInt8) : Nat → List UInt8
  | 0 => b
  | t + 1 => unL bk (nextR undoB (roundsN ks) (roundsN ks - t) (addL (decR ks b t) ks (roundsN ks - t) 16)) 16
theorem decR_length {ks : List UInt32} {b : List UInt8} (hb : b.length = 16) {t : Nat} : (decR ks b t).length = 16 := by
  cases t with
  | zero => exact hb
  | succ t => exact unL_length
def decrypt (ks : List UInt32) (b : List UInt8) : List UInt8 := addL (decR ks b (roundsN ks)) ks 0 16
theorem decrypt_length {ks : List UInt32} {b : List UInt8} (hb : b.length = 16) : (decrypt ks b).length = 16 := addL_length.trans (decR_length hb)

set_option maxRecDepth 100000 in
set_option maxHeartbeats 8000000 in
theorem decrypt_ok {w : World} {F : Nat → Prop} {p tb : Nat} {kv : Value} {ks : List UInt32} (h : CipherAt w F p tb kv ks) (h4 : 8 ≤ ks.length) (hk4 : ks.length % 4 = 0) (b : List UInt8) (hb : b.length = 16) :
    Calls Try.prog 37 #[.pointer (some ⟨p, 0, none⟩), .agg (u8s b).toArray] w fun e w' => e = .returned (.agg (u8s (decrypt ks b)).toArray) ∧ Below w.heap.size w w' := by
  obtain ⟨n, hn⟩ : ∃ n, n = w.heap.size := ⟨_, rfl⟩
  have HN := Lib.hid hn
  have HX := Lib.hid (box2 w 61 b (List.replicate 16 0))
  obtain ⟨N, hNr⟩ : ∃ N, N = roundsN ks := ⟨_, rfl⟩
  have hN1 : 1 ≤ N := by rw [hNr]; unfold roundsN; omega
  have hNk : 4 * N + 4 ≤ ks.length := by rw [hNr]; unfold roundsN; omega
  have hfew := h.few
  have hcw : ∀ wr, Below n w wr → CipherAt wr F p tb kv ks := fun wr hbr => h.keep hbr.size (fun g _ hl => hbr.block g (by rw [hn]; exact hl))
  obtain ⟨lt, htA, htL⟩ := h.tab
  have htb := heap_lt htA
  have hpl := heap_lt h.box
  have hpb := cell_of h.box 0
  have hpb0 : w.cell? ⟨p, 0, none⟩ = some (.pointer (some ⟨tb, 0, none⟩)) := hpb
  clear hpb
  rw [← hn] at htb hpl
  obtain ⟨V, hV⟩ : ∃ V, V = (u8s b).toArray := ⟨_, rfl⟩
  rw [← hV] at HX ⊢
  have hz : (u8s (List.replicate 16 0)).toArray = #[.int .u8 0, .int .u8 0, .int .u8 0, .int .u8 0, .int .u8 0, .int .u8 0, .int .u8 0, .int .u8 0, .int .u8 0, .int .u8 0, .int .u8 0, .int .u8 0, .int .u8 0, .int .u8 0, .int .u8 0, .int .u8 0] := rfl
  rw [hz] at HX
  clear hz
  replace h := Lib.hid h
  replace hcw := Lib.hid hcw
  replace htA := Lib.hid htA
  replace htL := Lib.hid htL
  replace hpb0 := Lib.hid hpb0
  replace hV := Lib.hid hV
  replace hNr := Lib.hid hNr
  clear hn
  go_enter Try.func37, Try.ntmps37
  go_wp2_with fail
  obtain ⟨w2, hw2⟩ : ∃ w2, w2 = (w.alloc (.cells V 61)).alloc (.cells #[.int .u8 0, .int .u8 0, .int .u8 0, .int .u8 0, .int .u8 0, .int .u8 0, .int .u8 0, .int .u8 0, .int .u8 0, .int .u8 0, .int .u8 0, .int .u8 0, .int .u8 0, .int .u8 0, .int .u8 0, .int .u8 0] 61) := ⟨_, rfl⟩
  rw [← hw2] at HX ⊢
  rw [← HN.out] at HX ⊢
  clear hw2
  have hc2 := Lib.hid (hcw.out w2 HX.out.2.2.1)
  refine (rounds_ok hc2.out (by omega)).mono ?_
  rintro e w2' ⟨rfl, rfl⟩
  rw [← hNr.out]
  have hE0 : EncSt w n b w2 := ⟨HX.out.2.2.1, by have := HX.out.2.2.2; omega, HX.out.1, HX.out.2.1⟩
  replace hE0 := Lib.hid hE0
  clear hc2 HX
  go_wp2
  have hN0 : ((N : Int) == 0) = false := by simp; omega
  rw [hN0]
  clear hN0
  go_loopw [6] (fun i wr => ∃ t : Nat, t ≤ N ∧ i = .int .i64 ((N - t : Nat) : Int) ∧ Hid (EncSt w n (decR ks b t) wr))
    (fun i _ => (intOf i).toNat)
  case atStart => exact ⟨0, by omega, by simp, hE0.out⟩
  case round =>
    clear hE0
    obtain ⟨t, ht, rfl, hE⟩ := hrel
    obtain ⟨s, hs⟩ : ∃ s, s = N - t := ⟨_, rfl⟩
    rw [← hs]
    have hsN1 : s ≤ N := by omega
    by_cases hlt : 0 < s
    · have htN : t < N := by omega
      replace hs := Lib.hid hs
      obtain ⟨X, hX⟩ : ∃ X, X = decR ks b t := ⟨_, rfl⟩
      rw [← hX] at hE
      have hXl : X.length = 16 := hX ▸ decR_length hb
      replace hX := Lib.hid hX
      have hl1 := Lib.hid (run_loadAt_arr (P := Try.prog) hE.out.2.2.1 Try.underlying61 (size61 hXl))
      have hc3 := Lib.hid (hcw.out wr hE.out.1)
      go_wp2_with (first | (refine wpList_load rfl 61 _ rfl _ _ rfl hl1.out ?_) | (go_at_call 46; fail))
      refine (add_ok hc3.out X hXl s (by omega)).mono ?_
      rintro e w3 ⟨rfl, hb3⟩
      have hE3 := hE.out.after hb3
      obtain ⟨Y, hY⟩ : ∃ Y, Y = addL X ks s 16 := ⟨_, rfl⟩
      rw [← hY]
      have hYl : Y.length = 16 := hY ▸ addL_length.trans hXl
      have hst := Lib.hid (block_store hE3.2.2.1 hXl Y hYl)
      have hE4 := hE3.put Y
      obtain ⟨w4, hw4⟩ : ∃ a, a = w3.setRow n (u8s Y).toArray := ⟨_, rfl⟩
      rw [← hw4] at hst hE4
      replace hE4 := Lib.hid hE4
      replace hw4 := Lib.hid hw4
      replace hY := Lib.hid hY
      clear hE hE3 hb3 hl1 hc3
      by_cases hsN : s < N
      · have hl2 := fun (w3 : World) (h : Arr w3 n 61 Y) => run_loadAt_arr (P := Try.prog) h Try.underlying61 (size61 hYl)
        have cP := hpb0.out
        rw [← World.cell?_of_block (w := w) (hE4.out.1.block p hpl)] at cP
        have hbp : p < w4.heap.size := by have := hE4.out.2.1; omega
        have hbt : tb < w4.heap.size := by have := hE4.out.2.1; omega
        have hbn : n < w4.heap.size := by have := hE4.out.2.1; omega
        have hdr : ∀ w3, Chg No w4.drew w3 → Chg No w4 w3 := fun w3 h => ⟨h.os, h.tape, h.output, h.size, h.block⟩
        have hcol : ∀ w3, Chg No w4 w3 → Calls Try.prog 47 #[.agg (u8s Y).toArray, .pointer (some ⟨tb, 1536, none⟩)] w3 fun e w' => e = .returned (.agg (u8s (colL undoB Y 16)).toArray) ∧ Below w3.heap.size w3 w' := by
          intro w3 hR
          refine columns_ok undoB (fun _ => rfl) Y hYl tb 1536 w3 (Nat.lt_of_lt_of_le hbt hR.size) (fun a ha j hj => ?_)
          rw [hR.cell (p := ⟨tb, 1536 + a * 4 + j, none⟩) hbt id, World.cell?_of_block (w := w) (hE4.out.1.block tb htb), htA.out.cell _ (by rw [htL.out.1]; omega), tab_undo htL.out a j ha hj]
        replace hl2 := Lib.hid hl2
        replace hcol := Lib.hid hcol
        replace cP := Lib.hid cP
        replace hdr := Lib.hid hdr
        replace hYl := Lib.hid hYl
        go_wp2_with (refine wpList_store rfl 61 _ _ rfl _ _ rfl rfl hst.out ?_)
        refine RA.regionT (Chg No) (· = ·) [1, 1, 1, 1, 1, 1, 1, 4, 7] [8] (fun _ _ _ => True) (fun _ => True) (by kernel_rfl) (Chg.refl _ _) (fun _ _ h => h ▸ Chg.refl _ _) (fun _ _ _ h k => h.trans k) (fun _ _ h k => h ▸ k) (trivial) (by kernel_rfl) (by kernel_rfl) ?_
        intro cx
        refine RA.ld (by kernel_rfl) (by rfl) (by rfl) (y' := .agg (u8s Y).toArray) (fun w3 hp => hl2.out w3 (hE4.out.2.2.1.keep ((hdr.out _ hp.1).block n hbn id))) ?_
        repeat (first | refine RA.mv (by kernel_rfl) (by rfl) (by rfl) ?_ | refine RA.as (by kernel_rfl) (by rfl) (by rfl) ?_ | refine RA.nc (by kernel_rfl) (by rfl) (by rfl) ?_)
        refine RA.fa (by kernel_rfl) (by rfl) (by rfl) (y' := .pointer (some ⟨p, 0, none⟩)) (fun w3 hp => by show (Instr.fieldAt _ _ _).run Try.prog w3 = _; go_simp) ?_
        refine RA.ld (by kernel_rfl) (by rfl) (by rfl) (y' := .pointer (some ⟨tb, 0, none⟩)) (fun w3 hp => by
          have h1 := ((hdr.out _ hp.1).cell (p := ⟨p, 0, none⟩) hbp id).trans cP.out
          show (Instr.loadAt _ _).run Try.prog w3 = _
          go_simp) ?_
        repeat (first | refine RA.mv (by kernel_rfl) (by rfl) (by rfl) ?_ | refine RA.as (by kernel_rfl) (by rfl) (by rfl) ?_ | refine RA.nc (by kernel_rfl) (by rfl) (by rfl) ?_)
        refine RA.fa (by kernel_rfl) (by rfl) (by rfl) (y' := .pointer (some ⟨tb, 1536, none⟩)) (fun w3 hp => by show (Instr.fieldAt _ _ _).run Try.prog w3 = _; go_simp) ?_
        refine RA.kc (P := Try.prog) [_, _] (.agg (u8s (colL undoB Y 16)).toArray) (fun _ => True) (fun _ _ => by go_simp) (by kernel_rfl) (by rfl) (by rfl) (by kernel_rfl) (fun _ _ _ h => h) rfl (fun w3 hp hH => (hcol.out w3 (hdr.out _ hp.1)).mono (by rintro e w4 ⟨rfl, h2⟩; exact ⟨rfl, Chg.of_below h2 _, trivial⟩)) ?_
        refine RA.stt (fun w5 => EncSt w n (colL undoB Y 16) w5) (by rfl) (by rfl) (by kernel_rfl) (fun _ _ h k => h ▸ k) (fun w3 hp _ => ?_) ?_
        · have hR := hdr.out _ (hp.first (by kernel_rfl)).1
          have hE5 := hE4.out.after (Chg.no hR)
          exact ⟨_, RA.ex_store (by rfl) (by rfl) (block_store hE5.2.2.1 hYl.out _ colL_length), hE5.put _⟩
        refine RA.RA.doneT (fun w5 hH => ?_)
        simp only [RA.put, List.foldr_cons, List.foldr_nil, cx, Act.put, List.setIfInBounds_toArray, List.set_cons_succ, List.set_cons_zero]
        obtain ⟨S, hS⟩ : ∃ S, S = colL undoB Y 16 := ⟨_, rfl⟩
        rw [← hS] at hH
        have hE6 := Lib.hid hH
        have hSl : S.length = 16 := hS ▸ colL_length
        have hSe := Lib.hid (show S = nextR undoB N s Y by rw [nextR, if_pos hsN, hS])
        clear hS hH hE4 hl2 hcol cP hdr hst
        obtain ⟨z, hzz⟩ : ∃ z, z = w5.heap.size := ⟨_, rfl⟩
        have hE7 : EncSt w n S (w5.alloc (.cells #[.int .u8 0, .int .u8 0, .int .u8 0, .int .u8 0, .int .u8 0, .int .u8 0, .int .u8 0, .int .u8 0, .int .u8 0, .int .u8 0, .int .u8 0, .int .u8 0, .int .u8 0, .int .u8 0, .int .u8 0, .int .u8 0] 61)) := hE6.out.after ((Below.refl _ _).alloc (Nat.le_refl _) _)
        have hZ1 : Arr (w5.alloc (.cells #[.int .u8 0, .int .u8 0, .int .u8 0, .int .u8 0, .int .u8 0, .int .u8 0, .int .u8 0, .int .u8 0, .int .u8 0, .int .u8 0, .int .u8 0, .int .u8 0, .int .u8 0, .int .u8 0, .int .u8 0, .int .u8 0] 61)) z 61 (List.replicate 16 0) := by
          rw [hzz]
          exact heap_alloc_new w5 _
        have hsz1 : z < (w5.alloc (.cells #[.int .u8 0, .int .u8 0, .int .u8 0, .int .u8 0, .int .u8 0, .int .u8 0, .int .u8 0, .int .u8 0, .int .u8 0, .int .u8 0, .int .u8 0, .int .u8 0, .int .u8 0, .int .u8 0, .int .u8 0, .int .u8 0] 61)).heap.size := by simp [hzz]
        have hzn : n + 1 < z := by rw [hzz]; exact hE6.out.2.1
        replace hzz := Lib.hid hzz
        replace hE7 := Lib.hid hE7
        replace hZ1 := Lib.hid hZ1
        replace hsz1 := Lib.hid hsz1
        clear hE6
        go_wp2
        rw [← hzz.out]
        go_loopw [34] (fun i wr => ∃ k : Nat, k ≤ 16 ∧ i = .int .i64 k ∧ Hid (EncSt w n S wr) ∧ z < wr.heap.size ∧ Hid (Arr wr z 61 (unL bk S k)))
          (fun i _ => 16 - (intOf i).toNat)
        case atStart => exact ⟨0, by omega, rfl, hE7.out, hsz1.out, hZ1.out⟩
        case round =>
          clear hE7 hZ1 hsz1 hzz
          obtain ⟨k, hk, rfl, hE, hsz, hZ⟩ := hrel
          by_cases hlk : k < 16
          · obtain ⟨j, hj⟩ : ∃ j, j = k % 4 := ⟨_, rfl⟩
            obtain ⟨I, hI⟩ : ∃ I, I = (k + 4 * j) % 16 := ⟨_, rfl⟩
            have hj4 : j < 4 := by omega
            have hI16 : I < 16 := by omega
            have hm : (k : Int) % 4 = j := by omega
            have hm2 : (k : Int).tmod 4 = j := by rw [Int.tmod_eq_emod_of_nonneg (by omega)]; exact hm
            have hn1 : ((k : Int) + 4 * (j : Int)) % 16 = I := by omega
            have hn2 : ((k : Int) + 4 * (j : Int)).tmod 16 = I := by rw [Int.tmod_eq_emod_of_nonneg (by omega)]; exact hn1
            have cX := hE.out.2.2.1.cell k (by rw [hSl]; exact hlk)
            obtain ⟨x, hx⟩ : ∃ x, x = (S.getD k 0).toNat := ⟨_, rfl⟩
            rw [← hx] at cX
            have hxl : x < 256 := hx ▸ UInt8.toNat_lt _
            have cT := htA.out.cell (256 + x) (by rw [htL.out.1]; omega)
            rw [tab_back htL.out x hxl, ← World.cell?_of_block (w := w) (hE.out.1.block tb htb)] at cT
            have cP := hpb0.out
            rw [← World.cell?_of_block (w := w) (hE.out.1.block p hpl)] at cP
            obtain ⟨y, hy⟩ : ∃ y, y = (bk x).toNat := ⟨_, rfl⟩
            rw [← hy] at cT
            have hI16i : (I : Int) < 16 := by omega
            have hxli : (x : Int) < 256 := by omega
            have hbn : n < wr.heap.size := by omega
            have hbp : p < wr.heap.size := by omega
            have hbt : tb < wr.heap.size := by omega
            replace cX := Lib.hid cX
            replace cT := Lib.hid cT
            replace cP := Lib.hid cP
            replace hj := Lib.hid hj
            replace hI := Lib.hid hI
            replace hx := Lib.hid hx
            replace hy := Lib.hid hy
            have hdr : ∀ w3, Chg No wr.drew w3 → Chg No wr w3 := fun w3 h => ⟨h.os, h.tape, h.output, h.size, h.block⟩
            replace hdr := Lib.hid hdr
            go_wp2
            refine RA.regionT (Chg No) (· = ·) [1, 1, 1, 1, 1, 1, 1, 1, 1, 1, 1, 1, 1, 1, 1, 1, 1, 1, 7] [18] (fun _ _ _ => True) (fun _ => True) (by kernel_rfl) (Chg.refl _ _) (fun _ _ h => h ▸ Chg.refl _ _) (fun _ _ _ h k => h.trans k) (fun _ _ h k => h ▸ k) (trivial) (by kernel_rfl) (by kernel_rfl) ?_
            intro cx
            repeat (first | refine RA.mv (by kernel_rfl) (by rfl) (by rfl) ?_ | refine RA.as (by kernel_rfl) (by rfl) (by rfl) ?_ | refine RA.nc (by kernel_rfl) (by rfl) (by rfl) ?_)
            refine RA.v Try.prog (x := .int .i64 j) (by kernel_rfl) (by rfl) (by rfl) (fun w hp => by (try go_simp); try (first | (rw [IntKind.wrap_i64]; omega) | (rw [IntKind.wrap_u32']; omega) | (rw [IntKind.wrap_u8']; omega) | omega)) ?_
            simp only [RA.add]
            refine RA.mi (by kernel_rfl) (by rfl) (by rfl) (by rfl) (4 * (j : Int)) (rfl) (by omega) ?_
            refine RA.ai (by kernel_rfl) (by rfl) (by rfl) (by rfl) ((k : Int) + 4 * (j : Int)) (rfl) (by omega) ?_
            refine RA.v Try.prog (x := .int .i64 I) (by kernel_rfl) (by rfl) (by rfl) (fun w hp => by (try go_simp); try (first | (rw [IntKind.wrap_i64]; omega) | (rw [IntKind.wrap_u32']; omega) | (rw [IntKind.wrap_u8']; omega) | omega)) ?_
            simp only [RA.add]
            repeat (first | refine RA.mv (by kernel_rfl) (by rfl) (by rfl) ?_ | refine RA.as (by kernel_rfl) (by rfl) (by rfl) ?_ | refine RA.nc (by kernel_rfl) (by rfl) (by rfl) ?_)
            refine RA.fa (by kernel_rfl) (by rfl) (by rfl) (y' := .pointer (some ⟨p, 0, none⟩)) (fun w3 hp => by show (Instr.fieldAt _ _ _).run Try.prog w3 = _; go_simp) ?_
            refine RA.ld (by kernel_rfl) (by rfl) (by rfl) (y' := .pointer (some ⟨tb, 0, none⟩)) (fun w3 hp => by
              have h1 := ((hdr.out _ hp.1).cell (p := ⟨p, 0, none⟩) hbp id).trans cP.out
              show (Instr.loadAt _ _).run Try.prog w3 = _
              go_simp) ?_
            repeat (first | refine RA.mv (by kernel_rfl) (by rfl) (by rfl) ?_ | refine RA.as (by kernel_rfl) (by rfl) (by rfl) ?_ | refine RA.nc (by kernel_rfl) (by rfl) (by rfl) ?_)
            refine RA.ia (by kernel_rfl) (by rfl) (by rfl) (by rfl) (y' := .pointer (some ⟨n, k, none⟩)) (fun w3 hp => by show (Instr.indexAt _ _ _).run Try.prog w3 = _; go_simp) ?_
            refine RA.ld (by kernel_rfl) (by rfl) (by rfl) (y' := .int .u8 x) (fun w3 hp => by
              have h1 := ((hdr.out _ hp.1).cell (p := ⟨n, k, none⟩) hbn id).trans cX.out
              show (Instr.loadAt _ _).run Try.prog w3 = _
              go_simp) ?_
            repeat (first | refine RA.mv (by kernel_rfl) (by rfl) (by rfl) ?_ | refine RA.as (by kernel_rfl) (by rfl) (by rfl) ?_ | refine RA.nc (by kernel_rfl) (by rfl) (by rfl) ?_)
            refine RA.fa (by kernel_rfl) (by rfl) (by rfl) (y' := .pointer (some ⟨tb, 256, none⟩)) (fun w3 hp => by show (Instr.fieldAt _ _ _).run Try.prog w3 = _; go_simp) ?_
            refine RA.ia (by kernel_rfl) (by rfl) (by rfl) (by rfl) (y' := .pointer (some ⟨tb, 256 + x, none⟩)) (fun w3 hp => by show (Instr.indexAt _ _ _).run Try.prog w3 = _; go_simp) ?_
            refine RA.ld (by kernel_rfl) (by rfl) (by rfl) (y' := .int .u8 y) (fun w3 hp => by
              have h1 := ((hdr.out _ hp.1).cell (p := ⟨tb, 256 + x, none⟩) hbt id).trans cT.out
              show (Instr.loadAt _ _).run Try.prog w3 = _
              go_simp) ?_
            refine RA.ia (by kernel_rfl) (by rfl) (by rfl) (by rfl) (y' := .pointer (some ⟨z, I, none⟩)) (fun w3 hp => by show (Instr.indexAt _ _ _).run Try.prog w3 = _; go_simp) ?_
            refine RA.stt (fun w4 => EncSt w n S w4 ∧ z < w4.heap.size ∧ Arr w4 z 61 (unL bk S (k + 1))) (by rfl) (by rfl) (by kernel_rfl) (fun _ _ h k => h ▸ k) (fun w3 hp _ => ?_) ?_
            · have hR := hdr.out _ (hp.first (by kernel_rfl)).1
              have hE3 := hE.out.after (Chg.no hR)
              have hZ3 := hZ.out.keep (hR.block z hsz id)
              have f0 := hZ3.frozen I
              have c0 := hZ3.cell I (by rw [unL_length]; exact hI16)
              have hset := hZ3.set I (bk x)
              rw [← hy.out] at hset
              have e : (Instr.storeAt 5 (.pointer (some ⟨z, I, none⟩)) (.int .u8 y)).run Try.prog w3 = .ok () (w3.setCell ⟨z, I, none⟩ (.int .u8 y)) := by go_simp
              refine ⟨_, RA.ex_store (by rfl) (by rfl) e, ⟨hE3.1.setCell (p := ⟨z, I, none⟩) (by show n ≤ z; omega) _, by simpa using hE3.2.1, hE3.2.2.1.keep (setCell_heap_ne _ _ _ (by simp; omega)), hE3.2.2.2.keep (setCell_heap_ne _ _ _ (by simp; omega))⟩, ?_, ?_⟩
              · have := hR.size
                simp
                omega
              · rw [unL, ← hj.out, ← hI.out, ← hx.out]
                exact hset
            refine RA.RA.doneT (fun w3 hH => ?_)
            simp only [RA.put, List.foldr_cons, List.foldr_nil, cx, Act.put, List.setIfInBounds_toArray, List.set_cons_succ, List.set_cons_zero]
            replace hH := Lib.hid hH
            go_wp2
            go_roundw
            case rel => exact ⟨k + 1, by omega, by go_num, hH.out.1, hH.out.2.1, hH.out.2.2⟩
            case measure => simp [intOf]; omega
          · have hk6 : k = 16 := by omega
            rw [hk6] at hZ
            clear hk6
            obtain ⟨U, hU⟩ : ∃ U, U = unL bk S 16 := ⟨_, rfl⟩
            rw [← hU] at hZ
            have hUl : U.length = 16 := hU ▸ unL_length
            have hl9 := Lib.hid (run_loadAt_arr (P := Try.prog) hZ.out Try.underlying61 (size61 hUl))
            have hst9 := Lib.hid (block_store hE.out.2.2.1 hSl U hUl)
            have hE9 := Lib.hid (hE.out.put U)
            have hrel9 : decR ks b (t + 1) = U := by rw [decR, ← hNr.out, ← hs.out, ← hX.out, ← hY.out, ← hSe.out, hU]
            replace hrel9 := Lib.hid hrel9
            clear hU
            go_wp2_with (first | (refine wpList_load rfl 61 _ rfl _ _ rfl hl9.out ?_) | (refine wpList_store rfl 61 _ _ rfl _ _ rfl rfl hst9.out ?_))
            go_roundw
            case rel =>
              refine ⟨t + 1, by omega, by have := hs.out; have e : ((N - (t + 1) : Nat) : Int) = (s : Int) - 1 := by omega
                                          rw [e], ?_⟩
              show EncSt _ _ _ _
              rw [hrel9.out]
              exact hE9.out
            case measure => simp [intOf]; omega
      · obtain ⟨S, hS⟩ : ∃ S, S = Y := ⟨_, rfl⟩
        have hE6 := hE4
        rw [← hS] at hE6
        have hSl : S.length = 16 := hS ▸ hYl
        have hSe := Lib.hid (show S = nextR undoB N s Y by rw [nextR, if_neg hsN, hS])
        obtain ⟨w5, hw5⟩ : ∃ a, a = w4 := ⟨_, rfl⟩
        rw [← hw5] at hE6 hst
        clear hS hw5 hE4
        obtain ⟨z, hzz⟩ : ∃ z, z = w5.heap.size := ⟨_, rfl⟩
        have hE7 : EncSt w n S (w5.alloc (.cells #[.int .u8 0, .int .u8 0, .int .u8 0, .int .u8 0, .int .u8 0, .int .u8 0, .int .u8 0, .int .u8 0, .int .u8 0, .int .u8 0, .int .u8 0, .int .u8 0, .int .u8 0, .int .u8 0, .int .u8 0, .int .u8 0] 61)) := hE6.out.after ((Below.refl _ _).alloc (Nat.le_refl _) _)
        have hZ1 : Arr (w5.alloc (.cells #[.int .u8 0, .int .u8 0, .int .u8 0, .int .u8 0, .int .u8 0, .int .u8 0, .int .u8 0, .int .u8 0, .int .u8 0, .int .u8 0, .int .u8 0, .int .u8 0, .int .u8 0, .int .u8 0, .int .u8 0, .int .u8 0] 61)) z 61 (List.replicate 16 0) := by
          rw [hzz]
          exact heap_alloc_new w5 _
        have hsz1 : z < (w5.alloc (.cells #[.int .u8 0, .int .u8 0, .int .u8 0, .int .u8 0, .int .u8 0, .int .u8 0, .int .u8 0, .int .u8 0, .int .u8 0, .int .u8 0, .int .u8 0, .int .u8 0, .int .u8 0, .int .u8 0, .int .u8 0, .int .u8 0] 61)).heap.size := by simp [hzz]
        have hzn : n + 1 < z := by rw [hzz]; exact hE6.out.2.1
        replace hzz := Lib.hid hzz
        replace hE7 := Lib.hid hE7
        replace hZ1 := Lib.hid hZ1
        replace hsz1 := Lib.hid hsz1
        clear hE6
        go_wp2_with (refine wpList_store rfl 61 _ _ rfl _ _ rfl rfl hst.out ?_)
        rw [← hzz.out]
        go_loopw [34] (fun i wr => ∃ k : Nat, k ≤ 16 ∧ i = .int .i64 k ∧ Hid (EncSt w n S wr) ∧ z < wr.heap.size ∧ Hid (Arr wr z 61 (unL bk S k)))
          (fun i _ => 16 - (intOf i).toNat)
        case atStart => exact ⟨0, by omega, rfl, hE7.out, hsz1.out, hZ1.out⟩
        case round =>
          clear hE7 hZ1 hsz1 hzz
          obtain ⟨k, hk, rfl, hE, hsz, hZ⟩ := hrel
          by_cases hlk : k < 16
          · obtain ⟨j, hj⟩ : ∃ j, j = k % 4 := ⟨_, rfl⟩
            obtain ⟨I, hI⟩ : ∃ I, I = (k + 4 * j) % 16 := ⟨_, rfl⟩
            have hj4 : j < 4 := by omega
            have hI16 : I < 16 := by omega
            have hm : (k : Int) % 4 = j := by omega
            have hm2 : (k : Int).tmod 4 = j := by rw [Int.tmod_eq_emod_of_nonneg (by omega)]; exact hm
            have hn1 : ((k : Int) + 4 * (j : Int)) % 16 = I := by omega
            have hn2 : ((k : Int) + 4 * (j : Int)).tmod 16 = I := by rw [Int.tmod_eq_emod_of_nonneg (by omega)]; exact hn1
            have cX := hE.out.2.2.1.cell k (by rw [hSl]; exact hlk)
            obtain ⟨x, hx⟩ : ∃ x, x = (S.getD k 0).toNat := ⟨_, rfl⟩
            rw [← hx] at cX
            have hxl : x < 256 := hx ▸ UInt8.toNat_lt _
            have cT := htA.out.cell (256 + x) (by rw [htL.out.1]; omega)
            rw [tab_back htL.out x hxl, ← World.cell?_of_block (w := w) (hE.out.1.block tb htb)] at cT
            have cP := hpb0.out
            rw [← World.cell?_of_block (w := w) (hE.out.1.block p hpl)] at cP
            obtain ⟨y, hy⟩ : ∃ y, y = (bk x).toNat := ⟨_, rfl⟩
            rw [← hy] at cT
            have hI16i : (I : Int) < 16 := by omega
            have hxli : (x : Int) < 256 := by omega
            have hbn : n < wr.heap.size := by omega
            have hbp : p < wr.heap.size := by omega
            have hbt : tb < wr.heap.size := by omega
            replace cX := Lib.hid cX
            replace cT := Lib.hid cT
            replace cP := Lib.hid cP
            replace hj := Lib.hid hj
            replace hI := Lib.hid hI
            replace hx := Lib.hid hx
            replace hy := Lib.hid hy
            have hdr : ∀ w3, Chg No wr.drew w3 → Chg No wr w3 := fun w3 h => ⟨h.os, h.tape, h.output, h.size, h.block⟩
            replace hdr := Lib.hid hdr
            go_wp2
            refine RA.regionT (Chg No) (· = ·) [1, 1, 1, 1, 1, 1, 1, 1, 1, 1, 1, 1, 1, 1, 1, 1, 1, 1, 7] [18] (fun _ _ _ => True) (fun _ => True) (by kernel_rfl) (Chg.refl _ _) (fun _ _ h => h ▸ Chg.refl _ _) (fun _ _ _ h k => h.trans k) (fun _ _ h k => h ▸ k) (trivial) (by kernel_rfl) (by kernel_rfl) ?_
            intro cx
            repeat (first | refine RA.mv (by kernel_rfl) (by rfl) (by rfl) ?_ | refine RA.as (by kernel_rfl) (by rfl) (by rfl) ?_ | refine RA.nc (by kernel_rfl) (by rfl) (by rfl) ?_)
            refine RA.v Try.prog (x := .int .i64 j) (by kernel_rfl) (by rfl) (by rfl) (fun w hp => by (try go_simp); try (first | (rw [IntKind.wrap_i64]; omega) | (rw [IntKind.wrap_u32']; omega) | (rw [IntKind.wrap_u8']; omega) | omega)) ?_
            simp only [RA.add]
            refine RA.mi (by kernel_rfl) (by rfl) (by rfl) (by rfl) (4 * (j : Int)) (rfl) (by omega) ?_
            refine RA.ai (by kernel_rfl) (by rfl) (by rfl) (by rfl) ((k : Int) + 4 * (j : Int)) (rfl) (by omega) ?_
            refine RA.v Try.prog (x := .int .i64 I) (by kernel_rfl) (by rfl) (by rfl) (fun w hp => by (try go_simp); try (first | (rw [IntKind.wrap_i64]; omega) | (rw [IntKind.wrap_u32']; omega) | (rw [IntKind.wrap_u8']; omega) | omega)) ?_
            simp only [RA.add]
            repeat (first | refine RA.mv (by kernel_rfl) (by rfl) (by rfl) ?_ | refine RA.as (by kernel_rfl) (by rfl) (by rfl) ?_ | refine RA.nc (by kernel_rfl) (by rfl) (by rfl) ?_)
            refine RA.fa (by kernel_rfl) (by rfl) (by rfl) (y' := .pointer (some ⟨p, 0, none⟩)) (fun w3 hp => by show (Instr.fieldAt _ _ _).run Try.prog w3 = _; go_simp) ?_
            refine RA.ld (by kernel_rfl) (by rfl) (by rfl) (y' := .pointer (some ⟨tb, 0, none⟩)) (fun w3 hp => by
              have h1 := ((hdr.out _ hp.1).cell (p := ⟨p, 0, none⟩) hbp id).trans cP.out
              show (Instr.loadAt _ _).run Try.prog w3 = _
              go_simp) ?_
            repeat (first | refine RA.mv (by kernel_rfl) (by rfl) (by rfl) ?_ | refine RA.as (by kernel_rfl) (by rfl) (by rfl) ?_ | refine RA.nc (by kernel_rfl) (by rfl) (by rfl) ?_)
            refine RA.ia (by kernel_rfl) (by rfl) (by rfl) (by rfl) (y' := .pointer (some ⟨n, k, none⟩)) (fun w3 hp => by show (Instr.indexAt _ _ _).run Try.prog w3 = _; go_simp) ?_
            refine RA.ld (by kernel_rfl) (by rfl) (by rfl) (y' := .int .u8 x) (fun w3 hp => by
              have h1 := ((hdr.out _ hp.1).cell (p := ⟨n, k, none⟩) hbn id).trans cX.out
              show (Instr.loadAt _ _).run Try.prog w3 = _
              go_simp) ?_
            repeat (first | refine RA.mv (by kernel_rfl) (by rfl) (by rfl) ?_ | refine RA.as (by kernel_rfl) (by rfl) (by rfl) ?_ | refine RA.nc (by kernel_rfl) (by rfl) (by rfl) ?_)
            refine RA.fa (by kernel_rfl) (by rfl) (by rfl) (y' := .pointer (some ⟨tb, 256, none⟩)) (fun w3 hp => by show (Instr.fieldAt _ _ _).run Try.prog w3 = _; go_simp) ?_
            refine RA.ia (by kernel_rfl) (by rfl) (by rfl) (by rfl) (y' := .pointer (some ⟨tb, 256 + x, none⟩)) (fun w3 hp => by show (Instr.indexAt _ _ _).run Try.prog w3 = _; go_simp) ?_
            refine RA.ld (by kernel_rfl) (by rfl) (by rfl) (y' := .int .u8 y) (fun w3 hp => by
              have h1 := ((hdr.out _ hp.1).cell (p := ⟨tb, 256 + x, none⟩) hbt id).trans cT.out
              show (Instr.loadAt _ _).run Try.prog w3 = _
              go_simp) ?_
            refine RA.ia (by kernel_rfl) (by rfl) (by rfl) (by rfl) (y' := .pointer (some ⟨z, I, none⟩)) (fun w3 hp => by show (Instr.indexAt _ _ _).run Try.prog w3 = _; go_simp) ?_
            refine RA.stt (fun w4 => EncSt w n S w4 ∧ z < w4.heap.size ∧ Arr w4 z 61 (unL bk S (k + 1))) (by rfl) (by rfl) (by kernel_rfl) (fun _ _ h k => h ▸ k) (fun w3 hp _ => ?_) ?_
            · have hR := hdr.out _ (hp.first (by kernel_rfl)).1
              have hE3 := hE.out.after (Chg.no hR)
              have hZ3 := hZ.out.keep (hR.block z hsz id)
              have f0 := hZ3.frozen I
              have c0 := hZ3.cell I (by rw [unL_length]; exact hI16)
              have hset := hZ3.set I (bk x)
              rw [← hy.out] at hset
              have e : (Instr.storeAt 5 (.pointer (some ⟨z, I, none⟩)) (.int .u8 y)).run Try.prog w3 = .ok () (w3.setCell ⟨z, I, none⟩ (.int .u8 y)) := by go_simp
              refine ⟨_, RA.ex_store (by rfl) (by rfl) e, ⟨hE3.1.setCell (p := ⟨z, I, none⟩) (by show n ≤ z; omega) _, by simpa using hE3.2.1, hE3.2.2.1.keep (setCell_heap_ne _ _ _ (by simp; omega)), hE3.2.2.2.keep (setCell_heap_ne _ _ _ (by simp; omega))⟩, ?_, ?_⟩
              · have := hR.size
                simp
                omega
              · rw [unL, ← hj.out, ← hI.out, ← hx.out]
                exact hset
            refine RA.RA.doneT (fun w3 hH => ?_)
            simp only [RA.put, List.foldr_cons, List.foldr_nil, cx, Act.put, List.setIfInBounds_toArray, List.set_cons_succ, List.set_cons_zero]
            replace hH := Lib.hid hH
            go_wp2
            go_roundw
            case rel => exact ⟨k + 1, by omega, by go_num, hH.out.1, hH.out.2.1, hH.out.2.2⟩
            case measure => simp [intOf]; omega
          · have hk6 : k = 16 := by omega
            rw [hk6] at hZ
            clear hk6
            obtain ⟨U, hU⟩ : ∃ U, U = unL bk S 16 := ⟨_, rfl⟩
            rw [← hU] at hZ
            have hUl : U.length = 16 := hU ▸ unL_length
            have hl9 := Lib.hid (run_loadAt_arr (P := Try.prog) hZ.out Try.underlying61 (size61 hUl))
            have hst9 := Lib.hid (block_store hE.out.2.2.1 hSl U hUl)
            have hE9 := Lib.hid (hE.out.put U)
            have hrel9 : decR ks b (t + 1) = U := by rw [decR, ← hNr.out, ← hs.out, ← hX.out, ← hY.out, ← hSe.out, hU]
            replace hrel9 := Lib.hid hrel9
            clear hU
            go_wp2_with (first | (refine wpList_load rfl 61 _ rfl _ _ rfl hl9.out ?_) | (refine wpList_store rfl 61 _ _ rfl _ _ rfl rfl hst9.out ?_))
            go_roundw
            case rel =>
              refine ⟨t + 1, by omega, by have := hs.out; have e : ((N - (t + 1) : Nat) : Int) = (s : Int) - 1 := by omega
                                          rw [e], ?_⟩
              show EncSt _ _ _ _
              rw [hrel9.out]
              exact hE9.out
            case measure => simp [intOf]; omega
    · have ht2 : t = N := by omega
      have hs0 : s = 0 := by omega
      rw [ht2] at hE
      obtain ⟨R, hR⟩ : ∃ R, R = decR ks b N := ⟨_, rfl⟩
      rw [← hR] at hE
      have hRl : R.length = 16 := hR ▸ decR_length hb
      replace hR := Lib.hid hR
      have hl1 := Lib.hid (run_loadAt_arr (P := Try.prog) hE.out.2.2.1 Try.underlying61 (size61 hRl))
      have hc3 := Lib.hid (hcw.out wr hE.out.1)
      go_wp2_with (first | (refine wpList_load rfl 61 _ rfl _ _ rfl hl1.out ?_) | (go_at_call 46; fail))
      refine (add_ok hc3.out R hRl 0 (by omega)).mono ?_
      rintro e w3 ⟨rfl, hb3⟩
      have hE3 := hE.out.after hb3
      obtain ⟨Y, hY⟩ : ∃ Y, Y = addL R ks 0 16 := ⟨_, rfl⟩
      rw [← hY]
      have hYl : Y.length = 16 := hY ▸ addL_length.trans hRl
      have hst5 := Lib.hid (block_store hE3.2.2.2 List.length_replicate Y hYl)
      have hfin := Lib.hid (hE3.2.2.2.setRow Y)
      have hi := Lib.hid (size61 hYl)
      have hbw := Lib.hid (below_setRow hE3.1 (g := n + 1) (by omega) (u8s Y).toArray)
      replace hY := Lib.hid hY
      clear hE hE3 hb3 hl1 hc3
      go_wp2_with (refine wpList_store rfl 61 _ _ rfl _ _ rfl rfl hst5.out ?_)
      refine bodyPost_ret (results_cell_row Try.results37 _ _ (n + 1) 61 _ (0, 0) _ rfl hfin.out Try.underlying61 rfl (by rw [hi.out]; simp [u8s_length])) rfl ⟨by rw [decrypt, ← hNr.out, ← hR.out, ← hY.out], HN.out ▸ hbw.out⟩
end Go.Proofs.Ytbgfdbidbjlaaaa.Fd

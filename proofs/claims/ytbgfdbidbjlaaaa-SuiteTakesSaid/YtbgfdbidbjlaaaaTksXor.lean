/-
  tweak.Xor. No condition beyond what each theorem names.
-/
import Derived.Test.YtbgfdbidbjlaaaaTksTweakPk
namespace Go.Proofs.Ytbgfdbidbjlaaaa.Fd
open Go Go.RowKit K

def xorL (o b : List UInt8) : Nat → List UInt8
  | 0 => o
  | k + 1 => (xorL o b k).set k (byte (((xorL o b k).getD k 0).toNat ^^^ (b.getD k 0).toNat))
theorem xorL_length {o b : List UInt8} {k : Nat} : (xorL o b k).length = o.length := by
  induction k with
  | zero => rfl
  | succ k ih => exact List.length_set.trans ih
def xorAll (L : Nat → List UInt8) : Nat → List UInt8
  | 0 => List.replicate 16 0
  | m + 1 => xorL (xorAll L m) (L m) 16
theorem xorAll_length {L : Nat → List UInt8} {m : Nat} : (xorAll L m).length = 16 := by
  induction m with
  | zero => exact List.length_replicate
  | succ m ih => exact xorL_length.trans ih

theorem splice_all {l x : List UInt8} (h : l.length = x.length) : splice l 0 x = x := by
  simp only [splice, List.take_zero, List.nil_append]
  rw [List.drop_eq_nil_of_le (by omega), List.append_nil]
/-- a block into a new box -/
theorem box_store (w : World) (b : List UInt8) (hb : b.length = 16) : ∃ w', (Instr.storeAt 61 (.pointer (some ⟨w.heap.size, 0, none⟩)) (.agg (u8s b).toArray)).run Try.prog (w.alloc (.cells #[.int .u8 0, .int .u8 0, .int .u8 0, .int .u8 0, .int .u8 0, .int .u8 0, .int .u8 0, .int .u8 0, .int .u8 0, .int .u8 0, .int .u8 0, .int .u8 0, .int .u8 0, .int .u8 0, .int .u8 0, .int .u8 0] 61)) = .ok () w' ∧
    Arr w' w.heap.size 61 b ∧ Below w.heap.size w w' ∧ w'.heap.size = w.heap.size + 1 := by
  have H1 : Arr (w.alloc (.cells #[.int .u8 0, .int .u8 0, .int .u8 0, .int .u8 0, .int .u8 0, .int .u8 0, .int .u8 0, .int .u8 0, .int .u8 0, .int .u8 0, .int .u8 0, .int .u8 0, .int .u8 0, .int .u8 0, .int .u8 0, .int .u8 0] 61)) w.heap.size 61 (List.replicate 16 0) := heap_alloc_new w _
  have hst := run_storeAt_at (P := Try.prog) (off := 0) (x := b) H1 (size61 hb) (by rw [hb, List.length_replicate]; omega)
  rw [splice_all (by rw [hb, List.length_replicate])] at hst
  exact ⟨_, hst, H1.setRow b, below_setRow ((Below.refl _ _).alloc (Nat.le_refl _) _) (Nat.le_refl _) _, by simp⟩

set_option maxRecDepth 100000 in
set_option maxHeartbeats 4000000 in
theorem xor_ok (L : Nat → List UInt8) (hL : ∀ m, (L m).length = 16) (g off cnt cap : Nat) (hcnt : cnt ≤ 1000) (w : World) (hg : g < w.heap.size)
    (hc : ∀ m, m < cnt → ∀ j, j < 16 → w.cell? ⟨g, off + m * 16 + j, none⟩ = some (.int .u8 ((L m).getD j 0).toNat)) :
    Calls Try.prog 44 #[.slice (some ⟨g, off, none⟩) cnt cap] w fun e w' => e = .returned (.agg (u8s (xorAll L cnt)).toArray) ∧ Below w.heap.size w w' := by
  obtain ⟨n, hn⟩ : ∃ n, n = w.heap.size := ⟨_, rfl⟩
  have HN := Lib.hid hn
  rw [← hn] at hg
  have H1 : Arr (w.alloc (.cells #[.int .u8 0, .int .u8 0, .int .u8 0, .int .u8 0, .int .u8 0, .int .u8 0, .int .u8 0, .int .u8 0, .int .u8 0, .int .u8 0, .int .u8 0, .int .u8 0, .int .u8 0, .int .u8 0, .int .u8 0, .int .u8 0] 61)) n 61 (List.replicate 16 0) := by
    rw [hn]
    exact heap_alloc_new w _
  have hb : Below n w (w.alloc (.cells #[.int .u8 0, .int .u8 0, .int .u8 0, .int .u8 0, .int .u8 0, .int .u8 0, .int .u8 0, .int .u8 0, .int .u8 0, .int .u8 0, .int .u8 0, .int .u8 0, .int .u8 0, .int .u8 0, .int .u8 0, .int .u8 0] 61)) := (Below.refl _ _).alloc (Nat.le_of_eq hn) _
  have hs : n < (w.alloc (.cells #[.int .u8 0, .int .u8 0, .int .u8 0, .int .u8 0, .int .u8 0, .int .u8 0, .int .u8 0, .int .u8 0, .int .u8 0, .int .u8 0, .int .u8 0, .int .u8 0, .int .u8 0, .int .u8 0, .int .u8 0, .int .u8 0] 61)).heap.size := by simp [hn]
  have hld : ∀ wr, Below n w wr → ∀ m, m < cnt → (Instr.loadAt 61 (.pointer (some ⟨g, off + m * 16, none⟩))).run Try.prog wr = .ok (.agg (u8s (L m)).toArray) wr := by
    intro wr hbr m hm
    refine run_loadAt_cells Try.underlying61 (size61 (hL m)) (fun j hj => ?_)
    rw [hL] at hj
    rw [World.cell?_of_block (w := w) (hbr.block g hg)]
    exact hc m hm j hj
  replace hld := Lib.hid hld
  replace H1 := Lib.hid H1
  replace hb := Lib.hid hb
  replace hs := Lib.hid hs
  replace hL := Lib.hid hL
  clear hn hc
  go_enter Try.func44, Try.ntmps44
  go_wp2
  rw [← HN.out]
  go_loopw [9] (fun i wr => ∃ m : Nat, m ≤ cnt ∧ i = .int .i64 m ∧ Below n w wr ∧ n < wr.heap.size ∧ Hid (Arr wr n 61 (xorAll L m)))
    (fun i _ => cnt - (intOf i).toNat)
  case atStart => exact ⟨0, by omega, rfl, hb.out, hs.out, H1.out⟩
  case round =>
    clear H1 hb hs
    obtain ⟨m, hm, rfl, hbr, hsz, H1⟩ := hrel
    by_cases hlt : m < cnt
    · have hl1 := Lib.hid (hld.out wr hbr m hlt)
      obtain ⟨B, hB⟩ : ∃ B, B = L m := ⟨_, rfl⟩
      rw [← hB] at hl1
      have hBl : B.length = 16 := hB ▸ hL.out m
      obtain ⟨V, hV⟩ : ∃ V, V = (u8s B).toArray := ⟨_, rfl⟩
      rw [← hV] at hl1
      have hVi : ∀ k, k < 16 → V[k]? = some (.int .u8 (B.getD k 0).toNat) := fun k hk => by rw [hV]; exact u8s_ix B k (by omega)
      obtain ⟨w3, hst, hA3, hb3, hs3⟩ := box_store wr B hBl
      have hl3 := run_loadAt_arr (P := Try.prog) hA3 Try.underlying61 (size61 hBl)
      rw [← hV] at hst hl3
      have HN1 : Hid (Arr w3 n 61 (xorAll L m)) := H1.out.keep (hb3.block n hsz)
      have hb4 := Lib.hid (show Below n w w3 from hbr.trans (hb3.mono (by omega)))
      have hs4 := Lib.hid (show n < w3.heap.size by omega)
      replace hst := Lib.hid hst
      replace hl3 := Lib.hid hl3
      replace hB := Lib.hid hB
      replace hV := Lib.hid hV
      replace hVi := Lib.hid hVi
      replace hA3 := Lib.hid hA3
      clear hbr hb3 hs3 hsz H1
      go_wp2_with (first | (refine wpList_load rfl 61 _ rfl _ _ rfl hl1.out ?_) | (refine wpList_store rfl 61 _ _ rfl _ _ rfl rfl hst.out ?_) | (refine wpList_load rfl 61 _ rfl _ _ rfl hl3.out ?_))
      clear hst hl1 hl3 hA3
      generalize wr.heap.size = z
      go_loopw [14] (fun i wr => ∃ k : Nat, k ≤ 16 ∧ i = .int .i64 k ∧ Below n w wr ∧ n < wr.heap.size ∧ Hid (Arr wr n 61 (xorL (xorAll L m) B k)))
        (fun i _ => 16 - (intOf i).toNat)
      case atStart => exact ⟨0, by omega, rfl, hb4.out, hs4.out, HN1.out⟩
      case round =>
        clear HN1 hb4 hs4
        obtain ⟨k, hk, rfl, hbr, hsz, H1⟩ := hrel
        replace hbr := Lib.hid hbr
        by_cases hlk : k < 16
        · have hix := hVi.out k hlk
          have hrn := fun w => run_index_agg (P := Try.prog) (k := .i64) (j := k) (v := .int .u8 (B.getD k 0).toNat) Try.underlying61 (by kernel_rfl) (by kernel_rfl) (by kernel_rfl) hlk hix w
          obtain ⟨C, hC⟩ : ∃ C, C = (B.getD k 0).toNat := ⟨_, rfl⟩
          rw [← hC] at hrn hix
          have hCl : C < 256 := hC ▸ UInt8.toNat_lt _
          have f0 := H1.out.frozen k
          have c0 := H1.out.cell k (by rw [xorL_length, xorAll_length]; exact hlk)
          obtain ⟨D, hD⟩ : ∃ D, D = ((xorL (xorAll L m) B k).getD k 0).toNat := ⟨_, rfl⟩
          rw [← hD] at c0
          have hDl : D < 256 := hD ▸ UInt8.toNat_lt _
          have hx := u8_xor_nat D C hDl hCl
          have hset := H1.out.set k (byte (D ^^^ C))
          rw [byte_toNat (xor8 hDl hCl)] at hset
          have HS := Lib.hid hset
          clear hset hix
          replace hC := Lib.hid hC
          replace hD := Lib.hid hD
          go_wp2
          go_roundw
          case rel =>
            refine ⟨k + 1, by omega, by go_num, hbr.out.setCell (p := ⟨n, k, none⟩) (Nat.le_refl n) _, by simpa using hsz, ?_⟩
            show Arr _ _ _ _
            rw [xorL, ← hC.out, ← hD.out]
            exact HS.out
          case measure => simp [intOf]; omega
        · have hk6 : k = 16 := by omega
          rw [hk6] at H1
          clear hk6
          go_wp2
          go_roundw
          case rel =>
            refine ⟨m + 1, by omega, by go_num, hbr.out, hsz, ?_⟩
            show Arr _ _ _ _
            rw [xorAll, ← hB.out]
            exact H1.out
          case measure => simp [intOf]; omega
    · have hm6 : m = cnt := by omega
      rw [hm6] at H1
      clear hm6
      obtain ⟨R, hR⟩ : ∃ R, R = xorAll L cnt := ⟨_, rfl⟩
      rw [← hR] at H1
      have hRl : R.length = 16 := hR ▸ xorAll_length
      replace hR := Lib.hid hR
      replace hbr := Lib.hid hbr
      have hF := Lib.hid (show (Try.prog.info? 61).map (·.size) = some (u8s R).toArray.size ∧ (Instr.loadAt 61 (.pointer (some ⟨n, 0, none⟩))).run Try.prog wr = .ok (.agg (u8s R).toArray) wr ∧ (Instr.storeAt 61 (.pointer (some ⟨n, 0, none⟩)) (.agg (u8s R).toArray)).run Try.prog wr = .ok () wr from
        ⟨by rw [size61 hRl]; simp [u8s_length], run_loadAt_arr H1.out Try.underlying61 (size61 hRl), run_storeAt_arr H1.out (size61 hRl)⟩)
      go_wp2_with (first | (refine wpList_load rfl 61 _ rfl _ _ rfl hF.out.2.1 ?_) | (refine wpList_store rfl 61 _ _ rfl _ _ rfl rfl hF.out.2.2 ?_))
      refine bodyPost_ret (results_cell_row Try.results44 _ _ n 61 _ (0, 0) _ rfl H1.out Try.underlying61 rfl hF.out.1) rfl ⟨by rw [hR.out], HN.out ▸ hbr.out⟩

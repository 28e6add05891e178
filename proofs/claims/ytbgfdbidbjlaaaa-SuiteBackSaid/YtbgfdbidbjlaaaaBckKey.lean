/-
  stretch.Key. No condition beyond what each theorem names.
-/
import Derived.Test.YtbgfdbidbjlaaaaBckBlock
import Derived.Test.YtbgfdbidbjlaaaaBckSmallPk
import Derived.Test.YtbgfdbidbjlaaaaBckTapeBPk
namespace Go.Proofs.Ytbgfdbidbjlaaaa.Fd
open Go Go.RowKit K

def outB (pass salt : List UInt8) (r : Nat) : Nat → List UInt8
  | 0 => []
  | k + 1 => outB pass salt r k ++ blkT pass salt (k + 1) (r - 1)
theorem outB_zero {pass salt : List UInt8} {r : Nat} : outB pass salt r 0 = [] := rfl
theorem outB_succ {pass salt : List UInt8} {r k : Nat} : outB pass salt r (k + 1) = outB pass salt r k ++ blkT pass salt (k + 1) (r - 1) := rfl
theorem outB_length {pass salt : List UInt8} {r k : Nat} : (outB pass salt r k).length = 32 * k := by
  induction k with
  | zero => rfl
  | succ k ih => rw [outB_succ, List.length_append, ih, blkT_length]; omega
def keyL (pass salt : List UInt8) (r n : Nat) : List UInt8 := (outB pass salt r ((n + 31) / 32)).take n
theorem keyL_length {pass salt : List UInt8} {r n : Nat} : (keyL pass salt r n).length = n := by
  rw [keyL, List.length_take, outB_length]; omega
theorem keyL_eq {pass salt : List UInt8} {r n : Nat} : keyL pass salt r n = (outB pass salt r ((n + 31) / 32)).take n := rfl
attribute [irreducible] outB keyL

set_option maxHeartbeats 2000000 in
theorem key_bad (a b : Option Addr) (n cap m cap' : Nat) (r len : Int) (h : mayB n m r = false ∨ len < 0 ∨ 256 < len) (w : World) :
    Calls Try.prog 27 #[.slice a n cap, .slice b m cap', .int .i64 r, .int .i64 len] w fun e w' => e = .returned (.tuple #[.slice none 0 0, .int .i64 1]) ∧ w = w' := by
  obtain ⟨q, hq⟩ : ∃ q, q = mayB n m r := ⟨_, rfl⟩
  have M := Lib.hid (hq ▸ may_ok a b n cap m cap' r w)
  rw [← hq] at h
  clear hq
  cases q with
  | false =>
    clear h
    go_enter Try.func27, Try.ntmps27
    go_wp2_with (go_at_call 39; refine M.out.mono ?_; rintro e w' ⟨rfl, rfl⟩)
    all_goals go_ret2
    all_goals exact ⟨rfl, rfl⟩
  | true =>
    by_cases h1 : len < 0
    · clear h
      go_enter Try.func27, Try.ntmps27
      go_wp2_with (go_at_call 39; refine M.out.mono ?_; rintro e w' ⟨rfl, rfl⟩)
      all_goals go_ret2
      all_goals exact ⟨rfl, rfl⟩
    · have h2 : 256 < len := by simpa [h1] using h
      clear h
      go_enter Try.func27, Try.ntmps27
      go_wp2_with (go_at_call 39; refine M.out.mono ?_; rintro e w' ⟨rfl, rfl⟩)
      all_goals go_ret2
      all_goals exact ⟨rfl, rfl⟩

set_option maxRecDepth 100000 in
set_option maxHeartbeats 4000000 in
theorem key_ok {w : World} {S S' : Nat → Prop} {pv sv : Value} {pass salt : List UInt8} (hp : Bytes w S pv pass) (hs : Bytes w S' sv salt) (hpl : pass.length ≤ 64) (hsl : salt.length ≤ 64) (r n : Nat) (hr1 : 1 ≤ r) (hr2 : r ≤ 10000) (hn : n ≤ 256) :
    Calls Try.prog 27 #[pv, sv, .int .i64 r, .int .i64 n] w fun e w' => ∃ v, e = .returned (.tuple #[v, .int .i64 0]) ∧ w'.ownsRow w.heap.size 5 1 v n (u8s (keyL pass salt r n)) ∧ Below w.heap.size w w' := by
  obtain ⟨B0, hB0⟩ : ∃ b, b = w.heap.size := ⟨_, rfl⟩
  have HB0 := Lib.hid hB0
  have hmac := Lib.hid (macNew_ok hp hpl)
  obtain ⟨pa, pc, rfl, hp1, hp2⟩ := hp.shape
  obtain ⟨sa, sc, rfl, hs1, hs2⟩ := hs.shape
  unfold maxLen at hp2 hs2
  have M := may_ok pa sa pass.length pc salt.length sc r w
  have hm : mayB pass.length salt.length (r : Int) = true := by simp [mayB]; omega
  rw [hm] at M
  replace M := Lib.hid M
  clear hm hp
  obtain ⟨pl, hpl'⟩ : ∃ l, l = pass.length := ⟨_, rfl⟩
  obtain ⟨sl, hsl'⟩ : ∃ l, l = salt.length := ⟨_, rfl⟩
  have hsb : ∀ w3, Below B0 w w3 → B0 ≤ w3.heap.size → Bytes w3 (fun _ => True) (.slice sa sl sc) salt := fun w3 h3 h4 => by
    rw [hsl']
    exact (hs.keep (w' := w3) (HB0.out ▸ h4) (fun b _ hb => h3.block b (by have := HB0.out; omega))).mono (S' := fun _ => True) (fun _ _ _ => trivial)
  rw [← hpl'] at hp1 hmac M hpl ⊢
  have hsl2 : salt.length ≤ 100000 := by omega
  rw [← hsl'] at hs1 M hsl ⊢
  replace hsl2 := Lib.hid hsl2
  replace hpl' := Lib.hid hpl'
  replace hsl' := Lib.hid hsl'
  replace hsb := Lib.hid hsb
  rw [← hB0] at hmac
  clear hs hB0
  go_enter Try.func27, Try.ntmps27
  go_wp2_with (first | (go_at_call 39; refine M.out.mono ?_; rintro e w' ⟨rfl, rfl⟩) | fail)
  refine hmac.out.mono ?_
  rintro e w1 ⟨p, s, iv, ov, rfl, hk, hb1⟩
  obtain ⟨B, hB⟩ : ∃ b, b = w1.heap.size := ⟨_, rfl⟩
  have hBB : B0 ≤ B := by rw [hB, HB0.out]; rw [HB0.out] at hb1; exact hb1.size
  replace hk := Lib.hid hk
  replace hb1 := Lib.hid hb1
  replace hB := Lib.hid hB
  clear hmac M
  go_wp2
  go_loopw [10, 12] (fun o' i' wr => ∃ k : Nat, 32 * k < n + 32 ∧ i' = .int .i64 ((k : Int) + 1) ∧ Hid (Mid wr B o' (outB pass salt r k)) ∧ Hid (Below B w1 wr) ∧ B ≤ wr.heap.size)
    (fun _ i' _ => 20 - (intOf i').toNat)
  case atStart => exact ⟨0, by omega, rfl, by rw [outB_zero]; exact Mid.nil _ _, Below.refl _ _, by rw [hB.out]; exact Nat.le_refl _⟩
  case round =>
    obtain ⟨k, hk32, rfl, hM, hW, hBs⟩ := hrel
    obtain ⟨oa, oc, rfl, ho1, ho2⟩ := hM.out.shape
    unfold maxLen at ho2
    have hol := outB_length (pass := pass) (salt := salt) (r := r) (k := k)
    rw [hol] at hM ho1 ⊢
    have hwb : Below B0 w wr := hb1.out.trans (hW.out.mono hBB)
    have hk2 := hk.out.keep (w' := wr) (by rw [← hB.out]; exact hBs) (fun g _ hg => hW.out.block g (by rw [hB.out]; exact hg))
    by_cases hlt : 32 * k < n
    · obtain ⟨T, hT⟩ : ∃ t, t = blkT pass salt (k + 1) (r - 1) := ⟨_, rfl⟩
      have hTl : T.length = 32 := hT ▸ blkT_length
      have hcall := block_ok hk2 (hsb.out wr hwb (by omega)) hsl2.out r (k + 1) (by omega) hr1 (by omega)
      rw [← hT] at hcall
      have hnx : outB pass salt r (k + 1) = outB pass salt r k ++ T := by rw [outB_succ, hT]
      replace hcall := Lib.hid hcall
      replace hnx := Lib.hid hnx
      replace hT := Lib.hid hT
      clear hk2 hwb hol
      go_wp2_with fail
      refine hcall.out.mono ?_
      rintro e w3 ⟨rfl, hb3⟩
      obtain ⟨g, hg⟩ : ∃ g, g = w3.heap.size := ⟨_, rfl⟩
      have hgB : B ≤ g := by have := hb3.size; omega
      have m3 := hM.out.keep hb3
      obtain ⟨W4, hW4⟩ : ∃ x, x = w3.alloc (.cells (u8s (List.replicate 32 0)).toArray 85) := ⟨_, rfl⟩
      have b4 : Below g w3 W4 := by rw [hW4, hg]; exact (Below.refl _ _).alloc (Nat.le_refl _) _
      have a4 : Arr W4 g 85 (List.replicate 32 0) := by rw [hW4, hg]; exact heap_alloc_new w3 _
      have t4 := hash_store a4 hTl
      obtain ⟨W5, hW5⟩ : ∃ x, x = W4.setRow g (u8s T).toArray := ⟨_, rfl⟩
      rw [← hW5] at t4
      have b5 : Below g w3 W5 := hW5 ▸ below_setRow b4 (Nat.le_refl _) _
      have a5 : Arr W5 g 85 T := hW5 ▸ a4.setRow _
      have m5 : Mid W5 B (.slice oa (32 * k) oc) (outB pass salt r k) := m3.keep (hg ▸ b5)
      have o5 := arr_bytes a5 (by rw [hTl]; unfold maxLen; omega)
      rw [hTl] at o5
      have hs5 : B ≤ W5.heap.size := by have := b5.size; omega
      obtain ⟨v', w6, hrun, m6, b6⟩ := m5.append hs5 o5 (by rw [outB_length, hTl]; omega) 22
      rw [← hnx.out] at m6
      have bF : Below B w1 w6 := ((hW.out.trans (hb3.mono hBs)).trans (b5.mono hgB)).trans b6
      have hs6 : B ≤ w6.heap.size := Nat.le_trans hs5 b6.size
      subst hW4
      rw [hg] at t4 hrun
      replace hrun := Lib.hid hrun
      replace hg := Lib.hid hg
      replace t4 := Lib.hid t4
      replace m6 := Lib.hid m6
      replace bF := Lib.hid bF
      replace hW5 := Lib.hid hW5
      clear b6 m5 a5 b5 a4 b4 m3 hb3 hcall hW hM o5 hs5
      go_wp2_with (first | (refine wpList_store rfl 85 _ _ rfl _ _ rfl rfl t4.out ?_) | (at_builtin; (refine wpList_app rfl _ _ 22 rfl _ _ _ rfl rfl hrun.out ?_)))
      go_roundw
      case rel => exact ⟨k + 1, by omega, by go_num, m6.out, bF.out, hs6⟩
      case measure => simp [intOf]; omega
    · have hkk : (n + 31) / 32 = k := by omega
      have hbo := hM.out.bytes
      rw [← hol] at hbo
      have hcb := bytes_cut hbo 0 n (by omega) (by omega)
      rw [List.drop_zero, Nat.sub_zero] at hcb
      have hkl : (outB pass salt r k).take n = keyL pass salt r n := by rw [keyL_eq, hkk]
      rw [hkl] at hcb
      have hs0 : sliced oa 0 n oc 1 = .slice oa n oc := by
        cases oa with
        | none => simp [Go.sliced]
        | some x => simp [Go.sliced, Addr.add]
      rw [hs0] at hcb
      have hcl := clone_ok hcb (by rw [keyL_length]; omega)
      rw [keyL_length] at hcl
      have hwB : B0 ≤ wr.heap.size := Nat.le_trans hBB hBs
      replace hcl := Lib.hid hcl
      replace hwb := Lib.hid hwb
      clear hs0 hcb hkl hbo hM hW hol hk2 hkk
      go_wp2_with fail
      refine hcl.out.mono ?_
      rintro e w4 ⟨v, rfl, hv1, hv2, _⟩
      replace hv1 := Lib.hid hv1
      replace hv2 := Lib.hid hv2
      clear hcl
      go_wp2
      go_ret2
      exact ⟨v, rfl, owns_base hv1.out (HB0.out ▸ hwB), HB0.out ▸ hwb.out.trans (hv2.out.mono hwB)⟩
end Go.Proofs.Ytbgfdbidbjlaaaa.Fd

/-
  Seal of a fresh ideal suite, and Seal and Open of what it knows. No condition beyond what each theorem names.
-/
import Derived.Test.YtbgfdbidbjlaaaaBckSuCallPk
import Derived.Test.YtbgfdbidbjlaaaaBckTakesB
namespace Go.Proofs.Ytbgfdbidbjlaaaa.Fd
open Go Go.RowKit K

theorem SuiteAt.kept' {w w' : World} {B s : Nat} {c t : Option Addr} (h : SuiteAt w s c t) (hk : Kept B w w') : SuiteAt w' s c t := (hk.keep s _ _ _ h (by decide) (by decide) (by decide)).trans h
theorem outs_congr {r r' : Nat → List UInt8} : ∀ {n : Nat}, (∀ j, j < n → r j = r' j) → outs r n = outs r' n
  | 0, _ => by rw [outs_zero, outs_zero]
  | n + 1, h => by rw [outs_succ, outs_succ, outs_congr (fun j hj => h j (by omega)), h n (by omega)]
theorem outs_blk (l : List UInt8) : ∀ n, outs (blk l) n = l.take (16 * n)
  | 0 => by rw [outs_zero]; simp
  | n + 1 => by
    rw [outs_succ, outs_blk l n, blk, show 16 * (n + 1) = 16 * n + 16 by omega, List.take_add]
def takesL (what : ByteArray) (j : Nat) : List (ByteArray × Nat × Nat) := (List.range j).map fun i => (what, 16 * i, 16)
theorem takesL_succ {what : ByteArray} {j : Nat} : takesL what (j + 1) = takesL what j ++ [(what, 16 * j, 16)] := by simp [takesL, List.range_succ]

/-- so many blocks are sealed -/
structure Sealed (w1 : World) (B : Nat) (S : IdSt) (what key : ByteArray) (unit : Nat) (data : List UInt8) (j : Nat) (S' : IdSt) : Prop where
  st : IdealO w1 B S'
  c : S'.c = S.c
  tp : S'.tp = S.tp
  b : S'.b = S.b
  bv : S'.bv = S.bv
  a : S'.a = 16 * j
  ts : S'.ts = takesL what j
  len : S'.pls.length = j
  low : ∀ q ∈ S'.pls, ∃ i, i < j ∧ q.1 = (key, unit, i)
  all : ∀ i, i < j → ∃ q ∈ S'.pls, q.1 = (key, unit, i) ∧ q.2.2.2 = some (blk data i, blk S.b i)

theorem key_fits {key : List UInt8} {unit i : Nat} (hk : keyOk key.length unit) (hi : i ≤ 1000000) : PKey.fits (⟨key.toArray⟩, unit, i) := by
  refine ⟨?_, ?_, ?_⟩
  · show key.toArray.size ≤ maxLen
    have := hk.1
    simp [maxLen]
    omega
  · have := hk.2.2
    show unit ≤ _
    omega
  · show i ≤ _
    omega

theorem seal_fresh {w : World} {B s : Nat} {t : Option Addr} {S : IdSt} (hs : SuiteAt w s (some ⟨S.c, 0, none⟩) t) (hI : IdealO w B S) (h0 : S.pls = []) (ha : S.a = 0) (ht : S.ts = []) (what : ByteArray) {ka da : Option Addr} {kc dc : Nat} {key data : List UInt8}
    (hkb : ∀ w1, Kept B w w1 → Bytes w1 (fun _ => True) (.slice ka key.length kc) key) (hdb : ∀ w1, Kept B w w1 → Bytes w1 (fun _ => True) (.slice da data.length dc) data) (unit : Nat) (hk : keyOk key.length unit) (h16 : data.length % 16 = 0) (hmost : data.length ≤ 4096) :
    Calls Try.prog 10 #[.pointer (some ⟨s, 0, none⟩), .string what, .slice ka key.length kc, .int .i64 unit, .slice da data.length dc] w fun e w' => Kept B w w' ∧
      ((data.length ≤ S.b.length ∧ ∃ a c S', e = .returned (.tuple #[.slice a data.length c, .int .i64 0]) ∧ w'.ownsRow w.heap.size 5 1 (.slice a data.length c) data.length (u8s (S.b.take data.length)) ∧ Sealed w' B S what ⟨key.toArray⟩ unit data (data.length / 16) S') ∨
       (S.b.length < data.length ∧ e = .returned (.tuple #[.slice none 0 0, .int .i64 9]))) := by
  have hbn : ∀ g, S.bv.ownBlock = some g → g < w.heap.size := fun g hg => (hI.tape.bytes.lt g hg).2
  have hth := through_id (f := 22) (p := .pointer (some ⟨S.c, 0, none⟩)) hI.room (what := what) hkb hdb unit hk h16 hmost
    (fun _ _ => by go_simp) (fun j w1 => ∃ S', Sealed w1 B S what ⟨key.toArray⟩ unit data j S')
    (fun j => if 16 * j + 16 ≤ S.b.length then blk S.b j else List.replicate 16 0) (fun j => by
      by_cases h : 16 * j + 16 ≤ S.b.length
      · simp only [h, if_true]; exact blk_length h
      · simp only [h, if_false]; exact List.length_replicate)
    (fun j => if 16 * j + 16 ≤ S.b.length then 0 else 9) (fun j => by by_cases h : 16 * j + 16 ≤ S.b.length <;> simp [h])
    ⟨S, hI, rfl, rfl, rfl, rfl, by rw [ha], by rw [ht]; rfl, by rw [h0]; rfl, by rw [h0]; simp, fun i h => absurd h (Nat.not_lt_zero i)⟩
    (fun j a b ⟨S', h1⟩ h2 => ⟨S', h1.st.soft (by rw [h1.bv]; exact hbn) h2, h1.c, h1.tp, h1.b, h1.bv, h1.a, h1.ts, h1.len, h1.low, h1.all⟩)
    (fun j w1 hj ⟨S', h1⟩ h2 => by
      have hjd : 16 * j + 16 ≤ data.length := by omega
      have hf : ∀ q ∈ S'.pls, q.1 ≠ (⟨key.toArray⟩, unit, j) := fun q hq e => by
        obtain ⟨i, hi, he⟩ := h1.low q hq
        rw [he] at e
        simp at e
        omega
      have hc := h1.c
      by_cases h : 16 * j + 16 ≤ S.b.length
      · simp only [h, if_true]
        rw [← hc]
        refine (enc_new h1.st (key_fits hk (by omega)) hf (blk_length hjd) what (by rw [h1.a, h1.b]; exact h) (by rw [h1.len]; omega)).mono ?_
        rintro e w2 ⟨tv', f, g, rfl, q1, q2⟩
        have eb : (S'.b.drop S'.a).take 16 = blk S.b j := by rw [h1.a, h1.b]; rfl
        rw [eb] at q1 ⊢
        refine ⟨rfl, q2, fun _ => ⟨_, q1, h1.c, h1.tp, h1.b, h1.bv, ?_, ?_, ?_, ?_, ?_⟩⟩
        · show S'.a + 16 = 16 * (j + 1)
          rw [h1.a]; omega
        · show S'.ts ++ [(what, S'.a, 16)] = takesL what (j + 1)
          rw [h1.ts, h1.a, takesL_succ]
        · show (S'.pls ++ [_]).length = j + 1
          rw [List.length_append, h1.len, List.length_singleton]
        · intro q hq
          rcases List.mem_append.1 hq with hq | hq
          · obtain ⟨i, hi, he⟩ := h1.low q hq
            exact ⟨i, by omega, he⟩
          · simp at hq
            subst hq
            exact ⟨j, by omega, rfl⟩
        · intro i hi
          rcases Nat.lt_succ_iff_lt_or_eq.1 hi with hi | hi
          · obtain ⟨q, q3, q4⟩ := h1.all i hi
            exact ⟨q, List.mem_append_left _ q3, q4⟩
          · subst hi
            exact ⟨_, List.mem_append_right _ (List.mem_singleton.2 rfl), rfl, rfl⟩
      · simp only [h, if_false]
        rw [← hc]
        refine (enc_short h1.st (key_fits hk (by omega)) hf (blk_length hjd) what (by rw [h1.a, h1.b]; omega)).mono ?_
        rintro e w2 ⟨rfl, q2⟩
        exact ⟨rfl, q2, fun e => absurd e (by decide)⟩)
  refine seal_ideal hs _ _ _ _ _ (hth.mono ?_)
  rintro e w' ⟨K, h1, h2, h3, ⟨hK, v, rfl, h5, S', h6⟩ | ⟨h4, h5, rfl⟩⟩
  · obtain ⟨a, c, rfl, _, _⟩ := (Cells.own h5).shape
    have hd : 16 * K = data.length := by omega
    rw [hd] at h5 ⊢
    have hle : data.length ≤ S.b.length := by
      by_cases hK0 : K = 0
      · omega
      · have h7 := h2 (K - 1) (by omega)
        by_cases h8 : 16 * (K - 1) + 16 ≤ S.b.length
        · omega
        · simp only [h8, if_false] at h7
          exact absurd h7 (by decide)
    refine ⟨a, _, c, 0, rfl, h3, .inl ⟨hle, a, c, S', rfl, ?_, ?_⟩⟩
    · rw [outs_congr (r' := blk S.b) (fun j hj => by rw [if_pos (by omega)]), outs_blk, hd] at h5
      exact h5
    · rw [← hK]
      exact h6
  · refine ⟨none, 0, 0, 9, rfl, h3, .inr ⟨?_, rfl⟩⟩
    by_cases h8 : 16 * K + 16 ≤ S.b.length
    · simp only [h8, if_true] at h5
      exact absurd h5 (by decide)
    · omega

theorem seal_known {w : World} {B s : Nat} {t : Option Addr} {S S' : IdSt} {what0 : ByteArray} (hs : SuiteAt w s (some ⟨S'.c, 0, none⟩) t) (what : ByteArray) {ka da : Option Addr} {kc dc : Nat} {key data : List UInt8} (unit : Nat) (hS : Sealed w B S what0 ⟨key.toArray⟩ unit data (data.length / 16) S')
    (hkb : ∀ w1, Kept B w w1 → Bytes w1 (fun _ => True) (.slice ka key.length kc) key) (hdb : ∀ w1, Kept B w w1 → Bytes w1 (fun _ => True) (.slice da data.length dc) data) (hk : keyOk key.length unit) (h16 : data.length % 16 = 0) (hmost : data.length ≤ 4096) (hle : data.length ≤ S.b.length) :
    Calls Try.prog 10 #[.pointer (some ⟨s, 0, none⟩), .string what, .slice ka key.length kc, .int .i64 unit, .slice da data.length dc] w fun e w' => Kept B w w' ∧ ∃ a c, e = .returned (.tuple #[.slice a data.length c, .int .i64 0]) ∧ w'.ownsRow w.heap.size 5 1 (.slice a data.length c) data.length (u8s (S.b.take data.length)) ∧ IdealO w' B S' := by
  have hI := hS.st
  have hbn : ∀ g, S'.bv.ownBlock = some g → g < w.heap.size := fun g hg => (hI.tape.bytes.lt g hg).2
  have hth := through_id (f := 22) (p := .pointer (some ⟨S'.c, 0, none⟩)) hI.room (what := what) hkb hdb unit hk h16 hmost
    (fun _ _ => by go_simp) (fun j w1 => IdealO w1 B S') (fun j => if 16 * j + 16 ≤ S.b.length then blk S.b j else List.replicate 16 0) (fun j => by
      by_cases h : 16 * j + 16 ≤ S.b.length
      · simp only [h, if_true]; exact blk_length h
      · simp only [h, if_false]; exact List.length_replicate)
    (fun _ => 0) (fun _ => .inl rfl) hI (fun j a b h1 h2 => h1.soft hbn h2)
    (fun j w1 hj h1 h2 => by
      have h : 16 * j + 16 ≤ S.b.length := by omega
      simp only [h, if_true]
      obtain ⟨q, q1, q2, q3⟩ := hS.all j hj
      refine (enc_known h1 (key_fits hk (by omega)) q1 q2 q3 _).mono ?_
      rintro e w2 ⟨rfl, hc⟩
      exact ⟨rfl, Kept.chg h1.room hc, fun _ => h1.after (Chg.no hc)⟩)
  refine seal_ideal hs _ _ _ _ _ (hth.mono ?_)
  rintro e w' ⟨K, h1, h2, h3, ⟨hK, v, rfl, h5, h6⟩ | ⟨h4, h5, rfl⟩⟩
  · obtain ⟨a, c, rfl, _, _⟩ := (Cells.own h5).shape
    have hd : 16 * K = data.length := by omega
    rw [hd] at h5 ⊢
    refine ⟨a, _, c, 0, rfl, h3, a, c, rfl, ?_, h6⟩
    rw [outs_congr (r' := blk S.b) (fun j hj => by rw [if_pos (by omega)]), outs_blk, hd] at h5
    exact h5
  · exact absurd h5 (by decide)

theorem blk_take {l : List UInt8} {n j : Nat} (h : 16 * j + 16 ≤ n) : blk (l.take n) j = blk l j := by
  simp only [blk]
  rw [List.drop_take, List.take_take, Nat.min_eq_left (by omega)]
theorem open_known {w : World} {B s : Nat} {t : Option Addr} {S S' : IdSt} {what0 : ByteArray} (hs : SuiteAt w s (some ⟨S'.c, 0, none⟩) t) (what : ByteArray) {ka da : Option Addr} {kc dc : Nat} {key data : List UInt8} (unit : Nat) (hS : Sealed w B S what0 ⟨key.toArray⟩ unit data (data.length / 16) S')
    (hkb : ∀ w1, Kept B w w1 → Bytes w1 (fun _ => True) (.slice ka key.length kc) key) (hdb : ∀ w1, Kept B w w1 → Bytes w1 (fun _ => True) (.slice da (S.b.take data.length).length dc) (S.b.take data.length)) (hk : keyOk key.length unit) (h16 : data.length % 16 = 0) (hmost : data.length ≤ 4096) (hle : data.length ≤ S.b.length) :
    Calls Try.prog 12 #[.pointer (some ⟨s, 0, none⟩), .string what, .slice ka key.length kc, .int .i64 unit, .slice da data.length dc] w fun e w' => Kept B w w' ∧ ∃ a c, e = .returned (.tuple #[.slice a data.length c, .int .i64 0]) ∧ w'.ownsRow w.heap.size 5 1 (.slice a data.length c) data.length (u8s data) ∧ IdealO w' B S' := by
  have hI := hS.st
  have hlen : (S.b.take data.length).length = data.length := by rw [List.length_take]; omega
  have hbn : ∀ g, S'.bv.ownBlock = some g → g < w.heap.size := fun g hg => (hI.tape.bytes.lt g hg).2
  have hth := through_id (f := 24) (p := .pointer (some ⟨S'.c, 0, none⟩)) hI.room (what := what) hkb hdb unit hk (by rw [hlen]; exact h16) (by rw [hlen]; exact hmost)
    (fun _ _ => by go_simp) (fun j w1 => IdealO w1 B S') (fun j => if 16 * j + 16 ≤ data.length then blk data j else List.replicate 16 0) (fun j => by
      by_cases h : 16 * j + 16 ≤ data.length
      · simp only [h, if_true]; exact blk_length h
      · simp only [h, if_false]; exact List.length_replicate)
    (fun _ => 0) (fun _ => .inl rfl) hI (fun j a b h1 h2 => h1.soft hbn h2)
    (fun j w1 hj h1 h2 => by
      rw [hlen] at hj
      have h : 16 * j + 16 ≤ data.length := by omega
      simp only [h, if_true]
      obtain ⟨q, q1, q2, q3⟩ := hS.all j hj
      rw [blk_take h]
      refine (dec_known h1 (key_fits hk (by omega)) q1 q2 q3 _).mono ?_
      rintro e w2 ⟨rfl, hc⟩
      exact ⟨rfl, Kept.chg h1.room hc, fun _ => h1.after (Chg.no hc)⟩)
  rw [hlen] at hth
  refine open_ideal hs _ _ _ _ _ (hth.mono ?_)
  rintro e w' ⟨K, h1, h2, h3, ⟨hK, v, rfl, h5, h6⟩ | ⟨h4, h5, rfl⟩⟩
  · obtain ⟨a, c, rfl, _, _⟩ := (Cells.own h5).shape
    have hd : 16 * K = data.length := by omega
    rw [hd] at h5 ⊢
    refine ⟨a, _, c, 0, rfl, h3, a, c, rfl, ?_, h6⟩
    rw [outs_congr (r' := blk data) (fun j hj => by rw [if_pos (by omega)]), outs_blk, hd, List.take_of_length_le (Nat.le_refl _)] at h5
    exact h5
  · exact absurd h5 (by decide)
end Go.Proofs.Ytbgfdbidbjlaaaa.Fd

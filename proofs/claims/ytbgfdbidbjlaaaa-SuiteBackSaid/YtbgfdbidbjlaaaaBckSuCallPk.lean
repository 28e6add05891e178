/-
  Texts of this claim, laid together by a program of mine. No condition beyond what each theorem names.
-/
import Derived.Test.YtbgfdbidbjlaaaaBckSuThru
import Derived.Test.YtbgfdbidbjlaaaaBckKey
import Derived.Test.YtbgfdbidbjlaaaaBckAlTapePk
/-
  suite.Seal, Open, Derive by what they call; what suite.through and ideal.Key refuse. No condition beyond what each theorem names.
-/
namespace Go.Proofs.Ytbgfdbidbjlaaaa.Fd
open Go Go.RowKit K

/-- an answer of a slice and a number -/
def Two (Q : Ending → World → Prop) (e : Ending) (w : World) : Prop := ∃ a n c er, e = .returned (.tuple #[.slice a n c, .int .i64 er]) ∧ Q e w

set_option maxRecDepth 100000 in
set_option maxHeartbeats 4000000 in
theorem suThroughBad_ok {w : World} (what kv dv fv : Value) (unit : Int) (h : Calls Try.prog 30 #[kv, .int .i64 unit, dv] w fun e w' => e = .returned (.bool false) ∧ Below w.heap.size w w') :
    Calls Try.prog 21 #[what, kv, .int .i64 unit, dv, fv] w fun e w' => e = .returned (.tuple #[.slice none 0 0, .int .i64 1]) ∧ Below w.heap.size w w' := by
  replace h := Lib.hid h
  go_enter Try.func21, Try.ntmps21
  go_wp2_with fail
  refine h.out.mono ?_
  rintro e w1 ⟨rfl, h1⟩
  replace h1 := Lib.hid h1
  go_wp2
  go_ret2
  exact ⟨rfl, h1.out⟩

set_option maxRecDepth 100000 in
set_option maxHeartbeats 4000000 in
theorem seal_ideal {w : World} {s : Nat} {c : Addr} {t : Option Addr} (hs : SuiteAt w s (some c) t) (what kv dv : Value) (unit : Int) (Q : Ending → World → Prop)
    (h : Calls Try.prog 21 #[what, kv, .int .i64 unit, dv, .func (.func 22) #[.pointer (some c)] #[]] w (Two Q)) :
    Calls Try.prog 10 #[.pointer (some ⟨s, 0, none⟩), what, kv, .int .i64 unit, dv] w Q := by
  have hi := Lib.hid (isIdeal_ok hs)
  have h1 : w.cell? ⟨s, 0, none⟩ = some (.pointer (some c)) := cell_of hs 0
  replace h := Lib.hid h
  clear hs
  go_enter Try.func10, Try.ntmps10
  go_wp2_with (first | (go_at_call 19; refine hi.out.mono ?_; rintro e w' ⟨rfl, rfl⟩) | fail)
  refine h.out.mono ?_
  rintro e w' ⟨a, n, cp, er, rfl, hQ⟩
  replace hQ := Lib.hid hQ
  go_wp2
  exact hQ.out
set_option maxRecDepth 100000 in
set_option maxHeartbeats 4000000 in
theorem seal_real {w : World} {s : Nat} {t : Option Addr} (hs : SuiteAt w s none t) (what kv dv : Value) (unit : Int) (Q : Ending → World → Prop)
    (h : Calls Try.prog 23 #[kv, .int .i64 unit, dv] w (Two Q)) :
    Calls Try.prog 10 #[.pointer (some ⟨s, 0, none⟩), what, kv, .int .i64 unit, dv] w Q := by
  have hi := Lib.hid (isIdeal_ok hs)
  replace h := Lib.hid h
  clear hs
  go_enter Try.func10, Try.ntmps10
  go_wp2_with (first | (go_at_call 19; refine hi.out.mono ?_; rintro e w' ⟨rfl, rfl⟩) | fail)
  refine h.out.mono ?_
  rintro e w' ⟨a, n, cp, er, rfl, hQ⟩
  replace hQ := Lib.hid hQ
  go_wp2
  exact hQ.out

set_option maxRecDepth 100000 in
set_option maxHeartbeats 4000000 in
theorem open_ideal {w : World} {s : Nat} {c : Addr} {t : Option Addr} (hs : SuiteAt w s (some c) t) (what kv dv : Value) (unit : Int) (Q : Ending → World → Prop)
    (h : Calls Try.prog 21 #[what, kv, .int .i64 unit, dv, .func (.func 24) #[.pointer (some c)] #[]] w (Two Q)) :
    Calls Try.prog 12 #[.pointer (some ⟨s, 0, none⟩), what, kv, .int .i64 unit, dv] w Q := by
  have hi := Lib.hid (isIdeal_ok hs)
  have h1 : w.cell? ⟨s, 0, none⟩ = some (.pointer (some c)) := cell_of hs 0
  replace h := Lib.hid h
  clear hs
  go_enter Try.func12, Try.ntmps12
  go_wp2_with (first | (go_at_call 19; refine hi.out.mono ?_; rintro e w' ⟨rfl, rfl⟩) | fail)
  refine h.out.mono ?_
  rintro e w' ⟨a, n, cp, er, rfl, hQ⟩
  replace hQ := Lib.hid hQ
  go_wp2
  exact hQ.out
set_option maxRecDepth 100000 in
set_option maxHeartbeats 4000000 in
theorem open_real {w : World} {s : Nat} {t : Option Addr} (hs : SuiteAt w s none t) (what kv dv : Value) (unit : Int) (Q : Ending → World → Prop)
    (h : Calls Try.prog 25 #[kv, .int .i64 unit, dv] w (Two Q)) :
    Calls Try.prog 12 #[.pointer (some ⟨s, 0, none⟩), what, kv, .int .i64 unit, dv] w Q := by
  have hi := Lib.hid (isIdeal_ok hs)
  replace h := Lib.hid h
  clear hs
  go_enter Try.func12, Try.ntmps12
  go_wp2_with (first | (go_at_call 19; refine hi.out.mono ?_; rintro e w' ⟨rfl, rfl⟩) | fail)
  refine h.out.mono ?_
  rintro e w' ⟨a, n, cp, er, rfl, hQ⟩
  replace hQ := Lib.hid hQ
  go_wp2
  exact hQ.out

set_option maxRecDepth 100000 in
set_option maxHeartbeats 4000000 in
theorem derive_ideal {w : World} {s : Nat} {c : Addr} {t : Option Addr} (hs : SuiteAt w s (some c) t) (what : ByteArray) (hw : what.size ≤ 1000) (pv sv : Value) (r n : Int) (Q : Ending → World → Prop)
    (h : Calls Try.prog 26 #[.pointer (some c), .string (what ++ ⟨#[32, 107, 101, 121]⟩), pv, sv, .int .i64 r, .int .i64 n] w (Two Q)) :
    Calls Try.prog 14 #[.pointer (some ⟨s, 0, none⟩), .string what, pv, sv, .int .i64 r, .int .i64 n] w Q := by
  have hi := Lib.hid (isIdeal_ok hs)
  have h1 : w.cell? ⟨s, 0, none⟩ = some (.pointer (some c)) := cell_of hs 0
  replace h := Lib.hid h
  clear hs
  go_enter Try.func14, Try.ntmps14
  go_wp2_with (first | (go_at_call 19; refine hi.out.mono ?_; rintro e w' ⟨rfl, rfl⟩) | fail)
  refine h.out.mono ?_
  rintro e w' ⟨a, n, cp, er, rfl, hQ⟩
  replace hQ := Lib.hid hQ
  go_wp2
  exact hQ.out
set_option maxRecDepth 100000 in
set_option maxHeartbeats 4000000 in
theorem derive_real {w : World} {s : Nat} {t : Option Addr} (hs : SuiteAt w s none t) (what pv sv : Value) (r n : Int) (Q : Ending → World → Prop)
    (h : Calls Try.prog 27 #[pv, sv, .int .i64 r, .int .i64 n] w (Two Q)) :
    Calls Try.prog 14 #[.pointer (some ⟨s, 0, none⟩), what, pv, sv, .int .i64 r, .int .i64 n] w Q := by
  have hi := Lib.hid (isIdeal_ok hs)
  replace h := Lib.hid h
  clear hs
  go_enter Try.func14, Try.ntmps14
  go_wp2_with (first | (go_at_call 19; refine hi.out.mono ?_; rintro e w' ⟨rfl, rfl⟩) | fail)
  refine h.out.mono ?_
  rintro e w' ⟨a, n, cp, er, rfl, hQ⟩
  replace hQ := Lib.hid hQ
  go_wp2
  exact hQ.out

set_option maxRecDepth 100000 in
set_option maxHeartbeats 4000000 in
/-- ideal.Key refuses what stretch.Key refuses -/
theorem idKey_bad (c what : Value) (pv sv : Value) (r n : Int) (w : World)
    (h : Calls Try.prog 27 #[pv, sv, .int .i64 (min r 1), .int .i64 0] w fun e w' => e = .returned (.tuple #[.slice none 0 0, .int .i64 1]) ∧ w = w') :
    Calls Try.prog 26 #[c, what, pv, sv, .int .i64 r, .int .i64 n] w fun e w' => e = .returned (.tuple #[.slice none 0 0, .int .i64 1]) ∧ w = w' := by
  replace h := Lib.hid h
  obtain ⟨m, hm⟩ : ∃ m, m = min r 1 := ⟨_, rfl⟩
  rw [← hm] at h
  have hmn : (if (1 : Int) < r then 1 else r) = m := by rw [hm]; split <;> omega
  clear hm
  go_enter Try.func26, Try.ntmps26
  go_wp2_with fail
  refine h.out.mono ?_
  rintro e w' ⟨rfl, rfl⟩
  go_wp2
  go_ret2
  exact ⟨rfl, rfl⟩
set_option maxRecDepth 100000 in
set_option maxHeartbeats 4000000 in
/-- ideal.Key refuses a key too long -/
theorem idKey_long (c what : Value) (pv sv : Value) (n : Int) (hn : 256 < n) (w : World)
    (h : Calls Try.prog 27 #[pv, sv, .int .i64 1, .int .i64 0] w fun e w' => ∃ a b c, e = .returned (.tuple #[.slice a b c, .int .i64 0]) ∧ Below w.heap.size w w') :
    Calls Try.prog 26 #[c, what, pv, sv, .int .i64 1, .int .i64 n] w fun e w' => e = .returned (.tuple #[.slice none 0 0, .int .i64 1]) ∧ Below w.heap.size w w' := by
  replace h := Lib.hid h
  go_enter Try.func26, Try.ntmps26
  go_wp2_with fail
  refine h.out.mono ?_
  rintro e w' ⟨x, y, z, rfl, hb⟩
  replace hb := Lib.hid hb
  go_wp2
  go_ret2
  exact ⟨rfl, hb.out⟩
end Go.Proofs.Ytbgfdbidbjlaaaa.Fd
/-
  What the law's last look calls, call by call. No condition beyond what each theorem names.
-/
namespace Go.Proofs.Ytbgfdbidbjlaaaa.Fd
open Go Go.RowKit K

theorem idealO_new {w : World} {B tp c m k : Nat} {bv : Value} {b : List UInt8} (hT : TapeO w B tp bv (.slice none 0 0) b 0 []) (hI : IdealNew w c (some ⟨tp, 0, none⟩) m k) (hB : B ≤ w.heap.size) (hc : B ≤ c) (hm : B ≤ m) :
    IdealO w B ⟨tp, c, m, k, bv, .slice none 0 0, b, 0, [], 0, 0, []⟩ :=
  ⟨hT, hB, hI.box, hc, hm, ⟨#[], 0, hI.places, rfl, by simp⟩, by simp, List.Pairwise.nil, Nat.le_refl _, Nat.le_refl _⟩

def wS : ByteArray := ⟨#[119]⟩
/-- two suites, one of them ideal -/
structure AwSt (w : World) (B s1 p1 s2 : Nat) (S : IdSt) : Prop where
  real : SuiteAt w s1 none (some ⟨p1, 0, none⟩)
  ideal : SuiteAt w s2 (some ⟨S.c, 0, none⟩) (some ⟨S.tp, 0, none⟩)
  st : IdealO w B S
theorem SuiteAt.kept {w w' : World} {B s : Nat} {c t : Option Addr} (h : SuiteAt w s c t) (hk : Kept B w w') : SuiteAt w' s c t := (hk.keep s _ _ _ h (by decide) (by decide) (by decide)).trans h
theorem AwSt.after {w w' : World} {B s1 p1 s2 : Nat} {S : IdSt} (h : AwSt w B s1 p1 s2 S) (hb : Below w.heap.size w w') : AwSt w' B s1 p1 s2 S :=
  ⟨(hb.block _ (heap_lt h.real)).trans h.real, (hb.block _ (heap_lt h.ideal)).trans h.ideal, h.st.after hb⟩
theorem row_kept {w w' : World} {B base : Nat} {v : Value} {n : Nat} {xs : List Value} (h : w.ownsRow base 5 1 v n xs) (hk : Kept B w w') : w'.ownsRow base 5 1 v n xs :=
  owns_keep h (fun g hg => by
    obtain ⟨cur, hc⟩ := own_cells h hg
    exact hk.keep g _ _ _ hc (by decide) (by decide) (by decide))
theorem arr_kept {w w' : World} {B b : Nat} {l : List UInt8} (h : Arr w b 5 l) (hk : Kept B w w') : Arr w' b 5 l := h.keep (hk.keep _ _ _ _ h (by decide) (by decide) (by decide))
theorem arr_bytes' {w : World} {b n : Nat} {l : List UInt8} (h : Arr w b 5 l) (hn : l.length = n) (hl : n ≤ 1000000) : Bytes w (fun _ => True) (.slice (some ⟨b, 0, none⟩) n n) l := by
  subst hn
  exact arr_bytes h (by unfold maxLen; omega)
def zl (n : Nat) : List UInt8 := List.replicate n 0
theorem zl_length {n : Nat} : (zl n).length = n := List.length_replicate

/-- a real Seal -/
theorem aw_real {w : World} {B s1 p1 s2 : Nat} {S : IdSt} (h : AwSt w B s1 p1 s2 S) {kb db : Nat} (hk : Arr w kb 5 (zl 32)) (hd : Arr w db 5 (zl 32)) :
    Calls Try.prog 10 #[.pointer (some ⟨s1, 0, none⟩), .string wS, .slice (some ⟨kb, 0, none⟩) 32 32, .int .i64 0, .slice (some ⟨db, 0, none⟩) 32 32] w fun e w' => ∃ a n c, e = .returned (.tuple #[.slice a n c, .int .i64 0]) ∧
      w'.ownsRow B 5 1 (.slice a n c) 32 (u8s (xtsE (zl 32) 0 (zl 32))) ∧ Kept B w w' ∧ AwSt w' B s1 p1 s2 S := by
  refine seal_real h.real _ _ _ _ _ ((xtsEnc_ok (arr_bytes' hk zl_length (by omega)) 0 ⟨.inl zl_length, by omega, by omega⟩ (arr_bytes' hd zl_length (by omega)) (by rw [zl_length]) (by rw [zl_length]; omega)).mono ?_)
  rintro e w' ⟨v, rfl, h1, h2⟩
  obtain ⟨a, c, rfl, _, _⟩ := (Cells.own h1).shape
  rw [zl_length] at h1
  exact ⟨a, (zl 32).length, c, 0, rfl, a, _, c, rfl, owns_base h1 h.st.room, Kept.chg h.st.room (Chg.of_below h2 _), h.after h2⟩

/-- an ideal Seal of one block, of a cipher that knows nothing -/
theorem aw_ideal {w : World} {B s1 p1 s2 : Nat} {S : IdSt} (h : AwSt w B s1 p1 s2 S) (h0 : S.pls = []) (ha : S.a = 0) (hb : S.b.length = 16) {kb db : Nat} (hk : Arr w kb 5 (zl 32)) (hd : Arr w db 5 (zl 16)) :
    Calls Try.prog 10 #[.pointer (some ⟨s2, 0, none⟩), .string wS, .slice (some ⟨kb, 0, none⟩) 32 32, .int .i64 0, .slice (some ⟨db, 0, none⟩) 16 16] w fun e w' => ∃ a n c, e = .returned (.tuple #[.slice a n c, .int .i64 0]) ∧
      w'.ownsRow B 5 1 (.slice a n c) 16 (u8s S.b) ∧ Kept B w w' ∧ ∃ S', AwSt w' B s1 p1 s2 S' ∧ S'.c = S.c ∧ S'.tp = S.tp ∧ S'.b = S.b ∧ S'.a = 16 ∧ ∀ q ∈ S'.pls, q.1.2.1 = 0 := by
  have hbn : ∀ g, S.bv.ownBlock = some g → g < w.heap.size := fun g hg => (h.st.tape.bytes.lt g hg).2
  have hth := through_id (f := 22) (p := .pointer (some ⟨S.c, 0, none⟩)) h.st.room (what := wS) (ka := some ⟨kb, 0, none⟩) (da := some ⟨db, 0, none⟩) (kc := 32) (dc := 16) (key := zl 32) (data := zl 16)
    (fun w1 h1 => by rw [zl_length]; exact arr_bytes' (arr_kept hk h1) zl_length (by omega)) (fun w1 h1 => by rw [zl_length]; exact arr_bytes' (arr_kept hd h1) zl_length (by omega)) 0 ⟨.inl zl_length, by omega, by omega⟩ (by rw [zl_length]) (by rw [zl_length]; omega)
    (fun _ _ => by go_simp) (fun j w1 => if j = 0 then IdealO w1 B S else ∃ S', IdealO w1 B S' ∧ S'.c = S.c ∧ S'.tp = S.tp ∧ S'.b = S.b ∧ S'.bv = S.bv ∧ S'.a = 16 ∧ ∀ q ∈ S'.pls, q.1.2.1 = 0)
    (fun _ => S.b) (fun _ => hb) (fun _ => 0) (fun _ => .inl rfl) h.st (fun j a b h1 h2 => by
      by_cases hj : j = 0
      · simp only [hj, if_true] at h1 ⊢
        exact h1.soft hbn h2
      · simp only [hj, if_false] at h1 ⊢
        obtain ⟨S', p1, p2, p3, p4, p5, p6⟩ := h1
        exact ⟨S', p1.soft (by rw [p5]; exact hbn) h2, p2, p3, p4, p5, p6⟩)
    (fun j w1 hj h1 h2 => by
      have hj0 : j = 0 := by rw [zl_length] at hj; omega
      subst hj0
      simp only [if_true] at h1
      refine (enc_new h1 (key := ⟨(zl 32).toArray⟩) (u := 0) (i := 0) ⟨by show (zl 32).toArray.size ≤ maxLen; simp [zl_length, maxLen], by show _ ≤ _; simp, by show _ ≤ _; simp⟩ (by rw [h0]; simp) (x := blk (zl 16) 0) (blk_length (by rw [zl_length]; omega)) wS (by omega) (by rw [h0]; simp)).mono ?_
      rintro e w2 ⟨tv', f, g, rfl, q1, q2⟩
      refine ⟨by rw [ha, List.drop_zero, List.take_of_length_le (by omega)], q2, fun _ => ?_⟩
      simp only [Nat.add_one_ne_zero, if_false]
      exact ⟨_, q1, rfl, rfl, rfl, rfl, by show S.a + 16 = 16; omega, by rw [h0]; simp⟩)
  rw [zl_length, zl_length] at hth
  refine seal_ideal h.ideal _ _ _ _ _ (hth.mono ?_)
  rintro e w' ⟨K, h1, h2, h3, ⟨rfl, v, rfl, h5, h6⟩ | ⟨h4, h5, _⟩⟩
  · obtain ⟨a, c, rfl, _, _⟩ := (Cells.own h5).shape
    simp only [show ¬ (16 / 16 = 0) by omega, if_false] at h6
    obtain ⟨S', p1, p2, p3, p4, p5, p6, p7⟩ := h6
    refine ⟨a, _, c, 0, rfl, a, _, c, rfl, ?_, h3, S', ⟨h.real.kept h3, by rw [p2, p3]; exact h.ideal.kept h3, p1⟩, p2, p3, p4, p6, p7⟩
    have h7 := owns_base h5 h.st.room
    rw [show (16 / 16 : Nat) = 0 + 1 from rfl, outs_succ, outs_zero, List.nil_append] at h7
    exact h7
  · exact absurd h5 (by decide)

/-- an ideal Open at another unit: the tape is short -/
theorem aw_open {w : World} {B s1 p1 s2 : Nat} {S : IdSt} (h : AwSt w B s1 p1 s2 S) (h0 : ∀ q ∈ S.pls, q.1.2.1 = 0) (ha : S.a = 16) (hb : S.b.length = 16) {kb db : Nat} (hk : Arr w kb 5 (zl 32)) (hd : Arr w db 5 (zl 16)) :
    Calls Try.prog 12 #[.pointer (some ⟨s2, 0, none⟩), .string wS, .slice (some ⟨kb, 0, none⟩) 32 32, .int .i64 1, .slice (some ⟨db, 0, none⟩) 16 16] w fun e w' => e = .returned (.tuple #[.slice none 0 0, .int .i64 9]) ∧ Kept B w w' := by
  have hbn : ∀ g, S.bv.ownBlock = some g → g < w.heap.size := fun g hg => (h.st.tape.bytes.lt g hg).2
  have hth := through_id (f := 24) (p := .pointer (some ⟨S.c, 0, none⟩)) h.st.room (what := wS) (ka := some ⟨kb, 0, none⟩) (da := some ⟨db, 0, none⟩) (kc := 32) (dc := 16) (key := zl 32) (data := zl 16)
    (fun w1 h1 => by rw [zl_length]; exact arr_bytes' (arr_kept hk h1) zl_length (by omega)) (fun w1 h1 => by rw [zl_length]; exact arr_bytes' (arr_kept hd h1) zl_length (by omega)) 1 ⟨.inl zl_length, by omega, by omega⟩ (by rw [zl_length]) (by rw [zl_length]; omega)
    (fun _ _ => by go_simp) (fun j w1 => if j = 0 then IdealO w1 B S else True)
    (fun _ => zl 16) (fun _ => zl_length) (fun _ => 9) (fun _ => .inr rfl) h.st (fun j a b h1 h2 => by
      by_cases hj : j = 0
      · simp only [hj, if_true] at h1 ⊢
        exact h1.soft hbn h2
      · simp only [hj, if_false])
    (fun j w1 hj h1 h2 => by
      have hj0 : j = 0 := by rw [zl_length] at hj; omega
      subst hj0
      simp only [if_true] at h1
      refine (dec_short h1 (key := ⟨(zl 32).toArray⟩) (u := 1) (i := 0) ⟨by show (zl 32).toArray.size ≤ maxLen; simp [zl_length, maxLen], by show _ ≤ _; simp, by show _ ≤ _; simp⟩ (fun q hq e => by have := h0 q hq; rw [e] at this; simp at this) (x := blk (zl 16) 0) (blk_length (by rw [zl_length]; omega)) wS (by omega)).mono ?_
      rintro e w2 ⟨rfl, q2⟩
      exact ⟨rfl, q2, fun e => absurd e (by decide)⟩)
  rw [zl_length, zl_length] at hth
  refine open_ideal h.ideal _ _ _ _ _ (hth.mono ?_)
  rintro e w' ⟨K, h1, h2, h3, ⟨rfl, v, rfl, h5, h6⟩ | ⟨h4, h5, rfl⟩⟩
  · exact absurd (h2 0 (by decide)) (by decide)
  · exact ⟨none, 0, 0, 9, rfl, rfl, h3⟩
end Go.Proofs.Ytbgfdbidbjlaaaa.Fd

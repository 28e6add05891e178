/-
  What SuiteBack asks of a suite, real or ideal. No condition beyond what each theorem names.
-/
import Derived.Test.YtbgfdbidbjlaaaaBckSuMany
import Derived.Test.YtbgfdbidbjlaaaaBckDecThru
import Derived.Test.YtbgfdbidbjlaaaaBckForms
namespace Go.Proofs.Ytbgfdbidbjlaaaa.Fd
open Go Go.RowKit K

def strOf (v : Value) (D : ByteArray) (w : World) : Prop := (convert 22 9 v).run Try.prog w = .ok (.string D) w
def BackOk (b : Bool) (B : Nat) (w : World) (kv dv : Value) (unit : Nat) (m p s : Nat) (w3 : World) : Prop :=
  ∃ (L : Nat) (X D : ByteArray), (b = true ∨ L = 2000) ∧ Calls Try.prog 10 #[.pointer (some ⟨s, 0, none⟩), .string wS, kv, .int .i64 unit, dv] w3 fun e w4 => ∃ a c, e = .returned (.tuple #[.slice a m c, .int .i64 0]) ∧ m ≤ c ∧ c ≤ maxLen ∧
    Calls Try.prog 11 #[.pointer (some ⟨p, 0, none⟩)] w4 fun e w5 => e = .returned (.int .i64 L) ∧
    Calls Try.prog 12 #[.pointer (some ⟨s, 0, none⟩), .string wS, kv, .int .i64 unit, .slice a m c] w5 fun e w6 => ∃ a1 c1, e = .returned (.tuple #[.slice a1 m c1, .int .i64 0]) ∧ m ≤ c1 ∧ c1 ≤ maxLen ∧
    Calls Try.prog 10 #[.pointer (some ⟨s, 0, none⟩), .string wS, kv, .int .i64 unit, dv] w6 fun e w7 => ∃ a2 c2, e = .returned (.tuple #[.slice a2 m c2, .int .i64 0]) ∧ m ≤ c2 ∧ c2 ≤ maxLen ∧
      strOf (.slice a1 m c1) D w7 ∧ strOf dv D w7 ∧ strOf (.slice a2 m c2) X w7 ∧ strOf (.slice a m c) X w7 ∧
      Calls Try.prog 11 #[.pointer (some ⟨p, 0, none⟩)] w7 fun e w8 => e = .returned (.int .i64 L) ∧ Below B w w8
theorem str_of {w : World} {S : Nat → Prop} {v : Value} {l : List UInt8} (h : Bytes w S v l) : strOf v ⟨l.toArray⟩ w :=
  run_string w _ _ _ Try.underlying22 Try.underlying5 Try.underlying9 _ _ _ h
theorem bytes_of {w : World} {base n : Nat} {v : Value} {l : List UInt8} (h : w.ownsRow base 5 1 v n (u8s l)) : Bytes w (fun _ => True) v l := by
  have hn : l.length = n := by have := h.1; simpa [u8s_length] using this
  subst hn
  exact (Cells.own h).mono (fun _ _ _ => trivial)
theorem caps_of {w : World} {base n m c : Nat} {a : Option Addr} {xs : List Value} (h : w.ownsRow base 5 1 (.slice a m c) n xs) : m ≤ c ∧ c ≤ maxLen := by
  obtain ⟨_, _, h1, h2, h3⟩ := (Cells.own h).shape
  cases h1
  exact ⟨h2, h3⟩
theorem row_no {w w' : World} {base n : Nat} {v : Value} {xs : List Value} (h : w.ownsRow base 5 1 v n xs) (hb : Below w.heap.size w w') : w'.ownsRow base 5 1 v n xs := owns_keep h (fun g hg => hb.block g (h.lt g hg).2)

theorem back_real {w w3 : World} {B p s : Nat} {bv : Value} {l key data : List UInt8} {kv dv : Value} {unit : Nat} {t : Option Addr} (hB : B = w.heap.size) (hb : Below B w w3) (hs : SuiteAt w3 s none t) (hT : TapeO w3 B p bv (.slice none 0 0) l 0 []) (hl : l.length = 2000)
    (hkb : ∀ w1, Below B w w1 → Bytes w1 (fun _ => True) kv key) (hdb : ∀ w1, Below B w w1 → Bytes w1 (fun _ => True) dv data) (hk : keyOk key.length unit) (h16 : data.length % 16 = 0) (h400 : data.length ≤ 400) :
    BackOk false B w kv dv unit data.length p s w3 := by
  obtain ⟨X, hX⟩ : ∃ X, X = xtsE key unit data := ⟨_, rfl⟩
  have hXl : X.length = data.length := hX ▸ xtsE_length h16
  refine ⟨2000, ⟨X.toArray⟩, ⟨data.toArray⟩, .inr rfl, ?_⟩
  have sealC : ∀ w1, Below w3.heap.size w3 w1 → Calls Try.prog 10 #[.pointer (some ⟨s, 0, none⟩), .string wS, kv, .int .i64 unit, dv] w1 fun e w2 => ∃ a c, e = .returned (.tuple #[.slice a data.length c, .int .i64 0]) ∧ w2.ownsRow w1.heap.size 5 1 (.slice a data.length c) data.length (u8s X) ∧ Below w1.heap.size w1 w2 := fun w1 h1 => by
    have hb1 : Below B w w1 := hb.trans (h1.mono (by have := hb.size; omega))
    refine seal_real ((h1.block _ (heap_lt hs)).trans hs) _ _ _ _ _ ((xtsEnc_ok (hkb w1 hb1) unit hk (hdb w1 hb1) h16 (by omega)).mono ?_)
    rintro e w2 ⟨v, rfl, q1, q2⟩
    obtain ⟨a, c, rfl, _, _⟩ := (Cells.own q1).shape
    rw [← hX] at q1
    exact ⟨a, _, c, 0, rfl, a, c, rfl, q1, q2⟩
  have left : ∀ w1, Below w3.heap.size w3 w1 → Calls Try.prog 11 #[.pointer (some ⟨p, 0, none⟩)] w1 fun e w2 => e = .returned (.int .i64 (2000 : Nat)) ∧ Chg No w1 w2 := fun w1 h1 => by
    have h := left_ok (hT.after h1).at
    rw [hl] at h
    exact h
  refine (sealC w3 (Below.refl _ _)).mono ?_
  rintro e w4 ⟨a, c, rfl, r4, b4⟩
  refine ⟨a, c, rfl, (caps_of r4).1, (caps_of r4).2, (left w4 b4).mono ?_⟩
  rintro e w5 ⟨rfl, c5⟩
  have b5 : Below w3.heap.size w3 w5 := b4.trans ((Chg.no c5).mono b4.size)
  have r5 := row_no r4 (Chg.no c5)
  refine ⟨rfl, open_real ((b5.block _ (heap_lt hs)).trans hs) _ _ _ _ _ ((xtsDec_ok (hkb w5 (hb.trans (b5.mono (by have := hb.size; omega)))) unit hk (bytes_of r5) (by rw [hXl]; exact h16) (by rw [hXl]; omega)).mono ?_)⟩
  rintro e w6 ⟨v, rfl, r6, b6⟩
  have hback : xtsD key unit X = data := by rw [hX]; exact xts_back h16
  rw [hback, hXl] at r6
  obtain ⟨a1, c1, rfl, _, _⟩ := (Cells.own r6).shape
  have b36 : Below w3.heap.size w3 w6 := b5.trans (b6.mono b5.size)
  refine ⟨a1, _, c1, 0, rfl, a1, c1, rfl, (caps_of r6).1, (caps_of r6).2, (sealC w6 b36).mono ?_⟩
  rintro e w7 ⟨a2, c2, rfl, r7, b7⟩
  have b37 : Below w3.heap.size w3 w7 := b36.trans (b7.mono b36.size)
  refine ⟨a2, c2, rfl, (caps_of r7).1, (caps_of r7).2, str_of (bytes_of (row_no r6 b7)), str_of (hdb w7 (hb.trans (b37.mono (by have := hb.size; omega)))), str_of (bytes_of r7), str_of (bytes_of (row_no (row_no r5 b6) b7)), (left w7 b37).mono ?_⟩
  rintro e w8 ⟨rfl, c8⟩
  have hsz : B ≤ w3.heap.size := by have := hb.size; omega
  exact ⟨rfl, (hb.trans (b37.mono hsz)).trans ((Chg.no c8).mono (Nat.le_trans hsz b37.size))⟩

theorem back_ideal {w w3 : World} {B s : Nat} {t : Option Addr} {S : IdSt} {key data : List UInt8} {ka da : Option Addr} {kc dc : Nat} {unit : Nat} (hB : B = w.heap.size) (hb : Below B w w3) (hs : SuiteAt w3 s (some ⟨S.c, 0, none⟩) t) (hI : IdealO w3 B S) (h0 : S.pls = []) (ha : S.a = 0) (ht : S.ts = []) (hl : S.b.length = 2000)
    (hkb : ∀ w1, Below B w w1 → Bytes w1 (fun _ => True) (.slice ka key.length kc) key) (hdb : ∀ w1, Below B w w1 → Bytes w1 (fun _ => True) (.slice da data.length dc) data) (hk : keyOk key.length unit) (h16 : data.length % 16 = 0) (h400 : data.length ≤ 400) :
    BackOk true B w (.slice ka key.length kc) (.slice da data.length dc) unit data.length S.tp s w3 := by
  have hsz : B ≤ w3.heap.size := by have := hb.size; omega
  have kk : ∀ w1, Kept B w3 w1 → Below B w w1 := fun w1 h1 => hb.trans h1.below
  refine ⟨2000 - data.length, ⟨(S.b.take data.length).toArray⟩, ⟨data.toArray⟩, .inl rfl, ?_⟩
  refine (seal_fresh hs hI h0 ha ht wS (fun w1 h1 => hkb w1 (kk w1 h1)) (fun w1 h1 => hdb w1 (kk w1 h1)) unit hk h16 (by omega)).mono ?_
  rintro e w4 ⟨k4, ⟨hle, a, c, S', rfl, r4, hS⟩ | ⟨hlt, -⟩⟩
  case inr => omega
  have left : ∀ w1, IdealO w1 B S' → Calls Try.prog 11 #[.pointer (some ⟨S.tp, 0, none⟩)] w1 fun e w2 => e = .returned (.int .i64 ((2000 - data.length : Nat) : Int)) ∧ Chg No w1 w2 := fun w1 h1 => by
    have h := left_ok h1.tape.at
    rw [hS.tp, hS.b, hl, hS.a, show 16 * (data.length / 16) = data.length by omega] at h
    exact h
  refine ⟨a, c, rfl, (caps_of r4).1, (caps_of r4).2, (left w4 hS.st).mono ?_⟩
  rintro e w5 ⟨rfl, c5⟩
  have hS5 : Sealed w5 B S wS ⟨key.toArray⟩ unit data (data.length / 16) S' := ⟨hS.st.after (Chg.no c5), hS.c, hS.tp, hS.b, hS.bv, hS.a, hS.ts, hS.len, hS.low, hS.all⟩
  have k5 : Kept B w3 w5 := k4.trans (Kept.chg hS.st.room c5)
  have r5 := row_no r4 (Chg.no c5)
  have hlen : (S.b.take data.length).length = data.length := by rw [List.length_take]; omega
  have hs5 : SuiteAt w5 s (some ⟨S'.c, 0, none⟩) t := by rw [hS.c]; exact hs.kept' k5
  refine ⟨rfl, (open_known hs5 wS unit hS5 (fun w1 h1 => hkb w1 (kk w1 (k5.trans h1))) (fun w1 h1 => by rw [hlen]; exact bytes_of (row_kept r5 h1)) hk h16 (by omega) hle).mono ?_⟩
  rintro e w6 ⟨k6, a1, c1, rfl, r6, hI6⟩
  have k36 := k5.trans k6
  have hS6 : Sealed w6 B S wS ⟨key.toArray⟩ unit data (data.length / 16) S' := ⟨hI6, hS.c, hS.tp, hS.b, hS.bv, hS.a, hS.ts, hS.len, hS.low, hS.all⟩
  have hs6 : SuiteAt w6 s (some ⟨S'.c, 0, none⟩) t := hs5.kept' k6
  refine ⟨a1, c1, rfl, (caps_of r6).1, (caps_of r6).2, (seal_known hs6 wS unit hS6 (fun w1 h1 => hkb w1 (kk w1 (k36.trans h1))) (fun w1 h1 => hdb w1 (kk w1 (k36.trans h1))) hk h16 (by omega) hle).mono ?_⟩
  rintro e w7 ⟨k7, a2, c2, rfl, r7, hI7⟩
  have k37 := k36.trans k7
  refine ⟨a2, c2, rfl, (caps_of r7).1, (caps_of r7).2, str_of (bytes_of (row_kept r6 k7)), str_of (hdb w7 (kk w7 k37)), str_of (bytes_of r7), str_of (bytes_of (row_kept (row_kept r5 k6) k7)), (left w7 hI7).mono ?_⟩
  rintro e w8 ⟨rfl, c8⟩
  exact ⟨rfl, (kk w7 k37).trans ((Chg.no c8).mono hI7.room)⟩
end Go.Proofs.Ytbgfdbidbjlaaaa.Fd

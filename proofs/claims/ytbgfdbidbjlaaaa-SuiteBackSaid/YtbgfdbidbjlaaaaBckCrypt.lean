/-
  ideal.Encrypt, ideal.Decrypt. No condition beyond what each theorem names.
-/
import Derived.Test.YtbgfdbidbjlaaaaBckOther
namespace Go.Proofs.Ytbgfdbidbjlaaaa.Fd
open Go Go.RowKit K

/-- what a cipher of chance leaves alone -/
structure Kept (B : Nat) (w w' : World) : Prop where
  below : Below B w w'
  keep : ∀ (g : Nat) (cs : Array Value) (t : TypeId) (m : Nat × Nat), w.heap[g]? = some (.cells cs t m) → t ≠ 46 → t ≠ 41 → t ≠ 79 → w'.heap[g]? = w.heap[g]?
theorem Kept.trans {B : Nat} {a b c : World} (h : Kept B a b) (k : Kept B b c) : Kept B a c :=
  ⟨h.below.trans k.below, fun g cs t m hg h1 h2 h3 => (k.keep g cs t m ((h.keep g cs t m hg h1 h2 h3).trans hg) h1 h2 h3).trans (h.keep g cs t m hg h1 h2 h3)⟩
theorem Kept.chg {B : Nat} {a b : World} (hB : B ≤ a.heap.size) (h : Chg No a b) : Kept B a b :=
  ⟨(Chg.no h).mono hB, fun g _ _ _ hg _ _ _ => h.block g (heap_lt hg) id⟩
abbrev Place := PKey × Nat × Nat × Option (List UInt8 × List UInt8)
def Place.ids (q : Place) : PKey × Nat × Nat := (q.1, q.2.1, q.2.2.1)
structure IdSt where
  tp : Nat
  c : Nat
  m : Nat
  k : Nat
  bv : Value
  tv : Value
  b : List UInt8
  a : Nat
  ts : List (ByteArray × Nat × Nat)
  cn : Nat
  ag : Int
  pls : List Place
structure IdealO (w : World) (B : Nat) (S : IdSt) : Prop where
  tape : TapeO w B S.tp S.bv S.tv S.b S.a S.ts
  room : B ≤ w.heap.size
  box : w.heap[S.c]? = some (idBox (some ⟨S.tp, 0, none⟩) S.m S.k S.cn S.ag)
  baseC : B ≤ S.c
  baseM : B ≤ S.m
  places : ∃ es clk, MapP w S.m (S.pls.map Place.ids) es clk
  pairs : ∀ q ∈ S.pls, S.m < q.2.1 ∧ q.2.1 < q.2.2.1 ∧ MapB w q.2.1 q.2.2.2 ∧ MapB w q.2.2.1 (q.2.2.2.map Prod.swap)
  apart : S.pls.Pairwise (fun q r => q.2.2.1 < r.2.1 ∧ q.1 ≠ r.1)
  cnt : S.cn ≤ S.pls.length
  tkn : S.ts.length ≤ S.pls.length
theorem IdealO.after {w w' : World} {B : Nat} {S : IdSt} (h : IdealO w B S) (hb : Below w.heap.size w w') : IdealO w' B S := by
  obtain ⟨es, clk, hp⟩ := h.places
  exact ⟨h.tape.after hb, Nat.le_trans h.room hb.size, (hb.block _ (heap_lt h.box)).trans h.box, h.baseC, h.baseM, ⟨es, clk, (hb.block _ (heap_lt hp.box)).trans hp.box, hp.row, hp.fit⟩,
    fun q hq => by
      obtain ⟨h1, h2, h3, h4⟩ := h.pairs q hq
      exact ⟨h1, h2, h3.keep (hb.block _ h3.lt), h4.keep (hb.block _ h4.lt)⟩, h.apart, h.cnt, h.tkn⟩

set_option maxRecDepth 100000 in
set_option maxHeartbeats 4000000 in
theorem enc_walk {w : World} {c : Nat} {what : Value} {key : ByteArray} {u i : Nat} {x : List UInt8} (hx : x.length = 16) (P : Nat → Nat → World → Prop) (Q : List UInt8 → Int → World → Prop)
    (hat : ∀ wB, wB = (w.alloc (.cells (u8s x).toArray 61)).alloc (.cells (u8s (List.replicate 16 0)).toArray 61) → Calls Try.prog 31 #[.pointer (some ⟨c, 0, none⟩), .string key, .int .i64 u, .int .i64 i] wB fun e w1 => ∃ f g, e = .returned (.agg #[.map (some f), .map (some g)]) ∧ P f g w1 ∧ Arr w1 w.heap.size 61 x)
    (hot : ∀ f g w1, P f g w1 → Calls Try.prog 32 #[.pointer (some ⟨c, 0, none⟩), what, blkV x, .map (some f), .map (some g)] (w1.alloc (.cells #[.map (some f), .map (some g)] 65)) fun e w2 => ∃ r er, e = .returned (.tuple #[blkV r, .int .i64 er]) ∧ r.length = 16 ∧ Arr w2 (w.heap.size + 1) 61 (List.replicate 16 0) ∧ Q r er w2) :
    Calls Try.prog 22 #[.pointer (some ⟨c, 0, none⟩), what, .string key, .int .i64 u, .int .i64 i, blkV x] w fun e w' => ∃ r er w2, e = .returned (.tuple #[blkV r, .int .i64 er]) ∧ Q r er w2 ∧ Chg No w2 w2 ∧ w' = w2.setRow (w.heap.size + 1) (u8s r).toArray := by
  have hat' := hat _ rfl
  have hz : (u8s (List.replicate 16 0)).toArray = #[.int .u8 0, .int .u8 0, .int .u8 0, .int .u8 0, .int .u8 0, .int .u8 0, .int .u8 0, .int .u8 0, .int .u8 0, .int .u8 0, .int .u8 0, .int .u8 0, .int .u8 0, .int .u8 0, .int .u8 0, .int .u8 0] := rfl
  rw [hz] at hat'
  clear hz hat
  obtain ⟨V, hV⟩ : ∃ V, V = (u8s x).toArray := ⟨_, rfl⟩
  have hot' : ∀ f g w1, P f g w1 → Calls Try.prog 32 #[.pointer (some ⟨c, 0, none⟩), what, .agg V, .map (some f), .map (some g)] (w1.alloc (.cells #[.map (some f), .map (some g)] 65)) fun e w2 => ∃ r er, e = .returned (.tuple #[blkV r, .int .i64 er]) ∧ r.length = 16 ∧ Arr w2 (w.heap.size + 1) 61 (List.replicate 16 0) ∧ Q r er w2 := by
    rw [hV]; exact hot
  clear hot
  show Calls Try.prog 22 #[.pointer (some ⟨c, 0, none⟩), what, .string key, .int .i64 u, .int .i64 i, .agg (u8s x).toArray] w _
  rw [← hV] at hat' ⊢
  replace hat' := Lib.hid hat'
  replace hot' := Lib.hid hot'
  replace hV := Lib.hid hV
  go_enter Try.func22, Try.ntmps22
  go_wp2_with fail
  refine hat'.out.mono ?_
  rintro e w1 ⟨f, g, rfl, hP, hA⟩
  have hl : (Instr.loadAt 61 (.pointer (some ⟨w.heap.size, 0, none⟩))).run Try.prog (w1.alloc (.cells #[.map (some f), .map (some g)] 65)) = .ok (.agg V) (w1.alloc (.cells #[.map (some f), .map (some g)] 65)) := by
    rw [hV.out]
    exact run_loadAt_arr (P := Try.prog) (hA.keep (Below.heap_alloc _ _ _ (heap_lt hA))) Try.underlying61 (size61 hx)
  have hc := Lib.hid (hot'.out f g w1 hP)
  replace hl := Lib.hid hl
  replace hA := Lib.hid hA
  replace hP := Lib.hid hP
  clear hat' hot'
  go_wp2_with (first | (refine wpList_load rfl 61 _ rfl _ _ rfl hl.out ?_) | fail)
  refine hc.out.mono ?_
  rintro e w2 ⟨r, er, rfl, hr, hZ, hQ⟩
  have hs := block_store hZ List.length_replicate r hr
  obtain ⟨w3, hw3⟩ : ∃ a, a = w2.setRow (w.heap.size + 1) (u8s r).toArray := ⟨_, rfl⟩
  rw [← hw3] at hs
  have hZ3 : Arr w3 (w.heap.size + 1) 61 r := hw3 ▸ hZ.setRow _
  replace hs := Lib.hid hs
  replace hw3 := Lib.hid hw3
  replace hZ3 := Lib.hid hZ3
  replace hQ := Lib.hid hQ
  replace hZ := Lib.hid hZ
  clear hc hl
  go_wp2_with (first | (refine wpList_store rfl 61 _ _ rfl _ _ rfl rfl hs.out ?_))
  refine bodyPost_ret (results_cell_slot Try.results22 _ _ (w.heap.size + 1) 61 _ (0, 0) _ rfl hZ3.out Try.underlying61 rfl (by rw [size61 hr]; simp [u8s_length])) rfl ⟨r, er, w2, rfl, hQ.out, Chg.refl _ _, hw3.out⟩

set_option maxRecDepth 100000 in
set_option maxHeartbeats 4000000 in
theorem dec_walk {w : World} {c : Nat} {what : Value} {key : ByteArray} {u i : Nat} {x : List UInt8} (hx : x.length = 16) (P : Nat → Nat → World → Prop) (Q : List UInt8 → Int → World → Prop)
    (hat : ∀ wB, wB = (w.alloc (.cells (u8s x).toArray 61)).alloc (.cells (u8s (List.replicate 16 0)).toArray 61) → Calls Try.prog 31 #[.pointer (some ⟨c, 0, none⟩), .string key, .int .i64 u, .int .i64 i] wB fun e w1 => ∃ f g, e = .returned (.agg #[.map (some f), .map (some g)]) ∧ P f g w1 ∧ Arr w1 w.heap.size 61 x)
    (hot : ∀ f g w1, P f g w1 → Calls Try.prog 32 #[.pointer (some ⟨c, 0, none⟩), what, blkV x, .map (some g), .map (some f)] (w1.alloc (.cells #[.map (some f), .map (some g)] 65)) fun e w2 => ∃ r er, e = .returned (.tuple #[blkV r, .int .i64 er]) ∧ r.length = 16 ∧ Arr w2 (w.heap.size + 1) 61 (List.replicate 16 0) ∧ Q r er w2) :
    Calls Try.prog 24 #[.pointer (some ⟨c, 0, none⟩), what, .string key, .int .i64 u, .int .i64 i, blkV x] w fun e w' => ∃ r er w2, e = .returned (.tuple #[blkV r, .int .i64 er]) ∧ Q r er w2 ∧ Chg No w2 w2 ∧ w' = w2.setRow (w.heap.size + 1) (u8s r).toArray := by
  have hat' := hat _ rfl
  have hz : (u8s (List.replicate 16 0)).toArray = #[.int .u8 0, .int .u8 0, .int .u8 0, .int .u8 0, .int .u8 0, .int .u8 0, .int .u8 0, .int .u8 0, .int .u8 0, .int .u8 0, .int .u8 0, .int .u8 0, .int .u8 0, .int .u8 0, .int .u8 0, .int .u8 0] := rfl
  rw [hz] at hat'
  clear hz hat
  obtain ⟨V, hV⟩ : ∃ V, V = (u8s x).toArray := ⟨_, rfl⟩
  have hot' : ∀ f g w1, P f g w1 → Calls Try.prog 32 #[.pointer (some ⟨c, 0, none⟩), what, .agg V, .map (some g), .map (some f)] (w1.alloc (.cells #[.map (some f), .map (some g)] 65)) fun e w2 => ∃ r er, e = .returned (.tuple #[blkV r, .int .i64 er]) ∧ r.length = 16 ∧ Arr w2 (w.heap.size + 1) 61 (List.replicate 16 0) ∧ Q r er w2 := by
    rw [hV]; exact hot
  clear hot
  show Calls Try.prog 24 #[.pointer (some ⟨c, 0, none⟩), what, .string key, .int .i64 u, .int .i64 i, .agg (u8s x).toArray] w _
  rw [← hV] at hat' ⊢
  replace hat' := Lib.hid hat'
  replace hot' := Lib.hid hot'
  replace hV := Lib.hid hV
  go_enter Try.func24, Try.ntmps24
  go_wp2_with fail
  refine hat'.out.mono ?_
  rintro e w1 ⟨f, g, rfl, hP, hA⟩
  have hl : (Instr.loadAt 61 (.pointer (some ⟨w.heap.size, 0, none⟩))).run Try.prog (w1.alloc (.cells #[.map (some f), .map (some g)] 65)) = .ok (.agg V) (w1.alloc (.cells #[.map (some f), .map (some g)] 65)) := by
    rw [hV.out]
    exact run_loadAt_arr (P := Try.prog) (hA.keep (Below.heap_alloc _ _ _ (heap_lt hA))) Try.underlying61 (size61 hx)
  have hc := Lib.hid (hot'.out f g w1 hP)
  replace hl := Lib.hid hl
  replace hA := Lib.hid hA
  replace hP := Lib.hid hP
  clear hat' hot'
  go_wp2_with (first | (refine wpList_load rfl 61 _ rfl _ _ rfl hl.out ?_) | fail)
  refine hc.out.mono ?_
  rintro e w2 ⟨r, er, rfl, hr, hZ, hQ⟩
  have hs := block_store hZ List.length_replicate r hr
  obtain ⟨w3, hw3⟩ : ∃ a, a = w2.setRow (w.heap.size + 1) (u8s r).toArray := ⟨_, rfl⟩
  rw [← hw3] at hs
  have hZ3 : Arr w3 (w.heap.size + 1) 61 r := hw3 ▸ hZ.setRow _
  replace hs := Lib.hid hs
  replace hw3 := Lib.hid hw3
  replace hZ3 := Lib.hid hZ3
  replace hQ := Lib.hid hQ
  replace hZ := Lib.hid hZ
  clear hc hl
  go_wp2_with (first | (refine wpList_store rfl 61 _ _ rfl _ _ rfl rfl hs.out ?_))
  refine bodyPost_ret (results_cell_slot Try.results24 _ _ (w.heap.size + 1) 61 _ (0, 0) _ rfl hZ3.out Try.underlying61 rfl (by rw [size61 hr]; simp [u8s_length])) rfl ⟨r, er, w2, rfl, hQ.out, Chg.refl _ _, hw3.out⟩
end Go.Proofs.Ytbgfdbidbjlaaaa.Fd

/-
  ideal.Encrypt, ideal.Decrypt: what they come to. No condition beyond what each theorem names.
-/
import Derived.Test.YtbgfdbidbjlaaaaBckCrypt
namespace Go.Proofs.Ytbgfdbidbjlaaaa.Fd
open Go Go.RowKit K

theorem IdealO.keep {w w' : World} {B : Nat} {S : IdSt} (h : IdealO w B S) (hs : w.heap.size ≤ w'.heap.size) (hm : ∀ (g : Nat) (es : Array MapEntry) (c : Nat), w.heap[g]? = some (.map es c) → w'.heap[g]? = w.heap[g]?)
    (hc : ∀ (g : Nat) (cs : Array Value) (t : TypeId) (m : Nat × Nat), w.heap[g]? = some (.cells cs t m) → (t = 46 ∨ t = 5 ∨ t = 41) ∨ t = 79 → w'.heap[g]? = w.heap[g]?) : IdealO w' B S := by
  obtain ⟨es, clk, hp⟩ := h.places
  refine ⟨h.tape.keep (fun g hg => ?_), Nat.le_trans h.room hs, (hc _ _ _ _ h.box (.inr rfl)).trans h.box, h.baseC, h.baseM, ⟨es, clk, (hm _ _ _ hp.box).trans hp.box, hp.row, hp.fit⟩, fun q hq => ?_, h.apart, h.cnt, h.tkn⟩
  · obtain ⟨cs, t, h1, h2⟩ := h.tape.kind hg
    exact hc _ _ _ _ h1 (.inl h2)
  · obtain ⟨h1, h2, h3, h4⟩ := h.pairs q hq
    obtain ⟨e3, c3, m3⟩ := h3.mapped
    obtain ⟨e4, c4, m4⟩ := h4.mapped
    exact ⟨h1, h2, h3.keep (hm _ _ _ m3), h4.keep (hm _ _ _ m4)⟩
theorem IdealO.put {w : World} {B : Nat} {S : IdSt} (h : IdealO w B S) {u : Nat} {l : List UInt8} (hu : Arr w u 61 l) (cs : Array Value) : IdealO (w.setRow u cs) B S := by
  refine h.keep (by simp [World.setRow]) (fun g es c hg => setRow_other _ _ _ _ ?_) (fun g cs t m hg ht => setRow_other _ _ _ _ ?_)
  · rintro rfl
    have h1 : some (Obj.map es c) = some (Obj.cells _ _ _) := hg.symm.trans hu
    cases h1
  · rintro rfl
    have h1 := hg.symm.trans hu
    simp only [Option.some.injEq, Obj.cells.injEq] at h1
    obtain ⟨_, rfl, _⟩ := h1
    rcases ht with (h2 | h2 | h2) | h2 <;> exact absurd h2 (by decide)
theorem Kept.put {B : Nat} {w w2 : World} (h : Kept B w w2) {u : Nat} (hu : w.heap.size ≤ u) (hB : B ≤ w.heap.size) (cs : Array Value) : Kept B w (w2.setRow u cs) :=
  ⟨below_setRow h.below (by omega) _, fun g cs' t m hg h1 h2 h3 => by
    rw [setRow_other _ _ _ _ (by have := heap_lt hg; omega)]
    exact h.keep g cs' t m hg h1 h2 h3⟩
theorem box2B {w : World} {x : List UInt8} {wB : World} (h : wB = (w.alloc (.cells (u8s x).toArray 61)).alloc (.cells (u8s (List.replicate 16 0)).toArray 61)) :
    Arr wB w.heap.size 61 x ∧ Arr wB (w.heap.size + 1) 61 (List.replicate 16 0) ∧ Chg No w wB ∧ wB.heap.size = w.heap.size + 2 := by
  obtain ⟨h1, h2, h3, h4⟩ := box2 w 61 x (List.replicate 16 0)
  subst h
  exact ⟨h1, h2, Chg.of_below h3 _, h4⟩

section
variable {w : World} {B : Nat} {S : IdSt}
theorem IdealO.ids_new (_h : IdealO w B S) {key : PKey} (hf : ∀ q ∈ S.pls, q.1 ≠ key) : ∀ q ∈ S.pls.map Place.ids, q.1 ≠ key := by
  intro q hq
  obtain ⟨r, hr, rfl⟩ := List.mem_map.1 hq
  exact hf r hr
theorem IdealO.ids_one (h : IdealO w B S) {q : Place} (hq : q ∈ S.pls) : ∀ r ∈ S.pls.map Place.ids, r.1 = q.1 → r.2 = (q.2.1, q.2.2.1) := by
  intro r hr he
  obtain ⟨s, hs, rfl⟩ := List.mem_map.1 hr
  have : s = q := by
    by_cases e : s = q
    · exact e
    · exfalso
      have hp := List.pairwise_iff_getElem.1 h.apart
      obtain ⟨i, hi, rfl⟩ := List.getElem_of_mem hs
      obtain ⟨j, hj, rfl⟩ := List.getElem_of_mem hq
      rcases Nat.lt_trichotomy i j with h1 | h1 | h1
      · exact (hp i j hi hj h1).2 he
      · subst h1; exact e rfl
      · exact (hp j i hj hi h1).2 he.symm
  subst this
  rfl
theorem pair_swap {q : Place} {x y : List UInt8} (h : q.2.2.2 = some (x, y)) : q.2.2.2.map Prod.swap = some (y, x) := by rw [h]; rfl

/-- a pair that is known, forth -/
theorem enc_known (h : IdealO w B S) {key : ByteArray} {u i : Nat} (hk : PKey.fits (key, u, i)) {q : Place} (hq : q ∈ S.pls) (hqk : q.1 = (key, u, i)) {x y : List UInt8} (hqo : q.2.2.2 = some (x, y)) (what : Value) :
    Calls Try.prog 22 #[.pointer (some ⟨S.c, 0, none⟩), what, .string key, .int .i64 u, .int .i64 i, blkV x] w fun e w' => e = .returned (.tuple #[blkV y, .int .i64 0]) ∧ Chg No w w' := by
  obtain ⟨h1, h2, h3, h4⟩ := h.pairs q hq
  rw [hqo] at h3
  have hx := h3.2.1
  have hy := h3.2.2
  obtain ⟨es, clk, hp⟩ := h.places
  refine (enc_walk hx (fun f g w1 => f = q.2.1 ∧ g = q.2.2.1 ∧ Chg No w w1 ∧ Arr w1 (w.heap.size + 1) 61 (List.replicate 16 0)) (fun r er w2 => r = y ∧ er = 0 ∧ Chg No w w2) (fun wB hwB => ?_) (fun f g w1 hP => ?_)).mono ?_
  · obtain ⟨b1, b2, b3, b4⟩ := box2B hwB
    have hB := h.after (Chg.no b3)
    obtain ⟨es, clk, hpB⟩ := hB.places
    refine (at_known hB.box hpB hk (f := q.2.1) (g := q.2.2.1) (List.mem_map.2 ⟨q, hq, by rw [Place.ids, hqk]⟩) (fun r hr he => h.ids_one hq r hr (he.trans hqk.symm))).mono ?_
    rintro e w1 ⟨rfl, hc⟩
    exact ⟨_, _, rfl, ⟨rfl, rfl, b3.trans hc, b2.keep (hc.block _ (heap_lt b2) id)⟩, b1.keep (hc.block _ (heap_lt b1) id)⟩
  · obtain ⟨rfl, rfl, hc, ha⟩ := hP
    have hcA : Chg No w (w1.alloc (.cells #[.map (some q.2.1), .map (some q.2.2.1)] 65)) := hc.alloc _
    have haA := ha.keep (Below.heap_alloc w1 (.cells #[.map (some q.2.1), .map (some q.2.2.1)] 65) _ (heap_lt ha))
    refine (other_known (h3.keep (hcA.block _ h3.lt id)) _ what _).mono ?_
    rintro e w2 ⟨rfl, hc2⟩
    exact ⟨y, 0, rfl, hy, haA.keep (hc2.block _ (heap_lt haA) id), rfl, rfl, hcA.trans hc2⟩
  · rintro e w' ⟨r, er, w2, rfl, ⟨rfl, rfl, hc⟩, _, rfl⟩
    exact ⟨rfl, hc.setRow (fun h => absurd h (by omega)) _⟩
/-- a pair that is known, back -/
theorem dec_known (h : IdealO w B S) {key : ByteArray} {u i : Nat} (hk : PKey.fits (key, u, i)) {q : Place} (hq : q ∈ S.pls) (hqk : q.1 = (key, u, i)) {x y : List UInt8} (hqo : q.2.2.2 = some (x, y)) (what : Value) :
    Calls Try.prog 24 #[.pointer (some ⟨S.c, 0, none⟩), what, .string key, .int .i64 u, .int .i64 i, blkV y] w fun e w' => e = .returned (.tuple #[blkV x, .int .i64 0]) ∧ Chg No w w' := by
  obtain ⟨h1, h2, h3, h4⟩ := h.pairs q hq
  rw [pair_swap hqo] at h4
  have hy := h4.2.1
  have hx := h4.2.2
  refine (dec_walk hy (fun f g w1 => f = q.2.1 ∧ g = q.2.2.1 ∧ Chg No w w1 ∧ Arr w1 (w.heap.size + 1) 61 (List.replicate 16 0)) (fun r er w2 => r = x ∧ er = 0 ∧ Chg No w w2) (fun wB hwB => ?_) (fun f g w1 hP => ?_)).mono ?_
  · obtain ⟨b1, b2, b3, b4⟩ := box2B hwB
    have hB := h.after (Chg.no b3)
    obtain ⟨es, clk, hpB⟩ := hB.places
    refine (at_known hB.box hpB hk (f := q.2.1) (g := q.2.2.1) (List.mem_map.2 ⟨q, hq, by rw [Place.ids, hqk]⟩) (fun r hr he => h.ids_one hq r hr (he.trans hqk.symm))).mono ?_
    rintro e w1 ⟨rfl, hc⟩
    exact ⟨_, _, rfl, ⟨rfl, rfl, b3.trans hc, b2.keep (hc.block _ (heap_lt b2) id)⟩, b1.keep (hc.block _ (heap_lt b1) id)⟩
  · obtain ⟨rfl, rfl, hc, ha⟩ := hP
    have hcA : Chg No w (w1.alloc (.cells #[.map (some q.2.1), .map (some q.2.2.1)] 65)) := hc.alloc _
    have haA := ha.keep (Below.heap_alloc w1 (.cells #[.map (some q.2.1), .map (some q.2.2.1)] 65) _ (heap_lt ha))
    refine (other_known (h4.keep (hcA.block _ h4.lt id)) _ what _).mono ?_
    rintro e w2 ⟨rfl, hc2⟩
    exact ⟨x, 0, rfl, hx, haA.keep (hc2.block _ (heap_lt haA) id), rfl, rfl, hcA.trans hc2⟩
  · rintro e w' ⟨r, er, w2, rfl, ⟨rfl, rfl, hc⟩, _, rfl⟩
    exact ⟨rfl, hc.setRow (fun h => absurd h (by omega)) _⟩

/-- what a place's making comes to -/
structure NewAt (w : World) (B : Nat) (S : IdSt) (key : PKey) (f g : Nat) (w1 : World) : Prop where
  low : w.heap.size + 2 ≤ f
  fg : f < g
  mf : MapB w1 f none
  mg : MapB w1 g none
  places : ∃ es clk, MapP w1 S.m ((S.pls.map Place.ids) ++ [(key, f, g)]) es clk
  chg : Chg (fun b => b = S.m) w w1
  box : Arr w1 (w.heap.size + 1) 61 (List.replicate 16 0)
theorem new_at (h : IdealO w B S) {key : ByteArray} {u i : Nat} (hk : PKey.fits (key, u, i)) (hf : ∀ q ∈ S.pls, q.1 ≠ (key, u, i)) {x : List UInt8} {wB : World} (hwB : wB = (w.alloc (.cells (u8s x).toArray 61)).alloc (.cells (u8s (List.replicate 16 0)).toArray 61)) :
    Calls Try.prog 31 #[.pointer (some ⟨S.c, 0, none⟩), .string key, .int .i64 u, .int .i64 i] wB fun e w1 => ∃ f g, e = .returned (.agg #[.map (some f), .map (some g)]) ∧ NewAt w B S (key, u, i) f g w1 ∧ Arr w1 w.heap.size 61 x := by
  obtain ⟨b1, b2, b3, b4⟩ := box2B hwB
  have hB := h.after (Chg.no b3)
  obtain ⟨es, clk, hpB⟩ := hB.places
  have hml : S.m < w.heap.size := by
    obtain ⟨es, clk, hp⟩ := h.places
    exact heap_lt hp.box
  refine (at_new hB.box hpB hk (h.ids_new hf)).mono ?_
  rintro e w1 ⟨f, g, es', clk', rfl, h1, h2, h3, h4, h5, h6⟩
  exact ⟨f, g, rfl, ⟨by omega, h2, h3, h4, ⟨es', clk', h5⟩, (b3.mono (fun _ _ e => e.elim)).then h6 (fun _ _ e => e), b2.keep (h6.block _ (heap_lt b2) (by show ¬ w.heap.size + 1 = S.m; omega))⟩, b1.keep (h6.block _ (heap_lt b1) (by show ¬ w.heap.size = S.m; omega))⟩

/-- a new place, and a tape that has a block more -/
theorem enc_new (h : IdealO w B S) {key : ByteArray} {u i : Nat} (hk : PKey.fits (key, u, i)) (hf : ∀ q ∈ S.pls, q.1 ≠ (key, u, i)) {x : List UInt8} (hx : x.length = 16) (what : ByteArray) (h16 : S.a + 16 ≤ S.b.length) (hfew : S.pls.length < 1000000) :
    Calls Try.prog 22 #[.pointer (some ⟨S.c, 0, none⟩), .string what, .string key, .int .i64 u, .int .i64 i, blkV x] w fun e w' => ∃ tv' f g, e = .returned (.tuple #[blkV ((S.b.drop S.a).take 16), .int .i64 0]) ∧
      IdealO w' B { S with tv := tv', a := S.a + 16, ts := S.ts ++ [(what, S.a, 16)], cn := S.cn + 1, pls := S.pls ++ [((key, u, i), f, g, some (x, (S.b.drop S.a).take 16))] } ∧ Kept B w w' := by
  obtain ⟨es0, clk0, hp0⟩ := h.places
  have hml := heap_lt hp0.box
  have hyl : ((S.b.drop S.a).take 16).length = 16 := by rw [List.length_take, List.length_drop]; omega
  refine (enc_walk hx (NewAt w B S (key, u, i)) (fun r er w2 => r = (S.b.drop S.a).take 16 ∧ er = 0 ∧ Arr w2 (w.heap.size + 1) 61 (List.replicate 16 0) ∧ Kept B w w2 ∧ ∃ tv' f g, IdealO w2 B { S with tv := tv', a := S.a + 16, ts := S.ts ++ [(what, S.a, 16)], cn := S.cn + 1, pls := S.pls ++ [((key, u, i), f, g, some (x, (S.b.drop S.a).take 16))] }) (fun wB hwB => new_at h hk hf hwB) (fun f g w1 hP => ?_)).mono ?_
  · obtain ⟨W, hW⟩ : ∃ a, a = w1.alloc (.cells #[.map (some f), .map (some g)] 65) := ⟨_, rfl⟩
    have hWc : Chg No w1 W := hW ▸ (Chg.refl _ _).alloc _
    have hcW : Chg (fun b => b = S.m) w W := hP.chg.then hWc (fun _ _ e => e.elim)
    rw [← hW]
    have nm : ∀ (g : Nat) (cs : Array Value) (t : TypeId) (m : Nat × Nat), w.heap[g]? = some (.cells cs t m) → g ≠ S.m := fun g cs t m hg e => by
      subst e
      have h1 := hg.symm.trans hp0.box
      cases h1
    have hTW : TapeO W B S.tp S.bv S.tv S.b S.a S.ts := h.tape.keep fun g hg => by
      obtain ⟨cs, t, h1, _⟩ := h.tape.kind hg
      exact hcW.block g (heap_lt h1) (nm _ _ _ _ h1)
    have hbW : W.heap[S.c]? = some (idBox (some ⟨S.tp, 0, none⟩) S.m S.k S.cn S.ag) := (hcW.block _ (heap_lt h.box) (nm _ _ _ _ h.box)).trans h.box
    have hfW := hP.mf.keep (hWc.block f hP.mf.lt id)
    have hgW := hP.mg.keep (hWc.block g hP.mg.lt id)
    have haW := hP.box.keep (hWc.block _ (heap_lt hP.box) id)
    obtain ⟨es1, clk1, hp1⟩ := hP.places
    have hpW : W.heap[S.m]? = some (.map es1 clk1) := (hWc.block _ (heap_lt hp1.box) id).trans hp1.box
    have hlow := hP.low
    have hfg := hP.fg
    have hcn := h.cnt
    have htk := h.tkn
    refine (other_new hTW (Nat.le_trans h.room hcW.size) hbW hfW hgW (by omega) hx what h16 (by omega) (by omega)).mono ?_
    rintro e w2 ⟨tv', rfl, hT2, hb2, hf2, hg2, hC2, hr⟩
    have nw : ∀ u, u ≠ f → u ≠ g → (∃ es c, W.heap[u]? = some (.map es c)) → w2.heap[u]? = W.heap[u]? := fun u h1 h2 ⟨es, c, h3⟩ =>
      hC2.block u (heap_lt h3) (by
        rintro (e | e | e | e | e)
        · exact hTW.apartM h3 (.inl e)
        · exact hTW.apartM h3 (.inr e)
        · subst e
          have h4 := h3.symm.trans hbW
          cases h4
        · exact h1 e
        · exact h2 e)
    have nc : ∀ (u : Nat) (cs : Array Value) (t : TypeId) (m : Nat × Nat), W.heap[u]? = some (.cells cs t m) → t ≠ 46 → t ≠ 41 → t ≠ 79 → w2.heap[u]? = W.heap[u]? := fun u cs t m h3 h4 h5 h6 =>
      hC2.block u (heap_lt h3) (by
        rintro (e | e | e | e | e)
        · exact hTW.apart h3 h4 h5 (.inl e)
        · exact hTW.apart h3 h4 h5 (.inr e)
        · subst e
          have h7 := h3.symm.trans hbW
          simp only [idBox, Option.some.injEq, Obj.cells.injEq] at h7
          exact h6 h7.2.1
        · subst e
          obtain ⟨es, c, h7⟩ := hfW.mapped
          have h8 := h3.symm.trans h7
          cases h8
        · subst e
          obtain ⟨es, c, h7⟩ := hgW.mapped
          have h8 := h3.symm.trans h7
          cases h8)
    have ha2 := haW.keep (nc _ _ _ _ haW (by decide) (by decide) (by decide))
    have hk2 : Kept B w w2 := by
      refine ⟨⟨hC2.os.trans hcW.os, hC2.tape.trans hcW.tape, hC2.output.trans hcW.output, Nat.le_trans hcW.size hC2.size, fun q hq => ?_⟩, fun q cs t m hq h1 h2 h3 => ?_⟩
      · have hql : q < w.heap.size := Nat.lt_of_lt_of_le hq h.room
        refine (hC2.block q (Nat.lt_of_lt_of_le hql hcW.size) ?_).trans (hcW.block q hql (by have := h.baseM; show ¬ q = S.m; omega))
        rintro (e | e | e | e | e)
        · have := h.tape.base; omega
        · have := (h.tape.takes.lt q e).1; omega
        · have := h.baseC; omega
        · omega
        · omega
      · have h4 := hcW.block q (heap_lt hq) (nm _ _ _ _ hq)
        exact (nc q cs t m (h4.trans hq) h1 h2 h3).trans h4
    refine ⟨_, 0, rfl, hyl, ha2, rfl, rfl, ha2, hk2, tv', f, g, hT2, Nat.le_trans h.room hk2.below.size, hb2, h.baseC, h.baseM, ?_, ?_, ?_, ?_, ?_⟩
    · refine ⟨es1, clk1, (nw S.m (by omega) (by omega) ⟨_, _, hpW⟩).trans hpW, ?_, ?_⟩
      · have := hp1.row
        simpa [Place.ids] using this
      · have := hp1.fit
        simpa [Place.ids] using this
    · intro q hq
      rcases List.mem_append.1 hq with hq | hq
      · obtain ⟨p1, p2, p3, p4⟩ := h.pairs q hq
        have l3 := p3.lt
        have l4 := p4.lt
        have k3 := p3.keep (hcW.block _ l3 (by show ¬ q.2.1 = S.m; omega))
        have k4 := p4.keep (hcW.block _ l4 (by show ¬ q.2.2.1 = S.m; omega))
        exact ⟨p1, p2, k3.keep (nw _ (by omega) (by omega) k3.mapped), k4.keep (nw _ (by omega) (by omega) k4.mapped)⟩
      · simp at hq
        subst hq
        exact ⟨by show S.m < f; omega, hfg, hf2, hg2⟩
    · refine List.pairwise_append.2 ⟨h.apart, List.pairwise_singleton _ _, fun q hq r hr => ?_⟩
      simp at hr
      subst hr
      obtain ⟨p1, p2, p3, p4⟩ := h.pairs q hq
      have l4 := p4.lt
      exact ⟨by show q.2.2.1 < f; omega, hf q hq⟩
    · show S.cn + 1 ≤ (S.pls ++ [_]).length
      rw [List.length_append, List.length_singleton]
      omega
    · show (S.ts ++ [_]).length ≤ (S.pls ++ [_]).length
      rw [List.length_append, List.length_append, List.length_singleton, List.length_singleton]
      omega
  · rintro e w' ⟨r, er, w2, rfl, ⟨rfl, rfl, ha, hk2, tv', f, g, hI⟩, _, rfl⟩
    exact ⟨tv', f, g, rfl, hI.put ha _, hk2.put (by omega) h.room _⟩

/-- a new place, and a tape that has no block more -/
theorem enc_short (h : IdealO w B S) {key : ByteArray} {u i : Nat} (hk : PKey.fits (key, u, i)) (hf : ∀ q ∈ S.pls, q.1 ≠ (key, u, i)) {x : List UInt8} (hx : x.length = 16) (what : ByteArray) (h16 : S.b.length < S.a + 16) :
    Calls Try.prog 22 #[.pointer (some ⟨S.c, 0, none⟩), .string what, .string key, .int .i64 u, .int .i64 i, blkV x] w fun e w' => e = .returned (.tuple #[.agg #[.int .u8 0, .int .u8 0, .int .u8 0, .int .u8 0, .int .u8 0, .int .u8 0, .int .u8 0, .int .u8 0, .int .u8 0, .int .u8 0, .int .u8 0, .int .u8 0, .int .u8 0, .int .u8 0, .int .u8 0, .int .u8 0], .int .i64 9]) ∧ Kept B w w' := by
  obtain ⟨es0, clk0, hp0⟩ := h.places
  refine (enc_walk hx (NewAt w B S (key, u, i)) (fun r er w2 => r = List.replicate 16 0 ∧ er = 9 ∧ Kept B w w2) (fun wB hwB => new_at h hk hf hwB) (fun f g w1 hP => ?_)).mono ?_
  · obtain ⟨W, hW⟩ : ∃ a, a = w1.alloc (.cells #[.map (some f), .map (some g)] 65) := ⟨_, rfl⟩
    have hWc : Chg No w1 W := hW ▸ (Chg.refl _ _).alloc _
    have hcW : Chg (fun b => b = S.m) w W := hP.chg.then hWc (fun _ _ e => e.elim)
    rw [← hW]
    have nm : ∀ (g : Nat) (cs : Array Value) (t : TypeId) (m : Nat × Nat), w.heap[g]? = some (.cells cs t m) → g ≠ S.m := fun g cs t m hg e => by
      subst e
      have h1 := hg.symm.trans hp0.box
      cases h1
    have hTW : TapeO W B S.tp S.bv S.tv S.b S.a S.ts := h.tape.keep fun g hg => by
      obtain ⟨cs, t, h1, _⟩ := h.tape.kind hg
      exact hcW.block g (heap_lt h1) (nm _ _ _ _ h1)
    have hbW : W.heap[S.c]? = some (idBox (some ⟨S.tp, 0, none⟩) S.m S.k S.cn S.ag) := (hcW.block _ (heap_lt h.box) (nm _ _ _ _ h.box)).trans h.box
    have hfW := hP.mf.keep (hWc.block f hP.mf.lt id)
    have haW := hP.box.keep (hWc.block _ (heap_lt hP.box) id)
    refine (other_short hTW hbW hfW hx what _ h16).mono ?_
    rintro e w2 ⟨rfl, hC2⟩
    have hk2 : Kept B w w2 := by
      refine ⟨⟨hC2.os.trans hcW.os, hC2.tape.trans hcW.tape, hC2.output.trans hcW.output, Nat.le_trans hcW.size hC2.size, fun q hq => ?_⟩, fun q cs t m hq h1 h2 h3 => ?_⟩
      · have hql : q < w.heap.size := Nat.lt_of_lt_of_le hq h.room
        exact (hC2.block q (Nat.lt_of_lt_of_le hql hcW.size) id).trans (hcW.block q hql (by have := h.baseM; show ¬ q = S.m; omega))
      · have h4 := hcW.block q (heap_lt hq) (nm _ _ _ _ hq)
        exact (hC2.block q (Nat.lt_of_lt_of_le (heap_lt hq) hcW.size) id).trans h4
    exact ⟨List.replicate 16 0, 9, rfl, List.length_replicate, haW.keep (hC2.block _ (heap_lt haW) id), rfl, rfl, hk2⟩
  · rintro e w' ⟨r, er, w2, rfl, ⟨rfl, rfl, hk2⟩, _, rfl⟩
    exact ⟨rfl, hk2.put (by omega) h.room _⟩

/-- a new place, and a tape that has no block more -/
theorem dec_short (h : IdealO w B S) {key : ByteArray} {u i : Nat} (hk : PKey.fits (key, u, i)) (hf : ∀ q ∈ S.pls, q.1 ≠ (key, u, i)) {x : List UInt8} (hx : x.length = 16) (what : ByteArray) (h16 : S.b.length < S.a + 16) :
    Calls Try.prog 24 #[.pointer (some ⟨S.c, 0, none⟩), .string what, .string key, .int .i64 u, .int .i64 i, blkV x] w fun e w' => e = .returned (.tuple #[.agg #[.int .u8 0, .int .u8 0, .int .u8 0, .int .u8 0, .int .u8 0, .int .u8 0, .int .u8 0, .int .u8 0, .int .u8 0, .int .u8 0, .int .u8 0, .int .u8 0, .int .u8 0, .int .u8 0, .int .u8 0, .int .u8 0], .int .i64 9]) ∧ Kept B w w' := by
  obtain ⟨es0, clk0, hp0⟩ := h.places
  refine (dec_walk hx (NewAt w B S (key, u, i)) (fun r er w2 => r = List.replicate 16 0 ∧ er = 9 ∧ Kept B w w2) (fun wB hwB => new_at h hk hf hwB) (fun f g w1 hP => ?_)).mono ?_
  · obtain ⟨W, hW⟩ : ∃ a, a = w1.alloc (.cells #[.map (some f), .map (some g)] 65) := ⟨_, rfl⟩
    have hWc : Chg No w1 W := hW ▸ (Chg.refl _ _).alloc _
    have hcW : Chg (fun b => b = S.m) w W := hP.chg.then hWc (fun _ _ e => e.elim)
    rw [← hW]
    have nm : ∀ (g : Nat) (cs : Array Value) (t : TypeId) (m : Nat × Nat), w.heap[g]? = some (.cells cs t m) → g ≠ S.m := fun g cs t m hg e => by
      subst e
      have h1 := hg.symm.trans hp0.box
      cases h1
    have hTW : TapeO W B S.tp S.bv S.tv S.b S.a S.ts := h.tape.keep fun g hg => by
      obtain ⟨cs, t, h1, _⟩ := h.tape.kind hg
      exact hcW.block g (heap_lt h1) (nm _ _ _ _ h1)
    have hbW : W.heap[S.c]? = some (idBox (some ⟨S.tp, 0, none⟩) S.m S.k S.cn S.ag) := (hcW.block _ (heap_lt h.box) (nm _ _ _ _ h.box)).trans h.box
    have hfW := hP.mg.keep (hWc.block g hP.mg.lt id)
    have haW := hP.box.keep (hWc.block _ (heap_lt hP.box) id)
    refine (other_short hTW hbW hfW hx what _ h16).mono ?_
    rintro e w2 ⟨rfl, hC2⟩
    have hk2 : Kept B w w2 := by
      refine ⟨⟨hC2.os.trans hcW.os, hC2.tape.trans hcW.tape, hC2.output.trans hcW.output, Nat.le_trans hcW.size hC2.size, fun q hq => ?_⟩, fun q cs t m hq h1 h2 h3 => ?_⟩
      · have hql : q < w.heap.size := Nat.lt_of_lt_of_le hq h.room
        exact (hC2.block q (Nat.lt_of_lt_of_le hql hcW.size) id).trans (hcW.block q hql (by have := h.baseM; show ¬ q = S.m; omega))
      · have h4 := hcW.block q (heap_lt hq) (nm _ _ _ _ hq)
        exact (hC2.block q (Nat.lt_of_lt_of_le (heap_lt hq) hcW.size) id).trans h4
    exact ⟨List.replicate 16 0, 9, rfl, List.length_replicate, haW.keep (hC2.block _ (heap_lt haW) id), rfl, rfl, hk2⟩
  · rintro e w' ⟨r, er, w2, rfl, ⟨rfl, rfl, hk2⟩, _, rfl⟩
    exact ⟨rfl, hk2.put (by omega) h.room _⟩
end
end Go.Proofs.Ytbgfdbidbjlaaaa.Fd

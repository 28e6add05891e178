/-
  ideal.other, at a place that knows one pair or none. No condition beyond what each theorem names.
-/
import Derived.Test.YtbgfdbidbjlaaaaBckAt
namespace Go.Proofs.Ytbgfdbidbjlaaaa.Fd
open Go Go.RowKit K

theorem zero_block (w : World) : (zeroValue 61).run Try.prog w = .ok (.agg #[.int .u8 0, .int .u8 0, .int .u8 0, .int .u8 0, .int .u8 0, .int .u8 0, .int .u8 0, .int .u8 0, .int .u8 0, .int .u8 0, .int .u8 0, .int .u8 0, .int .u8 0, .int .u8 0, .int .u8 0, .int .u8 0]) w :=
  zero_of (by kernel_rfl) w
theorem MapB.look_none {w : World} {g : Nat} (h : MapB w g none) {x : List UInt8} (hx : x.length = 16) : (Instr.lookup 63 (.map (some g)) (blkV x) true).run Try.prog w = .ok (.tuple #[.agg #[.int .u8 0, .int .u8 0, .int .u8 0, .int .u8 0, .int .u8 0, .int .u8 0, .int .u8 0, .int .u8 0, .int .u8 0, .int .u8 0, .int .u8 0, .int .u8 0, .int .u8 0, .int .u8 0, .int .u8 0, .int .u8 0], .bool false]) w := by
  obtain ⟨kl, hkl⟩ := key_block hx
  rcases run_look keyed_block Try.underlying63 (zero_block w) h (by simp) hkl with h1 | ⟨j, e0, h1, h2, h3⟩
  · exact h1.1
  · simp at h1
theorem MapB.look_some {w : World} {g : Nat} {x y : List UInt8} (h : MapB w g (some (x, y))) : (Instr.lookup 63 (.map (some g)) (blkV x) true).run Try.prog w = .ok (.tuple #[blkV y, .bool true]) w := by
  obtain ⟨kl, hkl⟩ := key_block h.2.1
  rcases run_look keyed_block Try.underlying63 (zero_block w) h.1 (by intro z hz; simp at hz; subst hz; exact ⟨kl, hkl⟩) hkl with h1 | ⟨j, e0, h1, h2, h3⟩
  · exact absurd rfl (h1.2 ⟨blkV x, blkV y, 0⟩ (by simp))
  · have h4 := List.mem_of_getElem? h1
    simp at h4
    subst h4
    exact h3
def mapOne (x y : List UInt8) : Obj := .map #[⟨blkV x, blkV y, 0⟩] 1
theorem MapB.put {w : World} {g : Nat} (h : MapB w g none) {x : List UInt8} (hx : x.length = 16) (y : List UInt8) (hy : y.length = 16) : (Instr.mapUpdate 63 (.map (some g)) (blkV x) (blkV y)).run Try.prog w = .ok () (putObj w g (mapOne x y)) ∧ MapB (putObj w g (mapOne x y)) g (some (x, y)) := by
  obtain ⟨kl, hkl⟩ := key_block hx
  have h1 := run_put keyed_block Try.underlying63 h (by simp) (val := blkV y) hkl (by simp)
  exact ⟨h1, putObj_same (heap_lt h), hx, hy⟩
theorem MapB.lt {w : World} {g : Nat} {o : Option (List UInt8 × List UInt8)} (h : MapB w g o) : g < w.heap.size := by
  cases o with
  | none => exact heap_lt h
  | some p => exact heap_lt h.1
theorem MapB.keep {w w' : World} {g : Nat} {o : Option (List UInt8 × List UInt8)} (h : MapB w g o) (hk : w'.heap[g]? = w.heap[g]?) : MapB w' g o := by
  cases o with
  | none => exact hk.trans h
  | some p => exact ⟨hk.trans h.1, h.2⟩
theorem MapB.mapped {w : World} {g : Nat} {o : Option (List UInt8 × List UInt8)} (h : MapB w g o) : ∃ es c, w.heap[g]? = some (.map es c) := by
  cases o with
  | none => exact ⟨_, _, h⟩
  | some p => exact ⟨_, _, h.1⟩
theorem results_cell_slot {P : Program} {fn : Func} {p q : Tmp} {ty : TypeId} (h : fn.results = #[.cell p ty, .tmp q]) (tmps : Array Value) (w : World) (g : Nat) (t : TypeId) (cs : Array Value) (fr : Nat × Nat) (d : TypeDesc)
    (hp : tmps.getD p undef = .pointer (some ⟨g, 0, none⟩)) (hg : w.heap[g]? = some (.cells cs t fr))
    (hu : P.underlying ty = some d) (hd : (match d with | .struct _ | .array _ _ => true | _ => false) = true) (hi : (P.info? ty).map (·.size) = some cs.size) :
    (results fn tmps).run P w = .ok (.tuple #[.agg cs, tmps.getD q undef]) w := by
  have hp' : tmps[p]?.getD undef = .pointer (some ⟨g, 0, none⟩) := by simpa using hp
  simp [results, h, hp', asAddr, run_loadVar_row w g t ty cs fr d hg hu hd hi]

set_option maxRecDepth 100000 in
set_option maxHeartbeats 2000000 in
theorem other_known {w : World} {f : Nat} {x y : List UInt8} (hf : MapB w f (some (x, y))) (c what to : Value) :
    Calls Try.prog 32 #[c, what, blkV x, .map (some f), to] w fun e w' => e = .returned (.tuple #[blkV y, .int .i64 0]) ∧ Chg No w w' := by
  have hx := hf.2.1
  have hy := hf.2.2
  have hfl := hf.lt
  obtain ⟨n, hn⟩ : ∃ n, n = w.heap.size := ⟨_, rfl⟩
  have HX := box2 w 61 x (List.replicate 16 0)
  obtain ⟨V, hV⟩ : ∃ V, V = (u8s x).toArray := ⟨_, rfl⟩
  have hz : (u8s (List.replicate 16 0)).toArray = #[.int .u8 0, .int .u8 0, .int .u8 0, .int .u8 0, .int .u8 0, .int .u8 0, .int .u8 0, .int .u8 0, .int .u8 0, .int .u8 0, .int .u8 0, .int .u8 0, .int .u8 0, .int .u8 0, .int .u8 0, .int .u8 0] := rfl
  obtain ⟨wB, hwB⟩ : ∃ a, a = (w.alloc (.cells (u8s x).toArray 61)).alloc (.cells (u8s (List.replicate 16 0)).toArray 61) := ⟨_, rfl⟩
  rw [← hwB, ← hn] at HX
  obtain ⟨X1, X2, X3, X4⟩ := HX
  have hfB := hf.keep (X3.block f (by rw [hn]; exact hfl))
  have hlk : (Instr.lookup 63 (.map (some f)) (.agg (u8s x).toArray) true).run Try.prog wB = .ok (.tuple #[blkV y, .bool true]) wB := hfB.look_some
  have l1 := run_loadAt_arr (P := Try.prog) X1 Try.underlying61 (size61 hx)
  obtain ⟨wC, hwC⟩ : ∃ a, a = wB.alloc (.cells (u8s (List.replicate 16 0)).toArray 61) := ⟨_, rfl⟩
  have X5 : Arr wC (n + 2) 61 (List.replicate 16 0) := by rw [hwC, ← X4]; exact heap_alloc_new wB _
  have X6 : Below (n + 2) wB wC := by rw [hwC, ← X4]; exact (Below.refl _ _).alloc (Nat.le_refl _) _
  have s1 := block_store X5 List.length_replicate y hy
  obtain ⟨wD, hwD⟩ : ∃ a, a = wC.setRow (n + 2) (u8s y).toArray := ⟨_, rfl⟩
  rw [← hwD] at s1
  have X7 : Arr wD (n + 2) 61 y := hwD ▸ X5.setRow _
  have l2 := run_loadAt_arr (P := Try.prog) X7 Try.underlying61 (size61 hy)
  have X8 : Below (n + 2) wB wD := hwD ▸ below_setRow X6 (Nat.le_refl _) _
  have X9 : Arr wD (n + 1) 61 (List.replicate 16 0) := X2.keep (X8.block (n + 1) (by omega))
  have s2 := block_store X9 List.length_replicate y hy
  obtain ⟨wE, hwE⟩ : ∃ a, a = wD.setRow (n + 1) (u8s y).toArray := ⟨_, rfl⟩
  rw [← hwE] at s2
  have XE : Arr wE (n + 1) 61 y := hwE ▸ X9.setRow _
  have hE : Chg No w wE := by
    have h1 := below_setRow (X3.trans (X8.mono (by omega))) (g := n + 1) (by omega) (u8s y).toArray
    rw [← hwE, hn] at h1
    exact Chg.of_below h1 _
  subst hwC
  have hX4 := X4
  subst hwB
  replace hwD := Lib.hid hwD
  replace hwE := Lib.hid hwE
  replace XE := Lib.hid XE
  replace hE := Lib.hid hE
  replace hlk := Lib.hid hlk
  replace l1 := Lib.hid l1
  replace l2 := Lib.hid l2
  replace s1 := Lib.hid s1
  replace s2 := Lib.hid s2
  clear X9 X8 X7 X6 X5 hfB X3 X2 X1 hf hz
  show Calls Try.prog 32 #[c, what, .agg (u8s x).toArray, .map (some f), to] w _
  rw [← hV]
  rw [← hV] at hlk l1 X4 s1
  replace hV := Lib.hid hV
  subst hn
  go_enter Try.func32, Try.ntmps32
  go_wp2_with (first | (refine wpList_load rfl 61 _ rfl _ _ rfl l1.out ?_) | (refine wpList_look rfl 63 _ _ rfl _ _ _ rfl rfl hlk.out ?_) | (refine wpList_store rfl 61 _ _ rfl _ _ rfl rfl s1.out ?_) | (refine wpList_load rfl 61 _ rfl _ _ rfl l2.out ?_) | (refine wpList_store rfl 61 _ _ rfl _ _ rfl rfl s2.out ?_))
  refine bodyPost_ret (results_cell_slot Try.results32 _ _ (w.heap.size + 1) 61 _ (0, 0) _ rfl XE.out Try.underlying61 rfl (by rw [size61 hy]; simp [u8s_length])) rfl ⟨rfl, hE.out⟩

/-- what a new pair turns -/
def NwC (tp : Nat) (tv : Value) (c f g : Nat) : Nat → Prop := fun q => q = tp ∨ tv.ownBlock = some q ∨ q = c ∨ q = f ∨ q = g

set_option maxRecDepth 100000 in
set_option maxHeartbeats 4000000 in
theorem other_new {w : World} {B tp : Nat} {bv tv : Value} {b : List UInt8} {a : Nat} {ts : List (ByteArray × Nat × Nat)} (hO : TapeO w B tp bv tv b a ts) (hB : B ≤ w.heap.size) {c m k : Nat} {cn : Nat} {ag : Int} (hc : w.heap[c]? = some (idBox (some ⟨tp, 0, none⟩) m k cn ag))
    {f g : Nat} (hf : MapB w f none) (hg : MapB w g none) (hfg : f ≠ g) {x : List UInt8} (hx : x.length = 16) (what : ByteArray) (hn16 : a + 16 ≤ b.length) (hts : ts.length < 1000000) (hcn : cn ≤ 1000000) :
    Calls Try.prog 32 #[.pointer (some ⟨c, 0, none⟩), .string what, blkV x, .map (some f), .map (some g)] w fun e w' => ∃ tv', e = .returned (.tuple #[blkV ((b.drop a).take 16), .int .i64 0]) ∧ TapeO w' B tp bv tv' b (a + 16) (ts ++ [(what, a, 16)]) ∧
      w'.heap[c]? = some (idBox (some ⟨tp, 0, none⟩) m k (cn + 1 : Nat) ag) ∧ MapB w' f (some (x, (b.drop a).take 16)) ∧ MapB w' g (some ((b.drop a).take 16, x)) ∧ Chg (NwC tp tv c f g) w w' ∧ (tv'.ownBlock = tv.ownBlock ∨ ∃ q, tv'.ownBlock = some q ∧ w.heap.size ≤ q) := by
  obtain ⟨y, hy⟩ : ∃ y, y = (b.drop a).take 16 := ⟨_, rfl⟩
  have hyl : y.length = 16 := by rw [hy, List.length_take, List.length_drop]; omega
  rw [← hy]
  have hbox : w.heap[c]? = some (.cells #[.pointer (some ⟨tp, 0, none⟩), .map (some m), .map (some k), .int .i64 cn, .int .i64 ag] 79 (0, 0)) := hc
  have hcl := heap_lt hbox
  have hfl := hf.lt
  have hgl := hg.lt
  obtain ⟨n, hn⟩ : ∃ n, n = w.heap.size := ⟨_, rfl⟩
  have HX := box2 w 61 x (List.replicate 16 0)
  obtain ⟨V, hV⟩ : ∃ V, V = (u8s x).toArray := ⟨_, rfl⟩
  obtain ⟨wB, hwB⟩ : ∃ a, a = (w.alloc (.cells (u8s x).toArray 61)).alloc (.cells (u8s (List.replicate 16 0)).toArray 61) := ⟨_, rfl⟩
  rw [← hwB, ← hn] at HX
  have hz : (u8s (List.replicate 16 0)).toArray = #[.int .u8 0, .int .u8 0, .int .u8 0, .int .u8 0, .int .u8 0, .int .u8 0, .int .u8 0, .int .u8 0, .int .u8 0, .int .u8 0, .int .u8 0, .int .u8 0, .int .u8 0, .int .u8 0, .int .u8 0, .int .u8 0] := rfl
  rw [hz] at hwB
  clear hz
  obtain ⟨X1, X2, X3, X4⟩ := HX
  have hfB := hf.keep (X3.block f (by rw [hn]; exact hf.lt))
  have hlk : (Instr.lookup 63 (.map (some f)) (.agg (u8s x).toArray) true).run Try.prog wB = .ok (.tuple #[.agg #[.int .u8 0, .int .u8 0, .int .u8 0, .int .u8 0, .int .u8 0, .int .u8 0, .int .u8 0, .int .u8 0, .int .u8 0, .int .u8 0, .int .u8 0, .int .u8 0, .int .u8 0, .int .u8 0, .int .u8 0, .int .u8 0], .bool false]) wB := hfB.look_none hx
  have l1 := run_loadAt_arr (P := Try.prog) X1 Try.underlying61 (size61 hx)
  obtain ⟨W, hW⟩ : ∃ a, a = wB.alloc (.cells #[.int .u8 0, .int .u8 0, .int .u8 0, .int .u8 0, .int .u8 0, .int .u8 0, .int .u8 0, .int .u8 0, .int .u8 0, .int .u8 0, .int .u8 0, .int .u8 0, .int .u8 0, .int .u8 0, .int .u8 0, .int .u8 0] 61) := ⟨_, rfl⟩
  have X6 : Below (n + 2) wB W := by rw [hW, ← X4]; exact (Below.refl _ _).alloc (Nat.le_refl _) _
  have Y1 : Arr W n 61 x := X1.keep (X6.block n (by omega))
  have Y2 : Arr W (n + 1) 61 (List.replicate 16 0) := X2.keep (X6.block (n + 1) (by omega))
  have hCW : Chg No w W := by
    have h1 := X3.trans (X6.mono (by omega))
    rw [hn] at h1
    exact Chg.of_below h1 _
  have hWs : W.heap.size = n + 3 := by rw [hW]; simp [X4]
  have hOW := hO.after (Chg.no hCW)
  have hBW : B ≤ W.heap.size := Nat.le_trans hB hCW.size
  have hboxW := (hCW.block c hcl id).trans hbox
  have hfW := hf.keep (hCW.block f hf.lt id)
  have hgW := hg.keep (hCW.block g hg.lt id)
  have htake := take_ok hOW hBW what 16 hn16 hts
  rw [← hy] at htake
  have c0 : W.cell? ⟨c, 0, none⟩ = some (.pointer (some ⟨tp, 0, none⟩)) := by rw [cell_of hboxW]; rfl
  subst hwB
  replace hlk := Lib.hid hlk
  replace l1 := Lib.hid l1
  replace htake := Lib.hid htake
  replace hboxW := Lib.hid hboxW
  replace hfW := Lib.hid hfW
  replace hgW := Lib.hid hgW
  replace hCW := Lib.hid hCW
  replace hOW := Lib.hid hOW
  replace hO := Lib.hid hO
  replace hf := Lib.hid hf
  replace hg := Lib.hid hg
  replace Y1 := Lib.hid Y1
  replace Y2 := Lib.hid Y2
  clear hfB X6 X2 X1 hc hbox
  show Calls Try.prog 32 #[.pointer (some ⟨c, 0, none⟩), .string what, .agg (u8s x).toArray, .map (some f), .map (some g)] w _
  rw [← hV]
  rw [← hV] at hlk l1 X4 hW
  replace hV := Lib.hid hV
  replace hy := Lib.hid hy
  have hW2 := Lib.hid hW
  replace X3 := Lib.hid X3
  clear hW
  rw [hn] at l1 hWs X4
  have hn2 := Lib.hid hn
  clear hn
  go_enter Try.func32, Try.ntmps32
  go_wp2_with (first | (refine wpList_load rfl 61 _ rfl _ _ rfl l1.out ?_) | (refine wpList_look rfl 63 _ _ rfl _ _ _ rfl rfl hlk.out ?_))
  rw [← hW2.out]
  have c0' := c0
  clear l1 hlk X3 X4 hf hg
  replace c0 := Lib.hid c0
  clear c0'
  go_loopw [14] (fun _ wr => wr = W) (fun _ _ => 1)
  case atStart => rfl
  case round =>
    subst hrel
    have c0' := c0.out
    go_wp2_with fail
    refine htake.out.mono ?_
    rintro e w1 ⟨v, tv', rfl, hv, hO1, hC1, hr1⟩
    have hW1 : Chg (TkC tp tv) wr w1 := hC1
    have a1 : Arr w1 n 61 x := Y1.out.keep (hC1.block n (heap_lt Y1.out) (hOW.out.apart Y1.out (by decide) (by decide)))
    have a2 : Arr w1 (n + 1) 61 (List.replicate 16 0) := Y2.out.keep (hC1.block (n + 1) (heap_lt Y2.out) (hOW.out.apart Y2.out (by decide) (by decide)))
    have a3 : MapB w1 f none := hfW.out.keep (hC1.block f hfW.out.lt (by obtain ⟨es, cc, h⟩ := hfW.out.mapped; exact hOW.out.apartM h))
    have a4 : MapB w1 g none := hgW.out.keep (hC1.block g hgW.out.lt (by obtain ⟨es, cc, h⟩ := hgW.out.mapped; exact hOW.out.apartM h))
    have a5 := (hC1.block c (heap_lt hboxW.out) (hOW.out.apart hboxW.out (by decide) (by decide))).trans hboxW.out
    obtain ⟨vb, vc, rfl, hvc1, hvc2⟩ := own_shape hv (by omega)
    have hvl : (Instr.loadAt 61 (.pointer (some ⟨vb, 0, none⟩))).run Try.prog w1 = .ok (.agg (u8s y).toArray) w1 := by
      refine run_loadAt_cells Try.underlying61 (size61 hyl) (fun j hj => ?_)
      have h1 := (hv.cells rfl) j _ (u8s_get y j hj)
      rw [Addr.add_lit] at h1
      rw [h1, List.getD_eq_getElem?_getD, List.getElem?_eq_getElem hj]
      rfl
    have harr := run_arrayAt w1 ⟨vb, 0, none⟩ vc
    obtain ⟨q, hq⟩ : ∃ q, q = w1.heap.size := ⟨_, rfl⟩
    obtain ⟨w2, hw2⟩ : ∃ a, a = w1.alloc (.cells #[.int .u8 0, .int .u8 0, .int .u8 0, .int .u8 0, .int .u8 0, .int .u8 0, .int .u8 0, .int .u8 0, .int .u8 0, .int .u8 0, .int .u8 0, .int .u8 0, .int .u8 0, .int .u8 0, .int .u8 0, .int .u8 0] 61) := ⟨_, rfl⟩
    have b2 : Arr w2 q 61 (List.replicate 16 0) := by rw [hw2, hq]; exact heap_alloc_new w1 _
    have h2 : Below q w1 w2 := by rw [hw2, hq]; exact (Below.refl _ _).alloc (Nat.le_refl _) _
    have s2 := block_store b2 List.length_replicate y hyl
    obtain ⟨w3, hw3⟩ : ∃ a, a = w2.setRow q (u8s y).toArray := ⟨_, rfl⟩
    rw [← hw3] at s2
    have b3 : Arr w3 q 61 y := hw3 ▸ b2.setRow _
    have h3 : Below q w1 w3 := hw3 ▸ below_setRow h2 (Nat.le_refl _) _
    have hs3 : w3.heap.size = q + 1 := by rw [hw3]; simp [World.setRow, hw2, hq]
    have l3 := run_loadAt_arr (P := Try.prog) b3 Try.underlying61 (size61 hyl)
    have g3 := a4.keep (h3.block g (by rw [hq]; exact a4.lt))
    have hlk3 : (Instr.lookup 63 (.map (some g)) (.agg (u8s y).toArray) true).run Try.prog w3 = .ok (.tuple #[.agg #[.int .u8 0, .int .u8 0, .int .u8 0, .int .u8 0, .int .u8 0, .int .u8 0, .int .u8 0, .int .u8 0, .int .u8 0, .int .u8 0, .int .u8 0, .int .u8 0, .int .u8 0, .int .u8 0, .int .u8 0, .int .u8 0], .bool false]) w3 := g3.look_none hyl
    obtain ⟨w4, hw4⟩ : ∃ a, a = w3.alloc (.cells #[.int .u8 0, .int .u8 0, .int .u8 0, .int .u8 0, .int .u8 0, .int .u8 0, .int .u8 0, .int .u8 0, .int .u8 0, .int .u8 0, .int .u8 0, .int .u8 0, .int .u8 0, .int .u8 0, .int .u8 0, .int .u8 0] 61) := ⟨_, rfl⟩
    have h4 : Below (q + 1) w3 w4 := by rw [hw4, ← hs3]; exact (Below.refl _ _).alloc (Nat.le_refl _) _
    have h14 : Chg No w1 w4 := by
      have h := h3.trans (h4.mono (by omega))
      rw [hq] at h
      exact Chg.of_below h _
    have d1 : Arr w4 n 61 x := a1.keep (h14.block n (heap_lt a1) id)
    have d2 : Arr w4 (n + 1) 61 (List.replicate 16 0) := a2.keep (h14.block (n + 1) (heap_lt a2) id)
    have d3 : Arr w4 q 61 y := b3.keep (h4.block q (by omega))
    have d4 : MapB w4 f none := a3.keep (h14.block f a3.lt id)
    have d5 : MapB w4 g none := a4.keep (h14.block g a4.lt id)
    have d6 := (h14.block c (heap_lt a5) id).trans a5
    have d7 := hO1.after (Chg.no h14)
    obtain ⟨Y, hY⟩ : ∃ Y, Y = (u8s y).toArray := ⟨_, rfl⟩
    rw [← hY] at hvl s2 l3 hlk3
    have hr1' := Lib.hid hr1
    replace hY := Lib.hid hY
    replace hvl := Lib.hid hvl
    replace s2 := Lib.hid s2
    replace l3 := Lib.hid l3
    replace hlk3 := Lib.hid hlk3
    have hw4' := Lib.hid hw4
    clear hw4
    subst hw2
    have hw3' := Lib.hid hw3
    replace d1 := Lib.hid d1
    replace d2 := Lib.hid d2
    replace d3 := Lib.hid d3
    replace d4 := Lib.hid d4
    replace d5 := Lib.hid d5
    replace d6 := Lib.hid d6
    replace d7 := Lib.hid d7
    replace h14 := Lib.hid h14
    rw [hq] at s2 l3
    replace hq := Lib.hid hq
    clear hw3 b2 h2 b3 h3 g3 h4 a1 a2 a3 a4 a5 hr1 htake hW1 hv
    go_wp2_with (first | (refine wpList_load rfl 61 _ rfl _ _ rfl hvl.out ?_) | (refine wpList_store rfl 61 _ _ rfl _ _ rfl rfl s2.out ?_) | (refine wpList_load rfl 61 _ rfl _ _ rfl l3.out ?_) | (refine wpList_look rfl 63 _ _ rfl _ _ _ rfl rfl hlk3.out ?_))
    rw [← hw4'.out]
    clear hvl s2 l3 hlk3 harr
    have nmap : ∀ {u o : Nat} {l : List UInt8}, Arr w4 u 61 l → MapB w4 o none → u ≠ o := fun h1 h2 e => by
      subst e
      have h3 : some (Obj.cells _ _ _) = some (Obj.map #[] 0) := h1.symm.trans h2
      cases h3
    have lx : ∀ w5, Chg (fun b => b = f ∨ b = g) w4 w5 → (Instr.loadAt 61 (.pointer (some ⟨w.heap.size, 0, none⟩))).run Try.prog w5 = .ok (.agg V) w5 := fun w5 h5 => by
      rw [hV.out, ← hn2.out]
      exact run_loadAt_arr (P := Try.prog) (d1.out.keep (h5.block n (heap_lt d1.out) (by rintro (e | e); exact nmap d1.out d4.out e; exact nmap d1.out d5.out e))) Try.underlying61 (size61 hx)
    have ly : ∀ w5, Chg (fun b => b = f ∨ b = g) w4 w5 → (Instr.loadAt 61 (.pointer (some ⟨w1.heap.size, 0, none⟩))).run Try.prog w5 = .ok (.agg Y) w5 := fun w5 h5 => by
      rw [hY.out, ← hq.out]
      exact run_loadAt_arr (P := Try.prog) (d3.out.keep (h5.block q (heap_lt d3.out) (by rintro (e | e); exact nmap d3.out d4.out e; exact nmap d3.out d5.out e))) Try.underlying61 (size61 hyl)
    have hdr : ∀ w5, Chg (fun b => b = f ∨ b = g) w4.drew w5 → Chg (fun b => b = f ∨ b = g) w4 w5 := fun w5 h => ⟨h.os, h.tape, h.output, h.size, h.block⟩
    have hcf : c ≠ f := fun e => by
      subst e
      have h3 : some (Obj.cells _ _ _) = some (Obj.map #[] 0) := d6.out.symm.trans d4.out
      cases h3
    have hcg : c ≠ g := fun e => by
      subst e
      have h3 : some (Obj.cells _ _ _) = some (Obj.map #[] 0) := d6.out.symm.trans d5.out
      cases h3
    replace lx := Lib.hid lx
    replace ly := Lib.hid ly
    replace hdr := Lib.hid hdr
    replace hcf := Lib.hid hcf
    replace hcg := Lib.hid hcg
    refine RA.region (fun a b => Chg (fun b => b = f ∨ b = g) a b) (· = ·) [1, 1, 1, 1, 1, 1, 4, 4] (fun _ _ _ => True) (fun w5 => MapB w5 f none ∧ MapB w5 g none) (by kernel_rfl) (Chg.refl _ _) (fun _ _ h => h ▸ Chg.refl _ _) (fun _ _ _ h k => h.trans k) (fun _ _ h k => h ▸ k) (⟨d4.out, d5.out⟩) (by kernel_rfl) ?_
    intro cx
    repeat (first | refine RA.mv (by kernel_rfl) (by rfl) (by rfl) ?_ | refine RA.as (by kernel_rfl) (by rfl) (by rfl) ?_ | refine RA.nc (by kernel_rfl) (by rfl) (by rfl) ?_)
    refine RA.ld (by kernel_rfl) (by rfl) (by rfl) (y' := .agg V) (fun w3 hp => lx.out w3 (hdr.out _ hp.1)) ?_
    repeat (first | refine RA.mv (by kernel_rfl) (by rfl) (by rfl) ?_ | refine RA.as (by kernel_rfl) (by rfl) (by rfl) ?_ | refine RA.nc (by kernel_rfl) (by rfl) (by rfl) ?_)
    refine RA.ld (by kernel_rfl) (by rfl) (by rfl) (y' := .agg Y) (fun w3 hp => ly.out w3 (hdr.out _ hp.1)) ?_
    refine RA.ld (by kernel_rfl) (by rfl) (by rfl) (y' := .agg Y) (fun w3 hp => ly.out w3 (hdr.out _ hp.1)) ?_
    refine RA.ld (by kernel_rfl) (by rfl) (by rfl) (y' := .agg V) (fun w3 hp => lx.out w3 (hdr.out _ hp.1)) ?_
    refine RA.st (fun w5 => MapB w5 f (some (x, y)) ∧ MapB w5 g none) (by kernel_rfl) (by rfl) (by kernel_rfl) (fun _ _ h k => h ▸ k) (fun w5 hp hH => by
      obtain ⟨h1, h2⟩ := hH.1.put hx y hyl
      refine ⟨_, ex_put rfl (RA.evo_ev (by rfl)) (RA.evo_ev (by rfl)) (RA.evo_ev (by rfl)) (by rw [hV.out, hY.out]; exact h1), putObj_chg (C := fun b => b = f ∨ b = g) (g := f) (Chg.refl _ _) (fun _ => .inl rfl) _, h2, hH.2.keep (putObj_other (fun e => hfg e.symm))⟩) ?_
    refine RA.st (fun w5 => MapB w5 f (some (x, y)) ∧ MapB w5 g (some (y, x))) (by kernel_rfl) (by rfl) (by kernel_rfl) (fun _ _ h k => h ▸ k) (fun w5 hp hH => by
      obtain ⟨h1, h2⟩ := hH.2.put hyl x hx
      refine ⟨_, ex_put rfl (RA.evo_ev (by rfl)) (RA.evo_ev (by rfl)) (RA.evo_ev (by rfl)) (by rw [hV.out, hY.out]; exact h1), putObj_chg (C := fun b => b = f ∨ b = g) (g := g) (Chg.refl _ _) (fun _ => .inr rfl) _, hH.1.keep (putObj_other hfg), h2⟩) ?_
    refine RA.RA.done rfl (fun w5 hR hF hH => ?_)
    clear hF
    simp only [RA.put, List.foldr_cons, List.foldr_nil, cx, Act.put, List.setIfInBounds_toArray, List.set_cons_succ, List.set_cons_zero]
    obtain ⟨e4, e5⟩ := hH
    have hR5 := hdr.out _ hR
    have e1 := d1.out.keep (hR5.block n (heap_lt d1.out) (by rintro (e | e); exact nmap d1.out d4.out e; exact nmap d1.out d5.out e))
    have e2 := d2.out.keep (hR5.block (n + 1) (heap_lt d2.out) (by rintro (e | e); exact nmap d2.out d4.out e; exact nmap d2.out d5.out e))
    have e3 := d3.out.keep (hR5.block q (heap_lt d3.out) (by rintro (e | e); exact nmap d3.out d4.out e; exact nmap d3.out d5.out e))
    have e6 := (hR5.block c (heap_lt d6.out) (by rintro (e | e); exact hcf.out e; exact hcg.out e)).trans d6.out
    have k3 : w5.cell? ⟨c, 3, none⟩ = some (.int .i64 cn) := by rw [cell_of e6]; rfl
    have k4 : w5.frozen? ⟨c, 3, none⟩ = false := frozen_of e6 3
    obtain ⟨w6, hw6⟩ : ∃ a, a = w5.setCell ⟨c, 3, none⟩ (.int .i64 ((cn : Int) + 1)) := ⟨_, rfl⟩
    have m6 : ∀ u, u ≠ c → w6.heap[u]? = w5.heap[u]? := fun u hu => by rw [hw6]; exact setCell_heap_ne _ _ _ hu
    have ncell : ∀ {u : Nat} {l : List UInt8}, Arr w5 u 61 l → u ≠ c := fun h1 e => by
      subst e
      have h2 := h1.symm.trans e6
      simp only [Option.some.injEq, Obj.cells.injEq] at h2
      exact absurd h2.2.1 (by decide)
    have p1 := e3.keep (m6 q (ncell e3))
    have p2 := e2.keep (m6 (n + 1) (ncell e2))
    have p6 : w6.heap[c]? = some (idBox (some ⟨tp, 0, none⟩) m k (cn + 1 : Nat) ag) := by rw [hw6, setCell_block e6]; rfl
    have l6 := run_loadAt_arr (P := Try.prog) p1 Try.underlying61 (size61 hyl)
    have s6 := block_store p2 List.length_replicate y hyl
    obtain ⟨w7, hw7⟩ : ∃ a, a = w6.setRow (n + 1) (u8s y).toArray := ⟨_, rfl⟩
    rw [← hw7] at s6
    have q2 : Arr w7 (n + 1) 61 y := hw7 ▸ p2.setRow _
    have m7 : ∀ u, u ≠ n + 1 → w7.heap[u]? = w6.heap[u]? := fun u hu => by rw [hw7]; exact setRow_other _ _ _ _ hu
    have hnb : n + 1 = w.heap.size + 1 := by rw [hn2.out]
    have hnl : w.heap.size = n := hn2.out.symm
    have q4 : MapB w7 f (some (x, y)) := (e4.keep (m6 f hcf.out.symm)).keep (m7 f (by have := hfl; omega))
    have q5 : MapB w7 g (some (y, x)) := (e5.keep (m6 g hcg.out.symm)).keep (m7 g (by have := hgl; omega))
    have q6 : w7.heap[c]? = some (idBox (some ⟨tp, 0, none⟩) m k (cn + 1 : Nat) ag) := (m7 c (by omega)).trans p6
    have hA1 : Chg (NwC tp tv c f g) w w7 := by
      have h1 : Chg (NwC tp tv c f g) w w4 := ((hCW.out.mono (D := NwC tp tv c f g) (fun _ _ h => h.elim)).then hC1 (fun _ _ h => by rcases h with h | h; exact .inl h; exact .inr (.inl h))).then h14.out (fun _ _ h => h.elim)
      have h2 : Chg (NwC tp tv c f g) w w5 := h1.then hR5 (fun _ _ h => by rcases h with h | h; exact .inr (.inr (.inr (.inl h))); exact .inr (.inr (.inr (.inr h))))
      have h3 := (h2.setCell (p := ⟨c, 3, none⟩) (fun _ => .inr (.inr (.inl rfl))) (.int .i64 ((cn : Int) + 1)))
      rw [← hw6] at h3
      have h4 := h3.setRow (g := n + 1) (fun h => absurd h (by omega)) (u8s y).toArray
      rw [← hw7] at h4
      exact h4
    have hOf : TapeO w7 B tp bv tv' b (a + 16) (ts ++ [(what, a, 16)]) := d7.out.keep fun u hu => by
      have u1 := d7.out.farM hu d4.out
      have u2 := d7.out.farM hu d5.out
      have u3 := d7.out.far hu d6.out (by decide) (by decide) (by decide)
      have u4 := d7.out.far hu d2.out (by decide) (by decide) (by decide)
      rw [m7 u u4, m6 u u3]
      exact hR5.block u (d7.out.lt hu) (by rintro (e | e); exact u1 e; exact u2 e)
    rw [← hY.out, hq.out] at l6
    rw [← hY.out, hnb] at s6
    subst hw6
    replace l6 := Lib.hid l6
    replace s6 := Lib.hid s6
    replace hw7 := Lib.hid hw7
    replace q2 := Lib.hid q2
    replace q4 := Lib.hid q4
    replace q5 := Lib.hid q5
    replace q6 := Lib.hid q6
    replace hA1 := Lib.hid hA1
    replace hOf := Lib.hid hOf
    have hrel : tv'.ownBlock = tv.ownBlock ∨ ∃ q, tv'.ownBlock = some q ∧ w.heap.size ≤ q := by
      rcases hr1'.out with h | ⟨u, h, hu⟩
      · exact .inl h
      · exact .inr ⟨u, h, Nat.le_trans hCW.out.size hu⟩
    rw [hnb] at q2
    replace hrel := Lib.hid hrel
    clear hnb hnl m7 p6 p1 p2 m6 e1 e2 e3 e4 e5 e6 hR hR5 ncell nmap lx ly hdr
    go_wp2_with (first | (refine wpList_load rfl 61 _ rfl _ _ rfl l6.out ?_) | (refine wpList_store rfl 61 _ _ rfl _ _ rfl rfl s6.out ?_))
    refine bodyPost_ret (results_cell_slot Try.results32 _ _ (w.heap.size + 1) 61 _ (0, 0) _ rfl q2.out Try.underlying61 rfl (by rw [size61 hyl]; simp [u8s_length])) rfl ⟨tv', rfl, hOf.out, q6.out, q4.out, q5.out, hA1.out, hrel.out⟩

set_option maxRecDepth 100000 in
set_option maxHeartbeats 4000000 in
theorem other_short {w : World} {B tp : Nat} {bv tv : Value} {b : List UInt8} {a : Nat} {ts : List (ByteArray × Nat × Nat)} (hO : TapeO w B tp bv tv b a ts) {c m k : Nat} {cn ag : Int} (hc : w.heap[c]? = some (idBox (some ⟨tp, 0, none⟩) m k cn ag))
    {f : Nat} (hf : MapB w f none) {x : List UInt8} (hx : x.length = 16) (what : ByteArray) (to : Value) (hn16 : b.length < a + 16) :
    Calls Try.prog 32 #[.pointer (some ⟨c, 0, none⟩), .string what, blkV x, .map (some f), to] w fun e w' => e = .returned (.tuple #[.agg #[.int .u8 0, .int .u8 0, .int .u8 0, .int .u8 0, .int .u8 0, .int .u8 0, .int .u8 0, .int .u8 0, .int .u8 0, .int .u8 0, .int .u8 0, .int .u8 0, .int .u8 0, .int .u8 0, .int .u8 0, .int .u8 0], .int .i64 9]) ∧ Chg No w w' := by
  have hbox : w.heap[c]? = some (.cells #[.pointer (some ⟨tp, 0, none⟩), .map (some m), .map (some k), .int .i64 cn, .int .i64 ag] 79 (0, 0)) := hc
  have hcl := heap_lt hbox
  have hfl := hf.lt
  obtain ⟨n, hn⟩ : ∃ n, n = w.heap.size := ⟨_, rfl⟩
  have HX := box2 w 61 x (List.replicate 16 0)
  obtain ⟨V, hV⟩ : ∃ V, V = (u8s x).toArray := ⟨_, rfl⟩
  obtain ⟨wB, hwB⟩ : ∃ a, a = (w.alloc (.cells (u8s x).toArray 61)).alloc (.cells (u8s (List.replicate 16 0)).toArray 61) := ⟨_, rfl⟩
  rw [← hwB, ← hn] at HX
  have hz : (u8s (List.replicate 16 0)).toArray = #[.int .u8 0, .int .u8 0, .int .u8 0, .int .u8 0, .int .u8 0, .int .u8 0, .int .u8 0, .int .u8 0, .int .u8 0, .int .u8 0, .int .u8 0, .int .u8 0, .int .u8 0, .int .u8 0, .int .u8 0, .int .u8 0] := rfl
  rw [hz] at hwB
  clear hz
  obtain ⟨X1, X2, X3, X4⟩ := HX
  have hfB := hf.keep (X3.block f (by rw [hn]; exact hf.lt))
  have hlk : (Instr.lookup 63 (.map (some f)) (.agg (u8s x).toArray) true).run Try.prog wB = .ok (.tuple #[.agg #[.int .u8 0, .int .u8 0, .int .u8 0, .int .u8 0, .int .u8 0, .int .u8 0, .int .u8 0, .int .u8 0, .int .u8 0, .int .u8 0, .int .u8 0, .int .u8 0, .int .u8 0, .int .u8 0, .int .u8 0, .int .u8 0], .bool false]) wB := hfB.look_none hx
  have l1 := run_loadAt_arr (P := Try.prog) X1 Try.underlying61 (size61 hx)
  obtain ⟨W, hW⟩ : ∃ a, a = wB.alloc (.cells #[.int .u8 0, .int .u8 0, .int .u8 0, .int .u8 0, .int .u8 0, .int .u8 0, .int .u8 0, .int .u8 0, .int .u8 0, .int .u8 0, .int .u8 0, .int .u8 0, .int .u8 0, .int .u8 0, .int .u8 0, .int .u8 0] 61) := ⟨_, rfl⟩
  have X6 : Below (n + 2) wB W := by rw [hW, ← X4]; exact (Below.refl _ _).alloc (Nat.le_refl _) _
  have Y2 : Arr W (n + 1) 61 (List.replicate 16 0) := X2.keep (X6.block (n + 1) (by omega))
  have hCW : Chg No w W := by
    have h1 := X3.trans (X6.mono (by omega))
    rw [hn] at h1
    exact Chg.of_below h1 _
  have hWs : W.heap.size = n + 3 := by rw [hW]; simp [X4]
  have hOW := hO.after (Chg.no hCW)
  have hboxW := (hCW.block c hcl id).trans hbox
  have htake := take_short hOW.at (.string what) 16 hn16
  have c0 : W.cell? ⟨c, 0, none⟩ = some (.pointer (some ⟨tp, 0, none⟩)) := by rw [cell_of hboxW]; rfl
  subst hwB
  replace hlk := Lib.hid hlk
  replace l1 := Lib.hid l1
  replace htake := Lib.hid htake
  replace hCW := Lib.hid hCW
  replace Y2 := Lib.hid Y2
  clear hfB X6 X2 X1 hc hbox hboxW hOW hO hf
  show Calls Try.prog 32 #[.pointer (some ⟨c, 0, none⟩), .string what, .agg (u8s x).toArray, .map (some f), to] w _
  rw [← hV]
  rw [← hV] at hlk l1 X4 hW
  replace hV := Lib.hid hV
  have hW2 := Lib.hid hW
  clear hW X3
  rw [hn] at l1 hWs X4
  have hn2 := Lib.hid hn
  clear hn
  go_enter Try.func32, Try.ntmps32
  go_wp2_with (first | (refine wpList_load rfl 61 _ rfl _ _ rfl l1.out ?_) | (refine wpList_look rfl 63 _ _ rfl _ _ _ rfl rfl hlk.out ?_))
  rw [← hW2.out]
  clear l1 hlk X4
  replace c0 := Lib.hid c0
  go_loopw [14] (fun _ wr => wr = W) (fun _ _ => 1)
  case atStart => rfl
  case round =>
    subst hrel
    have c0' := c0.out
    go_wp2_with fail
    refine htake.out.mono ?_
    rintro e w1 ⟨rfl, hC1⟩
    have a2 : Arr w1 (n + 1) 61 (List.replicate 16 0) := Y2.out.keep (hC1.block (n + 1) (heap_lt Y2.out) id)
    have hs := block_store a2 List.length_replicate (List.replicate 16 0) List.length_replicate
    obtain ⟨w2, hw2⟩ : ∃ a, a = w1.setRow (n + 1) (u8s (List.replicate 16 0)).toArray := ⟨_, rfl⟩
    rw [← hw2] at hs
    have b2 : Arr w2 (n + 1) 61 (List.replicate 16 0) := hw2 ▸ a2.setRow _
    have hC2 : Chg No w w2 := by
      have h1 := ((hCW.out.trans hC1).setRow (g := n + 1) (fun h => absurd h (by have := hn2.out; omega)) (u8s (List.replicate 16 0)).toArray)
      rw [← hw2] at h1
      exact h1
    rw [hn2.out] at hs b2
    replace hs := Lib.hid hs
    replace b2 := Lib.hid b2
    replace hC2 := Lib.hid hC2
    replace hw2 := Lib.hid hw2
    clear a2 htake hC1
    go_wp2_with (first | (refine wpList_store rfl 61 _ _ rfl _ _ rfl rfl hs.out ?_))
    refine bodyPost_ret (results_cell_slot Try.results32 _ _ (w.heap.size + 1) 61 _ (0, 0) _ rfl b2.out Try.underlying61 rfl (by kernel_rfl)) rfl ⟨rfl, hC2.out⟩
end Go.Proofs.Ytbgfdbidbjlaaaa.Fd

/-
  xts: data, block by block. No condition beyond what each theorem names.
-/
import Derived.Test.YtbgfdbidbjlaaaaBckLitPk
namespace Go.Proofs.Ytbgfdbidbjlaaaa.Fd
open Go Go.RowKit K

def xor2 (a b : List UInt8) : List UInt8 := xorAll (fun m => if m = 0 then a else b) 2
theorem xor2_length {a b : List UInt8} : (xor2 a b).length = 16 := xorAll_length
theorem xor2_ok {w : World} {g : Nat} {a b : List UInt8} (ha : a.length = 16) (hb : b.length = 16) (h : Arr w g 61 (a ++ b)) :
    Calls Try.prog 44 #[.slice (some ⟨g, 0, none⟩) 2 2] w fun e w' => e = .returned (.agg (u8s (xor2 a b)).toArray) ∧ Below w.heap.size w w' := by
  refine xor_ok (fun m => if m = 0 then a else b) (fun m => by split <;> assumption) g 0 2 2 (by omega) w (heap_lt h) (fun m hm j hj => ?_)
  rw [h.cell _ (by rw [List.length_append]; omega)]
  congr 3
  by_cases h0 : m = 0
  · subst h0
    rw [if_pos rfl]
    simp [List.getD, List.getElem?_append_left (show j < a.length by omega)]
  · have : m = 1 := by omega
    subst this
    rw [if_neg (by omega)]
    simp only [List.getD]
    rw [List.getElem?_append_right (by omega), show 0 + 1 * 16 + j - a.length = j by omega]
/-- a block of data -/
def blk (data : List UInt8) (i : Nat) : List UInt8 := (data.drop (16 * i)).take 16
theorem blk_length {data : List UInt8} {i : Nat} (h : 16 * i + 16 ≤ data.length) : (blk data i).length = 16 := by simp [blk]; omega
theorem blk_get {data : List UInt8} {i j : Nat} (hj : j < 16) : (blk data i).getD j 0 = data.getD (16 * i + j) 0 := by
  simp [blk, List.getD, hj]
theorem arr_bytes {w : World} {b : Nat} {t : TypeId} {l : List UInt8} (h : Arr w b t l) (hl : l.length ≤ maxLen) : Bytes w (fun _ => True) (.slice (some ⟨b, 0, none⟩) l.length l.length) l :=
  ⟨by simp [u8s_length], _, _, rfl, Nat.le_refl _, hl, fun h => (by cases h), .inr ⟨b, 0, rfl, trivial, heap_lt h, fun j u hu => by
    rw [Nat.zero_add, cell_of h, ← hu]
    simp⟩⟩
def thruB (D : List UInt8 → List UInt8) (T data : List UInt8) (i : Nat) : List UInt8 := xor2 (D (xor2 (blk data i) (twB T i))) (twB T i)
def thru (D : List UInt8 → List UInt8) (T data : List UInt8) : Nat → List UInt8
  | 0 => []
  | i + 1 => thru D T data i ++ thruB D T data i
theorem thru_length {D : List UInt8 → List UInt8} {T data : List UInt8} {i : Nat} : (thru D T data i).length = 16 * i := by
  induction i with
  | zero => rfl
  | succ i ih => rw [thru, List.length_append, ih, thruB, xor2_length]; omega
theorem keys_len {key : List UInt8} (h : key.length = 32 ∨ key.length = 64) : 8 ≤ (k2of key).length ∧ (k2of key).length % 4 = 0 ∧ 8 ≤ (k1of key).length ∧ (k1of key).length % 4 = 0 := by
  have h1 : (key.drop (key.length / 2)).length = key.length / 2 := by simp; omega
  have h2 : (key.take (key.length / 2)).length = key.length / 2 := by simp; omega
  rw [k2of, k1of, sched, sched, keysF_length, keysF_length, h1, h2]
  rcases h with h | h <;> rw [h] <;> decide

set_option maxRecDepth 100000 in
set_option maxHeartbeats 8000000 in
theorem through_ok {w : World} {S S' : Nat → Prop} {kv dv : Value} {key data : List UInt8} {f : Nat} (D : List UInt8 → List UInt8) (hD : ∀ b, b.length = 16 → (D b).length = 16) (hb : Bytes w S kv key) (unit : Nat) (hk : keyOk key.length unit)
    (hd : Bytes w S' dv data) (h16 : data.length % 16 = 0) (hmost : data.length ≤ 4096)
    (hf : ∀ args w, (callFunc f args).run Try.prog w = .ok (.enter f args) w)
    (hdo : ∀ (w3 : World) (F : Nat → Prop) p1 p2 b, PairAt w3 F p1 p2 (k1of key) (k2of key) → b.length = 16 → Calls Try.prog f #[.agg #[.pointer (some ⟨p1, 0, none⟩), .pointer (some ⟨p2, 0, none⟩)], .agg (u8s b).toArray] w3 fun e w' => e = .returned (.agg (u8s (D b)).toArray) ∧ Below w3.heap.size w3 w') :
    Calls Try.prog 33 #[kv, .int .i64 unit, dv, .func (.func f) #[] #[]] w fun e w' => ∃ v, e = .returned (.tuple #[v, .int .i64 0]) ∧
      w'.ownsRow w.heap.size 5 1 v data.length (u8s (thru D (encrypt (k2of key) (number unit)) data (data.length / 16))) ∧ Below w.heap.size w w' := by
  obtain ⟨n, hn⟩ : ∃ n, n = w.heap.size := ⟨_, rfl⟩
  have HN := Lib.hid hn
  obtain ⟨da, dcap, rfl, hdc1, hdc2⟩ := hd.shape
  have hmay := mayKey_ok hb unit hk da data.length dcap (by omega)
  rw [decide_eq_true (show data.length % 16 = 0 ∧ data.length ≤ 4096 from ⟨h16, hmost⟩)] at hmay
  have hopen := fun (w1 : World) (h : Bytes w1 S kv key) => xtsOpen_ok h (ok_of hk).1 unit (ok_of hk).2
  have hkl := keys_len (ok_of hk).1
  have hul := (ok_of hk).2
  obtain ⟨L, hL⟩ : ∃ L, L = data.length := ⟨_, rfl⟩
  obtain ⟨m, hm⟩ : ∃ m, m = L / 16 := ⟨_, rfl⟩
  have hm1 : (L : Int) / 16 = m := by omega
  have hm2 : (L : Int).tdiv 16 = m := by rw [Int.tdiv_eq_ediv_of_nonneg (by omega)]; exact hm1
  have hLm : L = 16 * m := by omega
  have hm3 : m ≤ 256 := by omega
  obtain ⟨T, hT⟩ : ∃ T, T = encrypt (k2of key) (number unit) := ⟨_, rfl⟩
  have hTl : T.length = 16 := hT ▸ encrypt_length number_length
  have htw := fun (w1 : World) (p1 p2 : Nat) (F : Nat → Prop) (h : PairAt w1 F p1 p2 (k1of key) (k2of key)) => tweaks_ok h hkl.1 hkl.2.1 unit m (by omega) (by omega)
  rw [← hT] at htw ⊢
  rw [← hL] at hmay hdc1 ⊢
  rw [← hm, ← hn]
  obtain ⟨K1, hK1⟩ : ∃ K, K = k1of key := ⟨_, rfl⟩
  obtain ⟨K2, hK2⟩ : ∃ K, K = k2of key := ⟨_, rfl⟩
  rw [← hK1, ← hK2] at hopen
  rw [← hK1, ← hK2] at htw hdo
  have hd' : Cells w S' (.slice da L dcap) L 1 (u8s data) := by rw [hL]; exact hd
  rw [← hL] at hd
  unfold maxLen at hdc2
  replace hD := Lib.hid hD
  replace hf := Lib.hid hf
  replace hdo := Lib.hid hdo
  replace hmay := Lib.hid hmay
  replace hopen := Lib.hid hopen
  replace htw := Lib.hid htw
  replace hb := Lib.hid hb
  replace hd := Lib.hid hd'
  replace hL := Lib.hid hL
  replace hm := Lib.hid hm
  replace hLm := Lib.hid hLm
  clear hK1 hK2 hT hn hkl h16 hmost hk hd'
  go_enter Try.func33, Try.ntmps33
  go_wp2_with fail
  refine hmay.out.mono ?_
  rintro e w1 ⟨rfl, hb1⟩
  have hb1' := Lib.hid hb1
  clear hb1
  go_wp2_with fail
  refine (hopen.out w1 (hb.out.keep hb1'.out.size (fun g _ hg => hb1'.out.block g hg))).mono ?_
  rintro e w2 ⟨p1, p2, rfl, hpr, hb2⟩
  have hB2 : Below n w w2 := HN.out ▸ hb1'.out.trans (hb2.mono hb1'.out.size)
  obtain ⟨bp, hbp⟩ : ∃ b, b = w2.heap.size := ⟨_, rfl⟩
  have hbox : (w2.alloc (.cells #[.pointer (some ⟨p1, 0, none⟩), .pointer (some ⟨p2, 0, none⟩)] 71)).heap[bp]? = some (.cells #[.pointer (some ⟨p1, 0, none⟩), .pointer (some ⟨p2, 0, none⟩)] 71 (0, 0)) := by
    rw [hbp]
    exact heap_alloc_new w2 _
  have hpr3 : PairAt (w2.alloc (.cells #[.pointer (some ⟨p1, 0, none⟩), .pointer (some ⟨p2, 0, none⟩)] 71)) (fun _ => True) p1 p2 K1 K2 := (hpr.keep (by simp) (fun g _ hl => Below.heap_alloc _ _ _ hl)).mono (fun _ _ => trivial)
  have hn2 : n ≤ w2.heap.size := by have := hB2.size; have := HN.out; omega
  have hB3 : Below n w (w2.alloc (.cells #[.pointer (some ⟨p1, 0, none⟩), .pointer (some ⟨p2, 0, none⟩)] 71)) := hB2.alloc hn2 _
  replace hbox := Lib.hid hbox
  replace hpr3 := Lib.hid hpr3
  replace hB3 := Lib.hid hB3
  have hbp' := Lib.hid hbp
  clear hpr hb2 hB2 hbp
  go_wp2_with fail
  obtain ⟨w3, hw3⟩ : ∃ w3, w3 = w2.alloc (.cells #[.pointer (some ⟨p1, 0, none⟩), .pointer (some ⟨p2, 0, none⟩)] 71) := ⟨_, rfl⟩
  rw [← hw3] at hbox hpr3 hB3 ⊢
  refine (htw.out w3 p1 p2 _ hpr3.out).mono ?_
  rintro e w4 ⟨tv, rfl, hto, hb4⟩
  obtain ⟨B, hBz⟩ : ∃ B, B = w4.heap.size := ⟨_, rfl⟩
  have hbox4 := (hb4.block bp (heap_lt hbox.out)).trans hbox.out
  have hpr4 := hpr3.out.keep hb4.size (fun g _ hl => hb4.block g hl)
  have hn3 : n ≤ w3.heap.size := by have := hB3.out.size; have := HN.out; omega
  have hB4 : Below n w w4 := hB3.out.trans (hb4.mono hn3)
  have htc := Cells.own hto
  obtain ⟨ta, tcap, htv, htc1, htc2⟩ := htc.shape
  subst htv
  unfold maxLen at htc2
  have hnB : n ≤ B := by have := hb4.size; omega
  have hd4 : Cells w4 S' (.slice da L dcap) L 1 (u8s data) := hd.out.keep (by have := hB4.size; exact this) (fun g _ hg => hB4.block g (by have := HN.out; omega))
  rw [← hbp'.out]
  clear hw3
  replace hbox4 := Lib.hid hbox4
  replace hpr4 := Lib.hid hpr4
  replace hB4 := Lib.hid hB4
  replace htc := Lib.hid htc
  replace hd4 := Lib.hid hd4
  replace hBz := Lib.hid hBz
  clear hto hb4 hbox hpr3 hB3 hb1' hbp' hn2 hn3
  go_wp2
  go_loopw [12, 34] (fun o i wr => ∃ k : Nat, k ≤ m ∧ i = .int .i64 k ∧ Below B w4 wr ∧ Hid (wr.ownsRow B 5 1 o (16 * k) (u8s (thru D T data k))))
    (fun _ i _ => m - (intOf i).toNat)
  case atStart => exact ⟨0, by omega, rfl, hBz.out ▸ Below.refl _ _, World.ownsRow_nil _ _ _ _⟩
  case round =>
    obtain ⟨k, hk, rfl, hbr, HO⟩ := hrel
    have hBr : B ≤ wr.heap.size := by have := hbr.size; have := hBz.out; omega
    by_cases hlt : k < m
    · have hbx := Lib.hid ((hbr.block bp (by rw [hBz.out]; exact heap_lt hbox4.out)).trans hbox4.out)
      have hprr := Lib.hid (hpr4.out.keep hbr.size (fun g _ hl => hbr.block g (by rw [hBz.out]; exact hl)))
      have htr := htc.out.keep hbr.size (fun g _ hl => hbr.block g (by rw [hBz.out]; exact hl))
      have hdr4 := hd4.out.keep hbr.size (fun g _ hl => hbr.block g (by rw [hBz.out]; exact hl))
      obtain ⟨tg, toff, tc, htv, _, _, _, htgl, htcell⟩ := Cells.at htr (by omega)
      simp only [Value.slice.injEq] at htv
      obtain ⟨rfl, _, rfl⟩ := htv
      obtain ⟨dg, doff, dc, hdv, _, _, _, hdgl, hdcell⟩ := Cells.at hdr4 (by have := hLm.out; omega)
      simp only [Value.slice.injEq] at hdv
      obtain ⟨rfl, _, rfl⟩ := hdv
      obtain ⟨X, hX⟩ : ∃ X, X = twB T k := ⟨_, rfl⟩
      have hXl : X.length = 16 := hX ▸ twB_length hTl k
      obtain ⟨Y, hY⟩ : ∃ Y, Y = blk data k := ⟨_, rfl⟩
      have hYl : Y.length = 16 := by rw [hY]; exact blk_length (by have := hL.out; have := hLm.out; omega)
      have htld : ∀ w5, Below wr.heap.size wr w5 → (Instr.loadAt 61 (.pointer (some ⟨tg, toff + k * 16, none⟩))).run Try.prog w5 = .ok (.agg (u8s X).toArray) w5 := by
        intro w5 h5
        refine run_loadAt_cells Try.underlying61 (size61 hXl) (fun j hj => ?_)
        rw [World.cell?_of_block (w := wr) (h5.block tg htgl), Nat.add_assoc, htcell _ _ (blkCells_get (twB_length hTl) hlt (by omega)), ← hX]
      have hdld : ∀ w5, Below wr.heap.size wr w5 → (Instr.loadAt 61 (.pointer (some ⟨dg, doff + 16 * k, none⟩))).run Try.prog w5 = .ok (.agg (u8s Y).toArray) w5 := by
        intro w5 h5
        refine run_loadAt_cells Try.underlying61 (size61 hYl) (fun j hj => ?_)
        have hjd : 16 * k + j < data.length := by have := hL.out; have := hLm.out; omega
        rw [World.cell?_of_block (w := wr) (h5.block dg hdgl), Nat.add_assoc, hdcell _ _ (u8s_get data _ hjd), hY, blk_get (by omega)]
        simp [List.getD, hjd]
      have hcut : ∀ (w5 : World) (lo hi : Nat), lo = 16 * k → hi = 16 * k + 16 → (Instr.sliceAt 22 (.slice (some ⟨dg, doff, none⟩) L dcap) (some (.int .i64 lo)) (some (.int .i64 hi)) none).run Try.prog w5 = .ok (.slice (some ⟨dg, doff + 16 * k, none⟩) 16 (dcap - 16 * k)) w5 := by
        intro w5 lo hi h1 h2
        rw [cut_at (P := Try.prog) (s := 1) w5 Try.underlying22 (by kernel_rfl) _ _ _ _ _ (by omega) (by have := hLm.out; omega), sliced_in _ _ _ _ _ _ (by have := hLm.out; omega), Nat.mul_one, h1, show hi - 16 * k = 16 by omega]
      obtain ⟨lo, hlo⟩ : ∃ lo, lo = 16 * k := ⟨_, rfl⟩
      obtain ⟨hi, hhi⟩ : ∃ hi, hi = 16 * k + 16 := ⟨_, rfl⟩
      have hcut2 := Lib.hid (fun w5 => hcut w5 lo hi hlo hhi)
      rw [← hlo] at hdld hcut2
      have hlo1 : (k : Int) * 16 = lo := by omega
      have hhi1 : ((k : Int) + 1) * 16 = hi := by omega
      have hloL : hi ≤ L := by have := hLm.out; omega
      have htr1 : thru D T data (k + 1) = thru D T data k ++ xor2 (D (xor2 Y X)) X := by rw [thru, thruB, hX, hY]
      clear hcut htr hdr4 htcell hdcell
      replace htr1 := Lib.hid htr1
      replace hX := Lib.hid hX
      replace hY := Lib.hid hY
      replace htld := Lib.hid htld
      replace hdld := Lib.hid hdld
      replace hlo := Lib.hid hlo
      replace hhi := Lib.hid hhi
      replace hbr := Lib.hid hbr
      have hl1 := Lib.hid (htld.out wr (Below.refl _ _))
      obtain ⟨w6, hst, hA6, hb6, hs6⟩ := box_store wr X hXl
      replace hst := Lib.hid hst
      replace hA6 := Lib.hid hA6
      replace hb6 := Lib.hid hb6
      replace hs6 := Lib.hid hs6
      go_wp2_with (first
        | (refine wpList_load rfl 61 _ rfl _ _ rfl hl1.out ?_)
        | (refine wpList_store rfl 61 _ _ rfl _ _ rfl rfl hst.out ?_))
      obtain ⟨tb, htb⟩ : ∃ b, b = wr.heap.size := ⟨_, rfl⟩
      rw [← htb] at hA6 ⊢
      have htbl := heap_lt hA6.out
      have hcP0 := cell_of hbx.out 0
      have hcP1 := cell_of hbx.out 1
      have hbpl := heap_lt hbx.out
      have hdr : ∀ w5, Chg No w6.drew w5 → Chg No w6 w5 := fun w3 h => ⟨h.os, h.tape, h.output, h.size, h.block⟩
      have hbx6 := Lib.hid ((hb6.out.block bp hbpl).trans hbx.out)
      have hpl : ∀ w5, Chg No w6 w5 → (Instr.loadAt 71 (.pointer (some ⟨bp, 0, none⟩))).run Try.prog w5 = .ok (.agg #[.pointer (some ⟨p1, 0, none⟩), .pointer (some ⟨p2, 0, none⟩)]) w5 := by
        intro w5 h5
        simp only [Instr.loadAt, Instr.sureAddr, Sem.run_bind, Sem.run_pure, Result.andThen]
        exact run_loadVar_row w5 bp 71 71 _ (0, 0) _ ((h5.block bp (heap_lt hbx6.out) id).trans hbx6.out) Try.underlying71 rfl (by kernel_rfl)
      have hb6r : ∀ w5, Chg No w6 w5 → Below wr.heap.size wr w5 := fun w5 h => hb6.out.trans ((Chg.no h).mono (by have := hb6.out.size; exact this))
      have hpr6 : ∀ w5, Chg No w6 w5 → PairAt w5 (fun _ => True) p1 p2 K1 K2 := fun w5 h => hprr.out.keep (hb6r w5 h).size (fun g _ hl => (hb6r w5 h).block g hl)
      have hl2 : ∀ w5, Chg No w6 w5 → (Instr.loadAt 61 (.pointer (some ⟨tb, 0, none⟩))).run Try.prog w5 = .ok (.agg (u8s X).toArray) w5 := fun w5 h => run_loadAt_arr (P := Try.prog) (hA6.out.keep (h.block tb htbl id)) Try.underlying61 (size61 hXl)
      obtain ⟨Z1, hZ1⟩ : ∃ Z, Z = xor2 Y X := ⟨_, rfl⟩
      have hZ1l : Z1.length = 16 := hZ1 ▸ xor2_length
      obtain ⟨Z2, hZ2⟩ : ∃ Z, Z = D Z1 := ⟨_, rfl⟩
      have hZ2l : Z2.length = 16 := hZ2 ▸ hD.out Z1 hZ1l
      obtain ⟨Z3, hZ3⟩ : ∃ Z, Z = xor2 Z2 X := ⟨_, rfl⟩
      have hZ3l : Z3.length = 16 := hZ3 ▸ xor2_length
      have htr2 : thru D T data (k + 1) = thru D T data k ++ Z3 := by rw [htr1.out, hZ3, hZ2, hZ1]
      replace hdr := Lib.hid hdr
      replace hpl := Lib.hid hpl
      replace hb6r := Lib.hid hb6r
      replace hpr6 := Lib.hid hpr6
      replace hl2 := Lib.hid hl2
      replace hZ1 := Lib.hid hZ1
      replace hZ2 := Lib.hid hZ2
      replace hZ3 := Lib.hid hZ3
      replace htr2 := Lib.hid htr2
      replace htb := Lib.hid htb
      clear hcP0 hcP1 hst hl1 htr1
      refine RA.regionT (Chg No) (Chg No) [1, 1, 1, 1, 1, 1, 1, 1, 1, 1, 1, 1, 3, 4, 4, 1, 3, 4, 2, 7] [19] (fun _ v w3 => ∃ b, v = .pointer (some ⟨b, 0, none⟩) ∧ w6.heap.size ≤ b ∧ Arr w3 b 61 (List.replicate 16 0)) (fun _ => True) (by kernel_rfl) (Chg.refl _ _) (fun _ _ h => h) (fun _ _ _ h k => h.trans k) (fun _ _ h k => k) (trivial) (by kernel_rfl) (by kernel_rfl) ?_
      intro cx
      repeat (first | refine RA.mv (by kernel_rfl) (by rfl) (by rfl) ?_ | refine RA.as (by kernel_rfl) (by rfl) (by rfl) ?_ | refine RA.nc (by kernel_rfl) (by rfl) (by rfl) ?_)
      refine RA.ld (by kernel_rfl) (by rfl) (by rfl) (y' := .agg #[.pointer (some ⟨p1, 0, none⟩), .pointer (some ⟨p2, 0, none⟩)]) (fun w3 hp => hpl.out w3 (hdr.out _ hp.1)) ?_
      repeat (first | refine RA.mv (by kernel_rfl) (by rfl) (by rfl) ?_ | refine RA.as (by kernel_rfl) (by rfl) (by rfl) ?_ | refine RA.nc (by kernel_rfl) (by rfl) (by rfl) ?_)
      refine RA.mi (by kernel_rfl) (by rfl) (by rfl) (by rfl) ((lo : Int)) (hlo1) (by omega) ?_
      repeat (first | refine RA.mv (by kernel_rfl) (by rfl) (by rfl) ?_ | refine RA.as (by kernel_rfl) (by rfl) (by rfl) ?_ | refine RA.nc (by kernel_rfl) (by rfl) (by rfl) ?_)
      refine RA.ai (by kernel_rfl) (by rfl) (by rfl) (by rfl) ((k : Int) + 1) (rfl) (by omega) ?_
      refine RA.mi (by kernel_rfl) (by rfl) (by rfl) (by rfl) ((hi : Int)) (hhi1) (by omega) ?_
      refine RA.slh (by kernel_rfl) (by rfl) (by rfl) (by rfl) (by rfl) (y' := .slice (some ⟨dg, doff + lo, none⟩) 16 (dcap - lo)) (fun w3 hp => hcut2.out w3) ?_
      refine RA.v Try.prog (x := .pointer (some ⟨dg, doff + lo, none⟩)) (by kernel_rfl) (by rfl) (by rfl) (fun w hp => by (try go_simp); rw [run_arrayAt]; rfl) ?_
      simp only [RA.add]
      refine RA.ld (by kernel_rfl) (by rfl) (by rfl) (y' := .agg (u8s Y).toArray) (fun w3 hp => hdld.out w3 (hb6r.out w3 (hdr.out _ hp.1))) ?_
      refine RA.ld (by kernel_rfl) (by rfl) (by rfl) (y' := .agg (u8s X).toArray) (fun w3 hp => hl2.out w3 (hdr.out _ hp.1)) ?_
      refine RA.bq (fun x w3 => ∃ g, x = .slice (some ⟨g, 0, none⟩) 2 2 ∧ Arr w3 g 61 (Y ++ X)) (fun _ _ => True) (by kernel_rfl) (by rfl) (by kernel_rfl) (fun _ _ _ h k => by obtain ⟨g, h1, h2⟩ := k; exact ⟨g, h1, h2.keep (h.block g (heap_lt h2) id)⟩) (fun _ _ _ _ _ => trivial) (fun w3 hp _ => ⟨_, _, ex_lit2 hYl hXl (RA.evo_ev (by rfl)) (RA.evo_ev (by rfl)) w3, (Chg.refl _ _).alloc _, ⟨w3.heap.size, rfl, heap_alloc_new w3 _⟩, trivial⟩) (fun x => ?_)
      refine RA.kc (P := Try.prog) [x] (.agg (u8s Z1).toArray) (fun _ => True) (fun _ _ => by go_simp) (by kernel_rfl) (by rfl) (by rfl) (by kernel_rfl) (fun _ _ _ h => h) rfl (fun w3 hp hH => by
        obtain ⟨g, rfl, hA⟩ := hp.fact 0 rfl (by kernel_rfl)
        refine (xor2_ok hYl hXl hA).mono ?_
        rintro e w4 ⟨rfl, h2⟩
        exact ⟨by rw [hZ1.out], Chg.of_below h2 _, trivial⟩) ?_
      refine RA.kcv (P := Try.prog) (f := f) [_, _] (.agg (u8s Z2).toArray) (fun _ => True) hf.out (by kernel_rfl) (by rfl) (by rfl) (by rfl) (by kernel_rfl) (fun _ _ _ h => h) rfl (fun w3 hp hH => by
        refine (hdo.out w3 _ p1 p2 Z1 (hpr6.out w3 (hdr.out _ hp.1)) hZ1l).mono ?_
        rintro e w4 ⟨rfl, h2⟩
        exact ⟨by rw [hZ2.out], Chg.of_below h2 _, trivial⟩) ?_
      refine RA.ld (by kernel_rfl) (by rfl) (by rfl) (y' := .agg (u8s X).toArray) (fun w3 hp => hl2.out w3 (hdr.out _ hp.1)) ?_
      refine RA.bq (fun x w3 => ∃ g, x = .slice (some ⟨g, 0, none⟩) 2 2 ∧ Arr w3 g 61 (Z2 ++ X)) (fun _ _ => True) (by kernel_rfl) (by rfl) (by kernel_rfl) (fun _ _ _ h k => by obtain ⟨g, h1, h2⟩ := k; exact ⟨g, h1, h2.keep (h.block g (heap_lt h2) id)⟩) (fun _ _ _ _ _ => trivial) (fun w3 hp _ => ⟨_, _, ex_lit2 hZ2l hXl (RA.evo_ev (by rfl)) (RA.evo_ev (by rfl)) w3, (Chg.refl _ _).alloc _, ⟨w3.heap.size, rfl, heap_alloc_new w3 _⟩, trivial⟩) (fun x => ?_)
      refine RA.kc (P := Try.prog) [x] (.agg (u8s Z3).toArray) (fun _ => True) (fun _ _ => by go_simp) (by kernel_rfl) (by rfl) (by rfl) (by kernel_rfl) (fun _ _ _ h => h) rfl (fun w3 hp hH => by
        obtain ⟨g, rfl, hA⟩ := hp.fact 0 rfl (by kernel_rfl)
        refine (xor2_ok hZ2l hXl hA).mono ?_
        rintro e w4 ⟨rfl, h2⟩
        exact ⟨by rw [hZ3.out], Chg.of_below h2 _, trivial⟩) ?_
      refine RA.fr (by kernel_rfl) (by rfl) (fun v a b h h2 => by obtain ⟨b1, h3, h4, h5⟩ := h2; exact ⟨b1, h3, h4, h5.keep (h.block b1 (heap_lt h5) id)⟩) (fun w3 hp => ⟨.pointer (some ⟨w3.heap.size, 0, none⟩), w3.alloc (.cells #[.int .u8 0, .int .u8 0, .int .u8 0, .int .u8 0, .int .u8 0, .int .u8 0, .int .u8 0, .int .u8 0, .int .u8 0, .int .u8 0, .int .u8 0, .int .u8 0, .int .u8 0, .int .u8 0, .int .u8 0, .int .u8 0] 61), by
        show (execOp _ _).run Try.prog w3 = _
        go_simp, (Chg.refl _ _).alloc _, w3.heap.size, rfl, hp.1.size, heap_alloc_new w3 _⟩) (fun u => ?_)
      refine RA.stt (fun w4 => ∃ b, u = .pointer (some ⟨b, 0, none⟩) ∧ w6.heap.size ≤ b ∧ Arr w4 b 61 (Z3) ∧ Chg No w6 w4) (by kernel_rfl) (by rfl) (by kernel_rfl) (fun _ _ h k => by obtain ⟨b1, h3, h4, h5, h6⟩ := k; exact ⟨b1, h3, h4, h5.keep (h.block b1 (heap_lt h5) id), h6.trans h⟩) (fun w3 hp0 _ => by
        have hp := hp0.first (by kernel_rfl)
        obtain ⟨b1, rfl, h4, h5⟩ := hp.fact 0 rfl (by kernel_rfl)
        refine ⟨w3.setRow b1 (u8s (Z3)).toArray, RA.ex_store (by rfl) (by rfl) (block_store h5 List.length_replicate _ hZ3l), b1, rfl, h4, h5.setRow _, ((hdr.out _ hp.1).setRow (g := b1) (fun h => absurd h4 (by omega)) _)⟩) ?_
      refine RA.RA.doneT (fun w7 hH => ?_)
      simp only [RA.put, List.foldr_cons, List.foldr_nil, cx, Act.put, List.setIfInBounds_toArray, List.set_cons_succ, List.set_cons_zero]
      obtain ⟨b2, rfl, hb2, hA2, hC2⟩ := hH
      have hB7 := hb6r.out w7 hC2
      have hby : Cells w7 (fun _ => True) (.slice (some ⟨b2, 0, none⟩) 16 16) 16 1 (u8s Z3) := by
        have h := arr_bytes hA2 (by rw [hZ3l]; unfold maxLen; omega)
        rw [hZ3l] at h
        unfold Bytes at h
        rw [hZ3l] at h
        exact h
      have hO7 := Lib.hid (owns_keep HO.out (fun g hg => hB7.block g (owns_lt HO.out g hg)))
      have HBK := Lib.hid (fun g => owns_ge HO.out g)
      have hB8 := Lib.hid (hbr.out.trans (hB7.mono hBr))
      have hs7 : B ≤ w7.heap.size := Nat.le_trans hBr hB7.size
      have hz1 : (Value.int .u8 0).cells.size = 1 := rfl
      replace hby := Lib.hid hby
      clear hA2 hC2 hb2 hB7 HO hb6r hpr6 hl2 hpl htld hdld hcut2 hdr hbx6 hbx hprr hb6 hA6 htbl hs6
      go_wp2_with (at_builtin; refine K.append ?_ (.tmp 57) (.tmp 58) 22 ?_ B 5 (.int .u8 0) 1 1 Try.underlying22 infoByte hz1 (by omega) _ (16 * k) _ ?_ hO7.out (fun _ => True) _ 16 (u8s Z3) ?_ hby.out (u8s_one Z3) (by unfold maxLen; omega) (by omega) ?_ ?_)
      · rfl
      · rfl
      · rfl
      · rfl
      · exact hs7
      intro v' w8 x1 x2 x3 x4
      have hb8 : Below B w4 w8 := by
        have h8 := hB8.out
        refine ⟨x2.os.trans h8.os, x2.tape.trans h8.tape, x2.output.trans h8.output, Nat.le_trans h8.size x2.size, fun q hq => ?_⟩
        exact (x2.block q (by omega) (fun h => by have := HBK.out q h.symm; omega)).trans (h8.block q hq)
      replace x1 := Lib.hid x1
      replace hb8 := Lib.hid hb8
      clear x2 x3 x4
      go_wp2
      go_roundw
      case rel =>
        refine ⟨k + 1, by omega, by go_num, hb8.out, ?_⟩
        show World.ownsRow _ _ _ _ _ _ _
        rw [htr2.out, u8s_append, show 16 * (k + 1) = 16 * k + 16 by omega]
        exact x1.out
      case measure => simp [intOf]; omega
    · obtain rfl : k = m := by omega
      have hbr2 := Lib.hid hbr
      clear hbr
      go_wp2
      go_ret2
      refine ⟨_, rfl, ?_, hB4.out.trans (hbr2.out.mono hnB)⟩
      rw [hLm.out]
      exact ⟨HO.out.1, HO.out.2.imp id (fun ⟨g, cp, cur, h1, h2, h3⟩ => ⟨g, cp, cur, h1, Nat.le_trans hnB h2, h3⟩)⟩
end Go.Proofs.Ytbgfdbidbjlaaaa.Fd

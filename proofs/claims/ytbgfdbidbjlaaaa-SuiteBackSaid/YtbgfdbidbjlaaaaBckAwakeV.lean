/-
  The law's last look: its numbers, and slices of zeros. No condition.
-/
import Derived.Test.YtbgfdbidbjlaaaaBckSuCallPk
import Derived.Lib.SlBytesConst
namespace Go.Proofs.Ytbgfdbidbjlaaaa.Fd
open Go Go.RowKit K

theorem aw_val : ((xtsE (zl 32) 0 (zl 32)).getD 0 0 == 0x91) = true := by decide +kernel
theorem aw_key : (keyL [112,97,115,115,119,111,114,100] [115,97,108,116] 1 4 == [18,15,182,207]) = true := by decide +kernel
theorem mk_zl (w : World) (n : Nat) (m : Int) (hm : m = n) (hn : n ≤ 1000000) : (Instr.makeSlice 22 (.int .i64 m) (.int .i64 m)).run Try.prog w = .ok (.slice (some ⟨w.heap.size, 0, none⟩) n n) (w.alloc (.cells (u8s (zl n)).toArray 5)) := by
  have h := make_full (P := Try.prog) w Try.underlying22 infoByte rfl n m hm (by omega) (by omega)
  have e : madeCells #[.int .u8 0] n = (u8s (zl n)).toArray := by
    rw [zl, ← u8s_zero]
  rw [e] at h
  exact h
def proj (v : Value) (i : Nat) : Value := match v with | .tuple cs => cs.getD i undef | _ => undef
theorem proj0 {a b : Value} : proj (.tuple #[a, b]) 0 = a := rfl
theorem proj1 {a b : Value} : proj (.tuple #[a, b]) 1 = b := rfl
theorem ext0 {a b : Value} (w : World) : (Instr.extract (.tuple #[a, b]) 0).run Try.prog w = .ok a w := rfl
theorem ext1 {a b : Value} (w : World) : (Instr.extract (.tuple #[a, b]) 1).run Try.prog w = .ok b w := rfl
theorem row_bytes {w : World} {b n : Nat} {l : List UInt8} {t : TypeId} {m : Nat × Nat} (h : w.heap[b]? = some (.cells (u8s l).toArray t m)) (hn : l.length = n) (hl : n ≤ 1000000) : Bytes w (fun _ => True) (.slice (some ⟨b, 0, none⟩) n n) l := by
  subst hn
  refine ⟨by rw [u8s_length, Nat.mul_one], some ⟨b, 0, none⟩, l.length, rfl, Nat.le_refl _, by unfold maxLen; omega, fun h => (by cases h), .inr ⟨b, 0, rfl, trivial, heap_lt h, fun j u hu => ?_⟩⟩
  rw [Nat.zero_add, cell_of h]
  simpa using hu
/-- a literal's bytes, marked -/
theorem conv_lit (w : World) (C : Array Value) (n : Nat) (hn : C.size = n) : (convert 22 22 (.slice (some ⟨w.heap.size, 0, none⟩) n n)).run Try.prog (w.alloc (.cells C 5)) = .ok (.slice (some ⟨w.heap.size, 0, none⟩) n n) (w.alloc (.cells C 5 (n, n + 1))) := by
  have h := Lib.run_convert_bytes_const (P := Try.prog) w 22 5 C n n Try.underlying22 Try.underlying5
  rw [hn] at h
  exact h
end Go.Proofs.Ytbgfdbidbjlaaaa.Fd

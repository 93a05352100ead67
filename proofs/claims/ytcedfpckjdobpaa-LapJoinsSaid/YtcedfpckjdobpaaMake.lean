/- make([]byte, n), string(b): what they yield. -/
import Derived.Test.YtcedfpckjdobpaaR1
import Derived.Laws.OwnMore
import Derived.Laws.IdiomStrings
set_option linter.unusedVariables false
set_option linter.unusedSimpArgs false
namespace Go.Proofs.Ytcedfpckjdobpaa
open Go.RowKit

theorem make_bytes (n : Nat) (hn : n ≤ 140737488355328) (w : World) :
    ∃ w', (Instr.makeSlice 29 (.int .i64 (n : Int)) (.int .i64 (n : Int))).run Try.prog w = .ok (.slice (some ⟨w.heap.size, 0, none⟩) n n) w' ∧
      w'.ownsRow w.heap.size 5 1 (.slice (some ⟨w.heap.size, 0, none⟩) n n) n ((List.replicate n (0 : UInt8)).map bv) ∧ Ext w w' := by
  have hi : (Try.prog.info? 5).map (fun i => (i.zero, i.size, i.bytes)) = some (some (.int .u8 0), 1, 1) := by kernel_rfl
  obtain ⟨i, h1, h2, h3, h4⟩ := info_parts hi
  obtain ⟨w', hr, ho, hg⟩ := run_make_full (P := Try.prog) w w.heap.size 29 5 i (.int .u8 0) 1 Try.underlying29 h1 h2 h3 .i64 .i64 n (by rw [h4]; omega) (by unfold maxLen; omega) (Nat.le_refl _)
  refine ⟨w', hr, ?_, (Ext.refl w).grown hg fun k hk => by cases hk⟩
  have e : (madeCells (Value.int .u8 0).cells (n * 1)).toList = (List.replicate n (0 : UInt8)).map bv := by
    rw [Nat.mul_one, show (Value.int .u8 0).cells = #[.int .u8 0] from rfl, toList_madeCells_one, List.map_replicate]; rfl
  rwa [e] at ho
theorem convert_bytes {v : Value} {l : List UInt8} {w : World} (h : Bs w v l) : (convert 29 9 v).run Try.prog w = .ok (.string ⟨l.toArray⟩) w := by
  obtain ⟨ao, cap, rfl, h1, h2, h3, h4⟩ := h.open
  cases ao with
  | none =>
    have hc := h3 rfl
    subst hc
    have : l = [] := List.eq_nil_of_length_eq_zero (by omega)
    subst this
    show (convert 29 9 (.slice none 0 0)).run Try.prog w = _
    rw [run_convert_bytes_string w 29 9 5 none 0 0 Try.underlying29 Try.underlying5 Try.underlying9]
    rfl
  | some a =>
    refine run_convert_bytes_back w 29 9 5 a cap l Try.underlying29 Try.underlying5 Try.underlying9 fun j hj => ?_
    rw [h4 a rfl j hj]
    simp [List.getD, List.getElem?_eq_getElem hj]

end Go.Proofs.Ytcedfpckjdobpaa

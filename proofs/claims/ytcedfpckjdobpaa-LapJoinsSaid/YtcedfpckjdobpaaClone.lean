/- bytes.Clone: the same bytes, in memory of their own. -/
import Derived.Test.YtcedfpckjdobpaaR1
import Derived.Laws.OwnMore
import Derived.Lib.SliceRun
set_option linter.unusedVariables false
set_option linter.unusedSimpArgs false
namespace Go.Proofs.Ytcedfpckjdobpaa
open Go.RowKit

set_option maxHeartbeats 1000000 in
theorem clone_c (v : Value) (l : List UInt8) (w : World) (h : Bs w v l) (hl : l.length ≤ 140737488355328) :
    Calls Try.prog 34 #[v] w fun e w' => ∃ ao cap, e = .returned (.slice ao l.length cap) ∧ Ext w w' ∧ w'.ownsRow w.heap.size 5 1 (.slice ao l.length cap) l.length (l.map bv) := by
  have h0 := h
  obtain ⟨ao, cap, rfl, ca1, ca2, ca3, hca⟩ := h0.open
  clear h0 hca
  have H := Lib.hid h; clear h
  cases ao with
  | none =>
    have hc := ca3 rfl
    subst hc
    have hn : l = [] := List.eq_nil_of_length_eq_zero (by omega)
    subst hn
    clear ca1 ca2 ca3
    have hnil : ∀ w, (binOp .eql 29 (.slice none 0 0) (.slice none 0 0)).run Try.prog w = .ok (.bool true) w := fun w => Lib.run_eql_slice_nil w 29 5 none 0 0 0 0 Try.underlying29
    go_enter Try.func34, Try.ntmps34
    go_wp2
    go_ret
    exact ⟨none, 0, rfl, Ext.refl w, World.ownsRow_nil _ _ _ _⟩
  | some a =>
    clear ca3
    obtain ⟨n, hn⟩ : ∃ n, n = l.length := ⟨_, rfl⟩
    rw [← hn] at H ca1 ⊢
    have HN := Lib.hid hn
    clear hn
    have hnil : ∀ w, (binOp .eql 29 (.slice (some a) n cap) (.slice none 0 0)).run Try.prog w = .ok (.bool false) w := fun w => Lib.run_eql_slice_nil w 29 5 (some a) n cap 0 0 Try.underlying29
    go_enter Try.func34, Try.ntmps34
    go_wp2_with (first | (at_builtin; go_loud (refine wpList_app rfl (.tmp 5) (.tmp 6) 29 rfl etBytes w.heap.size rfl (owns_lit (n := 0) (size := 1) (cs := #[]) rfl (Nat.le_refl _) (by decide)) rfl (by have := H.out.ext ((Ext.refl w).alloc (.cells #[] 5)); unfold Bs at this; rw [← HN.out] at this; exact this) (oneCell_bv _) (by have := HN.out; omega) (by have := HN.out; omega) (by simp) ?_); intro v' w1 hown hgr _) | fail)
    rw [Nat.zero_add] at hown
    obtain ⟨ao, cap', rfl⟩ := owns_shape hown
    go_ret
    exact ⟨ao, cap', rfl, ((Ext.refl w).alloc _).grown hgr (fun k hk => by cases hk; exact Nat.le_refl _), by simpa using hown⟩

end Go.Proofs.Ytcedfpckjdobpaa

/- Contracts of bytes.Clone and net.copied. -/
import Derived.Test.YthekjoahlaifgaaG0
import Derived.Deep.RegionHeld3
import Derived.Deep.AppendLies



set_option linter.unusedVariables false
set_option linter.unusedSimpArgs false
namespace Go.Proofs.Ythekjoahlaifgaa
open Go.RowKit

@[go_sem] theorem eqNilBytes (w : World) (a : Option Addr) (n c n' c' : Nat) :
    (binOp .eql 26 (.slice a n c) (.slice none n' c')).run Try.prog w = .ok (.bool a.isNone) w := Lib.run_eql_slice_nil w _ _ a n c n' c' Try.underlying26

set_option maxHeartbeats 400000 in
theorem clone0_c (v : Value) (l : List UInt8) (w : World) (h : Bs w v l) (hl : l.length ≤ 140737488355328) :
    Calls Try.prog 32 #[v] w fun e w' => ∃ ao cap, e = .returned (.slice ao l.length cap) ∧ Ext w w' ∧ w'.ownsRow w.heap.size 5 1 (.slice ao l.length cap) l.length (l.map bv) := by
  have h' := h
  obtain ⟨ao, ca, rfl, ca1, ca2, ca3, hca⟩ := h'.open
  clear h' hca
  have H := Lib.hid h; clear h
  have Ca := Lib.hid ca3; clear ca3
  cases ao with
  | none =>
    have hc := Ca.out rfl
    subst hc
    have hl0 : l.length = 0 := by omega
    have H2 := Lib.hid hl0
    clear hl0 ca1 ca2 Ca
    rw [H2.out] at H hl ⊢
    go_enter Try.func32, Try.ntmps32
    go_wp2
    go_ret
    refine ⟨none, 0, rfl, Ext.refl _, ?_⟩
    rw [List.eq_nil_of_length_eq_zero H2.out]
    exact World.ownsRow_nil _ _ _ _
  | some a =>
    go_enter Try.func32, Try.ntmps32
    go_wp2_with (first | (at_builtin; refine wpList_app rfl (.tmp 5) (.tmp 6) 26 rfl etBytes w.heap.size rfl (World.ownsRow_made w #[] 0 (Nat.le_refl _) (by decide) rfl) rfl (H.out.ext ((Ext.refl _).alloc _)) (oneCell_bv _) (by omega) (by omega) (by simp) ?_; intro v' w1 hown hgr _) | fail)
    rw [Nat.zero_add, List.nil_append] at hown
    obtain ⟨ao, cap, rfl⟩ := owns_shape hown
    go_ret
    refine ⟨ao, cap, rfl, ((Ext.refl _).alloc _).grown hgr (fun k hk => ?_), hown⟩
    cases hk; exact Nat.le_refl _

set_option maxHeartbeats 400000 in
theorem copied_c (to : Int) (v : Value) (l : List UInt8) (w : World) (h : Bs w v l) (hl : l.length ≤ 140737488355328) :
    Calls Try.prog 28 #[.agg #[.int .i64 to, v]] w fun e w' => ∃ ao cap, e = .returned (.agg #[.int .i64 to, .slice ao l.length cap]) ∧ Ext w w' ∧ w'.ownsRow w.heap.size 5 1 (.slice ao l.length cap) l.length (l.map bv) := by
  have h' := h
  obtain ⟨ao, ca, rfl, ca1, ca2, ca3, hca⟩ := h'.open
  clear h' hca ca3
  have H := Lib.hid h; clear h
  go_enter Try.func28, Try.ntmps28
  have hB0 := H.out.ext (((Ext.refl w).alloc (.cells #[Value.int IntKind.i64 to, Value.slice ao l.length ca] 34)).alloc (.cells #[Value.int IntKind.i64 0, Value.slice none 0 0] 34)).drew
  have HB := Lib.hid hB0
  clear hB0
  go_wp2_with fail
  go_region_held3 (fun w' => w'.cell? ⟨w.heap.size, 0, none⟩ = some (.int .i64 to) ∧ w'.cell? ⟨w.heap.size, 1, none⟩ = some (.slice ao l.length ca))
    (first
      | go_keep
      | (refine ⟨hx.cell ?_, hx.cell ?_⟩ <;> simp))
    (first | (go_at_call 32; refine (clone0_c _ _ _ HB.out hl).mono ?_; rintro e w' ⟨vo, vc, rfl, hx, hown⟩; have q0 := hx.cell (p := ⟨w.heap.size + 1, 0, none⟩) (v := .int .i64 0) (by simp); have q1 := hx.cell (p := ⟨w.heap.size + 1, 1, none⟩) (v := .slice none 0 0) (by simp); have q2 := hx.frozen (p := ⟨w.heap.size + 1, 0, none⟩) (b := false) (by simp) (by simp); have q3 := hx.frozen (p := ⟨w.heap.size + 1, 1, none⟩) (b := false) (by simp) (by simp)))
  go_wp2
  have hsz := hx.size
  simp at hsz
  have hnb : (Value.slice vo l.length vc).ownBlock ≠ some (w.heap.size + 1) := fun hb => by have := (owns_block hown hb).1; simp at this; omega
  refine bodyPost_ret (v := .agg #[.int .i64 to, .slice vo l.length vc]) (by simp [results, Try.results28, go_sem, q0, q1]) rfl ⟨vo, vc, rfl, ?_, ?_⟩
  · exact ((((((Ext.refl w).alloc _).alloc _).drew.trans hx).setCell (by simp) _).setCell (by simp) _)
  · exact owns_base (owns_setCell (owns_setCell hown hnb) hnb) (by simp; omega)

end Go.Proofs.Ythekjoahlaifgaa

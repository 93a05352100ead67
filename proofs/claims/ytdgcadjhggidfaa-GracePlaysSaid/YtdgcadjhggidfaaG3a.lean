/- What a grace holds; contracts of its small calls. -/
import Derived.Test.YtdgcadjhggidfaaG2
import Derived.Test.YtdgcadjhggidfaaMem
set_option linter.unusedVariables false
set_option linter.unusedSimpArgs false
namespace Go.Proofs.Ytdgcadjhggidfaa
open Go.RowKit

/-- A grace's twenty cells. -/
def gcells (R : GRec) (v : Value) (span spent : Int) : Array Value := #[.int .u64 R.boot, .int .u64 (R.s 0), .bool (R.h 0), .int .u64 (R.s 1), .bool (R.h 1), .int .u64 (R.s 2), .bool (R.h 2), .int .u64 (R.s 3), .bool (R.h 3), .int .u64 (R.s 4), .bool (R.h 4), .int .u64 (R.s 5), .bool (R.h 5), .int .u64 (R.s 6), .bool (R.h 6), .int .u64 (R.s 7), .bool (R.h 7), v, .int .u64 span, .int .u64 spent]

/-- A grace. -/
def GraceIs (w : World) (B gb : Nat) (R : GRec) (left : List Int) (span spent : Int) : Prop :=
  ∃ ao cap, w.heap[gb]? = some (.cells (gcells R (.slice ao left.length cap) span spent) 53 (0, 0)) ∧ B ≤ gb ∧
    w.ownsRow B 3 1 (.slice ao left.length cap) left.length (left.map iv)

theorem GraceIs.ext {w w' : World} {B gb : Nat} {R : GRec} {left : List Int} {span spent : Int} (h : GraceIs w B gb R left span spent) (hx : Ext w w') : GraceIs w' B gb R left span spent := by
  obtain ⟨ao, cap, h1, h2, h3⟩ := h
  exact ⟨ao, cap, (hx.block gb (Array.getElem?_eq_some_iff.1 h1).1 id).trans h1, h2, owns_ext h3 hx⟩
theorem GraceIs.base {w : World} {B B' gb : Nat} {R : GRec} {left : List Int} {span spent : Int} (h : GraceIs w B gb R left span spent) (hb : B' ≤ B) : GraceIs w B' gb R left span spent := by
  obtain ⟨ao, cap, h1, h2, h3⟩ := h
  exact ⟨ao, cap, h1, Nat.le_trans hb h2, owns_base h3 hb⟩
theorem GraceIs.open {w : World} {B gb : Nat} {R : GRec} {left : List Int} {span spent : Int} (h : GraceIs w B gb R left span spent) : ∃ ao cap, gb < w.heap.size ∧ B ≤ gb ∧
    w.heap[gb]? = some (.cells (gcells R (.slice ao left.length cap) span spent) 53 (0, 0)) ∧
    w.cell? ⟨gb, 17, none⟩ = some (.slice ao left.length cap) ∧ w.cell? ⟨gb, 18, none⟩ = some (.int .u64 span) ∧ w.cell? ⟨gb, 19, none⟩ = some (.int .u64 spent) ∧
    w.ownsRow B 3 1 (.slice ao left.length cap) left.length (left.map iv) := by
  obtain ⟨ao, cap, h1, h2, h3⟩ := h
  exact ⟨ao, cap, (Array.getElem?_eq_some_iff.1 h1).1, h2, h1, by rw [cell_of_blk h1]; rfl, by rw [cell_of_blk h1]; rfl, by rw [cell_of_blk h1]; rfl, h3⟩
theorem Is.of_ownsi {w : World} {B : Nat} {v : Value} {l : List Int} (h : w.ownsRow B 3 1 v l.length (l.map iv)) : Is w v l := Rs.of_owns h

set_option maxHeartbeats 400000 in
theorem ok_c (gb B : Nat) (R : GRec) (left : List Int) (span spent : Int) (w : World) (h : GraceIs w B gb R left span spent) :
    Calls Try.prog 23 #[.pointer (some ⟨gb, 0, none⟩)] w fun e w' => e = .returned (.bool (decide (0 < span))) ∧ w' = w := by
  obtain ⟨ao, cap, h1, h2, h3, h4, h5, h6, h7⟩ := h.open
  clear h h3 h4 h6 h7
  go_enter Try.func23, Try.ntmps23
  go_wp2
  go_ret
  exact ⟨rfl, rfl⟩

set_option maxHeartbeats 400000 in
theorem ok_nil (w : World) : Calls Try.prog 23 #[.pointer none] w fun e w' => e = .returned (.bool false) ∧ w' = w := by
  go_enter Try.func23, Try.ntmps23
  go_wp2
  go_ret
  exact ⟨rfl, rfl⟩

def overB (left : List Int) (span spent : Int) : Bool := decide (span ≤ 0 ∨ left = [] ∨ spent = span)

set_option maxRecDepth 100000 in
set_option maxHeartbeats 400000 in
theorem over_c (gb B : Nat) (R : GRec) (left : List Int) (span spent : Int) (w : World) (h : GraceIs w B gb R left span spent) :
    Calls Try.prog 10 #[.pointer (some ⟨gb, 0, none⟩)] w fun e w' => e = .returned (.bool (overB left span spent)) ∧ ∃ n, w' = w.drewN n := by
  obtain ⟨ao, cap, h1, h2, h3, h4, h5, h6, h7⟩ := h.open
  have H := Lib.hid h
  clear h h3 h7
  have HX : ∀ n, GraceIs (w.drewN n) B gb R left span spent := fun n => H.out.ext ((Ext.refl w).drewN n)
  have HX' := Lib.hid HX; clear HX
  by_cases hs : 0 < span
  · have hs' : decide (0 < span) = true := by simpa using hs
    by_cases hl : left.length = 0
    · have hl' : ((left.length : Int) == 0) = true := by simp [hl]
      have HL := Lib.hid hl; clear hl
      go_enter Try.func10, Try.ntmps10
      go_wp2_with fail
      go_quiet ((go_at_call 23; exact Calls.quiet_of_same (ok_c _ _ _ _ _ _ _ (HX'.out _))))
      go_wp2
      go_ret
      exact ⟨by simp [overB, List.eq_nil_of_length_eq_zero HL.out], _, rfl⟩
    · have hl' : ((left.length : Int) == 0) = false := by simp [hl]
      have HL := Lib.hid hl; clear hl
      go_enter Try.func10, Try.ntmps10
      go_wp2_with fail
      go_quiet ((go_at_call 23; exact Calls.quiet_of_same (ok_c _ _ _ _ _ _ _ (HX'.out _))))
      go_wp2
      go_ret
      refine ⟨?_, _, rfl⟩
      have hne : ¬ left = [] := fun e => HL.out (by rw [e]; rfl)
      have hns : ¬ span ≤ 0 := by omega
      simp only [overB, hne, hns, false_or]
      by_cases e : spent = span <;> simp [e]
  · have hs' : decide (0 < span) = false := by simpa using hs
    go_enter Try.func10, Try.ntmps10
    go_wp2_with fail
    go_quiet ((go_at_call 23; exact Calls.quiet_of_same (ok_c _ _ _ _ _ _ _ (HX'.out _))))
    go_wp2
    go_ret
    refine ⟨?_, _, rfl⟩
    have hns : span ≤ 0 := by omega
    simp [overB, hns]

set_option maxHeartbeats 400000 in
theorem over_nil (w : World) : Calls Try.prog 10 #[.pointer none] w fun e w' => e = .returned (.bool true) ∧ ∃ n, w' = w.drewN n := by
  go_enter Try.func10, Try.ntmps10
  go_wp2_with fail
  go_quiet ((go_at_call 23; exact Calls.quiet_of_same (ok_nil _)))
  go_wp2
  go_ret
  exact ⟨rfl, _, rfl⟩

def tickN (span spent : Int) : Int := if 0 < span ∧ spent < span then spent + 1 else spent

theorem TyF.gr {w : World} {B gb : Nat} {R : GRec} {v : Value} {span spent : Int} (h : w.heap[gb]? = some (.cells (gcells R v span spent) 53 (0, 0))) (hB : B ≤ gb) : TyF w B [53, 3] gb :=
  ⟨hB, _, _, _, h, by simp⟩

end Go.Proofs.Ytdgcadjhggidfaa

/- Contracts of the reference's small helpers (Within, Cut, Same, SameInts, Copy), for every argument that reads. -/
import Derived.Test.YtcekfgcajcjooaaBase
set_option linter.unusedVariables false
set_option linter.unusedSimpArgs false
namespace Go.Proofs.Ytcekfgcajcjooaa
open Go.RowKit

/-- A number, or the limit that it is beyond. -/
def clampI (x a b : Int) : Int := if x < a then a else if b < x then b else x

set_option maxHeartbeats 400000 in
theorem within_c (x a b : Int) (w : World) :
    Calls Try.prog 28 #[.int .i64 x, .int .i64 a, .int .i64 b] w fun e w' => e = .returned (.int .i64 (clampI x a b)) ∧ w = w' := by
  go_enter Try.func28, Try.ntmps28
  go_wp2
  all_goals (go_ret; refine ⟨?_, rfl⟩; simp [clampI]; try omega)

theorem take_succ_eq {α : Type} {xs ys : List α} {k : Nat} (hx : k < xs.length) (hy : k < ys.length) :
    xs.take (k + 1) = ys.take (k + 1) ↔ xs.take k = ys.take k ∧ xs[k] = ys[k] := by
  rw [List.take_succ_eq_append_getElem hx, List.take_succ_eq_append_getElem hy]
  constructor
  · intro h
    have := List.append_inj h (by simp; omega)
    exact ⟨this.1, by simpa using this.2⟩
  · rintro ⟨h1, h2⟩
    rw [h1, h2]






end Go.Proofs.Ytcekfgcajcjooaa

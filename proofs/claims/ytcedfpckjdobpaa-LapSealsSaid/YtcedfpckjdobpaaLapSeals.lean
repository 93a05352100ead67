/- For every piece, the law LapSeals returns true: which sector the piece is, or that it may not be. -/
import Derived.Test.YtcedfpckjdobpaaL12
import Derived.Test.YtcedfpckjdobpaaLRd
import Derived.Test.YtcedfpckjdobpaaOpen
set_option linter.unusedVariables false
set_option linter.unusedSimpArgs false
namespace Go.Proofs.Ytcedfpckjdobpaa
open Go.RowKit Go.ChangeShapes Go.WideShapes Go.ChangeAt

theorem Try.ownLapSeals : ownKnob Try.prog.godebug = none := by kernel_rfl
theorem Try.laidOutLapSeals : laidOutB Try.prog = true := by kernel_rfl

theorem lapSeals_calls (p : Pc × Value) (W : World) (hp : p.1.wf ∧ Bs W p.2 p.1.d) :
    Calls Try.prog 5 #[p.1.agg p.2] W fun e w' => e = .returned (.bool true) ∧ Below W.heap.size W w' :=
  lapSeals_walk p.1.ep p.1.ct p.1.fi p.1.la p.1.d p.2 W hp.2

set_option maxRecDepth 100000 in
set_option maxHeartbeats 1000000 in
theorem lapSeals_lifted (os : Os) (started : os.Started) (H : Type) (enc : TypeId × Value → H) :
    ReturnsInHanded {} Try.checked os 5 .any (Rows.lapSealsSpec.pre6 enc Try.prog Try.f5 Rows.lapSealsRow.domain false) (Rows.lapSealsSpec.post enc Try.prog Try.f5 false true false false) := by
  refine returnsInHanded_of_change_sized (C := Try.checked) Try.ownLapSeals started (by kernel_rfl) Try.func5
    (ChangeSpec.witness6 (enc := enc) (C := Try.checked) false ⟨#[], #[.agg #[.int .u64 0, .int .u64 0, .bool false, .bool false, .slice none 0 0]], []⟩ 8 (by kernel_rfl) (by kernel_rfl) (by kernel_rfl) (by kernel_rfl)) ?_
  intro W base args ds gs before hval hW _ _ _
  have hW' := hW
  obtain ⟨p, q, hA0, hV, rfl, hfz, hnd⟩ := hW
  have hA : DataW.TrodAll enc Try.prog W 0 (fun _ => true) true Try.f5.params.toList args.toList ds p := hA0
  rw [Try.params5] at hA
  obtain ⟨v0, vs0, d0, ds0, p0, q0, hargs, rfl, rfl, h0, r0⟩ := trodAll_cons hA
  obtain ⟨rfl, rfl, rfl⟩ := trodAll_nil r0
  obtain rfl : args = #[v0] := by cases args; simp_all
  obtain ⟨rfl, rfl⟩ := trodVars_none hV
  obtain ⟨fuel0, h0⟩ := h0
  obtain ⟨p, rfl, p_h⟩ := read_pcv (hval 0 31 v0 rfl rfl) h0
  refine (lapSeals_calls p W p_h).mono fun e W' ⟨he, hb⟩ => ?_
  exact ⟨_, he, law_post Try.laidOutLapSeals hW' rfl hb rfl Try.underlying4 rfl (by
    rw [show Try.checked.prog = Try.prog from rfl, Try.params5]
    intro t ht
    simp at ht
    rcases ht with rfl
    all_goals exact ⟨by kernel_rfl, of_decide_eq_true (by kernel_rfl)⟩)⟩

theorem lapSeals_holds : Rows.LapSealsSaid :=
  OpenClaim.holds_of_wide 5 Try.f5 rfl rfl rfl rfl rfl rfl rfl ⟨rfl, rfl, rfl, rfl, rfl⟩ rfl rfl rfl rfl rfl (by kernel_rfl) Try.func5 (by kernel_rfl)
    (of_decide_eq_true (by kernel_rfl)) (by unfold Func.isWrapper; first | (rw [if_pos (by decide +kernel)]; kernel_rfl) | (rw [if_neg (by decide +kernel)]; exact ⟨rfl, rfl⟩))
    (fun os started H enc _ => lapSeals_lifted os started H enc)

end Go.Proofs.Ytcedfpckjdobpaa

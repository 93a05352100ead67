/- For every row of bytes, the law LapUnseals returns true: which piece the bytes are, or that they are none, and which epochs they have at their ends; they stay. -/
import Derived.Test.YtcedfpckjdobpaaL13
import Derived.Test.YtcedfpckjdobpaaOpen
set_option linter.unusedVariables false
set_option linter.unusedSimpArgs false
namespace Go.Proofs.Ytcedfpckjdobpaa
open Go.RowKit Go.ChangeShapes Go.WideShapes Go.ChangeAt

theorem Try.ownLapUnseals : ownKnob Try.prog.godebug = none := by kernel_rfl
theorem Try.laidOutLapUnseals : laidOutB Try.prog = true := by kernel_rfl

theorem lapUnseals_calls (ao : Option Addr) (cap : Nat) (b : List UInt8) (W : World) (hb : Bs W (.slice ao b.length cap) b) :
    Calls Try.prog 6 #[.slice ao b.length cap] W fun e w' => e = .returned (.bool true) ∧ Below W.heap.size W w' :=
  lapUnseals_walk b _ W hb

set_option maxRecDepth 100000 in
set_option maxHeartbeats 1000000 in
theorem lapUnseals_lifted (os : Os) (started : os.Started) (H : Type) (enc : TypeId × Value → H) :
    ReturnsInHanded {} Try.checked os 6 .any (Rows.lapUnsealsSpec.pre6 enc Try.prog Try.f6 Rows.lapUnsealsRow.domain false) (Rows.lapUnsealsSpec.post enc Try.prog Try.f6 false true false false) := by
  refine returnsInHanded_of_change_sized (C := Try.checked) Try.ownLapUnseals started (by kernel_rfl) Try.func6
    (ChangeSpec.witness6 (enc := enc) (C := Try.checked) false ⟨#[], #[.slice none 0 0], []⟩ 8 (by kernel_rfl) (by kernel_rfl) (by kernel_rfl) (by kernel_rfl)) ?_
  intro W base args ds gs before hval hW _ _ _
  have hW' := hW
  obtain ⟨p, q, hA0, hV, rfl, hfz, hnd⟩ := hW
  have hA : DataW.TrodAll enc Try.prog W 0 (fun _ => true) true Try.f6.params.toList args.toList ds p := hA0
  rw [Try.params6] at hA
  obtain ⟨v0, vs0, d0, ds0, p0, q0, hargs, rfl, rfl, h0, r0⟩ := trodAll_cons hA
  obtain ⟨rfl, rfl, rfl⟩ := trodAll_nil r0
  obtain rfl : args = #[v0] := by cases args; simp_all
  obtain ⟨rfl, rfl⟩ := trodVars_none hV
  obtain ⟨fuel0, h0⟩ := h0
  obtain ⟨a0, len0, cap0, rfl⟩ := okWide_slice Try.underlying29 (hval 0 29 v0 rfl rfl)
  obtain ⟨b_ao, b_cap, b, b_v, b_h⟩ := read_bytes Try.underlying29 Try.underlying5 (by kernel_rfl) h0
  simp [Value.cells] at b_v
  obtain ⟨rfl, rfl, rfl⟩ := b_v
  refine (lapUnseals_calls _ _ b W b_h).mono fun e W' ⟨he, hb⟩ => ?_
  exact ⟨_, he, law_post Try.laidOutLapUnseals hW' rfl hb rfl Try.underlying4 rfl (by
    rw [show Try.checked.prog = Try.prog from rfl, Try.params6]
    intro t ht
    simp at ht
    rcases ht with rfl
    all_goals exact ⟨by kernel_rfl, of_decide_eq_true (by kernel_rfl)⟩)⟩

theorem lapUnseals_holds : Rows.LapUnsealsSaid :=
  OpenClaim.holds_of_wide 6 Try.f6 rfl rfl rfl rfl rfl rfl rfl ⟨rfl, rfl, rfl, rfl, rfl⟩ rfl rfl rfl rfl rfl (by kernel_rfl) Try.func6 (by kernel_rfl)
    (of_decide_eq_true (by kernel_rfl)) (by unfold Func.isWrapper; first | (rw [if_pos (by decide +kernel)]; kernel_rfl) | (rw [if_neg (by decide +kernel)]; exact ⟨rfl, rfl⟩))
    (fun os started H enc _ => lapUnseals_lifted os started H enc)

end Go.Proofs.Ytcedfpckjdobpaa

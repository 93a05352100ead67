/- For every number, every width and every text, the law BitsNobody returns true: a writer or a reader that no call made (nil, or laid out empty) takes nothing and gives nothing, and says so; the arguments read behind the call as they read before. -/
import Derived.Test.YtlfnpbpbgncbpaaB9
import Derived.Test.YtlfnpbpbgncbpaaOpen
set_option linter.unusedVariables false
set_option linter.unusedSimpArgs false
namespace Go.Proofs.Ytlfnpbpbgncbpaa
open Go.RowKit Go.ChangeShapes Go.WideShapes Go.ChangeAt

theorem Try.ownBitsNobody : ownKnob Try.prog.godebug = none := by kernel_rfl
theorem Try.laidOutBitsNobody : laidOutB Try.prog = true := by kernel_rfl

set_option maxRecDepth 100000 in
set_option maxHeartbeats 1000000 in
theorem bitsNobody_lifted (os : Os) (started : os.Started) (H : Type) (enc : TypeId × Value → H) :
    ReturnsInHanded {} Try.checked os 8 .any (Rows.bitsNobodySpec.pre6 enc Try.prog Try.f8 Rows.bitsNobodyRow.domain false) (Rows.bitsNobodySpec.post enc Try.prog Try.f8 false true false false) := by
  refine returnsInHanded_of_change_sized (C := Try.checked) Try.ownBitsNobody started (by kernel_rfl) Try.func8
    (ChangeSpec.witness6 (enc := enc) (C := Try.checked) false ⟨#[], #[.int .u64 0, .int .i64 0, .string ⟨#[]⟩], []⟩ 8 (by kernel_rfl) (by kernel_rfl) (by kernel_rfl) (by kernel_rfl)) ?_
  intro W base args ds gs before hval hW _ _ _
  have hW' := hW
  obtain ⟨p, q, hA0, hV, rfl, hfz, hnd⟩ := hW
  have hA : DataW.TrodAll enc Try.prog W 0 (fun _ => true) true Try.f8.params.toList args.toList ds p := hA0
  rw [Try.params8] at hA
  obtain ⟨v0, vs0, d0, ds0, p0, q0, hargs, rfl, rfl, h0, r0⟩ := trodAll_cons hA
  obtain ⟨v1, vs1, d1, ds1, p1, q1, rfl, rfl, rfl, h1, r1⟩ := trodAll_cons r0
  obtain ⟨v2, vs2, d2, ds2, p2, q2, rfl, rfl, rfl, h2, r2⟩ := trodAll_cons r1
  obtain ⟨rfl, rfl, rfl⟩ := trodAll_nil r2
  obtain rfl : args = #[v0, v1, v2] := by cases args; simp_all
  obtain ⟨rfl, rfl⟩ := trodVars_none hV
  obtain ⟨fuel0, h0⟩ := h0
  obtain ⟨x, rfl⟩ := okWide_int Try.underlying27 (hval 0 27 v0 rfl rfl)
  obtain ⟨x_, x_e, _, x_w⟩ := DataW.trod_int Try.underlying27 h0
  simp [Value.cells] at x_e
  subst x_e
  obtain ⟨fuel1, h1⟩ := h1
  obtain ⟨n, rfl⟩ := okWide_int Try.underlying3 (hval 1 3 v1 rfl rfl)
  obtain ⟨n_, n_e, _, n_w⟩ := DataW.trod_int Try.underlying3 h1
  simp [Value.cells] at n_e
  subst n_e
  obtain ⟨fuel2, h2⟩ := h2
  obtain ⟨s, rfl⟩ := okWide_string Try.underlying9 (hval 2 9 v2 rfl rfl)
  obtain ⟨s_, s_e, _, s_w⟩ := DataW.trod_string Try.underlying9 h2
  simp [Value.cells] at s_e
  subst s_e
  refine (bitsNobody_calls x n s W (wf_u64 x_w) (wf_i64 n_w) (by simpa [maxLen] using s_w)).mono fun e W' ⟨he, hb⟩ => ?_
  exact ⟨_, he, law_post Try.laidOutBitsNobody hW' rfl hb rfl Try.underlying4 rfl (by
    rw [show Try.checked.prog = Try.prog from rfl, Try.params8]
    intro t ht
    simp at ht
    rcases ht with rfl | rfl | rfl
    all_goals exact ⟨by kernel_rfl, of_decide_eq_true (by kernel_rfl)⟩)⟩

theorem bitsNobody_holds : Rows.BitsNobodySaid :=
  OpenClaim.holds_of_wide 8 Try.f8 rfl rfl rfl rfl rfl rfl rfl ⟨rfl, rfl, rfl, rfl, rfl⟩ rfl rfl rfl rfl rfl (by kernel_rfl) Try.func8 (by kernel_rfl)
    (of_decide_eq_true (by kernel_rfl)) (by unfold Func.isWrapper; first | (rw [if_pos (by decide +kernel)]; kernel_rfl) | (rw [if_neg (by decide +kernel)]; exact ⟨rfl, rfl⟩))
    (fun os started H enc _ => bitsNobody_lifted os started H enc)

end Go.Proofs.Ytlfnpbpbgncbpaa

/- For every two pieces and every place, the law LapTorn returns true: a sector of which some first bytes are one piece's and all others another one's, of another stamp, is one of both, or no piece's. -/
import Derived.Test.YtcedfpckjdobpaaL9
import Derived.Test.YtcedfpckjdobpaaLRd
import Derived.Test.YtcedfpckjdobpaaOpen
set_option linter.unusedVariables false
set_option linter.unusedSimpArgs false
namespace Go.Proofs.Ytcedfpckjdobpaa
open Go.RowKit Go.ChangeShapes Go.WideShapes Go.ChangeAt

theorem Try.ownLapTorn : ownKnob Try.prog.godebug = none := by kernel_rfl
theorem Try.laidOutLapTorn : laidOutB Try.prog = true := by kernel_rfl

theorem lapTorn_calls (p q : Pc × Value) (n : Int) (W : World) (hp : p.1.wf ∧ Bs W p.2 p.1.d) (hq : q.1.wf ∧ Bs W q.2 q.1.d) (hn : -9223372036854775808 ≤ n ∧ n ≤ 9223372036854775807) :
    Calls Try.prog 4 #[p.1.agg p.2, q.1.agg q.2, .int .i64 n] W fun e w' => e = .returned (.bool true) ∧ Below W.heap.size W w' :=
  lapTorn_walk p.1 q.1 p.2 q.2 n W hn hp.2 hq.2

set_option maxRecDepth 100000 in
set_option maxHeartbeats 1000000 in
theorem lapTorn_lifted (os : Os) (started : os.Started) (H : Type) (enc : TypeId × Value → H) :
    ReturnsInHanded {} Try.checked os 4 .any (Rows.lapTornSpec.pre6 enc Try.prog Try.f4 Rows.lapTornRow.domain false) (Rows.lapTornSpec.post enc Try.prog Try.f4 false true false false) := by
  refine returnsInHanded_of_change_sized (C := Try.checked) Try.ownLapTorn started (by kernel_rfl) Try.func4
    (ChangeSpec.witness6 (enc := enc) (C := Try.checked) false ⟨#[], #[.agg #[.int .u64 0, .int .u64 0, .bool false, .bool false, .slice none 0 0], .agg #[.int .u64 0, .int .u64 0, .bool false, .bool false, .slice none 0 0], .int .i64 0], []⟩ 8 (by kernel_rfl) (by kernel_rfl) (by kernel_rfl) (by kernel_rfl)) ?_
  intro W base args ds gs before hval hW _ _ _
  have hW' := hW
  obtain ⟨p, q, hA0, hV, rfl, hfz, hnd⟩ := hW
  have hA : DataW.TrodAll enc Try.prog W 0 (fun _ => true) true Try.f4.params.toList args.toList ds p := hA0
  rw [Try.params4] at hA
  obtain ⟨v0, vs0, d0, ds0, p0, q0, hargs, rfl, rfl, h0, r0⟩ := trodAll_cons hA
  obtain ⟨v1, vs1, d1, ds1, p1, q1, rfl, rfl, rfl, h1, r1⟩ := trodAll_cons r0
  obtain ⟨v2, vs2, d2, ds2, p2, q2, rfl, rfl, rfl, h2, r2⟩ := trodAll_cons r1
  obtain ⟨rfl, rfl, rfl⟩ := trodAll_nil r2
  obtain rfl : args = #[v0, v1, v2] := by cases args; simp_all
  obtain ⟨rfl, rfl⟩ := trodVars_none hV
  obtain ⟨fuel0, h0⟩ := h0
  obtain ⟨p, rfl, p_h⟩ := read_pcv (hval 0 31 v0 rfl rfl) h0
  obtain ⟨fuel1, h1⟩ := h1
  obtain ⟨q, rfl, q_h⟩ := read_pcv (hval 1 31 v1 rfl rfl) h1
  obtain ⟨fuel2, h2⟩ := h2
  obtain ⟨n, rfl⟩ := okWide_int Try.underlying3 (hval 2 3 v2 rfl rfl)
  obtain ⟨n_, n_e, _, n_w⟩ := DataW.trod_int Try.underlying3 h2
  simp [Value.cells] at n_e
  subst n_e
  refine (lapTorn_calls p q n W p_h q_h (wf_i64 n_w)).mono fun e W' ⟨he, hb⟩ => ?_
  exact ⟨_, he, law_post Try.laidOutLapTorn hW' rfl hb rfl Try.underlying4 rfl (by
    rw [show Try.checked.prog = Try.prog from rfl, Try.params4]
    intro t ht
    simp at ht
    rcases ht with rfl | rfl
    all_goals exact ⟨by kernel_rfl, of_decide_eq_true (by kernel_rfl)⟩)⟩

theorem lapTorn_holds : Rows.LapTornSaid :=
  OpenClaim.holds_of_wide 4 Try.f4 rfl rfl rfl rfl rfl rfl rfl ⟨rfl, rfl, rfl, rfl, rfl⟩ rfl rfl rfl rfl rfl (by kernel_rfl) Try.func4 (by kernel_rfl)
    (of_decide_eq_true (by kernel_rfl)) (by unfold Func.isWrapper; first | (rw [if_pos (by decide +kernel)]; kernel_rfl) | (rw [if_neg (by decide +kernel)]; exact ⟨rfl, rfl⟩))
    (fun os started H enc _ => lapTorn_lifted os started H enc)

end Go.Proofs.Ytcedfpckjdobpaa

/- Some message is right; which requests may be done twice. -/
import Derived.Test.YtklemhmdbfhcdaaM12

set_option linter.unusedVariables false
set_option linter.unusedSimpArgs false
namespace Go.Proofs.Ytklemhmdbfhcdaa
open Go.RowKit

theorem es_nil (w : World) : Es w (.slice none 0 0) [] := ⟨none, 0, rfl, Nat.le_refl _, by decide, fun _ => rfl, fun a h => by cases h⟩
theorem mcheckN_c (ty cl ss sq bo kd er f1 f2 d1 d2 mo pl ve : Int) (nm ot da : ByteArray) (w : World) : Calls Try.prog 21 #[.agg #[.int .i64 ty, .int .i64 cl, .int .u64 ss, .int .u64 sq, .int .u64 bo, .int .i64 kd, .int .i64 er, .int .i64 f1, .int .i64 f2, .int .i64 d1, .int .i64 d2, .string nm, .string ot, .int .i64 mo, .int .i64 pl, .string da, .int .u64 ve, .slice none 0 0]] w fun e w' => e = .returned (.int .i64 (checkI (⟨ty, cl, ss, sq, bo, kd, er, f1, f2, d1, d2, nm, ot, mo, pl, da, ve, []⟩ : Msg))) ∧ Ext w w' := mcheck_c ty cl ss sq bo kd er f1 f2 d1 d2 nm ot mo pl da ve [] (.slice none 0 0) w (es_nil w)
def F_mcheckN : Nat × Fn2 Lab := (21, fun us mem => match us with | [.agg a0] => (match a0 with | [b0_0, b0_1, b0_2, b0_3, b0_4, b0_5, b0_6, b0_7, b0_8, b0_9, b0_10, b0_11, b0_12, b0_13, b0_14, b0_15, b0_16, b0_17] => (match valP b0_0 with | some (.int .i64 ty) => (match valP b0_1 with | some (.int .i64 cl) => (match valP b0_2 with | some (.int .u64 ss) => (match valP b0_3 with | some (.int .u64 sq) => (match valP b0_4 with | some (.int .u64 bo) => (match valP b0_5 with | some (.int .i64 kd) => (match valP b0_6 with | some (.int .i64 er) => (match valP b0_7 with | some (.int .i64 f1) => (match valP b0_8 with | some (.int .i64 f2) => (match valP b0_9 with | some (.int .i64 d1) => (match valP b0_10 with | some (.int .i64 d2) => (match valP b0_11 with | some (.string nm) => (match valP b0_12 with | some (.string ot) => (match valP b0_13 with | some (.int .i64 mo) => (match valP b0_14 with | some (.int .i64 pl) => (match valP b0_15 with | some (.string da) => (match valP b0_16 with | some (.int .u64 ve) => (match valP b0_17 with | some (.slice none 0 0) => some ([], svV (.int .i64 (checkI (⟨ty, cl, ss, sq, bo, kd, er, f1, f2, d1, d2, nm, ot, mo, pl, da, ve, []⟩ : Msg))), none) | _ => none) | _ => none) | _ => none) | _ => none) | _ => none) | _ => none) | _ => none) | _ => none) | _ => none) | _ => none) | _ => none) | _ => none) | _ => none) | _ => none) | _ => none) | _ => none) | _ => none) | _ => none) | _ => none) | _ => none)
theorem F_mcheckN_ok {W0 : World} {G : Nat → Prop} {F : Fns Lab} (ht : FnsOk Try.prog labI W0 G F) : FnsOk Try.prog labI W0 G (F_mcheckN :: F) :=
  FnsOk.cons Try.call21 (fun args mem ps r mo h hp w e us hM ha => by
    repeat' split at h
    all_goals first
      | (cases h; done)
      | skip
    simp only [Option.some.injEq, Prod.mk.injEq] at h
    obtain ⟨rfl, rfl, rfl⟩ := h
    simp only [allC_cons, allC_nil] at ha
    obtain ⟨u0, t0, rfl, hc0, rfl⟩ := ha
    obtain ⟨xs0, hxs0, rfl⟩ := hc0
    simp only [allIs_cons, allIs_nil] at hxs0
    obtain ⟨y0_0, s0_0, rfl, hb0_0, y0_1, s0_1, rfl, hb0_1, y0_2, s0_2, rfl, hb0_2, y0_3, s0_3, rfl, hb0_3, y0_4, s0_4, rfl, hb0_4, y0_5, s0_5, rfl, hb0_5, y0_6, s0_6, rfl, hb0_6, y0_7, s0_7, rfl, hb0_7, y0_8, s0_8, rfl, hb0_8, y0_9, s0_9, rfl, hb0_9, y0_10, s0_10, rfl, hb0_10, y0_11, s0_11, rfl, hb0_11, y0_12, s0_12, rfl, hb0_12, y0_13, s0_13, rfl, hb0_13, y0_14, s0_14, rfl, hb0_14, y0_15, s0_15, rfl, hb0_15, y0_16, s0_16, rfl, hb0_16, y0_17, s0_17, rfl, hb0_17, rfl⟩ := hxs0
    obtain rfl := valP_is (by assumption) hb0_0
    obtain rfl := valP_is (by assumption) hb0_1
    obtain rfl := valP_is (by assumption) hb0_2
    obtain rfl := valP_is (by assumption) hb0_3
    obtain rfl := valP_is (by assumption) hb0_4
    obtain rfl := valP_is (by assumption) hb0_5
    obtain rfl := valP_is (by assumption) hb0_6
    obtain rfl := valP_is (by assumption) hb0_7
    obtain rfl := valP_is (by assumption) hb0_8
    obtain rfl := valP_is (by assumption) hb0_9
    obtain rfl := valP_is (by assumption) hb0_10
    obtain rfl := valP_is (by assumption) hb0_11
    obtain rfl := valP_is (by assumption) hb0_12
    obtain rfl := valP_is (by assumption) hb0_13
    obtain rfl := valP_is (by assumption) hb0_14
    obtain rfl := valP_is (by assumption) hb0_15
    obtain rfl := valP_is (by assumption) hb0_16
    obtain rfl := valP_is (by assumption) hb0_17
    refine (mcheckN_c _ _ _ _ _ _ _ _ _ _ _ _ _ _ _ _ _ w ).mono fun x w' ⟨h1, h2⟩ => ⟨_, h1, rfl, h2⟩
    all_goals skip) ht
def idleL (k : Int) : Bool := (idleB k == (decide (k ≥ 1) && decide (k ≤ 14) && !(((k == 4 || k == 5) || k == 6) || k == 11)))
theorem idleL_true (k : Int) : idleL k = true := by
  by_cases h4 : k = 4
  · subst h4; decide
  by_cases h5 : k = 5
  · subst h5; decide
  by_cases h6 : k = 6
  · subst h6; decide
  by_cases h11 : k = 11
  · subst h11; decide
  have e4 := beq_false_of_ne h4
  have e5 := beq_false_of_ne h5
  have e6 := beq_false_of_ne h6
  have e11 := beq_false_of_ne h11
  simp [idleL, idleB, orC, e4, e5, e6, e11]
end Go.Proofs.Ytklemhmdbfhcdaa

/- MsgAnswers, the plain law. -/
import Derived.Test.YtcekfgcajcjooaaM22

set_option linter.unusedVariables false
set_option linter.unusedSimpArgs false
namespace Go.Proofs.Ytcekfgcajcjooaa
open Go.RowKit

theorem head_of {m : Msg} (h1 : m.ty = 1) (hc : checkI (shortMsg m) = 0) :
    (0 ≤ m.cl ∧ m.cl < 8) ∧ countB m.ss = true ∧ countB m.sq = true ∧ (m.bo ≠ 0 → countB m.bo = true) ∧ (1 ≤ m.kd ∧ m.kd ≤ 14) := by
  have hr : req2 (shortMsg m) = true := by
    cases hr : req2 (shortMsg m) with
    | true => rfl
    | false =>
      have hty : (shortMsg m).ty = 1 := h1
      have : checkI (shortMsg m) = 4 := by rw [checkI, hty, hr]; rfl
      omega
  rw [req2, Bool.and_eq_true, req1, Bool.and_eq_true, Bool.and_eq_true] at hr
  obtain ⟨⟨⟨hh, hk⟩, _⟩, _⟩ := hr
  replace hh : headB (shortMsg m) = true := hh
  have e1 : headB (shortMsg m) = (decide (m.cl ≥ 0) && decide (m.cl < 8) && countB m.ss && ((countB m.sq && !(m.ty == 3)) || ((m.sq == 0) && (m.ty == 3))) && ((countB m.bo && !((m.ty == 1) && (m.kd == 1))) || ((m.bo == 0) && ((m.ty == 1) && (m.kd == 1))))) := rfl
  have e2 : kindB (shortMsg m) = (decide (m.kd ≥ 1) && decide (m.kd ≤ 14)) := rfl
  rw [e1, h1] at hh
  rw [e2] at hk
  simp only [Bool.and_eq_true, Bool.or_eq_true, decide_eq_true_eq, beq_iff_eq] at hh hk
  obtain ⟨⟨⟨⟨a1, a2⟩, a3⟩, a4⟩, a5⟩ := hh
  refine ⟨⟨a1, a2⟩, a3, ?_, fun hb => ?_, hk⟩
  · rcases a4 with a4 | a4
    · exact a4.1
    · exact absurd a4.2 (by decide)
  · rcases a5 with a5 | a5
    · exact a5.1
    · exact absurd a5.1 hb
theorem wth_ok (e : Int) : 1 ≤ wthI e 1 25 ∧ wthI e 1 25 ≤ 25 := by
  unfold wthI
  by_cases h : e < 1
  · simp [h]
  · by_cases h2 : e > 25
    · simp [h, h2]
    · simp only [decide_eq_false h, decide_eq_false h2, cond_false]; omega
theorem rep_ok {m : Msg} {e b : Int} (h1 : m.ty = 1) (hc : checkI (shortMsg m) = 0) (hb : countB b = true) : checkI (repM m e b) = 0 := by
  obtain ⟨⟨a1, a2⟩, a3, a4, _, a5, a6⟩ := head_of h1 hc
  obtain ⟨w1, w2⟩ := wth_ok e
  have e1 : headB (repM m e b) = (decide (m.cl ≥ 0) && decide (m.cl < 8) && countB m.ss && ((countB m.sq && !((2 : Int) == 3)) || ((m.sq == 0) && ((2 : Int) == 3))) && ((countB b && !(((2 : Int) == 1) && (m.kd == 1))) || ((b == 0) && (((2 : Int) == 1) && (m.kd == 1))))) := rfl
  have hh : headB (repM m e b) = true := by
    rw [e1, a3, a4, hb]
    simp only [decide_eq_true (show m.cl ≥ 0 from a1), decide_eq_true a2]
    rfl
  have hk : kindB (repM m e b) = true := by
    show (decide (m.kd ≥ 1) && decide (m.kd ≤ 14)) = true
    simp only [decide_eq_true (show m.kd ≥ 1 from a5), decide_eq_true a6]
    rfl
  have hz : hasB (repM m e b) 0 = true := by
    show hasB ⟨2, m.cl, m.ss, m.sq, b, m.kd, wthI e 1 25, 0, 0, 0, 0, ⟨#[]⟩, ⟨#[]⟩, 0, 0, ⟨#[]⟩, 0, []⟩ 0 = true
    kernel_rfl
  have hr : rep2 (repM m e b) = true := by
    rw [rep2, rep1, hh, hk, hz]
    have n1 : ((repM m e b).er == 0) = false := by
      show (wthI e 1 25 == 0) = false
      exact beq_false_of_ne (by omega)
    have n2 : ((repM m e b).er != 0) = true := by rw [bne, n1]; rfl
    have n3 : decide ((repM m e b).er ≥ 0) = true := decide_eq_true (by show wthI e 1 25 ≥ 0; omega)
    have n4 : decide ((repM m e b).er ≤ 25) = true := decide_eq_true w2
    rw [n1, n2, n3, n4]
    rfl
  rw [checkI, hr]
  rfl
theorem sameR_refl (m : Msg) : sameR m m = true := by
  have hE : ∀ l : List Ent, sameE l l = true := fun l => by
    have h1 : eqE l l = true := range_all fun k _ => by simp [neE]
    simp [sameE, h1]
  simp [sameR, headSame, filesSame, fileSame, dirSame, eqS, hE]
theorem anA_true (m : Msg) (e b : Int) (hb : b = 1 ∨ (b = m.bo ∧ m.bo ≠ 0)) : anA m e b = true := by
  unfold anA
  by_cases h1 : m.ty = 1
  · by_cases hc : checkI (shortMsg m) = 0
    · have : checkI (repM m e b) = 0 := rep_ok h1 hc (by
        rcases hb with rfl | ⟨rfl, hn⟩
        · decide
        · exact (head_of h1 hc).2.2.2.1 hn)
      rw [this]; simp
    · simp [hc]
  · simp [h1]
theorem anL_true (m : Msg) (e : Int) : anL m e = true := by
  unfold anL
  rw [sameR_refl]
  cases h : m.bo == 0 with
  | true => exact anA_true m e 1 (.inl rfl)
  | false => exact anA_true m e m.bo (.inr ⟨rfl, by intro h0; rw [h0] at h; exact absurd h (by decide)⟩)
end Go.Proofs.Ytcekfgcajcjooaa

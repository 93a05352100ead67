/- MsgChecks, the plain law. -/
import Derived.Test.YtklemhmdbfhcdaaM26
import Derived.Test.YtklemhmdbfhcdaaM19


set_option linter.unusedVariables false
set_option linter.unusedSimpArgs false
namespace Go.Proofs.Ytklemhmdbfhcdaa
open Go.RowKit

theorem agree_asked {k : Int} (h : 1 ≤ k ∧ k ≤ 14) : agree (askedI k) (fieldsS false k) = true := by
  have hk : k = 1 ∨ k = 2 ∨ k = 3 ∨ k = 4 ∨ k = 5 ∨ k = 6 ∨ k = 7 ∨ k = 8 ∨ k = 9 ∨ k = 10 ∨ k = 11 ∨ k = 12 ∨ k = 13 ∨ k = 14 := by omega
  rcases hk with rfl | rfl | rfl | rfl | rfl | rfl | rfl | rfl | rfl | rfl | rfl | rfl | rfl | rfl
  all_goals decide +kernel
theorem agree_told {k : Int} (h : 1 ≤ k ∧ k ≤ 14) : agree (toldI k) (fieldsS true k) = true := by
  have hk : k = 1 ∨ k = 2 ∨ k = 3 ∨ k = 4 ∨ k = 5 ∨ k = 6 ∨ k = 7 ∨ k = 8 ∨ k = 9 ∨ k = 10 ∨ k = 11 ∨ k = 12 ∨ k = 13 ∨ k = 14 := by omega
  rcases hk with rfl | rfl | rfl | rfl | rfl | rfl | rfl | rfl | rfl | rfl | rfl | rfl | rfl | rfl
  all_goals decide +kernel
theorem agree_none : agree 0 noneS = true := by kernel_rfl
theorem agree_f : agree 1 fS = true := by kernel_rfl
theorem check_is (m : Msg) : (checkI m == 0) = isR m := by
  have ha := fun h => has_just m (agree_asked (k := m.kd) h)
  have ht := fun h => has_just m (agree_told (k := m.kd) h)
  have hn := has_just m agree_none
  have hf := has_just m agree_f
  have hb : ∀ x, (cond (!x) (4 : Int) 0 == 0) = x := by decide
  unfold checkI isR
  by_cases h3 : m.ty = 3
  · rw [h3]
    show (cond (!rec2 m) (4 : Int) 0 == 0) = _
    rw [hb, rec2, hf]
    have : rec1 m = (!i1 m && i2 m) := by
      unfold rec1 headB i1 i2
      simp only [countB_eq, h3]
      generalize rcountB m.ss = qa
      generalize rcountB m.sq = qb
      generalize rcountB m.bo = qc
      rw [Bool.eq_iff_iff]
      cases qa <;> cases qb <;> cases qc <;> simp <;> omega
    rw [this]
    show _ = cond (i1 m) false (i2 m && justB m fS)
    cases i1 m <;> simp
  · have e3 := beq_false_of_ne h3
    rw [e3]
    by_cases hk : 1 ≤ m.kd ∧ m.kd ≤ 14
    · by_cases h1 : m.ty = 1
      · rw [h1]
        show (cond (!req2 m) (4 : Int) 0 == 0) = cond (i1 m) false (cond (i3 m) false (i4 m && justB m (fieldsS false m.kd)))
        rw [hb, req2, ha hk]
        have : req1 m = (!i1 m && (!i3 m && i4 m)) := by
          unfold req1 headB kindB i1 i3 i4
          simp only [countB_eq, h1]
          generalize rcountB m.ss = qa
          generalize rcountB m.sq = qb
          generalize rcountB m.bo = qc
          rw [Bool.eq_iff_iff]
          cases qa <;> cases qb <;> cases qc <;> simp <;> omega
        rw [this]
        cases i1 m <;> cases i3 m <;> simp
      · have e1 := beq_false_of_ne h1
        rw [e1]
        by_cases h2 : m.ty = 2
        · rw [h2]
          show (cond (!rep2 m) (4 : Int) 0 == 0) = cond (i1 m) false (cond (i3 m) false (cond (i5 m) false (cond (m.er != 0) (justB m noneS) (justB m (fieldsS true m.kd)))))
          rw [hb, rep2, ht hk, hn]
          have : rep1 m = (!i1 m && (!i3 m && !i5 m)) := by
            unfold rep1 headB kindB i1 i3 i5
            simp only [countB_eq, h2]
            generalize rcountB m.ss = qa
            generalize rcountB m.sq = qb
            generalize rcountB m.bo = qc
            rw [Bool.eq_iff_iff]
            cases qa <;> cases qb <;> cases qc <;> simp <;> omega
          rw [this, bne]
          cases i1 m <;> cases i3 m <;> cases i5 m <;> cases (m.er == 0) <;> simp
        · rw [beq_false_of_ne h2]
          have : i3 m = true := by
            simp [i3]
            omega
          rw [this]
          cases i1 m <;> rfl
    · have hkn : kindB m = false := by
        simp [kindB]
        omega
      have h3' : i3 m = true := by
        simp [i3]
        omega
      rw [h3', req2, rep2, req1, rep1, hkn]
      cases i1 m <;> cases m.ty == 1 <;> cases m.ty == 2 <;> simp
end Go.Proofs.Ytklemhmdbfhcdaa

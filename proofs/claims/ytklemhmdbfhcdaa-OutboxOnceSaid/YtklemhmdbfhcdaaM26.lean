/- MsgChecks, the plain law: fields. -/
import Derived.Test.YtklemhmdbfhcdaaM25
import Derived.Test.YtklemhmdbfhcdaaM13


set_option linter.unusedVariables false
set_option linter.unusedSimpArgs false
namespace Go.Proofs.Ytklemhmdbfhcdaa
open Go.RowKit

theorem less_tri : ∀ a b : List UInt8, (!Op.bytesLess a b) = (Op.bytesLess b a || b == a)
  | [], [] => rfl
  | [], y :: ys => rfl
  | x :: xs, [] => rfl
  | x :: xs, y :: ys => by
    have ih := less_tri xs ys
    simp only [Op.bytesLess]
    by_cases h1 : x < y
    · simp [h1, UInt8.lt_asymm h1, UInt8.ne_of_lt h1, (UInt8.ne_of_lt h1).symm]
    · by_cases h2 : y < x
      · simp [h1, h2, UInt8.ne_of_lt h2, (UInt8.ne_of_lt h2).symm]
      · have : x = y := UInt8.le_antisymm (UInt8.not_lt.1 h2) (UInt8.not_lt.1 h1)
        subst this
        simp [h1, ih]
theorem badE_eq (l : List Ent) (k : Nat) : badE l k = badR l k := by
  unfold badE badR geS leS
  rw [entryB_eq, less_tri]
theorem goodsE_eq (l : List Ent) : goodsE l = riseB l := by
  unfold goodsE riseB
  simp only [badE_eq]
theorem okB_cond (n f : Int) (z r : Bool) : okB n f z r = cond (andI n f == 0) z r := by
  unfold okB bne
  cases andI n f == 0 <;> cases z <;> cases r <;> rfl
def agree (n : Int) (s : ByteArray) : Bool := (hasL s 102 == !(andI n 1 == 0)) && (hasL s 100 == !(andI n 2 == 0)) && (hasL s 110 == !(andI n 4 == 0)) && (hasL s 111 == !(andI n 8 == 0)) && (hasL s 107 == !(andI n 16 == 0)) && (hasL s 97 == !(andI n 32 == 0)) && (hasL s 116 == !(andI n 64 == 0)) && (hasL s 118 == !(andI n 128 == 0)) && (hasL s 101 == !(andI n 256 == 0))
theorem bstep (b z r : Bool) {rest rest' : Bool} (h : rest = rest') : (cond b z r && rest) = cond (((!b) && !r) || (!(!b) && !z)) false rest' := by
  subst h
  cases b <;> cases z <;> cases r <;> cases rest <;> rfl
theorem has_just {n : Int} {s : ByteArray} (m : Msg) (h : agree n s = true) : hasB m n = justB m s := by
  obtain ⟨ty, cl, ss, sq, bo, kd, er, f1, f2, d1, d2, nm, ot, mo, pl, da, ve, en⟩ := m
  simp only [agree, Bool.and_eq_true, beq_iff_eq] at h
  obtain ⟨⟨⟨⟨⟨⟨⟨⟨h1, h2⟩, h3⟩, h4⟩, h5⟩, h6⟩, h7⟩, h8⟩, h9⟩ := h
  have p6 : (decide (pl < 0) || decide (pl > 7)) = !(decide (pl ≥ 0) && decide (pl < 8)) := by rw [Bool.eq_iff_iff]; simp; omega
  have p7 : decide ((da.size : Int) > 64) = !decide ((da.size : Int) ≤ 64) := by rw [Bool.eq_iff_iff]; simp
  have p8 : decide (ve > 1099511627775) = !decide (ve ≤ 1099511627775) := by rw [Bool.eq_iff_iff]; simp
  have p9 : entsR en = entriesB en := by unfold entsR entriesB; rw [goodsE_eq]; cases riseB en <;> rfl
  simp only [hasB, hasPre, justB, okB_cond, h1, h2, h3, h4, h5, h6, h7, h8, h9, p6, p7, p8, p9, badF, fileB_eq, namedB_eq, twoB, bne]
  change (cond _ (f1 == 0 && f2 == 0) (rfileB f1 f2) && cond _ (d1 == 0 && d2 == 0) (rfileB d1 d2) && cond _ (eqS nm emp) (nameB nm) && cond _ (eqS ot emp) (nameB ot) && _ && _ && cond _ (eqS da emp) _ && _ && _) = _
  have q1 : eqT nm emp' = eqS nm emp := rfl
  have q2 : eqT ot emp' = eqS ot emp := rfl
  have q3 : eqT da emp' = eqS da emp := rfl
  rw [q1, q2, q3]
  generalize (f1 == 0 && f2 == 0) = z1
  generalize rfileB f1 f2 = r1
  generalize (d1 == 0 && d2 == 0) = z2
  generalize rfileB d1 d2 = r2
  generalize eqS nm emp = z3
  generalize nameB nm = r3
  generalize eqS ot emp = z4
  generalize nameB ot = r4
  generalize (mo == 0) = z5
  generalize (mo == 1 || mo == 2) = r5
  generalize (pl == 0) = z6
  generalize (decide (pl ≥ 0) && decide (pl < 8)) = r6
  generalize eqS da emp = z7
  generalize decide ((da.size : Int) ≤ 64) = r7
  generalize (ve == 0) = z8
  generalize decide (ve ≤ 1099511627775) = r8
  generalize ((en.length : Int) == 0) = z9
  generalize entriesB en = r9
  simp only [Bool.and_assoc]
  refine bstep _ _ _ ?_
  refine bstep _ _ _ ?_
  refine bstep _ _ _ ?_
  refine bstep _ _ _ ?_
  refine bstep _ _ _ ?_
  refine bstep _ _ _ ?_
  refine bstep _ _ _ ?_
  refine bstep _ _ _ ?_
  cases (andI n 256 == 0) <;> rfl
end Go.Proofs.Ytklemhmdbfhcdaa

/- What any row of calls reads of any bytes: the law BitsReads, walked. -/
import Derived.Test.YtlfnpbpbgncbpaaR7
import Derived.Test.YtlfnpbpbgncbpaaB19
import Derived.Test.YtlfnpbpbgncbpaaB13
import Derived.Test.YtlfnpbpbgncbpaaRs
set_option linter.unusedVariables false
set_option linter.unusedSimpArgs false
namespace Go.Proofs.Ytlfnpbpbgncbpaa
open Go.RowKit

theorem getV_eq (l : List UInt8) (at' : Nat) (err n : Int) (ha : at' ≤ 8 * l.length) : rgetV ((bitsAll l).drop at') err n = getV l at' err n ∧ rgetL ((bitsAll l).drop at') err n = (bitsAll l).drop (getAt l at' err n) ∧ rgetE ((bitsAll l).drop at') err n = getE l at' err n := by
  have hl : ((bitsAll l).drop at').length = 8 * l.length - at' := by rw [List.length_drop, bitsAll_length]
  have hc : rgetOk ((bitsAll l).drop at') err n ↔ (err = 0 ∧ 0 ≤ n ∧ n ≤ 64 ∧ (at' : Int) + n ≤ 8 * (l.length : Int)) := by
    unfold rgetOk
    rw [hl]
    omega
  refine ⟨?_, ?_, ?_⟩
  · unfold rgetV getV
    by_cases h : rgetOk ((bitsAll l).drop at') err n
    · rw [if_pos h, if_pos (hc.1 h)]; rfl
    · rw [if_neg h, if_neg (fun h' => h (hc.2 h'))]
  · unfold rgetL getAt
    by_cases h : rgetOk ((bitsAll l).drop at') err n
    · rw [if_pos h, if_pos (hc.1 h), List.drop_drop]
    · rw [if_neg h, if_neg (fun h' => h (hc.2 h'))]
  · unfold rgetE getE
    rw [hl]
    by_cases h0 : err ≠ 0
    · rw [if_pos h0, if_pos h0]
    · rw [if_neg h0, if_neg h0]
      by_cases h1 : n < 0 ∨ 64 < n
      · rw [if_pos h1, if_pos h1]
      · rw [if_neg h1, if_neg h1]
        by_cases h2 : 8 * (l.length : Int) < (at' : Int) + n
        · rw [if_pos h2, if_pos (by omega)]
        · rw [if_neg h2, if_neg (by omega)]
theorem getAt_le (l : List UInt8) (at' : Nat) (err n : Int) (ha : at' ≤ 8 * l.length) : getAt l at' err n ≤ 8 * l.length := by
  unfold getAt
  split <;> omega
theorem endI_eq (l : List UInt8) (at' : Nat) (err : Int) (ha : at' ≤ 8 * l.length) : rendI ((bitsAll l).drop at') err = endI l at' err := by
  have hl : ((bitsAll l).drop at').length = 8 * l.length - at' := by rw [List.length_drop, bitsAll_length]
  unfold rendI endI endB
  by_cases h0 : err ≠ 0
  · rw [if_pos h0, if_pos h0]
  · rw [if_neg h0, if_neg h0]
    have hv : val (bitsFrom l at' (8 * l.length - at')) = val ((bitsAll l).drop at') := by
      unfold bitsFrom
      rw [List.take_of_length_le (by rw [hl]; exact Nat.le_refl _)]
    rw [hv, hl]
    by_cases h1 : 8 * l.length - at' < 8 ∧ val ((bitsAll l).drop at') = 0
    · rw [if_pos h1, if_pos (by rw [decide_eq_true_eq]; exact ⟨by omega, h1.2⟩)]
    · rw [if_neg h1, if_neg (by rw [decide_eq_true_eq]; exact fun h => h1 ⟨by omega, h.2⟩)]
theorem leftI_eq (l : List UInt8) (at' : Nat) (err : Int) (ha : at' ≤ 8 * l.length) : rleftI ((bitsAll l).drop at') err = leftI l at' err := by
  unfold rleftI leftI
  rw [List.length_drop, bitsAll_length]
  split <;> omega
theorem bytesL_eq (l : List UInt8) (at' n : Nat) : bytesL ((bitsAll l).drop (at' + 16)) n = bytesFrom l (at' + 16) n := by
  unfold bytesL bytesFrom bitsFrom
  simp only [List.drop_drop]

/-- What a Text answers, and what stays. -/
theorem text_both (rb xb B B' : Nat) (l : List UInt8) (at' : Nat) (err : Int) (hl : l.length ≤ 100000) (ha : at' ≤ 8 * l.length) : ∃ (s : ByteArray) (at2 : Nat) (err2 : Int), at2 ≤ 8 * l.length ∧
    (∀ w, RdIs w B rb l at' err → Calls Try.prog 30 #[.pointer (some ⟨rb, 0, none⟩)] w fun e w' => e = .returned (.string s) ∧ RdIs w' B rb l at2 err2 ∧ Mod (fun k => k = rb) w w') ∧
    (∀ w, RRd w B' xb ((bitsAll l).drop at') err → Calls Try.prog 31 #[.pointer (some ⟨xb, 0, none⟩)] w fun e w' => e = .returned (.string s) ∧ RRd w' B' xb ((bitsAll l).drop at2) err2 ∧ Mod (fun k => k = xb) w w') := by
  have hbl : ((bitsAll l).drop at').length = 8 * l.length - at' := by rw [List.length_drop, bitsAll_length]
  obtain ⟨g1, g2, g3⟩ := getV_eq l at' err 16 ha
  by_cases he : getE l at' err 16 = 0
  · have he' := he
    unfold getE at he'
    have h0 : err = 0 := by
      by_cases h : err = 0
      · exact h
      · rw [if_pos h] at he'; exact absurd he' h
    subst h0
    have h16 : at' + 16 ≤ 8 * l.length := by
      rw [if_neg (by simp), if_neg (by omega)] at he'
      by_cases h : 8 * (l.length : Int) < (at' : Int) + 16
      · rw [if_pos h] at he'; exact absurd he' (by decide)
      · omega
    have hv : val (((bitsAll l).drop at').take 16) = val (bitsFrom l at' 16) := rfl
    by_cases hf : at' + 16 + 8 * val (bitsFrom l at' 16) ≤ 8 * l.length
    · refine ⟨_, at' + 16 + 8 * val (bitsFrom l at' 16), 0, hf, fun w h => rtext_ok rb B l at' _ w h rfl hf (by omega), fun w h => ?_⟩
      have := rrtext_ok xb B' ((bitsAll l).drop at') (val (bitsFrom l at' 16)) w h (by omega) hv.symm (by omega)
      rw [List.drop_drop, List.drop_drop, bytesL_eq, show at' + (16 + 8 * val (bitsFrom l at' 16)) = at' + 16 + 8 * val (bitsFrom l at' 16) by omega] at this
      exact this
    · refine ⟨⟨#[]⟩, at' + 16, 3, h16, fun w h => rtext_short rb B l at' _ w h hl h16 rfl (by omega), fun w h => ?_⟩
      have := rrtext_short xb B' ((bitsAll l).drop at') (val (bitsFrom l at' 16)) w h (by omega) (by omega) hv.symm (by omega)
      rw [List.drop_drop] at this
      exact this
  · refine ⟨⟨#[]⟩, getAt l at' err 16, getE l at' err 16, getAt_le l at' err 16 ha, fun w h => rtext_err rb B l at' err w h hl ha he, fun w h => ?_⟩
    have := rrtext_err xb B' ((bitsAll l).drop at') err w h (by omega) (by rw [g3]; exact he)
    rw [g2, g3] at this
    exact this

end Go.Proofs.Ytlfnpbpbgncbpaa

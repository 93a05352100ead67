/- record: the plain law. -/
import Derived.Test.YtophabekaicdeaaD7

set_option linter.unusedVariables false
set_option linter.unusedSimpArgs false
namespace Go.Proofs.Ytophabekaicdeaa
open Go.RowKit

structure Rr.ok (x : Rr) : Prop where
  hbo : 0 ≤ x.bo ∧ x.bo < 18446744073709551616
  hs0 : 0 ≤ x.s0 ∧ x.s0 < 18446744073709551616
  hs1 : 0 ≤ x.s1 ∧ x.s1 < 18446744073709551616
  hs2 : 0 ≤ x.s2 ∧ x.s2 < 18446744073709551616
  hs3 : 0 ≤ x.s3 ∧ x.s3 < 18446744073709551616
  hs4 : 0 ≤ x.s4 ∧ x.s4 < 18446744073709551616
  hs5 : 0 ≤ x.s5 ∧ x.s5 < 18446744073709551616
  hs6 : 0 ≤ x.s6 ∧ x.s6 < 18446744073709551616
  hs7 : 0 ≤ x.s7 ∧ x.s7 < 18446744073709551616
theorem bitU_eq (g : Bool) : bitU g = bitsOf (fl g).toNat 1 := by cases g <;> decide
theorem rbR_items (x : Rr) : rbR x = (itR x).flatMap bitI := by
  unfold rbR
  simp only [bitU_eq, itR, List.flatMap_cons, List.flatMap_nil, bitI, List.append_assoc, List.append_nil]
  rfl
theorem fit_fl (g : Bool) : fitB (fl g, 1) = true := by cases g <;> decide
def fitsP (x : Rr) : Prop := x.bo < 1099511627776 ∧ x.s0 < 1099511627776 ∧ x.s1 < 1099511627776 ∧ x.s2 < 1099511627776 ∧ x.s3 < 1099511627776 ∧ x.s4 < 1099511627776 ∧ x.s5 < 1099511627776 ∧ x.s6 < 1099511627776 ∧ x.s7 < 1099511627776
theorem fits_iff {x : Rr} (ho : x.ok) : (itR x).all fitB = true ↔ fitsP x := by
  simp only [itR, List.all_cons, List.all_nil, Bool.and_true, Bool.and_eq_true, fit_fl, true_and]
  have e40 : ((2 ^ 40 : Nat) : Int) = 1099511627776 := by decide
  have k_bo := fits_n (w := 40) ho.hbo.1 (by decide)
  have k_s0 := fits_n (w := 40) ho.hs0.1 (by decide)
  have k_s1 := fits_n (w := 40) ho.hs1.1 (by decide)
  have k_s2 := fits_n (w := 40) ho.hs2.1 (by decide)
  have k_s3 := fits_n (w := 40) ho.hs3.1 (by decide)
  have k_s4 := fits_n (w := 40) ho.hs4.1 (by decide)
  have k_s5 := fits_n (w := 40) ho.hs5.1 (by decide)
  have k_s6 := fits_n (w := 40) ho.hs6.1 (by decide)
  have k_s7 := fits_n (w := 40) ho.hs7.1 (by decide)
  rw [e40] at k_bo k_s0 k_s1 k_s2 k_s3 k_s4 k_s5 k_s6 k_s7
  exact and_congr k_bo (and_congr k_s0 (and_congr k_s1 (and_congr k_s2 (and_congr k_s3 (and_congr k_s4 (and_congr k_s5 (and_congr k_s6 (k_s7))))))))
def goodP (x : Rr) : Prop := (x.s0 > 0 ∨ x.g0 = false) ∧ (x.s1 > 0 ∨ x.g1 = false) ∧ (x.s2 > 0 ∨ x.g2 = false) ∧ (x.s3 > 0 ∨ x.g3 = false) ∧ (x.s4 > 0 ∨ x.g4 = false) ∧ (x.s5 > 0 ∨ x.g5 = false) ∧ (x.s6 > 0 ∨ x.g6 = false) ∧ (x.s7 > 0 ∨ x.g7 = false)
theorem cc8_eq {α : Type} (x : Rr) (a b : α) : cc8 x a b = cond ((((((((x.g0 && x.s0 == 0) || (x.g1 && x.s1 == 0)) || (x.g2 && x.s2 == 0)) || (x.g3 && x.s3 == 0)) || (x.g4 && x.s4 == 0)) || (x.g5 && x.s5 == 0)) || (x.g6 && x.s6 == 0)) || (x.g7 && x.s7 == 0)) a b := by
  unfold cc8
  simp only [cond_or, Bool.or_assoc]
def badR (x : Rr) : Bool := (((((((x.g0 && x.s0 == 0) || (x.g1 && x.s1 == 0)) || (x.g2 && x.s2 == 0)) || (x.g3 && x.s3 == 0)) || (x.g4 && x.s4 == 0)) || (x.g5 && x.s5 == 0)) || (x.g6 && x.s6 == 0)) || (x.g7 && x.s7 == 0)
theorem badR_iff {x : Rr} (ho : x.ok) : badR x = false ↔ goodP x := by
  unfold badR goodP
  simp only [Bool.or_eq_false_iff, Bool.and_eq_false_iff, beq_eq_false_iff_ne]
  have p0 : (x.g0 = false ∨ x.s0 ≠ 0) ↔ (x.s0 > 0 ∨ x.g0 = false) := by have := ho.hs0; constructor <;> rintro (h | h) <;> first | exact .inl h | exact .inr h | exact .inl (by omega) | exact .inr (by omega)
  have p1 : (x.g1 = false ∨ x.s1 ≠ 0) ↔ (x.s1 > 0 ∨ x.g1 = false) := by have := ho.hs1; constructor <;> rintro (h | h) <;> first | exact .inl h | exact .inr h | exact .inl (by omega) | exact .inr (by omega)
  have p2 : (x.g2 = false ∨ x.s2 ≠ 0) ↔ (x.s2 > 0 ∨ x.g2 = false) := by have := ho.hs2; constructor <;> rintro (h | h) <;> first | exact .inl h | exact .inr h | exact .inl (by omega) | exact .inr (by omega)
  have p3 : (x.g3 = false ∨ x.s3 ≠ 0) ↔ (x.s3 > 0 ∨ x.g3 = false) := by have := ho.hs3; constructor <;> rintro (h | h) <;> first | exact .inl h | exact .inr h | exact .inl (by omega) | exact .inr (by omega)
  have p4 : (x.g4 = false ∨ x.s4 ≠ 0) ↔ (x.s4 > 0 ∨ x.g4 = false) := by have := ho.hs4; constructor <;> rintro (h | h) <;> first | exact .inl h | exact .inr h | exact .inl (by omega) | exact .inr (by omega)
  have p5 : (x.g5 = false ∨ x.s5 ≠ 0) ↔ (x.s5 > 0 ∨ x.g5 = false) := by have := ho.hs5; constructor <;> rintro (h | h) <;> first | exact .inl h | exact .inr h | exact .inl (by omega) | exact .inr (by omega)
  have p6 : (x.g6 = false ∨ x.s6 ≠ 0) ↔ (x.s6 > 0 ∨ x.g6 = false) := by have := ho.hs6; constructor <;> rintro (h | h) <;> first | exact .inl h | exact .inr h | exact .inl (by omega) | exact .inr (by omega)
  have p7 : (x.g7 = false ∨ x.s7 ≠ 0) ↔ (x.s7 > 0 ∨ x.g7 = false) := by have := ho.hs7; constructor <;> rintro (h | h) <;> first | exact .inl h | exact .inr h | exact .inl (by omega) | exact .inr (by omega)
  rw [p0, p1, p2, p3, p4, p5, p6, p7]
  simp only [and_assoc]
theorem isR_iff {x : Rr} (ho : x.ok) : isR x = true ↔ goodP x ∧ fitsP x := by
  unfold isR goodP fitsP
  simp only [Bool.and_eq_true, Bool.or_eq_true, decide_eq_true_iff, Bool.not_eq_true']
  constructor
  · rintro ⟨⟨⟨⟨⟨⟨⟨⟨⟨⟨⟨⟨⟨⟨⟨⟨a, b0⟩, c0⟩, b1⟩, c1⟩, b2⟩, c2⟩, b3⟩, c3⟩, b4⟩, c4⟩, b5⟩, c5⟩, b6⟩, c6⟩, b7⟩, c7⟩
    exact ⟨⟨c0, c1, c2, c3, c4, c5, c6, c7⟩, by omega, by omega, by omega, by omega, by omega, by omega, by omega, by omega, by omega⟩
  · rintro ⟨⟨c0, c1, c2, c3, c4, c5, c6, c7⟩, a, b0, b1, b2, b3, b4, b5, b6, b7⟩
    exact ⟨⟨⟨⟨⟨⟨⟨⟨⟨⟨⟨⟨⟨⟨⟨⟨by omega, by omega⟩, c0⟩, by omega⟩, c1⟩, by omega⟩, c2⟩, by omega⟩, c3⟩, by omega⟩, c4⟩, by omega⟩, c5⟩, by omega⟩, c6⟩, by omega⟩, c7⟩
theorem enc_same {x : Rr} (ho : x.ok) : encL x = rencL x ∧ encE x = rencE x := by
  have h1 := badR_iff ho
  have h2 := fits_iff ho
  have h3 := isR_iff ho
  have he : (encW x).err = cond ((itR x).all fitB) 0 2 := by rw [encW_puts]; exact puts_err _ rfl
  have c1 : encL x = cond (badR x) [] (cond ((encW x).err != 0) [] (padS (encW x).out)) := cc8_eq x _ _
  have c2 : encE x = cond (badR x) 2 (cond ((encW x).err != 0) 2 0) := cc8_eq x _ _
  rw [c1, c2]
  unfold rencL rencE
  rw [he]
  cases hr : badR x with
  | true =>
    have : isR x = false := by
      cases hi : isR x with
      | false => rfl
      | true => exact absurd (h1.2 (h3.1 hi).1) (by rw [hr]; simp)
    rw [this]; exact ⟨rfl, rfl⟩
  | false =>
    cases hf : (itR x).all fitB with
    | false =>
      have : isR x = false := by
        cases hi : isR x with
        | false => rfl
        | true => exact absurd (h2.2 (h3.1 hi).2) (by rw [hf]; simp)
      rw [this]; exact ⟨rfl, rfl⟩
    | true =>
      have hi : isR x = true := h3.2 ⟨h1.1 hr, h2.1 hf⟩
      rw [hi]
      refine ⟨?_, rfl⟩
      simp only [Bool.not_true, cond_false, cond_true, bne_self_eq_false]
      have hbl : (encW x).bl = rbR x := by
        rw [encW_puts, puts_bl _ rfl hf, rbR_items]; rfl
      have ho' : (encW x).out = packed (rbR x) := by
        unfold WS.out
        rw [he, hf, if_pos (by rfl), hbl]
      rw [ho', pads_eq (by rw [packed_length, rbR_len]; decide)]
theorem renc_len {x : Rr} (h : rencE x = 0) : isR x = true ∧ rencL x = padTo 128 (packed (rbR x)) ∧ (rencL x).length = 128 := by
  unfold rencE at h
  cases hi : isR x with
  | false => rw [hi] at h; exact absurd h (by decide)
  | true =>
    have : rencL x = padTo 128 (packed (rbR x)) := by unfold rencL; rw [hi]; rfl
    exact ⟨rfl, this, by rw [this]; exact padTo_len (by rw [packed_length, rbR_len]; decide)⟩
theorem rawD_ok (l : List UInt8) : (rawD l).ok := ⟨RS.num_in _ _, RS.num_in _ _, RS.num_in _ _, RS.num_in _ _, RS.num_in _ _, RS.num_in _ _, RS.num_in _ _, RS.num_in _ _, RS.num_in _ _⟩
theorem bit1_eq {l : List UInt8} {i : Nat} (h : i < 8 * l.length) : ((qB l i (i + 1) : Int) == 1) = bit1 l i := by
  have hl : i < (bitsAll l).length := by rw [bitsAll_length]; exact h
  have e1 : ((bitsAll l).drop i).take (i + 1 - i) = [(bitsAll l)[i]] := by
    rw [show i + 1 - i = 1 by omega, List.drop_eq_getElem_cons hl]; rfl
  unfold qB bit1
  rw [e1]
  have e2 : (bbs (bitsAll l)).getD i 0 = bb ((bitsAll l)[i]) := by
    unfold bbs
    rw [List.getD_eq_getElem?_getD, List.getElem?_map, List.getElem?_eq_getElem hl]; rfl
  rw [e2]
  generalize (bitsAll l)[i] = b
  cases b <;> decide
theorem dG_at {l : List UInt8} (hl : l.length = 128) : (dG0 l = ⟨l, 0, 0⟩ ∧ dG1 l = ⟨l, 40, 0⟩ ∧ dG2 l = ⟨l, 80, 0⟩ ∧ dG3 l = ⟨l, 81, 0⟩ ∧ dG4 l = ⟨l, 121, 0⟩ ∧ dG5 l = ⟨l, 122, 0⟩ ∧ dG6 l = ⟨l, 162, 0⟩ ∧ dG7 l = ⟨l, 163, 0⟩ ∧ dG8 l = ⟨l, 203, 0⟩ ∧ dG9 l = ⟨l, 204, 0⟩ ∧ dG10 l = ⟨l, 244, 0⟩ ∧ dG11 l = ⟨l, 245, 0⟩ ∧ dG12 l = ⟨l, 285, 0⟩ ∧ dG13 l = ⟨l, 286, 0⟩ ∧ dG14 l = ⟨l, 326, 0⟩ ∧ dG15 l = ⟨l, 327, 0⟩ ∧ dG16 l = ⟨l, 367, 0⟩ ∧ dG17 l = ⟨l, 368, 0⟩) ∧ (dG0 l).num 40 = qB l 0 40 ∧ (dG1 l).num 40 = qB l 40 80 ∧ (dG2 l).num 1 = qB l 80 81 ∧ (dG3 l).num 40 = qB l 81 121 ∧ (dG4 l).num 1 = qB l 121 122 ∧ (dG5 l).num 40 = qB l 122 162 ∧ (dG6 l).num 1 = qB l 162 163 ∧ (dG7 l).num 40 = qB l 163 203 ∧ (dG8 l).num 1 = qB l 203 204 ∧ (dG9 l).num 40 = qB l 204 244 ∧ (dG10 l).num 1 = qB l 244 245 ∧ (dG11 l).num 40 = qB l 245 285 ∧ (dG12 l).num 1 = qB l 285 286 ∧ (dG13 l).num 40 = qB l 286 326 ∧ (dG14 l).num 1 = qB l 326 327 ∧ (dG15 l).num 40 = qB l 327 367 ∧ (dG16 l).num 1 = qB l 367 368 := by
  have g0 : dG0 l = ⟨l, 0, 0⟩ := rfl
  have c0 := RS.get_ok (s := dG0 l) (n := 40) (by rw [g0]) (by decide) (by rw [g0]; simp only; omega)
  have g1 : dG1 l = ⟨l, 40, 0⟩ := by rw [show dG1 l = (dG0 l).get ((40 : Nat) : Int) from rfl, c0.1, g0]
  have n0 : (dG0 l).num 40 = qB l 0 40 := by rw [show (dG0 l).num 40 = (dG0 l).num ((40 : Nat) : Int) from rfl, c0.2, g0]; rfl
  have c1 := RS.get_ok (s := dG1 l) (n := 40) (by rw [g1]) (by decide) (by rw [g1]; simp only; omega)
  have g2 : dG2 l = ⟨l, 80, 0⟩ := by rw [show dG2 l = (dG1 l).get ((40 : Nat) : Int) from rfl, c1.1, g1]
  have n1 : (dG1 l).num 40 = qB l 40 80 := by rw [show (dG1 l).num 40 = (dG1 l).num ((40 : Nat) : Int) from rfl, c1.2, g1]; rfl
  have c2 := RS.get_ok (s := dG2 l) (n := 1) (by rw [g2]) (by decide) (by rw [g2]; simp only; omega)
  have g3 : dG3 l = ⟨l, 81, 0⟩ := by rw [show dG3 l = (dG2 l).get ((1 : Nat) : Int) from rfl, c2.1, g2]
  have n2 : (dG2 l).num 1 = qB l 80 81 := by rw [show (dG2 l).num 1 = (dG2 l).num ((1 : Nat) : Int) from rfl, c2.2, g2]; rfl
  have c3 := RS.get_ok (s := dG3 l) (n := 40) (by rw [g3]) (by decide) (by rw [g3]; simp only; omega)
  have g4 : dG4 l = ⟨l, 121, 0⟩ := by rw [show dG4 l = (dG3 l).get ((40 : Nat) : Int) from rfl, c3.1, g3]
  have n3 : (dG3 l).num 40 = qB l 81 121 := by rw [show (dG3 l).num 40 = (dG3 l).num ((40 : Nat) : Int) from rfl, c3.2, g3]; rfl
  have c4 := RS.get_ok (s := dG4 l) (n := 1) (by rw [g4]) (by decide) (by rw [g4]; simp only; omega)
  have g5 : dG5 l = ⟨l, 122, 0⟩ := by rw [show dG5 l = (dG4 l).get ((1 : Nat) : Int) from rfl, c4.1, g4]
  have n4 : (dG4 l).num 1 = qB l 121 122 := by rw [show (dG4 l).num 1 = (dG4 l).num ((1 : Nat) : Int) from rfl, c4.2, g4]; rfl
  have c5 := RS.get_ok (s := dG5 l) (n := 40) (by rw [g5]) (by decide) (by rw [g5]; simp only; omega)
  have g6 : dG6 l = ⟨l, 162, 0⟩ := by rw [show dG6 l = (dG5 l).get ((40 : Nat) : Int) from rfl, c5.1, g5]
  have n5 : (dG5 l).num 40 = qB l 122 162 := by rw [show (dG5 l).num 40 = (dG5 l).num ((40 : Nat) : Int) from rfl, c5.2, g5]; rfl
  have c6 := RS.get_ok (s := dG6 l) (n := 1) (by rw [g6]) (by decide) (by rw [g6]; simp only; omega)
  have g7 : dG7 l = ⟨l, 163, 0⟩ := by rw [show dG7 l = (dG6 l).get ((1 : Nat) : Int) from rfl, c6.1, g6]
  have n6 : (dG6 l).num 1 = qB l 162 163 := by rw [show (dG6 l).num 1 = (dG6 l).num ((1 : Nat) : Int) from rfl, c6.2, g6]; rfl
  have c7 := RS.get_ok (s := dG7 l) (n := 40) (by rw [g7]) (by decide) (by rw [g7]; simp only; omega)
  have g8 : dG8 l = ⟨l, 203, 0⟩ := by rw [show dG8 l = (dG7 l).get ((40 : Nat) : Int) from rfl, c7.1, g7]
  have n7 : (dG7 l).num 40 = qB l 163 203 := by rw [show (dG7 l).num 40 = (dG7 l).num ((40 : Nat) : Int) from rfl, c7.2, g7]; rfl
  have c8 := RS.get_ok (s := dG8 l) (n := 1) (by rw [g8]) (by decide) (by rw [g8]; simp only; omega)
  have g9 : dG9 l = ⟨l, 204, 0⟩ := by rw [show dG9 l = (dG8 l).get ((1 : Nat) : Int) from rfl, c8.1, g8]
  have n8 : (dG8 l).num 1 = qB l 203 204 := by rw [show (dG8 l).num 1 = (dG8 l).num ((1 : Nat) : Int) from rfl, c8.2, g8]; rfl
  have c9 := RS.get_ok (s := dG9 l) (n := 40) (by rw [g9]) (by decide) (by rw [g9]; simp only; omega)
  have g10 : dG10 l = ⟨l, 244, 0⟩ := by rw [show dG10 l = (dG9 l).get ((40 : Nat) : Int) from rfl, c9.1, g9]
  have n9 : (dG9 l).num 40 = qB l 204 244 := by rw [show (dG9 l).num 40 = (dG9 l).num ((40 : Nat) : Int) from rfl, c9.2, g9]; rfl
  have c10 := RS.get_ok (s := dG10 l) (n := 1) (by rw [g10]) (by decide) (by rw [g10]; simp only; omega)
  have g11 : dG11 l = ⟨l, 245, 0⟩ := by rw [show dG11 l = (dG10 l).get ((1 : Nat) : Int) from rfl, c10.1, g10]
  have n10 : (dG10 l).num 1 = qB l 244 245 := by rw [show (dG10 l).num 1 = (dG10 l).num ((1 : Nat) : Int) from rfl, c10.2, g10]; rfl
  have c11 := RS.get_ok (s := dG11 l) (n := 40) (by rw [g11]) (by decide) (by rw [g11]; simp only; omega)
  have g12 : dG12 l = ⟨l, 285, 0⟩ := by rw [show dG12 l = (dG11 l).get ((40 : Nat) : Int) from rfl, c11.1, g11]
  have n11 : (dG11 l).num 40 = qB l 245 285 := by rw [show (dG11 l).num 40 = (dG11 l).num ((40 : Nat) : Int) from rfl, c11.2, g11]; rfl
  have c12 := RS.get_ok (s := dG12 l) (n := 1) (by rw [g12]) (by decide) (by rw [g12]; simp only; omega)
  have g13 : dG13 l = ⟨l, 286, 0⟩ := by rw [show dG13 l = (dG12 l).get ((1 : Nat) : Int) from rfl, c12.1, g12]
  have n12 : (dG12 l).num 1 = qB l 285 286 := by rw [show (dG12 l).num 1 = (dG12 l).num ((1 : Nat) : Int) from rfl, c12.2, g12]; rfl
  have c13 := RS.get_ok (s := dG13 l) (n := 40) (by rw [g13]) (by decide) (by rw [g13]; simp only; omega)
  have g14 : dG14 l = ⟨l, 326, 0⟩ := by rw [show dG14 l = (dG13 l).get ((40 : Nat) : Int) from rfl, c13.1, g13]
  have n13 : (dG13 l).num 40 = qB l 286 326 := by rw [show (dG13 l).num 40 = (dG13 l).num ((40 : Nat) : Int) from rfl, c13.2, g13]; rfl
  have c14 := RS.get_ok (s := dG14 l) (n := 1) (by rw [g14]) (by decide) (by rw [g14]; simp only; omega)
  have g15 : dG15 l = ⟨l, 327, 0⟩ := by rw [show dG15 l = (dG14 l).get ((1 : Nat) : Int) from rfl, c14.1, g14]
  have n14 : (dG14 l).num 1 = qB l 326 327 := by rw [show (dG14 l).num 1 = (dG14 l).num ((1 : Nat) : Int) from rfl, c14.2, g14]; rfl
  have c15 := RS.get_ok (s := dG15 l) (n := 40) (by rw [g15]) (by decide) (by rw [g15]; simp only; omega)
  have g16 : dG16 l = ⟨l, 367, 0⟩ := by rw [show dG16 l = (dG15 l).get ((40 : Nat) : Int) from rfl, c15.1, g15]
  have n15 : (dG15 l).num 40 = qB l 327 367 := by rw [show (dG15 l).num 40 = (dG15 l).num ((40 : Nat) : Int) from rfl, c15.2, g15]; rfl
  have c16 := RS.get_ok (s := dG16 l) (n := 1) (by rw [g16]) (by decide) (by rw [g16]; simp only; omega)
  have g17 : dG17 l = ⟨l, 368, 0⟩ := by rw [show dG17 l = (dG16 l).get ((1 : Nat) : Int) from rfl, c16.1, g16]
  have n16 : (dG16 l).num 1 = qB l 367 368 := by rw [show (dG16 l).num 1 = (dG16 l).num ((1 : Nat) : Int) from rfl, c16.2, g16]; rfl
  exact ⟨⟨g0, g1, g2, g3, g4, g5, g6, g7, g8, g9, g10, g11, g12, g13, g14, g15, g16, g17⟩, n0, n1, n2, n3, n4, n5, n6, n7, n8, n9, n10, n11, n12, n13, n14, n15, n16⟩
theorem rawD_same {l : List UInt8} (hl : l.length = 128) : rawD l = rrawD l ∧ (dG17 l).err = 0 := by
  obtain ⟨⟨g0, g1, g2, g3, g4, g5, g6, g7, g8, g9, g10, g11, g12, g13, g14, g15, g16, g17⟩, n0, n1, n2, n3, n4, n5, n6, n7, n8, n9, n10, n11, n12, n13, n14, n15, n16⟩ := dG_at hl
  refine ⟨?_, by rw [g17]⟩
  unfold rawD rrawD
  rw [n0, n1, n2, n3, n4, n5, n6, n7, n8, n9, n10, n11, n12, n13, n14, n15, n16]
  rw [bit1_eq (by omega), bit1_eq (by omega), bit1_eq (by omega), bit1_eq (by omega), bit1_eq (by omega), bit1_eq (by omega), bit1_eq (by omega), bit1_eq (by omega)]
theorem bad_128 {l : List UInt8} (h : badD l = false) : l.length = 128 ∧ encE (rawD l) = 0 ∧ l = encL (rawD l) := by
  unfold badD at h
  simp only [Bool.or_eq_false_iff, bne_eq_false_iff_eq, Bool.not_eq_false', decide_eq_true_iff] at h
  obtain ⟨⟨_, h2⟩, h3⟩ := h
  obtain ⟨e1, e2⟩ := enc_same (rawD_ok l)
  have := (renc_len (by rw [← e2]; exact h2)).2.2
  rw [← e1, ← h3] at this
  exact ⟨this, h2, h3⟩
theorem dec_same (l : List UInt8) : decR l = rdecR l ∧ decRE l = rdecRE l := by
  unfold decR rdecR decRE rdecRE
  by_cases hl : l.length = 128
  · obtain ⟨h1, h2⟩ := rawD_same hl
    have h0 : ((l.length : Int) != 128) = false := by rw [hl]; rfl
    have hb : badD l = rbadD l := by
      unfold badD rbadD
      rw [h2, h1]
      obtain ⟨e1, e2⟩ := enc_same (x := rrawD l) (by rw [← h1]; exact rawD_ok l)
      rw [e1, e2]
      rfl
    rw [h0, hb, h1]
    exact ⟨rfl, rfl⟩
  · have h0 : ((l.length : Int) != 128) = true := by simp; omega
    have hb : badD l = true := by
      cases hb : badD l with
      | true => rfl
      | false => exact absurd (bad_128 hb).1 hl
    rw [h0, hb]
    exact ⟨rfl, rfl⟩
theorem fl_one (g : Bool) : ((fl g).toNat : Int) = fl g := by cases g <;> rfl
theorem fl_eq (g : Bool) : (fl g == 1) = g := by cases g <;> decide
/-- What was put in is got out. -/
theorem back {x : Rr} (ho : x.ok) (h : encE x = 0) : decRE (encL x) = 0 ∧ decR (encL x) = x := by
  obtain ⟨e1, e2⟩ := enc_same ho
  obtain ⟨h1, h2, h3⟩ := renc_len (x := x) (by rw [← e2]; exact h)
  have hl : (encL x).length = 128 := by rw [e1]; exact h3
  obtain ⟨t, ht⟩ := bitsAll_pad (rbR x) 128
  have hB : bitsAll (encL x) = (itR x).flatMap bitI ++ t := by rw [e1, h2, ht, rbR_items]
  obtain ⟨_, hf⟩ := (isR_iff ho).1 h1
  unfold fitsP at hf
  obtain ⟨f_bo, f_s0, f_s1, f_s2, f_s3, f_s4, f_s5, f_s6, f_s7⟩ := hf
  have q0 : (qB (encL x) 0 40 : Int) = x.bo := by
    have := ho.hbo
    unfold qB
    rw [show (40 : Nat) - 0 = 40 from rfl, seg_items hB (k := 0) (off := 0) (n := 40) (x := x.bo) rfl (by simp [sumW, itR, bitI, bitsOf_length])]
    have e : (2 : Nat) ^ 40 = 1099511627776 := by decide
    rw [val_bits_id (by rw [e]; omega)]
    omega
  have q1 : (qB (encL x) 40 80 : Int) = x.s0 := by
    have := ho.hs0
    unfold qB
    rw [show (80 : Nat) - 40 = 40 from rfl, seg_items hB (k := 1) (off := 40) (n := 40) (x := x.s0) rfl (by simp [sumW, itR, bitI, bitsOf_length])]
    have e : (2 : Nat) ^ 40 = 1099511627776 := by decide
    rw [val_bits_id (by rw [e]; omega)]
    omega
  have q2 : bit1 (encL x) 80 = x.g0 := by
    rw [← bit1_eq (by omega)]
    unfold qB
    rw [show (80 : Nat) + 1 - 80 = 1 from rfl, seg_items hB (k := 2) (off := 80) (n := 1) (x := fl x.g0) rfl (by simp [sumW, itR, bitI, bitsOf_length])]
    rw [val_bits_id (by cases x.g0 <;> decide), fl_one, fl_eq]
  have q3 : (qB (encL x) 81 121 : Int) = x.s1 := by
    have := ho.hs1
    unfold qB
    rw [show (121 : Nat) - 81 = 40 from rfl, seg_items hB (k := 3) (off := 81) (n := 40) (x := x.s1) rfl (by simp [sumW, itR, bitI, bitsOf_length])]
    have e : (2 : Nat) ^ 40 = 1099511627776 := by decide
    rw [val_bits_id (by rw [e]; omega)]
    omega
  have q4 : bit1 (encL x) 121 = x.g1 := by
    rw [← bit1_eq (by omega)]
    unfold qB
    rw [show (121 : Nat) + 1 - 121 = 1 from rfl, seg_items hB (k := 4) (off := 121) (n := 1) (x := fl x.g1) rfl (by simp [sumW, itR, bitI, bitsOf_length])]
    rw [val_bits_id (by cases x.g1 <;> decide), fl_one, fl_eq]
  have q5 : (qB (encL x) 122 162 : Int) = x.s2 := by
    have := ho.hs2
    unfold qB
    rw [show (162 : Nat) - 122 = 40 from rfl, seg_items hB (k := 5) (off := 122) (n := 40) (x := x.s2) rfl (by simp [sumW, itR, bitI, bitsOf_length])]
    have e : (2 : Nat) ^ 40 = 1099511627776 := by decide
    rw [val_bits_id (by rw [e]; omega)]
    omega
  have q6 : bit1 (encL x) 162 = x.g2 := by
    rw [← bit1_eq (by omega)]
    unfold qB
    rw [show (162 : Nat) + 1 - 162 = 1 from rfl, seg_items hB (k := 6) (off := 162) (n := 1) (x := fl x.g2) rfl (by simp [sumW, itR, bitI, bitsOf_length])]
    rw [val_bits_id (by cases x.g2 <;> decide), fl_one, fl_eq]
  have q7 : (qB (encL x) 163 203 : Int) = x.s3 := by
    have := ho.hs3
    unfold qB
    rw [show (203 : Nat) - 163 = 40 from rfl, seg_items hB (k := 7) (off := 163) (n := 40) (x := x.s3) rfl (by simp [sumW, itR, bitI, bitsOf_length])]
    have e : (2 : Nat) ^ 40 = 1099511627776 := by decide
    rw [val_bits_id (by rw [e]; omega)]
    omega
  have q8 : bit1 (encL x) 203 = x.g3 := by
    rw [← bit1_eq (by omega)]
    unfold qB
    rw [show (203 : Nat) + 1 - 203 = 1 from rfl, seg_items hB (k := 8) (off := 203) (n := 1) (x := fl x.g3) rfl (by simp [sumW, itR, bitI, bitsOf_length])]
    rw [val_bits_id (by cases x.g3 <;> decide), fl_one, fl_eq]
  have q9 : (qB (encL x) 204 244 : Int) = x.s4 := by
    have := ho.hs4
    unfold qB
    rw [show (244 : Nat) - 204 = 40 from rfl, seg_items hB (k := 9) (off := 204) (n := 40) (x := x.s4) rfl (by simp [sumW, itR, bitI, bitsOf_length])]
    have e : (2 : Nat) ^ 40 = 1099511627776 := by decide
    rw [val_bits_id (by rw [e]; omega)]
    omega
  have q10 : bit1 (encL x) 244 = x.g4 := by
    rw [← bit1_eq (by omega)]
    unfold qB
    rw [show (244 : Nat) + 1 - 244 = 1 from rfl, seg_items hB (k := 10) (off := 244) (n := 1) (x := fl x.g4) rfl (by simp [sumW, itR, bitI, bitsOf_length])]
    rw [val_bits_id (by cases x.g4 <;> decide), fl_one, fl_eq]
  have q11 : (qB (encL x) 245 285 : Int) = x.s5 := by
    have := ho.hs5
    unfold qB
    rw [show (285 : Nat) - 245 = 40 from rfl, seg_items hB (k := 11) (off := 245) (n := 40) (x := x.s5) rfl (by simp [sumW, itR, bitI, bitsOf_length])]
    have e : (2 : Nat) ^ 40 = 1099511627776 := by decide
    rw [val_bits_id (by rw [e]; omega)]
    omega
  have q12 : bit1 (encL x) 285 = x.g5 := by
    rw [← bit1_eq (by omega)]
    unfold qB
    rw [show (285 : Nat) + 1 - 285 = 1 from rfl, seg_items hB (k := 12) (off := 285) (n := 1) (x := fl x.g5) rfl (by simp [sumW, itR, bitI, bitsOf_length])]
    rw [val_bits_id (by cases x.g5 <;> decide), fl_one, fl_eq]
  have q13 : (qB (encL x) 286 326 : Int) = x.s6 := by
    have := ho.hs6
    unfold qB
    rw [show (326 : Nat) - 286 = 40 from rfl, seg_items hB (k := 13) (off := 286) (n := 40) (x := x.s6) rfl (by simp [sumW, itR, bitI, bitsOf_length])]
    have e : (2 : Nat) ^ 40 = 1099511627776 := by decide
    rw [val_bits_id (by rw [e]; omega)]
    omega
  have q14 : bit1 (encL x) 326 = x.g6 := by
    rw [← bit1_eq (by omega)]
    unfold qB
    rw [show (326 : Nat) + 1 - 326 = 1 from rfl, seg_items hB (k := 14) (off := 326) (n := 1) (x := fl x.g6) rfl (by simp [sumW, itR, bitI, bitsOf_length])]
    rw [val_bits_id (by cases x.g6 <;> decide), fl_one, fl_eq]
  have q15 : (qB (encL x) 327 367 : Int) = x.s7 := by
    have := ho.hs7
    unfold qB
    rw [show (367 : Nat) - 327 = 40 from rfl, seg_items hB (k := 15) (off := 327) (n := 40) (x := x.s7) rfl (by simp [sumW, itR, bitI, bitsOf_length])]
    have e : (2 : Nat) ^ 40 = 1099511627776 := by decide
    rw [val_bits_id (by rw [e]; omega)]
    omega
  have q16 : bit1 (encL x) 367 = x.g7 := by
    rw [← bit1_eq (by omega)]
    unfold qB
    rw [show (367 : Nat) + 1 - 367 = 1 from rfl, seg_items hB (k := 16) (off := 367) (n := 1) (x := fl x.g7) rfl (by simp [sumW, itR, bitI, bitsOf_length])]
    rw [val_bits_id (by cases x.g7 <;> decide), fl_one, fl_eq]
  have hraw : rawD (encL x) = x := by
    rw [(rawD_same hl).1]
    unfold rrawD
    rw [q0, q1, q3, q5, q7, q9, q11, q13, q15, q2, q4, q6, q8, q10, q12, q14, q16]
  have hbad : badD (encL x) = false := by
    unfold badD
    rw [hraw, (rawD_same hl).2, h]
    simp
  constructor
  · unfold decRE; rw [hbad]; rfl
  · unfold decR; rw [hbad, hraw]; rfl
theorem back2 {l : List UInt8} (h : decRE l = 0) : encE (decR l) = 0 ∧ encL (decR l) = l := by
  have hb : badD l = false := by
    cases hb : badD l with
    | false => rfl
    | true => unfold decRE at h; rw [hb] at h; exact absurd h (by decide)
  have hd : decR l = rawD l := by unfold decR; rw [hb]; rfl
  obtain ⟨_, h2, h3⟩ := bad_128 hb
  rw [hd]
  exact ⟨h2, h3.symm⟩
theorem bkB_false (m : List UInt8) : bkB m = false := by
  unfold bkB
  by_cases h : decRE m = 0
  · obtain ⟨e1, e2⟩ := back2 h
    rw [e1, e2]
    simp
  · have : (decRE m == 0) = false := by simp [h]
    rw [this]; rfl
theorem turn_false (c cl se y s : Int) (ho yg g : Bool) (hy : y = cond (cl == c) se s) (hg : yg = cond (cl == c) ho g) : ((c == cl && (y != se || !(yg == ho))) || (c != cl && !(y == s && (yg == g && true)))) = false := by
  subst hy; subst hg
  by_cases h : cl = c
  · subst h; simp
  · have h1 : (cl == c) = false := by simp [h]
    have h2 : (c == cl) = false := by simp; omega
    rw [h1, h2]
    simp
theorem tail_true (x : Rr) (cl se : Int) (ho : Bool) : tailB x (withR x cl se ho) cl se ho = true := by
  unfold tailB
  rw [turn_false 0 cl se (withR x cl se ho).s0 x.s0 ho (withR x cl se ho).g0 x.g0 rfl rfl, turn_false 1 cl se (withR x cl se ho).s1 x.s1 ho (withR x cl se ho).g1 x.g1 rfl rfl, turn_false 2 cl se (withR x cl se ho).s2 x.s2 ho (withR x cl se ho).g2 x.g2 rfl rfl, turn_false 3 cl se (withR x cl se ho).s3 x.s3 ho (withR x cl se ho).g3 x.g3 rfl rfl, turn_false 4 cl se (withR x cl se ho).s4 x.s4 ho (withR x cl se ho).g4 x.g4 rfl rfl, turn_false 5 cl se (withR x cl se ho).s5 x.s5 ho (withR x cl se ho).g5 x.g5 rfl rfl, turn_false 6 cl se (withR x cl se ho).s6 x.s6 ho (withR x cl se ho).g6 x.g6 rfl rfl, turn_false 7 cl se (withR x cl se ho).s7 x.s7 ho (withR x cl se ho).g7 x.g7 rfl rfl]
  simp [withR]
theorem eqR_iff {x y : Rr} (h : x = y) : eqR x y = true := by subst h; exact eqR_refl x
end Go.Proofs.Ytophabekaicdeaa

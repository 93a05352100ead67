/- inode: the plain law. -/
import Derived.Test.YtophabekaicdeaaI7
import Derived.Test.YtophabekaicdeaaF2


set_option linter.unusedVariables false
set_option linter.unusedSimpArgs false
namespace Go.Proofs.Ytophabekaicdeaa
open Go.RowKit

structure Ino.ok (x : Ino) : Prop where
  hkd : R64 x.kd
  hgn : R64 x.gn
  hve : 0 ≤ x.ve ∧ x.ve < 18446744073709551616
  hb0 : R64 x.b0
  hb1 : R64 x.b1
  hb2 : R64 x.b2
  hb3 : R64 x.b3
  hb4 : R64 x.b4
  hb5 : R64 x.b5
  hb6 : R64 x.b6
  hb7 : R64 x.b7
def itI (x : Ino) : List (Int × Int) := [(u64 x.kd, 2), (u64 x.gn, 31), (x.ve, 40), (u64 x.b0, 12), (u64 x.b1, 12), (u64 x.b2, 12), (u64 x.b3, 12), (u64 x.b4, 12), (u64 x.b5, 12), (u64 x.b6, 12), (u64 x.b7, 12)]
theorem encW_puts (x : Ino) : encW x = puts .new (itI x) := rfl
theorem rbI_items (x : Ino) : rbI x = (itI x).flatMap bitI := by
  simp only [rbI, itI, List.flatMap_cons, List.flatMap_nil, bitI, List.append_assoc, List.append_nil]
  rfl
theorem useN_in {b u : Int} (h : 0 ≤ u ∧ u ≤ 100) : (0 ≤ useN b u ∧ useN b u ≤ u + 1) ∧ (useN b u = 0 ↔ b = 0 ∧ u = 0) := by
  unfold useN
  by_cases hb : b = 0
  · have : (b != 0) = false := by simp [hb]
    rw [this]
    simp only [cond_false]
    omega
  · have : (b != 0) = true := by simp [hb]
    rw [this]
    simp only [cond_true]
    rw [IntWalk.i64_in _ (by omega)]
    omega
theorem used8_zero (x : Ino) : used8 x = 0 ↔ (x.b0 = 0 ∧ x.b1 = 0 ∧ x.b2 = 0 ∧ x.b3 = 0 ∧ x.b4 = 0 ∧ x.b5 = 0 ∧ x.b6 = 0 ∧ x.b7 = 0) := by
  unfold used8
  have h0 := useN_in (b := x.b0) (u := 0) (by omega)
  have h1 := useN_in (b := x.b1) (u := (useN x.b0 0)) (by omega)
  have h2 := useN_in (b := x.b2) (u := (useN x.b1 (useN x.b0 0))) (by omega)
  have h3 := useN_in (b := x.b3) (u := (useN x.b2 (useN x.b1 (useN x.b0 0)))) (by omega)
  have h4 := useN_in (b := x.b4) (u := (useN x.b3 (useN x.b2 (useN x.b1 (useN x.b0 0))))) (by omega)
  have h5 := useN_in (b := x.b5) (u := (useN x.b4 (useN x.b3 (useN x.b2 (useN x.b1 (useN x.b0 0)))))) (by omega)
  have h6 := useN_in (b := x.b6) (u := (useN x.b5 (useN x.b4 (useN x.b3 (useN x.b2 (useN x.b1 (useN x.b0 0))))))) (by omega)
  have h7 := useN_in (b := x.b7) (u := (useN x.b6 (useN x.b5 (useN x.b4 (useN x.b3 (useN x.b2 (useN x.b1 (useN x.b0 0)))))))) (by omega)
  rw [h7.2, h6.2, h5.2, h4.2, h3.2, h2.2, h1.2, h0.2]
  simp only [and_true]
  omega
def rightP (x : Ino) : Prop := (x.kd = 1 ∨ x.kd = 2) ∨ x.kd = 0 ∧ x.ve = 0 ∧ (x.b0 = 0 ∧ x.b1 = 0 ∧ x.b2 = 0 ∧ x.b3 = 0 ∧ x.b4 = 0 ∧ x.b5 = 0 ∧ x.b6 = 0 ∧ x.b7 = 0)
theorem right_iff (x : Ino) : rightB x = true ↔ rightP x := by
  unfold rightB zeroB rightP
  by_cases h1 : x.kd = 1
  · simp [h1]
  · by_cases h2 : x.kd = 2
    · simp [h2]
    · by_cases h0 : x.kd = 0
      · simp [h0]
      · have e1 : (x.kd == 1) = false := by simp [h1]
        have e2 : (x.kd == 2) = false := by simp [h2]
        have e0 : (x.kd == 0) = false := by simp [h0]
        rw [e1, e2, e0]
        simp [h0, h1, h2]
def fitsP (x : Ino) : Prop := (0 ≤ x.kd ∧ x.kd < 4) ∧ (0 ≤ x.gn ∧ x.gn < 2147483648) ∧ x.ve < 1099511627776 ∧ (0 ≤ x.b0 ∧ x.b0 < 4096) ∧ (0 ≤ x.b1 ∧ x.b1 < 4096) ∧ (0 ≤ x.b2 ∧ x.b2 < 4096) ∧ (0 ≤ x.b3 ∧ x.b3 < 4096) ∧ (0 ≤ x.b4 ∧ x.b4 < 4096) ∧ (0 ≤ x.b5 ∧ x.b5 < 4096) ∧ (0 ≤ x.b6 ∧ x.b6 < 4096) ∧ (0 ≤ x.b7 ∧ x.b7 < 4096)
theorem fits_iff {x : Ino} (ho : x.ok) : (itI x).all fitB = true ↔ fitsP x := by
  simp only [itI, List.all_cons, List.all_nil, Bool.and_true, Bool.and_eq_true]
  have k1 := fits_u (w := 2) ho.hkd (by decide)
  have k2 := fits_u (w := 31) ho.hgn (by decide)
  have k3 := fits_n (w := 40) ho.hve.1 (by decide)
  have k_b0 := fits_u (w := 12) ho.hb0 (by decide)
  have k_b1 := fits_u (w := 12) ho.hb1 (by decide)
  have k_b2 := fits_u (w := 12) ho.hb2 (by decide)
  have k_b3 := fits_u (w := 12) ho.hb3 (by decide)
  have k_b4 := fits_u (w := 12) ho.hb4 (by decide)
  have k_b5 := fits_u (w := 12) ho.hb5 (by decide)
  have k_b6 := fits_u (w := 12) ho.hb6 (by decide)
  have k_b7 := fits_u (w := 12) ho.hb7 (by decide)
  have e2 : ((2 ^ 2 : Nat) : Int) = 4 := by decide
  have e31 : ((2 ^ 31 : Nat) : Int) = 2147483648 := by decide
  have e40 : ((2 ^ 40 : Nat) : Int) = 1099511627776 := by decide
  have e12 : ((2 ^ 12 : Nat) : Int) = 4096 := by decide
  rw [e2] at k1
  rw [e31] at k2
  rw [e40] at k3
  rw [e12] at k_b0 k_b1 k_b2 k_b3 k_b4 k_b5 k_b6 k_b7
  exact and_congr k1 (and_congr k2 (and_congr k3 (and_congr k_b0 (and_congr k_b1 (and_congr k_b2 (and_congr k_b3 (and_congr k_b4 (and_congr k_b5 (and_congr k_b6 (k_b7))))))))))
theorem outR_iff (b : Int) : outR b = false ↔ 0 ≤ b ∧ b ≤ 4095 := by
  unfold outR
  rw [Bool.or_eq_false_iff, decide_eq_false_iff_not, decide_eq_false_iff_not]
  omega
theorem cond_false_iff (a b : Bool) : cond a false b = true ↔ a = false ∧ b = true := by cases a <;> simp
theorem is_iff {x : Ino} (ho : x.ok) : isI x = true ↔ rightP x ∧ fitsP x := by
  unfold isI
  simp only [cond_false_iff, outR_iff, Bool.and_eq_true, Bool.or_eq_true, decide_eq_true_iff, beq_iff_eq, used8_zero]
  unfold rightP fitsP
  have := ho.hve
  constructor
  · intro h; omega
  · intro h; omega
theorem pads_eq {l : List UInt8} (h : l.length ≤ 128) : padS l = padTo 128 l := by
  unfold padS padTo
  rw [IntWalk.i64_in _ (by omega)]
  congr 2
  omega
theorem enc_same {x : Ino} (ho : x.ok) : encL x = rencL x ∧ encE x = rencE x := by
  have h1 := right_iff x
  have h2 := fits_iff ho
  have h3 := is_iff ho
  have he : (encW x).err = cond ((itI x).all fitB) 0 2 := by rw [encW_puts]; exact puts_err _ rfl
  unfold encL encE rencL rencE
  rw [he]
  cases hr : rightB x with
  | false =>
    have : isI x = false := by
      cases hi : isI x with
      | false => rfl
      | true => exact absurd (h1.2 (h3.1 hi).1) (by rw [hr]; simp)
    rw [this]; exact ⟨rfl, rfl⟩
  | true =>
    cases hf : (itI x).all fitB with
    | false =>
      have : isI x = false := by
        cases hi : isI x with
        | false => rfl
        | true => exact absurd (h2.2 (h3.1 hi).2) (by rw [hf]; simp)
      rw [this]; exact ⟨rfl, rfl⟩
    | true =>
      have hi : isI x = true := h3.2 ⟨h1.1 hr, h2.1 hf⟩
      rw [hi]
      refine ⟨?_, rfl⟩
      simp only [Bool.not_true, cond_false, cond_true, bne_self_eq_false]
      have hbl : (encW x).bl = rbI x := by
        rw [encW_puts, puts_bl _ rfl hf, rbI_items]; rfl
      have ho' : (encW x).out = packed (rbI x) := by
        unfold WS.out
        rw [he, hf, if_pos (by rfl), hbl]
      rw [ho', pads_eq (by rw [packed_length, rbI_len]; decide)]
theorem renc_len {x : Ino} (h : rencE x = 0) : isI x = true ∧ rencL x = padTo 128 (packed (rbI x)) ∧ (rencL x).length = 128 := by
  unfold rencE at h
  cases hi : isI x with
  | false => rw [hi] at h; exact absurd h (by decide)
  | true =>
    have : rencL x = padTo 128 (packed (rbI x)) := by unfold rencL; rw [hi]; rfl
    exact ⟨rfl, this, by rw [this]; exact padTo_len (by rw [packed_length, rbI_len]; decide)⟩
theorem i64q_in (n : Int) : R64 (IntKind.i64.wrap n) := i64w_in n
theorem rawD_ok (l : List UInt8) : (rawD l).ok := ⟨i64w_in _, i64w_in _, RS.num_in _ _, i64w_in _, i64w_in _, i64w_in _, i64w_in _, i64w_in _, i64w_in _, i64w_in _, i64w_in _⟩
theorem dG_at {l : List UInt8} (hl : l.length = 128) : (dG0 l = ⟨l, 0, 0⟩ ∧ dG1 l = ⟨l, 2, 0⟩ ∧ dG2 l = ⟨l, 33, 0⟩ ∧ dG3 l = ⟨l, 73, 0⟩ ∧ dG4 l = ⟨l, 85, 0⟩ ∧ dG5 l = ⟨l, 97, 0⟩ ∧ dG6 l = ⟨l, 109, 0⟩ ∧ dG7 l = ⟨l, 121, 0⟩ ∧ dG8 l = ⟨l, 133, 0⟩ ∧ dG9 l = ⟨l, 145, 0⟩ ∧ dG10 l = ⟨l, 157, 0⟩ ∧ dG11 l = ⟨l, 169, 0⟩) ∧ (dG0 l).num 2 = qB l 0 2 ∧ (dG1 l).num 31 = qB l 2 33 ∧ (dG2 l).num 40 = qB l 33 73 ∧ (dG3 l).num 12 = qB l 73 85 ∧ (dG4 l).num 12 = qB l 85 97 ∧ (dG5 l).num 12 = qB l 97 109 ∧ (dG6 l).num 12 = qB l 109 121 ∧ (dG7 l).num 12 = qB l 121 133 ∧ (dG8 l).num 12 = qB l 133 145 ∧ (dG9 l).num 12 = qB l 145 157 ∧ (dG10 l).num 12 = qB l 157 169 := by
  have g0 : dG0 l = ⟨l, 0, 0⟩ := rfl
  have c0 := RS.get_ok (s := dG0 l) (n := 2) (by rw [g0]) (by decide) (by rw [g0]; simp only; omega)
  have g1 : dG1 l = ⟨l, 2, 0⟩ := by rw [show dG1 l = (dG0 l).get ((2 : Nat) : Int) from rfl, c0.1, g0]
  have n0 : (dG0 l).num 2 = qB l 0 2 := by rw [show (dG0 l).num 2 = (dG0 l).num ((2 : Nat) : Int) from rfl, c0.2, g0]; rfl
  have c1 := RS.get_ok (s := dG1 l) (n := 31) (by rw [g1]) (by decide) (by rw [g1]; simp only; omega)
  have g2 : dG2 l = ⟨l, 33, 0⟩ := by rw [show dG2 l = (dG1 l).get ((31 : Nat) : Int) from rfl, c1.1, g1]
  have n1 : (dG1 l).num 31 = qB l 2 33 := by rw [show (dG1 l).num 31 = (dG1 l).num ((31 : Nat) : Int) from rfl, c1.2, g1]; rfl
  have c2 := RS.get_ok (s := dG2 l) (n := 40) (by rw [g2]) (by decide) (by rw [g2]; simp only; omega)
  have g3 : dG3 l = ⟨l, 73, 0⟩ := by rw [show dG3 l = (dG2 l).get ((40 : Nat) : Int) from rfl, c2.1, g2]
  have n2 : (dG2 l).num 40 = qB l 33 73 := by rw [show (dG2 l).num 40 = (dG2 l).num ((40 : Nat) : Int) from rfl, c2.2, g2]; rfl
  have c3 := RS.get_ok (s := dG3 l) (n := 12) (by rw [g3]) (by decide) (by rw [g3]; simp only; omega)
  have g4 : dG4 l = ⟨l, 85, 0⟩ := by rw [show dG4 l = (dG3 l).get ((12 : Nat) : Int) from rfl, c3.1, g3]
  have n3 : (dG3 l).num 12 = qB l 73 85 := by rw [show (dG3 l).num 12 = (dG3 l).num ((12 : Nat) : Int) from rfl, c3.2, g3]; rfl
  have c4 := RS.get_ok (s := dG4 l) (n := 12) (by rw [g4]) (by decide) (by rw [g4]; simp only; omega)
  have g5 : dG5 l = ⟨l, 97, 0⟩ := by rw [show dG5 l = (dG4 l).get ((12 : Nat) : Int) from rfl, c4.1, g4]
  have n4 : (dG4 l).num 12 = qB l 85 97 := by rw [show (dG4 l).num 12 = (dG4 l).num ((12 : Nat) : Int) from rfl, c4.2, g4]; rfl
  have c5 := RS.get_ok (s := dG5 l) (n := 12) (by rw [g5]) (by decide) (by rw [g5]; simp only; omega)
  have g6 : dG6 l = ⟨l, 109, 0⟩ := by rw [show dG6 l = (dG5 l).get ((12 : Nat) : Int) from rfl, c5.1, g5]
  have n5 : (dG5 l).num 12 = qB l 97 109 := by rw [show (dG5 l).num 12 = (dG5 l).num ((12 : Nat) : Int) from rfl, c5.2, g5]; rfl
  have c6 := RS.get_ok (s := dG6 l) (n := 12) (by rw [g6]) (by decide) (by rw [g6]; simp only; omega)
  have g7 : dG7 l = ⟨l, 121, 0⟩ := by rw [show dG7 l = (dG6 l).get ((12 : Nat) : Int) from rfl, c6.1, g6]
  have n6 : (dG6 l).num 12 = qB l 109 121 := by rw [show (dG6 l).num 12 = (dG6 l).num ((12 : Nat) : Int) from rfl, c6.2, g6]; rfl
  have c7 := RS.get_ok (s := dG7 l) (n := 12) (by rw [g7]) (by decide) (by rw [g7]; simp only; omega)
  have g8 : dG8 l = ⟨l, 133, 0⟩ := by rw [show dG8 l = (dG7 l).get ((12 : Nat) : Int) from rfl, c7.1, g7]
  have n7 : (dG7 l).num 12 = qB l 121 133 := by rw [show (dG7 l).num 12 = (dG7 l).num ((12 : Nat) : Int) from rfl, c7.2, g7]; rfl
  have c8 := RS.get_ok (s := dG8 l) (n := 12) (by rw [g8]) (by decide) (by rw [g8]; simp only; omega)
  have g9 : dG9 l = ⟨l, 145, 0⟩ := by rw [show dG9 l = (dG8 l).get ((12 : Nat) : Int) from rfl, c8.1, g8]
  have n8 : (dG8 l).num 12 = qB l 133 145 := by rw [show (dG8 l).num 12 = (dG8 l).num ((12 : Nat) : Int) from rfl, c8.2, g8]; rfl
  have c9 := RS.get_ok (s := dG9 l) (n := 12) (by rw [g9]) (by decide) (by rw [g9]; simp only; omega)
  have g10 : dG10 l = ⟨l, 157, 0⟩ := by rw [show dG10 l = (dG9 l).get ((12 : Nat) : Int) from rfl, c9.1, g9]
  have n9 : (dG9 l).num 12 = qB l 145 157 := by rw [show (dG9 l).num 12 = (dG9 l).num ((12 : Nat) : Int) from rfl, c9.2, g9]; rfl
  have c10 := RS.get_ok (s := dG10 l) (n := 12) (by rw [g10]) (by decide) (by rw [g10]; simp only; omega)
  have g11 : dG11 l = ⟨l, 169, 0⟩ := by rw [show dG11 l = (dG10 l).get ((12 : Nat) : Int) from rfl, c10.1, g10]
  have n10 : (dG10 l).num 12 = qB l 157 169 := by rw [show (dG10 l).num 12 = (dG10 l).num ((12 : Nat) : Int) from rfl, c10.2, g10]; rfl
  exact ⟨⟨g0, g1, g2, g3, g4, g5, g6, g7, g8, g9, g10, g11⟩, n0, n1, n2, n3, n4, n5, n6, n7, n8, n9, n10⟩
theorem rawD_same {l : List UInt8} (hl : l.length = 128) : rawD l = rrawD l ∧ (dG11 l).err = 0 := by
  obtain ⟨⟨g0, g1, g2, g3, g4, g5, g6, g7, g8, g9, g10, g11⟩, n0, n1, n2, n3, n4, n5, n6, n7, n8, n9, n10⟩ := dG_at hl
  refine ⟨?_, by rw [g11]⟩
  unfold rawD rrawD
  rw [n0, n1, n2, n3, n4, n5, n6, n7, n8, n9, n10]
theorem bad_128 {l : List UInt8} (h : badD l = false) : l.length = 128 ∧ encE (rawD l) = 0 ∧ l = encL (rawD l) := by
  unfold badD at h
  simp only [Bool.or_eq_false_iff, bne_eq_false_iff_eq, Bool.not_eq_false', decide_eq_true_iff] at h
  obtain ⟨⟨_, h2⟩, h3⟩ := h
  obtain ⟨e1, e2⟩ := enc_same (rawD_ok l)
  have := (renc_len (by rw [← e2]; exact h2)).2.2
  rw [← e1, ← h3] at this
  exact ⟨this, h2, h3⟩
theorem dec_same (l : List UInt8) : decI l = rdecI l ∧ decIE l = rdecIE l := by
  unfold decI rdecI decIE rdecIE
  by_cases hl : l.length = 128
  · obtain ⟨h1, h2⟩ := rawD_same hl
    have h0 : ((l.length : Int) != 128) = false := by rw [hl]; rfl
    have hb : badD l = rbadD l := by
      unfold badD rbadD
      rw [h2, h1]
      obtain ⟨e1, e2⟩ := enc_same (x := rrawD l) (by rw [← h1]; exact rawD_ok l)
      rw [e1, e2]
      rfl
    rw [h0, hb, h1]
    exact ⟨rfl, rfl⟩
  · have h0 : ((l.length : Int) != 128) = true := by simp; omega
    have hb : badD l = true := by
      cases hb : badD l with
      | true => rfl
      | false => exact absurd (bad_128 hb).1 hl
    rw [h0, hb]
    exact ⟨rfl, rfl⟩
/-- What was put in is got out. -/
theorem back {x : Ino} (ho : x.ok) (h : encE x = 0) : decIE (encL x) = 0 ∧ decI (encL x) = x := by
  obtain ⟨e1, e2⟩ := enc_same ho
  obtain ⟨h1, h2, h3⟩ := renc_len (x := x) (by rw [← e2]; exact h)
  have hl : (encL x).length = 128 := by rw [e1]; exact h3
  obtain ⟨t, ht⟩ := bitsAll_pad (rbI x) 128
  have hB : bitsAll (encL x) = (itI x).flatMap bitI ++ t := by rw [e1, h2, ht, rbI_items]
  obtain ⟨_, hf⟩ := (is_iff ho).1 h1
  unfold fitsP at hf
  obtain ⟨f0, f1, f2, f3, f4, f5, f6, f7, f8, f9, f10⟩ := hf
  have hve := ho.hve
  have q0 : (qB (encL x) 0 2 : Int) = x.kd := by
    unfold qB
    rw [show (2 : Nat) - 0 = 2 from rfl, seg_items hB (k := 0) (off := 0) (n := 2) (x := u64 x.kd) rfl (by simp [sumW, itI, bitI, bitsOf_length])]
    have hu : u64 x.kd = x.kd := u64w_id (by omega)
    rw [hu]
    have e : (2 : Nat) ^ 2 = 4 := by decide
    rw [val_bits_id (by rw [e]; omega)]
    omega
  have q1 : (qB (encL x) 2 33 : Int) = x.gn := by
    unfold qB
    rw [show (33 : Nat) - 2 = 31 from rfl, seg_items hB (k := 1) (off := 2) (n := 31) (x := u64 x.gn) rfl (by simp [sumW, itI, bitI, bitsOf_length])]
    have hu : u64 x.gn = x.gn := u64w_id (by omega)
    rw [hu]
    have e : (2 : Nat) ^ 31 = 2147483648 := by decide
    rw [val_bits_id (by rw [e]; omega)]
    omega
  have q2 : (qB (encL x) 33 73 : Int) = x.ve := by
    unfold qB
    rw [show (73 : Nat) - 33 = 40 from rfl, seg_items hB (k := 2) (off := 33) (n := 40) (x := x.ve) rfl (by simp [sumW, itI, bitI, bitsOf_length])]
    have e : (2 : Nat) ^ 40 = 1099511627776 := by decide
    rw [val_bits_id (by rw [e]; omega)]
    omega
  have q3 : (qB (encL x) 73 85 : Int) = x.b0 := by
    unfold qB
    rw [show (85 : Nat) - 73 = 12 from rfl, seg_items hB (k := 3) (off := 73) (n := 12) (x := u64 x.b0) rfl (by simp [sumW, itI, bitI, bitsOf_length])]
    have hu : u64 x.b0 = x.b0 := u64w_id (by omega)
    rw [hu]
    have e : (2 : Nat) ^ 12 = 4096 := by decide
    rw [val_bits_id (by rw [e]; omega)]
    omega
  have q4 : (qB (encL x) 85 97 : Int) = x.b1 := by
    unfold qB
    rw [show (97 : Nat) - 85 = 12 from rfl, seg_items hB (k := 4) (off := 85) (n := 12) (x := u64 x.b1) rfl (by simp [sumW, itI, bitI, bitsOf_length])]
    have hu : u64 x.b1 = x.b1 := u64w_id (by omega)
    rw [hu]
    have e : (2 : Nat) ^ 12 = 4096 := by decide
    rw [val_bits_id (by rw [e]; omega)]
    omega
  have q5 : (qB (encL x) 97 109 : Int) = x.b2 := by
    unfold qB
    rw [show (109 : Nat) - 97 = 12 from rfl, seg_items hB (k := 5) (off := 97) (n := 12) (x := u64 x.b2) rfl (by simp [sumW, itI, bitI, bitsOf_length])]
    have hu : u64 x.b2 = x.b2 := u64w_id (by omega)
    rw [hu]
    have e : (2 : Nat) ^ 12 = 4096 := by decide
    rw [val_bits_id (by rw [e]; omega)]
    omega
  have q6 : (qB (encL x) 109 121 : Int) = x.b3 := by
    unfold qB
    rw [show (121 : Nat) - 109 = 12 from rfl, seg_items hB (k := 6) (off := 109) (n := 12) (x := u64 x.b3) rfl (by simp [sumW, itI, bitI, bitsOf_length])]
    have hu : u64 x.b3 = x.b3 := u64w_id (by omega)
    rw [hu]
    have e : (2 : Nat) ^ 12 = 4096 := by decide
    rw [val_bits_id (by rw [e]; omega)]
    omega
  have q7 : (qB (encL x) 121 133 : Int) = x.b4 := by
    unfold qB
    rw [show (133 : Nat) - 121 = 12 from rfl, seg_items hB (k := 7) (off := 121) (n := 12) (x := u64 x.b4) rfl (by simp [sumW, itI, bitI, bitsOf_length])]
    have hu : u64 x.b4 = x.b4 := u64w_id (by omega)
    rw [hu]
    have e : (2 : Nat) ^ 12 = 4096 := by decide
    rw [val_bits_id (by rw [e]; omega)]
    omega
  have q8 : (qB (encL x) 133 145 : Int) = x.b5 := by
    unfold qB
    rw [show (145 : Nat) - 133 = 12 from rfl, seg_items hB (k := 8) (off := 133) (n := 12) (x := u64 x.b5) rfl (by simp [sumW, itI, bitI, bitsOf_length])]
    have hu : u64 x.b5 = x.b5 := u64w_id (by omega)
    rw [hu]
    have e : (2 : Nat) ^ 12 = 4096 := by decide
    rw [val_bits_id (by rw [e]; omega)]
    omega
  have q9 : (qB (encL x) 145 157 : Int) = x.b6 := by
    unfold qB
    rw [show (157 : Nat) - 145 = 12 from rfl, seg_items hB (k := 9) (off := 145) (n := 12) (x := u64 x.b6) rfl (by simp [sumW, itI, bitI, bitsOf_length])]
    have hu : u64 x.b6 = x.b6 := u64w_id (by omega)
    rw [hu]
    have e : (2 : Nat) ^ 12 = 4096 := by decide
    rw [val_bits_id (by rw [e]; omega)]
    omega
  have q10 : (qB (encL x) 157 169 : Int) = x.b7 := by
    unfold qB
    rw [show (169 : Nat) - 157 = 12 from rfl, seg_items hB (k := 10) (off := 157) (n := 12) (x := u64 x.b7) rfl (by simp [sumW, itI, bitI, bitsOf_length])]
    have hu : u64 x.b7 = x.b7 := u64w_id (by omega)
    rw [hu]
    have e : (2 : Nat) ^ 12 = 4096 := by decide
    rw [val_bits_id (by rw [e]; omega)]
    omega
  have hraw : rawD (encL x) = x := by
    rw [(rawD_same hl).1]
    unfold rrawD
    rw [q0, q1, q2, q3, q4, q5, q6, q7, q8, q9, q10]
    rw [i64w_id ho.hkd, i64w_id ho.hgn, i64w_id ho.hb0, i64w_id ho.hb1, i64w_id ho.hb2, i64w_id ho.hb3, i64w_id ho.hb4, i64w_id ho.hb5, i64w_id ho.hb6, i64w_id ho.hb7]
  have hbad : badD (encL x) = false := by
    unfold badD
    rw [hraw, (rawD_same hl).2, h]
    simp
  constructor
  · unfold decIE; rw [hbad]; rfl
  · unfold decI; rw [hbad, hraw]; rfl
theorem back2 {l : List UInt8} (h : decIE l = 0) : encE (decI l) = 0 ∧ encL (decI l) = l := by
  have hb : badD l = false := by
    cases hb : badD l with
    | false => rfl
    | true => unfold decIE at h; rw [hb] at h; exact absurd h (by decide)
  have hd : decI l = rawD l := by unfold decI; rw [hb]; rfl
  obtain ⟨_, h2, h3⟩ := bad_128 hb
  rw [hd]
  exact ⟨h2, h3.symm⟩
end Go.Proofs.Ytophabekaicdeaa

/- Which record any pieces are: the plain law. -/
import Derived.Test.YtcedfpckjdobpaaL17
set_option linter.unusedVariables false
set_option linter.unusedSimpArgs false
namespace Go.Proofs.Ytcedfpckjdobpaa

def catP (ps : List Pc) : List UInt8 := ps.flatMap (·.d)
def headP (ps : List Pc) : Pc := ps.headD ⟨0, 0, false, false, []⟩
/-- Pieces that are a record's. -/
def joinOk (ps : List Pc) : Prop := ps ≠ [] ∧ cutL (headP ps).ep (headP ps).ct (catP ps) = ps
instance (ps : List Pc) : Decidable (joinOk ps) := by unfold joinOk; infer_instance
/-- What the reference asks of the i-th of n. -/
def pcFull (n i : Nat) (p : Pc) : Prop := p.d.length = 106 ∨ (i = n - 1 ∧ p.d.length < 106 ∧ (0 < p.d.length ∨ i = 0))
def pcFits (p0 : Pc) (n i : Nat) (p : Pc) : Prop :=
  p.ep ≤ 16777215 ∧ p.ep = p0.ep ∧ p.ct ≤ 1099511627775 ∧ p0.ct ≤ p.ct ∧ p.ct - p0.ct = i ∧ p.fi = decide (i = 0) ∧ p.la = decide (i = n - 1) ∧ pcFull n i p
def joinFits (ps : List Pc) : Prop := ps ≠ [] ∧ (∀ i p, ps[i]? = some p → pcFits (headP ps) ps.length i p) ∧ (catP ps).length ≤ 8192

theorem cntN_cases (m : Nat) : (m ≤ 106 ∧ cntN m = 1) ∨ (106 < m ∧ cntN m = (m + 105) / 106) := by
  have h : cntN m = Nat.max ((m + 105) / 106) 1 := rfl
  rcases Nat.le_total ((m + 105) / 106) 1 with h1 | h1
  · rw [show Nat.max ((m + 105) / 106) 1 = 1 from Nat.max_eq_right h1] at h
    left; omega
  · rw [show Nat.max ((m + 105) / 106) 1 = (m + 105) / 106 from Nat.max_eq_left h1] at h
    by_cases hm : m ≤ 106
    · left; omega
    · right; omega
theorem cntN_iff (m x : Nat) : cntN m = x ↔ 1 ≤ x ∧ m ≤ x * 106 ∧ (x = 1 ∨ (x - 1) * 106 < m) := by
  rcases cntN_cases m with ⟨h1, h2⟩ | ⟨h1, h2⟩ <;> rw [h2] <;> omega

/-- The pieces of a row, laid end to end, are the row. -/
theorem cat_cut (ep ct n : Nat) (b : List UInt8) : ∀ k, ((List.range k).map (cutP ep ct n b)).flatMap (·.d) = b.take (106 * k)
  | 0 => by simp
  | k + 1 => by
    rw [List.range_succ, List.map_append, List.flatMap_append, cat_cut ep ct n b k, List.map_cons, List.map_nil, List.flatMap_cons, List.flatMap_nil, List.append_nil]
    simp only [cutP]
    rw [show 106 * (k + 1) = 106 * k + 106 by omega, List.take_add]
theorem catP_cutL {ep ct : Nat} {b : List UInt8} (h : cutN ep ct b.length = 0) : catP (cutL ep ct b) = b := by
  unfold cutL catP
  rw [if_pos h, cat_cut, List.take_of_length_le]
  have := ((cntN_iff b.length (cntN b.length)).1 rfl).2.1
  omega
theorem cutL_length {ep ct : Nat} {b : List UInt8} (h : cutN ep ct b.length = 0) : (cutL ep ct b).length = cntN b.length := by
  unfold cutL; rw [if_pos h]; simp
theorem cutL_get {ep ct : Nat} {b : List UInt8} (h : cutN ep ct b.length = 0) {i : Nat} (hi : i < cntN b.length) : (cutL ep ct b)[i]? = some (cutP ep ct (cntN b.length) b i) := by
  unfold cutL; rw [if_pos h]; simp [hi]
theorem cutN_zero {ep ct m : Nat} (h : cutN ep ct m = 0) : ep ≤ 16777215 ∧ ct ≤ 1099511627775 ∧ cntN m - 1 ≤ 1099511627775 - ct ∧ m ≤ 8192 := by
  unfold cutN at h
  split at h
  · cases h
  · split at h
    · cases h
    · rename_i h1 h2; omega
theorem cutN_of {ep ct m : Nat} (h1 : ep ≤ 16777215) (h2 : ct ≤ 1099511627775) (h3 : cntN m - 1 ≤ 1099511627775 - ct) (h4 : m ≤ 8192) : cutN ep ct m = 0 := by
  unfold cutN
  rw [if_neg (by omega), if_neg (by omega)]
theorem cutP_ok {ep ct : Nat} {b : List UInt8} (h : cutN ep ct b.length = 0) {i : Nat} (hi : i < cntN b.length) : (cutP ep ct (cntN b.length) b i).ok := by
  obtain ⟨h1, h2, h3, h4⟩ := cutN_zero h
  refine ⟨h1, ?_, ?_⟩
  · simp only [cutP]; omega
  · simp only [cutP, List.length_take]; exact Nat.min_le_left _ _
theorem headP_cutL {ep ct : Nat} {b : List UInt8} (h : cutN ep ct b.length = 0) : (headP (cutL ep ct b)).ep = ep ∧ (headP (cutL ep ct b)).ct = ct ∧ cutL ep ct b ≠ [] := by
  have h0 := cutL_get h (i := 0) (by have := cntN_pos b.length; omega)
  cases hc : cutL ep ct b with
  | nil => rw [hc] at h0; simp at h0
  | cons p ps =>
    rw [hc] at h0
    simp at h0
    subst h0
    exact ⟨rfl, rfl, by simp⟩
theorem joinOk_cutL {ep ct : Nat} {b : List UInt8} (h : cutN ep ct b.length = 0) : joinOk (cutL ep ct b) := by
  obtain ⟨h1, h2, h3⟩ := headP_cutL h
  exact ⟨h3, by rw [h1, h2, catP_cutL h]⟩

/-- Full pieces, laid end to end. -/
theorem cat_full : ∀ (ps : List Pc) (n k : Nat), (∀ i p, ps[i]? = some p → pcFull n (k + i) p) → k + ps.length = n → ps ≠ [] →
    (∀ i p, ps[i]? = some p → (((catP ps).drop (106 * i)).take 106 = p.d)) ∧ (catP ps).length ≤ 106 * ps.length ∧ (106 * (ps.length - 1) < (catP ps).length ∨ (ps.length = 1 ∧ k = 0))
  | [], _, _, _, _, h => absurd rfl h
  | [p], n, k, h, hn, _ => by
    have h0 := h 0 p rfl
    have e : catP [p] = p.d := by simp [catP]
    rw [e]
    unfold pcFull at h0
    refine ⟨fun i q hq => ?_, by simp; omega, by simp; omega⟩
    cases i with
    | zero => simp at hq; subst hq; rw [Nat.mul_zero, List.drop_zero, List.take_of_length_le (by omega)]
    | succ i => simp at hq
  | p :: q :: ps, n, k, h, hn, _ => by
    have h0 := h 0 p rfl
    have hl : p.d.length = 106 := by
      rcases h0 with h0 | h0
      · exact h0
      · simp at hn; omega
    obtain ⟨r1, r2, r3⟩ := cat_full (q :: ps) n (k + 1) (fun i x hx => by have := h (i + 1) x (by simpa using hx); rwa [show k + (i + 1) = k + 1 + i by omega] at this) (by simp at hn ⊢; omega) (by simp)
    have e : catP (p :: q :: ps) = p.d ++ catP (q :: ps) := by simp [catP]
    rw [e]
    refine ⟨fun i x hx => ?_, ?_, ?_⟩
    · cases i with
      | zero => simp at hx; subst hx; rw [Nat.mul_zero, List.drop_zero, ← hl, List.take_left]
      | succ i =>
        have := r1 i x (by simpa using hx)
        rw [List.drop_append, List.drop_of_length_le (by omega), List.nil_append, hl, show 106 * (i + 1) - 106 = 106 * i by omega]
        exact this
    · simp at r2 ⊢; omega
    · left
      simp at r3 ⊢; omega

theorem join_law (ps : List Pc) : joinOk ps ↔ joinFits ps := by
  constructor
  · rintro ⟨h1, h2⟩
    have hz : cutN (headP ps).ep (headP ps).ct (catP ps).length = 0 := by
      by_cases h : cutN (headP ps).ep (headP ps).ct (catP ps).length = 0
      · exact h
      · unfold cutL at h2; rw [if_neg h] at h2; exact absurd h2.symm h1
    obtain ⟨q1, q2, q3, q4⟩ := cutN_zero hz
    have hl := cutL_length hz
    rw [h2] at hl
    refine ⟨h1, fun i p hp => ?_, q4⟩
    have hi : i < cntN (catP ps).length := by rw [← hl]; exact (List.getElem?_eq_some_iff.1 hp).1
    have hg := cutL_get hz hi
    rw [h2, hp] at hg
    have hg' := Option.some.inj hg
    have hN := (cntN_iff (catP ps).length (cntN (catP ps).length)).1 rfl
    obtain ⟨a1, a2, a3⟩ := hN
    subst hg'
    rw [hl]
    refine ⟨q1, rfl, by simp only [cutP]; omega, by simp only [cutP]; omega, by simp only [cutP]; omega, rfl, rfl, ?_⟩
    unfold pcFull
    simp only [cutP, List.length_take, List.length_drop]
    omega
  · rintro ⟨h1, h2, h3⟩
    have hfull := cat_full ps ps.length 0 (fun i p hp => by rw [Nat.zero_add]; exact (h2 i p hp).2.2.2.2.2.2.2) (by omega) h1
    obtain ⟨r1, r2, r3⟩ := hfull
    have hlen : 0 < ps.length := List.length_pos_iff.2 h1
    have hcnt : cntN (catP ps).length = ps.length := (cntN_iff _ _).2 ⟨hlen, by omega, by omega⟩
    have hlast : ∀ i, i < ps.length → ∃ p, ps[i]? = some p ∧ pcFits (headP ps) ps.length i p := fun i hi => ⟨ps[i], by simp [hi], h2 i _ (by simp [hi])⟩
    obtain ⟨p0, hp0, f0⟩ := hlast 0 hlen
    obtain ⟨pl, hpl, fl⟩ := hlast (ps.length - 1) (by omega)
    have hz : cutN (headP ps).ep (headP ps).ct (catP ps).length = 0 := by
      refine cutN_of ?_ ?_ ?_ h3
      · rw [← f0.2.1]; exact f0.1
      · have := f0.2.2; omega
      · rw [hcnt]; have := fl.2.2; omega
    refine ⟨h1, ?_⟩
    unfold cutL
    rw [if_pos hz, hcnt]
    refine List.ext_getElem? fun i => ?_
    by_cases hi : i < ps.length
    · obtain ⟨p, hp, f⟩ := hlast i hi
      rw [hp]
      simp only [List.getElem?_map, List.getElem?_range hi, Option.map_some, Option.some.injEq]
      obtain ⟨g1, g2, g3, g4, g5, g6, g7, g8⟩ := f
      unfold cutP
      rw [r1 i p hp, ← g6, ← g7, ← g2, show (headP ps).ct + i = p.ct by omega]
    · rw [List.getElem?_eq_none (by simpa using hi), List.getElem?_eq_none (by omega)]

end Go.Proofs.Ytcedfpckjdobpaa

/- H43. -/
import Derived.Test.YtonomiljclemnaaH40p
set_option linter.unusedVariables false
set_option linter.unusedSimpArgs false
namespace Go.Proofs.Ytonomiljclemnaa
open Go.RowKit
def fitL (w g : List UInt8) (a : List Int) (d : List (List UInt8)) (i : Int) : Nat → Bool
  | 0 => decide (g = w)
  | k + 1 => fitL w g a d i k || (a.getD k 0 == i && decide (g = d.getD k []))
theorem fitL_mono {w g : List UInt8} {a : List Int} {d : List (List UInt8)} {i : Int} {k n : Nat} (h : fitL w g a d i k = true) (hk : k ≤ n) : fitL w g a d i n = true := by
  induction n with
  | zero => rw [show k = 0 by omega] at h; exact h
  | succ n ih =>
    by_cases he : k = n + 1
    · subst he; exact h
    · simp only [fitL, ih (by omega), Bool.true_or]
theorem fitL_at {w g : List UInt8} {a : List Int} {d : List (List UInt8)} {i : Int} {j n : Nat} (hj : j < n) (ha : a.getD j 0 = i) (hd : g = d.getD j []) : fitL w g a d i n = true := by
  refine fitL_mono (k := j + 1) ?_ hj
  simp only [fitL, ha, hd]
  simp
theorem fitL_drop {w g : List UInt8} {a : List Int} {d : List (List UInt8)} {i : Int} (f : Nat) : ∀ {n : Nat}, fitL w g a d i n = true → n ≤ d.length → fitL (w.drop f) (g.drop f) a (d.map (List.drop f)) i n = true
  | 0, h, _ => by simp only [fitL, decide_eq_true_eq] at h ⊢; rw [h]
  | n + 1, h, hn => by
    simp only [fitL, Bool.or_eq_true, Bool.and_eq_true, decide_eq_true_eq] at h ⊢
    rcases h with h | ⟨h1, h2⟩
    · exact .inl (fitL_drop f h (by omega))
    · refine .inr ⟨h1, ?_⟩
      rw [h2]
      simp [List.getD_eq_getElem?_getD, List.getElem?_map, List.getElem?_eq_getElem (show n < d.length by omega)]
def standL (w g : List UInt8) (a : List Int) (d : List (List UInt8)) (i tn : Int) : Prop :=
  fitL w g a d i a.length = true ∨ (0 < a.length ∧ a.getD (a.length - 1) 0 = i ∧ 0 < tn ∧ tn < 128 ∧ g.take tn.toNat = (d.getD (a.length - 1) []).take tn.toNat ∧ fitL (w.drop tn.toNat) (g.drop tn.toNat) a (d.map (List.drop tn.toNat)) i a.length = true)
theorem crQ_fit {L : List (List UInt8)} {Q : List (Int × List UInt8)} {ks : List Int} {tn : Int} (hL : ∀ l ∈ L, l.length = 128) (hQ : ∀ q ∈ Q, q.2.length = 128) (hA : ∀ q ∈ Q, 0 ≤ q.1 ∧ q.1.toNat < L.length) {i : Nat} (hi : i < L.length) :
    ∀ k, k ≤ Q.length → (∀ j, j < k → crN Q ks tn j = 0 ∨ crN Q ks tn j = 128) → ((crQ L Q ks tn k).getD i []).length = 128 ∧ fitL (L.getD i []) ((crQ L Q ks tn k).getD i []) (Q.map (·.1)) (Q.map (·.2)) (i : Int) k = true
  | 0, _, _ => by
    refine ⟨?_, by simp [crQ, fitL]⟩
    simp only [crQ]
    rw [List.getD_eq_getElem?_getD, List.getElem?_eq_getElem hi]
    exact hL _ (List.getElem_mem ..)
  | k + 1, hk, hn => by
    obtain ⟨h1, h2⟩ := crQ_fit hL hQ hA hi k (by omega) (fun j hj => hn j (by omega))
    have hq : Q.getD k (0, []) ∈ Q := by
      rw [List.getD_eq_getElem?_getD, List.getElem?_eq_getElem (by omega)]
      exact List.getElem_mem ..
    have hq1 := hA _ hq
    have hq2 := hQ _ hq
    have hlen := crQ_len L Q ks tn k
    simp only [crQ]
    by_cases he : (Q.getD k (0, [])).1.toNat = i
    · have hg : ∀ x : List UInt8, ((crQ L Q ks tn k).set (Q.getD k (0, [])).1.toNat x).getD i [] = x := fun x => by
        rw [he, List.getD_eq_getElem?_getD, List.getElem?_set_self (by omega)]; rfl
      rw [hg, he]
      rcases hn k (by omega) with h0 | h0
      · rw [h0, List.take_zero, List.nil_append, List.drop_zero]
        exact ⟨h1, by simp only [fitL, h2, Bool.true_or]⟩
      · rw [h0, List.drop_eq_nil_of_le (Nat.le_of_eq h1), List.append_nil, List.take_of_length_le (Nat.le_of_eq hq2)]
        refine ⟨hq2, fitL_at (j := k) (by omega) ?_ ?_⟩
        · rw [List.getD_eq_getElem?_getD, List.getElem?_map, List.getElem?_eq_getElem (by omega)]
          have : Q.getD k (0, []) = Q[k]'(by omega) := by rw [List.getD_eq_getElem?_getD, List.getElem?_eq_getElem (by omega)]; rfl
          rw [this] at he hq1
          show (Q[k]'(by omega)).1 = _
          omega
        · rw [List.getD_eq_getElem?_getD, List.getD_eq_getElem?_getD, List.getElem?_map, List.getElem?_eq_getElem (by omega)]; rfl
    · have hg : ∀ x : List UInt8, ((crQ L Q ks tn k).set (Q.getD k (0, [])).1.toNat x).getD i [] = (crQ L Q ks tn k).getD i [] := fun x => by
        rw [List.getD_eq_getElem?_getD, List.getElem?_set_ne he, ← List.getD_eq_getElem?_getD]
      rw [hg]
      exact ⟨h1, by simp only [fitL, h2, Bool.true_or]⟩
theorem crN_eq (Q : List (Int × List UInt8)) (ks : List Int) (tn : Int) {k : Nat} (hk : k < Q.length) (hQ : Q.length ≤ 100000) :
    (crN Q ks tn k = 0 ∨ crN Q ks tn k = 128) ∨ (k + 1 = Q.length ∧ 0 < tn ∧ tn < 128 ∧ crN Q ks tn k = tn.toNat) := by
  unfold crN kpI
  rw [IntWalk.i64_in _ (by omega)]
  cases hc : ((k : Int) == (Q.length : Int) - 1 && decide (tn > 0) && decide (tn < 128)) with
  | true =>
    simp at hc
    exact .inr ⟨by omega, hc.1.2, hc.2, rfl⟩
  | false =>
    refine .inl ?_
    cases (decide ((k : Int) < (ks.length : Int)) && ks.getD ((k : Int).toNat) 0 != 0)
    · exact .inl rfl
    · exact .inr rfl
theorem crD_stand {L : List (List UInt8)} {Q : List (Int × List UInt8)} {ks : List Int} {tn : Int} (hL : ∀ l ∈ L, l.length = 128) (hQ : ∀ q ∈ Q, q.2.length = 128) (hA : ∀ q ∈ Q, 0 ≤ q.1 ∧ q.1.toNat < L.length) (hn : Q.length ≤ 100000) {i : Nat} (hi : i < L.length) :
    ((crD L Q ks tn).getD i []).length = 128 ∧ standL (L.getD i []) ((crD L Q ks tn).getD i []) (Q.map (·.1)) (Q.map (·.2)) (i : Int) tn := by
  unfold crD standL
  rw [List.length_map]
  by_cases hall : ∀ j, j < Q.length → crN Q ks tn j = 0 ∨ crN Q ks tn j = 128
  · obtain ⟨h1, h2⟩ := crQ_fit (ks := ks) (tn := tn) hL hQ hA hi Q.length (Nat.le_refl _) hall
    exact ⟨h1, .inl h2⟩
  · obtain ⟨j, hj⟩ := Classical.not_forall.1 hall
    obtain ⟨hj, hjn⟩ := Classical.not_imp.1 hj
    obtain ⟨hjl, ht0, ht1, hcn⟩ := (crN_eq Q ks tn hj hn).resolve_left hjn
    have hpre : ∀ m, m < j → crN Q ks tn m = 0 ∨ crN Q ks tn m = 128 := fun m hm => (crN_eq Q ks tn (by omega) hn).resolve_right (fun h => by omega)
    obtain ⟨h1, h2⟩ := crQ_fit (ks := ks) (tn := tn) hL hQ hA hi j (by omega) hpre
    have hq : Q.getD j (0, []) = Q[j] := by rw [List.getD_eq_getElem?_getD, List.getElem?_eq_getElem hj]; rfl
    have hqm : Q[j] ∈ Q := List.getElem_mem ..
    have hq1 := hA _ hqm
    have hq2 := hQ _ hqm
    have hlen := crQ_len L Q ks tn j
    rw [← hjl]
    simp only [crQ]
    rw [hq, hcn, show j + 1 - 1 = j by omega]
    have a1 : (Q.map (·.1)).getD j 0 = Q[j].1 := by rw [List.getD_eq_getElem?_getD, List.getElem?_map, List.getElem?_eq_getElem hj]; rfl
    have a2 : (Q.map (·.2)).getD j [] = Q[j].2 := by rw [List.getD_eq_getElem?_getD, List.getElem?_map, List.getElem?_eq_getElem hj]; rfl
    by_cases he : Q[j].1.toNat = i
    · have hg : ∀ x : List UInt8, ((crQ L Q ks tn j).set Q[j].1.toNat x).getD i [] = x := fun x => by
        rw [he, List.getD_eq_getElem?_getD, List.getElem?_set_self (by omega)]; rfl
      rw [hg, he]
      have hlt : (Q[j].2.take tn.toNat).length = tn.toNat := by rw [List.length_take, hq2]; omega
      refine ⟨by rw [List.length_append, hlt, List.length_drop, h1]; omega, .inr ⟨by omega, by rw [a1]; omega, ht0, ht1, ?_, ?_⟩⟩
      · rw [a2, List.take_append_of_le_length (Nat.le_of_eq hlt.symm), List.take_take]; simp
      · rw [List.drop_append_of_le_length (Nat.le_of_eq hlt.symm), List.drop_eq_nil_of_le (Nat.le_of_eq hlt), List.nil_append]
        exact fitL_mono (fitL_drop tn.toNat h2 (by rw [List.length_map]; omega)) (by omega)
    · have hg : ∀ x : List UInt8, ((crQ L Q ks tn j).set Q[j].1.toNat x).getD i [] = (crQ L Q ks tn j).getD i [] := fun x => by
        rw [List.getD_eq_getElem?_getD, List.getElem?_set_ne he, ← List.getD_eq_getElem?_getD]
      rw [hg]
      exact ⟨h1, .inl (fitL_mono h2 (by omega))⟩
def lsQ (m : List DoD) (k : Nat) : List (Int × List UInt8) := (List.range k).map fun i => (withI (m.getD i DoD.zero).at' 0 5, sectO (m.getD i DoD.zero).b)
theorem lsQ_succ (m : List DoD) (k : Nat) : lsQ m (k + 1) = lsQ m k ++ [(withI (m.getD k DoD.zero).at' 0 5, sectO (m.getD k DoD.zero).b)] := by
  unfold lsQ; rw [List.range_succ, List.map_append]; rfl
theorem lsQ_len (m : List DoD) (k : Nat) : (lsQ m k).length = k := by unfold lsQ; rw [List.length_map, List.length_range]
theorem lsQ_ok (m : List DoD) (k : Nat) : ∀ q ∈ lsQ m k, q.2.length = 128 ∧ 0 ≤ q.1 ∧ q.1.toNat < 6 := fun q hq => by
  unfold lsQ at hq
  obtain ⟨i, _, rfl⟩ := List.mem_map.1 hq
  have h := withI_in (m.getD i DoD.zero).at' (show (0 : Int) ≤ 5 by decide)
  exact ⟨sect_len _, h.1, by show (withI _ 0 5).toNat < 6; omega⟩
end Go.Proofs.Ytonomiljclemnaa

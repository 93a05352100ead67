/- H38 H40. -/
import Derived.Test.YtonomiljclemnaaH37p
set_option linter.unusedVariables false
set_option linter.unusedSimpArgs false
namespace Go.Proofs.Ytonomiljclemnaa
open Go.RowKit
def pst (d : DoD) (s : DS) : DS :=
  bif d.kind == 0 then wrS 6 (withI d.at' 0 5) (sectO d.b) s else bif d.kind == 1 then flS 6 s else bif d.kind == 4 then crS d.ks d.n s else s
theorem pst_inv {k : Nat} {s : DS} (h : DInv 6 k s) (hk : k ≤ 100000) (d : DoD) : DInv 6 (k + 1) (pst d s) := by
  unfold pst
  cases d.kind == 0
  · cases d.kind == 1
    · cases d.kind == 4
      · exact h.mono
      · exact cr_inv h hk _ _
    · exact fl_inv h (by decide) hk
  · exact wr_inv h (by decide) _ _
theorem pst_free {d : DoD} {s : DS} (h : s.fd = false ∧ s.off = false) : (pst d s).fd = false ∧ (pst d s).off = false := by
  unfold pst
  cases d.kind == 0
  · cases d.kind == 1
    · cases d.kind == 4
      · exact h
      · exact ⟨rfl, rfl⟩
    · refine ⟨h.1, ?_⟩
      show flOff ((6 : Nat) : Int) s.off s.fd s.fu = false
      rw [h.1, h.2]; rfl
  · refine ⟨h.1, ?_⟩
    show wrOff ((6 : Nat) : Int) _ _ s.off s.fd s.fu = false
    unfold wrOff stOff
    rw [h.1, h.2]
    cases wrB ((6 : Nat) : Int) (withI d.at' 0 5) _ <;> rfl
def pdS (l : List DoD) (s : DS) : Nat → DS
  | 0 => s
  | k + 1 => pst (l.getD k DoD.zero) (pdS l s k)
theorem pdS_inv {l : List DoD} {s : DS} (h0 : DInv 6 0 s) : ∀ k, k ≤ 100000 → DInv 6 k (pdS l s k)
  | 0, _ => h0
  | k + 1, hk => pst_inv (pdS_inv h0 k (by omega)) (by omega) _
theorem pdS_free {l : List DoD} {s : DS} (h0 : s.fd = false ∧ s.off = false) : ∀ k, (pdS l s k).fd = false ∧ (pdS l s k).off = false
  | 0 => h0
  | k + 1 => pst_free (pdS_free h0 k)
def pdE (l : List DoD) : DS := pdS l (new0 6) (min l.length 30)
theorem pdE_inv (l : List DoD) : DInv 6 30 (pdE l) := by
  have h := pdS_inv (l := l) (new0_inv 6) (min l.length 30) (by omega)
  exact ⟨h.L, h.len, h.Q, by have := h.k; show (pdS l (new0 6) (min l.length 30)).Q.length ≤ 30; omega, h.at', h.fu, h.off⟩
theorem pdE_free (l : List DoD) : (pdE l).fd = false ∧ (pdE l).off = false := pdS_free ⟨rfl, rfl⟩ _
end Go.Proofs.Ytonomiljclemnaa
set_option linter.unusedVariables false
set_option linter.unusedSimpArgs false
namespace Go.Proofs.Ytonomiljclemnaa
open Go.RowKit
def fst1 (d : DoD) (s : DS) : DS := bif d.kind == 1 then flS 6 s else wrS 6 (withI d.at' 0 5) (sectO d.b) s
theorem wr_at {d : DoD} : (wrongI 6 (withI d.at' 0 5) == 0) = true := by
  have h := withI_in d.at' (show (0 : Int) ≤ 5 by decide)
  unfold wrongI
  have h1 : ((6 : Int) == 0) = false := rfl
  have h2 : (decide (withI d.at' 0 5 < 0) || decide (withI d.at' 0 5 ≥ 6)) = false := by
    rw [Bool.or_eq_false_iff, decide_eq_false_iff_not, decide_eq_false_iff_not]; omega
  rw [h1, h2]; rfl
theorem wr_b {d : DoD} : wrB 6 (withI d.at' 0 5) ((sectO d.b).length : Int) = true := by
  unfold wrB
  rw [wr_at, sect_len]; rfl
theorem fst1_st (d : DoD) (s : DS) : (fst1 d s).fd = s.fd ∧ (fst1 d s).fu = stFu s.off s.fd s.fu ∧ (fst1 d s).off = stOff s.off s.fd s.fu := by
  unfold fst1
  cases d.kind == 1
  · show (wrS 6 _ _ s).fd = _ ∧ (wrS 6 _ _ s).fu = _ ∧ (wrS 6 _ _ s).off = _
    refine ⟨rfl, ?_, ?_⟩
    · show wrFu ((6 : Nat) : Int) _ _ _ _ _ = _
      unfold wrFu
      rw [show ((6 : Nat) : Int) = 6 from rfl, wr_b]; rfl
    · show wrOff ((6 : Nat) : Int) _ _ _ _ _ = _
      unfold wrOff
      rw [show ((6 : Nat) : Int) = 6 from rfl, wr_b]; rfl
  · exact ⟨rfl, rfl, rfl⟩
structure FInv (n : Int) (k : Nat) (s : DS) : Prop where
  d : DInv 6 (30 + k) s
  fd : s.fd = true
  fu : s.fu = if n ≤ k then 0 else n - k
  off : s.off = decide (n < k)
theorem FInv.st {n : Int} {k : Nat} {s : DS} (h : FInv n k s) : stOff s.off s.fd s.fu = decide (n ≤ k) := by
  unfold stOff
  rw [h.off, h.fd, h.fu]
  by_cases h1 : n ≤ k
  · simp [h1]
  · simp [h1]; omega
theorem FInv.next {n : Int} {k : Nat} {s : DS} (h : FInv n k s) (hn : n ≤ 20) (hk : k ≤ 1000) (d : DoD) : FInv n (k + 1) (fst1 d s) := by
  obtain ⟨h1, h2, h3⟩ := fst1_st d s
  refine ⟨?_, h1.trans h.fd, ?_, ?_⟩
  · unfold fst1
    cases d.kind == 1
    · exact wr_inv h.d (by decide) _ _
    · exact fl_inv h.d (by decide) (show 30 + k ≤ 100000 by omega)
  · rw [h2]
    unfold stFu
    rw [h.off, h.fd, h.fu]
    by_cases h1 : n ≤ k
    · rw [if_pos h1, if_pos (by omega)]
      simp
    · rw [if_neg h1]
      have h4 : (!decide (n < (k : Int)) && (true && !(n - (k : Int) == 0))) = true := by
        have h5 : (n - (k : Int) == 0) = false := beq_eq_false_iff_ne.2 (by omega)
        rw [h5, decide_eq_false (by omega)]; rfl
      rw [h4, cond_true, IntWalk.i64_in _ (by omega)]
      by_cases h6 : n ≤ ((k + 1 : Nat) : Int)
      · rw [if_pos h6]; omega
      · rw [if_neg h6]; omega
  · rw [h3, h.st]
    congr 1
    exact propext ⟨fun h => by omega, fun h => by omega⟩
end Go.Proofs.Ytonomiljclemnaa

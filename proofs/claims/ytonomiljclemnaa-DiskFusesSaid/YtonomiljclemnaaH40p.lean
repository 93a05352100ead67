/- H40. -/
import Derived.Test.YtonomiljclemnaaH38p
set_option linter.unusedVariables false
set_option linter.unusedSimpArgs false
namespace Go.Proofs.Ytonomiljclemnaa
open Go.RowKit
def fst1 (d : DoD) (s : DS) : DS := bif d.kind == 1 then flS 6 s else wrS 6 (withI d.at' 0 5) (sectO d.b) s
def fsE (d : DoD) (s : DS) : Int := bif d.kind == 1 then flE 6 s.off s.fd s.fu else wrE 6 (withI d.at' 0 5) ((sectO d.b).length : Int) s.off s.fd s.fu
def fsS (m : List DoD) (s : DS) : Nat → DS
  | 0 => s
  | k + 1 => fst1 (m.getD k DoD.zero) (fsS m s k)
theorem wr_at {d : DoD} : (wrongI 6 (withI d.at' 0 5) == 0) = true := by
  have h := withI_in d.at' (show (0 : Int) ≤ 5 by decide)
  unfold wrongI
  have h1 : ((6 : Int) == 0) = false := rfl
  have h2 : (decide (withI d.at' 0 5 < 0) || decide (withI d.at' 0 5 ≥ 6)) = false := by
    rw [Bool.or_eq_false_iff, decide_eq_false_iff_not, decide_eq_false_iff_not]; omega
  rw [h1, h2]; rfl
theorem wr_b {d : DoD} : wrB 6 (withI d.at' 0 5) ((sectO d.b).length : Int) = true := by
  unfold wrB
  rw [wr_at, sect_len]; rfl
theorem fsE_eq (d : DoD) (s : DS) : fsE d s = bif stOff s.off s.fd s.fu then 7 else 0 := by
  unfold fsE
  cases d.kind == 1
  · show wrE _ _ _ _ _ _ = _
    have h : wrongI 6 (withI d.at' 0 5) = 0 := by simpa using (wr_at (d := d))
    unfold wrE
    rw [h, sect_len]; rfl
  · rw [cond_true]
    unfold flE
    rfl
theorem fst1_st (d : DoD) (s : DS) : (fst1 d s).fd = s.fd ∧ (fst1 d s).fu = stFu s.off s.fd s.fu ∧ (fst1 d s).off = stOff s.off s.fd s.fu := by
  unfold fst1
  cases d.kind == 1
  · show (wrS 6 _ _ s).fd = _ ∧ (wrS 6 _ _ s).fu = _ ∧ (wrS 6 _ _ s).off = _
    refine ⟨rfl, ?_, ?_⟩
    · show wrFu ((6 : Nat) : Int) _ _ _ _ _ = _
      unfold wrFu
      rw [show ((6 : Nat) : Int) = 6 from rfl, wr_b]; rfl
    · show wrOff ((6 : Nat) : Int) _ _ _ _ _ = _
      unfold wrOff
      rw [show ((6 : Nat) : Int) = 6 from rfl, wr_b]; rfl
  · exact ⟨rfl, rfl, rfl⟩
theorem fst1_dead {d : DoD} {s : DS} (h : stOff s.off s.fd s.fu = true) : (fst1 d s).L = s.L ∧ (fst1 d s).Q = s.Q := by
  unfold fst1
  cases d.kind == 1
  · show (wrS 6 _ _ s).L = _ ∧ (wrS 6 _ _ s).Q = _
    refine ⟨rfl, ?_⟩
    show wrQ _ _ _ _ _ _ _ = _
    unfold wrQ
    rw [h]; simp
  · show (flS 6 s).L = _ ∧ (flS 6 s).Q = _
    have h7 : flE ((6 : Nat) : Int) s.off s.fd s.fu = 7 := by unfold flE; rw [h]; rfl
    refine ⟨?_, ?_⟩
    · show flL _ _ _ = _
      rw [h7]; rfl
    · show flP _ _ = _
      rw [h7]; rfl
structure FInv (n : Int) (k : Nat) (s : DS) : Prop where
  d : DInv 6 (30 + k) s
  fd : s.fd = true
  fu : s.fu = if n ≤ k then 0 else n - k
  off : s.off = decide (n < k)
theorem FInv.st {n : Int} {k : Nat} {s : DS} (h : FInv n k s) : stOff s.off s.fd s.fu = decide (n ≤ k) := by
  unfold stOff
  rw [h.off, h.fd, h.fu]
  by_cases h1 : n ≤ k
  · simp [h1]
  · simp [h1]; omega
theorem FInv.next {n : Int} {k : Nat} {s : DS} (h : FInv n k s) (hn : n ≤ 20) (hk : k ≤ 1000) (d : DoD) : FInv n (k + 1) (fst1 d s) := by
  obtain ⟨h1, h2, h3⟩ := fst1_st d s
  refine ⟨?_, h1.trans h.fd, ?_, ?_⟩
  · unfold fst1
    cases d.kind == 1
    · exact wr_inv h.d (by decide) _ _
    · exact fl_inv h.d (by decide) (show 30 + k ≤ 100000 by omega)
  · rw [h2]
    unfold stFu
    rw [h.off, h.fd, h.fu]
    by_cases h1 : n ≤ k
    · rw [if_pos h1, if_pos (by omega)]
      simp
    · rw [if_neg h1]
      have h4 : (!decide (n < (k : Int)) && (true && !(n - (k : Int) == 0))) = true := by
        have h5 : (n - (k : Int) == 0) = false := beq_eq_false_iff_ne.2 (by omega)
        rw [h5, decide_eq_false (by omega)]; rfl
      rw [h4, cond_true, IntWalk.i64_in _ (by omega)]
      by_cases h6 : n ≤ ((k + 1 : Nat) : Int)
      · rw [if_pos h6]; omega
      · rw [if_neg h6]; omega
  · rw [h3, h.st]
    congr 1
    exact propext ⟨fun h => by omega, fun h => by omega⟩
def fs0 (l : List DoD) (n : Int) : DS := ⟨(pdE l).L, (pdE l).Q, n, true, false⟩
theorem fs0_inv (l : List DoD) {n : Int} (h : 0 ≤ n ∧ n ≤ 20) : FInv n 0 (fs0 l n) := by
  have hi := pdE_inv l
  refine ⟨⟨hi.L, hi.len, hi.Q, hi.k, hi.at', ⟨h.1, by show n ≤ _; omega⟩, fun h => by cases h⟩, rfl, ?_, ?_⟩
  · show n = _
    by_cases h1 : n ≤ ((0 : Nat) : Int)
    · rw [if_pos h1]; omega
    · rw [if_neg h1]; omega
  · show false = _
    rw [decide_eq_false]; omega
theorem fsS_inv {l m : List DoD} {n : Int} (h : 0 ≤ n ∧ n ≤ 20) : ∀ k, k ≤ 1000 → FInv n k (fsS m (fs0 l n) k)
  | 0, _ => fs0_inv l h
  | k + 1, hk => (fsS_inv h k (by omega)).next h.2 (by omega) _
end Go.Proofs.Ytonomiljclemnaa

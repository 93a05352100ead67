/- H38. -/
import Derived.Test.YtonomiljclemnaaH37p
set_option linter.unusedVariables false
set_option linter.unusedSimpArgs false
namespace Go.Proofs.Ytonomiljclemnaa
open Go.RowKit
def pst (d : DoD) (s : DS) : DS :=
  bif d.kind == 0 then wrS 6 (withI d.at' 0 5) (sectO d.b) s else bif d.kind == 1 then flS 6 s else bif d.kind == 4 then crS d.ks d.n s else s
theorem pst_inv {k : Nat} {s : DS} (h : DInv 6 k s) (hk : k ≤ 100000) (d : DoD) : DInv 6 (k + 1) (pst d s) := by
  unfold pst
  cases d.kind == 0
  · cases d.kind == 1
    · cases d.kind == 4
      · exact h.mono
      · exact cr_inv h hk _ _
    · exact fl_inv h (by decide) hk
  · exact wr_inv h (by decide) _ _
theorem pst_free {d : DoD} {s : DS} (h : s.fd = false ∧ s.off = false) : (pst d s).fd = false ∧ (pst d s).off = false := by
  unfold pst
  cases d.kind == 0
  · cases d.kind == 1
    · cases d.kind == 4
      · exact h
      · exact ⟨rfl, rfl⟩
    · refine ⟨h.1, ?_⟩
      show flOff ((6 : Nat) : Int) s.off s.fd s.fu = false
      rw [h.1, h.2]; rfl
  · refine ⟨h.1, ?_⟩
    show wrOff ((6 : Nat) : Int) _ _ s.off s.fd s.fu = false
    unfold wrOff stOff
    rw [h.1, h.2]
    cases wrB ((6 : Nat) : Int) (withI d.at' 0 5) _ <;> rfl
def pdS (l : List DoD) (s : DS) : Nat → DS
  | 0 => s
  | k + 1 => pst (l.getD k DoD.zero) (pdS l s k)
theorem pdS_inv {l : List DoD} {s : DS} (h0 : DInv 6 0 s) : ∀ k, k ≤ 100000 → DInv 6 k (pdS l s k)
  | 0, _ => h0
  | k + 1, hk => pst_inv (pdS_inv h0 k (by omega)) (by omega) _
theorem pdS_free {l : List DoD} {s : DS} (h0 : s.fd = false ∧ s.off = false) : ∀ k, (pdS l s k).fd = false ∧ (pdS l s k).off = false
  | 0 => h0
  | k + 1 => pst_free (pdS_free h0 k)
def pdE (l : List DoD) : DS := pdS l (new0 6) (min l.length 30)
theorem pdE_inv (l : List DoD) : DInv 6 30 (pdE l) := by
  have h := pdS_inv (l := l) (new0_inv 6) (min l.length 30) (by omega)
  exact ⟨h.L, h.len, h.Q, by have := h.k; show (pdS l (new0 6) (min l.length 30)).Q.length ≤ 30; omega, h.at', h.fu, h.off⟩
theorem pdE_free (l : List DoD) : (pdE l).fd = false ∧ (pdE l).off = false := pdS_free ⟨rfl, rfl⟩ _
end Go.Proofs.Ytonomiljclemnaa

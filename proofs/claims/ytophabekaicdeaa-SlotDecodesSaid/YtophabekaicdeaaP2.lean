/- Plain laws, shared by the codecs: noughts behind, numbers out of bytes. -/
import Derived.Test.YtophabekaicdeaaF2

set_option linter.unusedVariables false
set_option linter.unusedSimpArgs false
namespace Go.Proofs.Ytophabekaicdeaa
open Go.RowKit

/-- Noughts behind, up to a sector. -/
def padS (l : List UInt8) : List UInt8 := l ++ List.replicate (IntKind.i64.wrap (128 - (l.length : Int))).toNat 0
theorem cond_own (b : Bool) (x y : List UInt8) : (cond b (.own x) (.own y) : Tu) = .own (cond b x y) := by cases b <;> rfl
theorem WS.put_le {s : WS} (h : s.bl.length ≤ s.n) (x n : Int) : (s.put x n).bl.length ≤ (s.put x n).n := WS.put_len h x n
theorem out_len {s : WS} (h : s.bl.length ≤ s.n) : s.out.length ≤ (s.n + 7) / 8 := by
  unfold WS.out
  split
  · rw [packed_length]; omega
  · exact Nat.zero_le _
theorem pad_ok {l : List UInt8} (h : l.length ≤ 128) : 0 ≤ IntKind.i64.wrap (128 - (l.length : Int)) ∧ l.length + (IntKind.i64.wrap (128 - (l.length : Int))).toNat ≤ 1000000 := by
  rw [IntWalk.i64_in _ (by omega)]
  omega
theorem pads_eq {l : List UInt8} (h : l.length ≤ 128) : padS l = padTo 128 l := by
  unfold padS padTo
  rw [IntWalk.i64_in _ (by omega)]
  congr 2
  omega
theorem of_128 {l : List UInt8} (h : ((l.length : Int) != 128) = false) : l.length = 128 := by
  simp at h; omega
theorem kn_128 {l : List UInt8} (h : ((l.length : Int) != 128) = false) {a : Int} (ha : a ≤ 1024) : a ≤ ((bitKS l).n : Int) := by
  have := of_128 h
  show a ≤ ((8 * l.length : Nat) : Int)
  omega
theorem RS.num_in (s : RS) (n : Int) : 0 ≤ (s.num n : Int) ∧ (s.num n : Int) < 18446744073709551616 := by
  refine ⟨Int.natCast_nonneg _, ?_⟩
  unfold RS.num getV
  split
  · rename_i h
    have h1 : (bitsFrom s.l s.at' n.toNat).length ≤ n.toNat := by unfold bitsFrom; exact List.length_take_le _ _
    have h2 := val_lt (bitsFrom s.l s.at' n.toNat)
    have h3 : 2 ^ (bitsFrom s.l s.at' n.toNat).length ≤ 2 ^ 64 := Nat.pow_le_pow_right (by decide) (by omega)
    have : val (bitsFrom s.l s.at' n.toNat) < 2 ^ 64 := Nat.lt_of_lt_of_le h2 h3
    have e : (2 : Nat) ^ 64 = 18446744073709551616 := by decide
    rw [e] at this
    omega
  · decide
def qB (l : List UInt8) (a b : Nat) : Nat := val (((bitsAll l).drop a).take (b - a))
theorem qB_in (l : List UInt8) (a b : Nat) (h : b - a ≤ 64) : (qB l a b : Int) < 18446744073709551616 := by
  unfold qB
  have h1 := val_lt (((bitsAll l).drop a).take (b - a))
  have h2 : (((bitsAll l).drop a).take (b - a)).length ≤ b - a := List.length_take_le _ _
  have h3 : 2 ^ (((bitsAll l).drop a).take (b - a)).length ≤ 2 ^ 64 := Nat.pow_le_pow_right (by decide) (by omega)
  have e : (2 : Nat) ^ 64 = 18446744073709551616 := by decide
  rw [e] at h3
  omega
theorem cond_or {α : Type} (a b : Bool) (x y : α) : cond a x (cond b x y) = cond (a || b) x y := by cases a <;> rfl
end Go.Proofs.Ytophabekaicdeaa

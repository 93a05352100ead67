/- G2. -/
import Derived.Test.YtonomiljclemnaaG1p
import Derived.Test.YtonomiljclemnaaOpenp
import Derived.Test.YtonomiljclemnaaG0p
set_option linter.unusedVariables false
set_option linter.unusedSimpArgs false
namespace Go.Proofs.Ytonomiljclemnaa
open Go.RowKit
def getAt (l : List UInt8) (at' : Nat) (err n : Int) : Nat := if err = 0 ∧ 0 ≤ n ∧ n ≤ 64 ∧ (at' : Int) + n ≤ 8 * (l.length : Int) then at' + n.toNat else at'
def getE (l : List UInt8) (at' : Nat) (err n : Int) : Int := if err ≠ 0 then err else if n < 0 ∨ 64 < n then 2 else if 8 * (l.length : Int) < (at' : Int) + n then 3 else 0
theorem WrIs.fge {w : World} {B wb : Nat} {l : List Bool} {err : Int} (h : WrIs w B wb l err) : ∀ k, WrF w wb k → B ≤ k := by
  obtain ⟨ao, cap, h1, h2, h3⟩ := h
  rintro k (rfl | ⟨v, q1, q2⟩)
  · exact h2
  · rw [cell_of_blk h1] at q1
    simp only [List.size_toArray, List.getElem?_toArray, List.getElem?_cons_succ, List.getElem?_cons_zero, Option.some.injEq] at q1
    subst q1
    exact (owns_block h3 q2).1
theorem WrIs.below {w w' : World} {B wb : Nat} {l : List Bool} {err : Int} (h : WrIs w B wb l err) (hm : WrMod wb w w') : Below B w w' :=
  hm.1.below (by obtain ⟨_, _, h1, h2, _⟩ := h; have := (Array.getElem?_eq_some_iff.1 h1).1; omega) h.fge
theorem RdIs.below {w w' : World} {B rb : Nat} {l : List UInt8} {at' : Nat} {err : Int} (h : RdIs w B rb l at' err) (hm : Mod (fun k => k = rb) w w') : Below B w w' :=
  hm.below (by have := h.lt; obtain ⟨_, _, _, h2, _⟩ := h; omega) fun k hk => by obtain ⟨_, _, _, h2, _⟩ := h; omega
end Go.Proofs.Ytonomiljclemnaa
set_option linter.unusedVariables false
set_option linter.unusedSimpArgs false
namespace Go.Proofs.Ytonomiljclemnaa
open Go.RowKit
end Go.Proofs.Ytonomiljclemnaa
set_option linter.unusedVariables false
set_option linter.unusedSimpArgs false
namespace Go.Proofs.Ytonomiljclemnaa
open Go.RowKit
end Go.Proofs.Ytonomiljclemnaa
set_option linter.unusedVariables false
set_option linter.unusedSimpArgs false
namespace Go.Proofs.Ytonomiljclemnaa
open Go.RowKit
end Go.Proofs.Ytonomiljclemnaa
set_option linter.unusedVariables false
set_option linter.unusedSimpArgs false
namespace Go.Proofs.Ytonomiljclemnaa
open Go.RowKit
end Go.Proofs.Ytonomiljclemnaa
set_option linter.unusedVariables false
set_option linter.unusedSimpArgs false
namespace Go.Proofs.Ytonomiljclemnaa
open Go.RowKit
def putL (bl : List Bool) (err : Int) (x : Nat) (n : Int) : List Bool := if err = 0 ∧ fitsN x n then bl ++ bitsOf x n.toNat else bl
def putE (err : Int) (x : Nat) (n : Int) : Int := if err = 0 ∧ ¬ fitsN x n then 2 else err
def textL (bl : List Bool) (err : Int) (s : ByteArray) : List Bool := if err = 0 then bl ++ textBits s.data.toList else bl
end Go.Proofs.Ytonomiljclemnaa
set_option linter.unusedVariables false
set_option linter.unusedSimpArgs false
namespace Go.Proofs.Ytonomiljclemnaa
open Go.RowKit
def bb (b : Bool) : UInt8 := if b then 1 else 0
def bbs (l : List Bool) : List UInt8 := l.map bb
theorem bbs_length (l : List Bool) : (bbs l).length = l.length := by simp [bbs]
theorem bbs_append (l m : List Bool) : bbs (l ++ m) = bbs l ++ bbs m := List.map_append
end Go.Proofs.Ytonomiljclemnaa

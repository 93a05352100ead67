/- DiskNobody: what its call answers. -/
import Derived.Test.YtonomiljclemnaaH22

set_option linter.unusedVariables false
namespace Go.Proofs.Ytonomiljclemnaa
open Go.RowKit

theorem diskNobody_calls (i : Int) (ao : Option Addr) (cap : Nat) (b : List UInt8) (W : World) (_ : -9223372036854775808 ≤ i ∧ i ≤ 9223372036854775807) (h : Bs W (.slice ao b.length cap) b) : Calls Try.prog 6 #[.int .i64 i, .slice ao b.length cap] W fun e w' => e = .returned (.bool true) ∧ Below W.heap.size W w' :=
  (C_nobody_ok [.one (.v (.int .i64 i)), .one (.obj 0)] [⟨.us (.byt b), false⟩] _ _ rfl (fun p hp => by
    obtain ⟨_, _, _, h2, h3, _⟩ := h.open
    simp at hp; exact hp.mpr (by omega)) W [.slice ao b.length cap] [.int .i64 i, .slice ao b.length cap] (args_byt (J := dkI) (args_nil Id' W) (fun n hn => by cases hn) h) ⟨rfl, rfl, trivial⟩).mono fun x w' h => ⟨h.1, h.2.below⟩
end Go.Proofs.Ytonomiljclemnaa

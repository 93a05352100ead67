/-
  No cell of these rows narrows 'for every input' (looked for: loops, veiled, ifaces, maps, wideKeys, modest, calm, conditions, laid).
  DERIVED. THE GIVEN ROWS OF THIS SEAT. 6 by the template 'for every input the law returns true; each argument reads behind the call as it read before'; 0 by the template 'total and deterministic' (their statements: YtcedfpckjdobpaaTotals.lean).
  GIVEN WITH THE SEED: the statements are not yours to turn. If you find one false, say at which input.
  Laid BY PROGRAM, IN A SANDBOX (cutbox-rows.mjs): the forced cells as the released guide's own fill.sh prints them over the translation 35b65326be04486b… (all of the seat's roots in one cut). By AI agents, Wed Nov 11 2026. No macro, syntax, notation, axiom, sorry.
-/
import Derived.Test.YtcedfpckjdobpaaChecked
import GoSem.Claim
import GoSem.ClaimJoined
import GoSem.ClaimMapViews
import Derived.JoinedTies
import Derived.KernelRfl
namespace Go.Proofs.Ytcedfpckjdobpaa
/- THE CELL 'sum', in the pinned program and in every row, IS THE sha256 OF THE DUMP (.gsa) THAT YtcedfpckjdobpaaProg.lean LOADS. Nothing in Lean hashes anything: it is a label: what it is worth is what the hold of that sum in a sandbox is worth. -/
noncomputable def Try.pinned : Pinned := { name := "ytcedfpckjdobpaa", sum := "35b65326be04486bfefc8b1a552b0fc3930f7ead86a2e1af199e2d781a127bdb", checked := Try.checked }
namespace Rows
def none {H : Type} : Left H := { results := [], args := [] }

/-- 'tenancylaw04.LapStamps': WHATEVER THE INPUT: true; the input reads as it did. -/
def lapStampsSpec : ChangeSpec := { name := "lapStamps", fn := fun _ => fun
  | [d1, d2, d3] => { results := [.lit (.bool true)], args := [d1, d2, d3] }
  | _ => none }
def lapStampsRow : OpenClaim := { program := "ytcedfpckjdobpaa", sum := "35b65326be04486bfefc8b1a552b0fc3930f7ead86a2e1af199e2d781a127bdb", func := "tenancy/tenancylaw04.LapStamps", spec := "lapStamps", apart := false }
def LapStampsSaid : Prop := lapStampsRow.holds Try.pinned (OpenSpec.ofChange lapStampsSpec)

/-- ITS FALSE NEIGHBOUR: 'it returns false'. Refute it at one input. -/
def lapStampsWrong : ChangeSpec := { name := "lapStamps", fn := fun _ => fun
  | [d1, d2, d3] => { results := [.lit (.bool false)], args := [d1, d2, d3] }
  | _ => none }
def LapStampsWrongFalsely : Prop := lapStampsRow.holds Try.pinned (OpenSpec.ofChange lapStampsWrong)

/-- 'tenancylaw04.LapTorn': WHATEVER THE INPUT: true; the input reads as it did. -/
def lapTornSpec : ChangeSpec := { name := "lapTorn", fn := fun _ => fun
  | [d1, d2, d3] => { results := [.lit (.bool true)], args := [d1, d2, d3] }
  | _ => none }
def lapTornRow : OpenClaim := { program := "ytcedfpckjdobpaa", sum := "35b65326be04486bfefc8b1a552b0fc3930f7ead86a2e1af199e2d781a127bdb", func := "tenancy/tenancylaw04.LapTorn", spec := "lapTorn", apart := false }
def LapTornSaid : Prop := lapTornRow.holds Try.pinned (OpenSpec.ofChange lapTornSpec)

/-- ITS FALSE NEIGHBOUR: 'it returns false'. Refute it at one input. -/
def lapTornWrong : ChangeSpec := { name := "lapTorn", fn := fun _ => fun
  | [d1, d2, d3] => { results := [.lit (.bool false)], args := [d1, d2, d3] }
  | _ => none }
def LapTornWrongFalsely : Prop := lapTornRow.holds Try.pinned (OpenSpec.ofChange lapTornWrong)

/-- 'tenancylaw04.LapSeals': WHATEVER THE INPUT: true; the input reads as it did. -/
def lapSealsSpec : ChangeSpec := { name := "lapSeals", fn := fun _ => fun
  | [d] => { results := [.lit (.bool true)], args := [d] }
  | _ => none }
def lapSealsRow : OpenClaim := { program := "ytcedfpckjdobpaa", sum := "35b65326be04486bfefc8b1a552b0fc3930f7ead86a2e1af199e2d781a127bdb", func := "tenancy/tenancylaw04.LapSeals", spec := "lapSeals", apart := false }
def LapSealsSaid : Prop := lapSealsRow.holds Try.pinned (OpenSpec.ofChange lapSealsSpec)

/-- ITS FALSE NEIGHBOUR: 'it returns false'. Refute it at one input. -/
def lapSealsWrong : ChangeSpec := { name := "lapSeals", fn := fun _ => fun
  | [d] => { results := [.lit (.bool false)], args := [d] }
  | _ => none }
def LapSealsWrongFalsely : Prop := lapSealsRow.holds Try.pinned (OpenSpec.ofChange lapSealsWrong)

/-- 'tenancylaw04.LapUnseals': WHATEVER THE INPUT: true; the input reads as it did. -/
def lapUnsealsSpec : ChangeSpec := { name := "lapUnseals", fn := fun _ => fun
  | [d] => { results := [.lit (.bool true)], args := [d] }
  | _ => none }
def lapUnsealsRow : OpenClaim := { program := "ytcedfpckjdobpaa", sum := "35b65326be04486bfefc8b1a552b0fc3930f7ead86a2e1af199e2d781a127bdb", func := "tenancy/tenancylaw04.LapUnseals", spec := "lapUnseals", apart := false }
def LapUnsealsSaid : Prop := lapUnsealsRow.holds Try.pinned (OpenSpec.ofChange lapUnsealsSpec)

/-- ITS FALSE NEIGHBOUR: 'it returns false'. Refute it at one input. -/
def lapUnsealsWrong : ChangeSpec := { name := "lapUnseals", fn := fun _ => fun
  | [d] => { results := [.lit (.bool false)], args := [d] }
  | _ => none }
def LapUnsealsWrongFalsely : Prop := lapUnsealsRow.holds Try.pinned (OpenSpec.ofChange lapUnsealsWrong)

/-- 'tenancylaw04.LapCuts': WHATEVER THE INPUT: true; the input reads as it did. -/
def lapCutsSpec : ChangeSpec := { name := "lapCuts", fn := fun _ => fun
  | [d1, d2, d3, d4] => { results := [.lit (.bool true)], args := [d1, d2, d3, d4] }
  | _ => none }
def lapCutsRow : OpenClaim := { program := "ytcedfpckjdobpaa", sum := "35b65326be04486bfefc8b1a552b0fc3930f7ead86a2e1af199e2d781a127bdb", func := "tenancy/tenancylaw04.LapCuts", spec := "lapCuts", apart := false }
def LapCutsSaid : Prop := lapCutsRow.holds Try.pinned (OpenSpec.ofChange lapCutsSpec)

/-- ITS FALSE NEIGHBOUR: 'it returns false'. Refute it at one input. -/
def lapCutsWrong : ChangeSpec := { name := "lapCuts", fn := fun _ => fun
  | [d1, d2, d3, d4] => { results := [.lit (.bool false)], args := [d1, d2, d3, d4] }
  | _ => none }
def LapCutsWrongFalsely : Prop := lapCutsRow.holds Try.pinned (OpenSpec.ofChange lapCutsWrong)

/-- 'tenancylaw04.LapJoins': WHATEVER THE INPUT: true; the input reads as it did. -/
def lapJoinsSpec : ChangeSpec := { name := "lapJoins", fn := fun _ => fun
  | [d1, d2, d3, d4] => { results := [.lit (.bool true)], args := [d1, d2, d3, d4] }
  | _ => none }
def lapJoinsRow : OpenClaim := { program := "ytcedfpckjdobpaa", sum := "35b65326be04486bfefc8b1a552b0fc3930f7ead86a2e1af199e2d781a127bdb", func := "tenancy/tenancylaw04.LapJoins", spec := "lapJoins", apart := false }
def LapJoinsSaid : Prop := lapJoinsRow.holds Try.pinned (OpenSpec.ofChange lapJoinsSpec)

/-- ITS FALSE NEIGHBOUR: 'it returns false'. Refute it at one input. -/
def lapJoinsWrong : ChangeSpec := { name := "lapJoins", fn := fun _ => fun
  | [d1, d2, d3, d4] => { results := [.lit (.bool false)], args := [d1, d2, d3, d4] }
  | _ => none }
def LapJoinsWrongFalsely : Prop := lapJoinsRow.holds Try.pinned (OpenSpec.ofChange lapJoinsWrong)

/- THE SECOND FORM. 'bulk': how many values and letters a reading holds, each counted each time it is reached (what is shared counts as often as it is met; a slice's spare places count too). A statement '..UptoSaid' is the law's where the arguments, and the package variables that the reading takes, are together of bulk at most 1048576: NARROWER than '..Said'. Prove '..Said' where nothing that the law and all that it calls make is longer than what came in: it says more and counts as full. Else prove '..UptoSaid'. A law counts once. -/
mutual
def uptoBulk {H : Type} : DataW H → Nat
  | .lit (.string bytes) => bytes.length + 1
  | .lit _ => 1
  | .nil => 1
  | .ptr d => uptoBulk d + 1
  | .slice elems spare => uptoBulkAll elems + uptoBulkAll spare + 1
  | .agg parts => uptoBulkAll parts + 1
  | .iface _ d => uptoBulk d + 1
  | .map entries => uptoBulkEntries entries + 1
  | .held _ => 1
def uptoBulkAll {H : Type} : List (DataW H) → Nat
  | [] => 0
  | d :: r => uptoBulk d + uptoBulkAll r
def uptoBulkEntries {H : Type} : List (Lit × DataW H) → Nat
  | [] => 0
  | x :: r => uptoBulkEntry x + uptoBulkEntries r
def uptoBulkEntry {H : Type} : Lit × DataW H → Nat
  | (.string bytes, d) => bytes.length + uptoBulk d + 1
  | (_, d) => uptoBulk d + 1
 end
def uptoSmall : (H : Type) → List (DataW H) → Bool := fun _ ds => decide (uptoBulkAll ds ≤ 1048576)
def OpenSpec.upto (s : _root_.Go.ChangeSpec) : _root_.Go.OpenSpec := { _root_.Go.OpenSpec.ofChange s with cond := some uptoSmall }

/-- 'tenancylaw04.LapStamps', WHERE WHAT IT READS IS OF BULK AT MOST 1048576: true; the input reads as it did. -/
def lapStampsUptoRow : OpenClaim := { program := "ytcedfpckjdobpaa", sum := "35b65326be04486bfefc8b1a552b0fc3930f7ead86a2e1af199e2d781a127bdb", func := "tenancy/tenancylaw04.LapStamps", spec := "lapStamps", apart := false, narrowed := true }
def LapStampsUptoSaid : Prop := lapStampsUptoRow.holds Try.pinned (OpenSpec.upto lapStampsSpec)

/-- 'tenancylaw04.LapTorn', WHERE WHAT IT READS IS OF BULK AT MOST 1048576: true; the input reads as it did. -/
def lapTornUptoRow : OpenClaim := { program := "ytcedfpckjdobpaa", sum := "35b65326be04486bfefc8b1a552b0fc3930f7ead86a2e1af199e2d781a127bdb", func := "tenancy/tenancylaw04.LapTorn", spec := "lapTorn", apart := false, narrowed := true }
def LapTornUptoSaid : Prop := lapTornUptoRow.holds Try.pinned (OpenSpec.upto lapTornSpec)

/-- 'tenancylaw04.LapSeals', WHERE WHAT IT READS IS OF BULK AT MOST 1048576: true; the input reads as it did. -/
def lapSealsUptoRow : OpenClaim := { program := "ytcedfpckjdobpaa", sum := "35b65326be04486bfefc8b1a552b0fc3930f7ead86a2e1af199e2d781a127bdb", func := "tenancy/tenancylaw04.LapSeals", spec := "lapSeals", apart := false, narrowed := true }
def LapSealsUptoSaid : Prop := lapSealsUptoRow.holds Try.pinned (OpenSpec.upto lapSealsSpec)

/-- 'tenancylaw04.LapUnseals', WHERE WHAT IT READS IS OF BULK AT MOST 1048576: true; the input reads as it did. -/
def lapUnsealsUptoRow : OpenClaim := { program := "ytcedfpckjdobpaa", sum := "35b65326be04486bfefc8b1a552b0fc3930f7ead86a2e1af199e2d781a127bdb", func := "tenancy/tenancylaw04.LapUnseals", spec := "lapUnseals", apart := false, narrowed := true }
def LapUnsealsUptoSaid : Prop := lapUnsealsUptoRow.holds Try.pinned (OpenSpec.upto lapUnsealsSpec)

/-- 'tenancylaw04.LapCuts', WHERE WHAT IT READS IS OF BULK AT MOST 1048576: true; the input reads as it did. -/
def lapCutsUptoRow : OpenClaim := { program := "ytcedfpckjdobpaa", sum := "35b65326be04486bfefc8b1a552b0fc3930f7ead86a2e1af199e2d781a127bdb", func := "tenancy/tenancylaw04.LapCuts", spec := "lapCuts", apart := false, narrowed := true }
def LapCutsUptoSaid : Prop := lapCutsUptoRow.holds Try.pinned (OpenSpec.upto lapCutsSpec)

/-- 'tenancylaw04.LapJoins', WHERE WHAT IT READS IS OF BULK AT MOST 1048576: true; the input reads as it did. -/
def lapJoinsUptoRow : OpenClaim := { program := "ytcedfpckjdobpaa", sum := "35b65326be04486bfefc8b1a552b0fc3930f7ead86a2e1af199e2d781a127bdb", func := "tenancy/tenancylaw04.LapJoins", spec := "lapJoins", apart := false, narrowed := true }
def LapJoinsUptoSaid : Prop := lapJoinsUptoRow.holds Try.pinned (OpenSpec.upto lapJoinsSpec)

end Rows
end Go.Proofs.Ytcedfpckjdobpaa

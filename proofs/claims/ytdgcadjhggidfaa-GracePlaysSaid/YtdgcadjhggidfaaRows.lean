/-
  No cell of these rows narrows 'for every input' (looked for: loops, veiled, ifaces, maps, wideKeys, modest, calm, conditions, laid).
  DERIVED. THE GIVEN ROWS OF THIS SEAT. 3 by the template 'for every input the law returns true; each argument reads behind the call as it read before'; 0 by the template 'total and deterministic' (their statements: YtdgcadjhggidfaaTotals.lean).
  GIVEN WITH THE SEED: the statements are not yours to turn. If you find one false, say at which input.
  Laid BY PROGRAM, IN A SANDBOX (cutbox-rows.mjs): the forced cells as the released guide's own fill.sh prints them over the translation 87beaa74304ba3fd… (all of the seat's roots in one cut). By AI agents, Wed Nov 11 2026. No macro, syntax, notation, axiom, sorry.
-/
import Derived.Test.YtdgcadjhggidfaaChecked
import GoSem.Claim
import GoSem.ClaimJoined
import GoSem.ClaimMapViews
import Derived.JoinedTies
import Derived.KernelRfl
namespace Go.Proofs.Ytdgcadjhggidfaa
/- THE CELL 'sum', in the pinned program and in every row, IS THE sha256 OF THE DUMP (.gsa) THAT YtdgcadjhggidfaaProg.lean LOADS. Nothing in Lean hashes anything: it is a label: what it is worth is what the hold of that sum in a sandbox is worth. -/
noncomputable def Try.pinned : Pinned := { name := "ytdgcadjhggidfaa", sum := "87beaa74304ba3fd6b1ba72c7211cecc36bdbf70de95ea23828f6557acee7fd2", checked := Try.checked }
namespace Rows
def none {H : Type} : Left H := { results := [], args := [] }

/-- 'tenancylaw24.GraceEnds': WHATEVER THE INPUT: true; the input reads as it did. -/
def graceEndsSpec : ChangeSpec := { name := "graceEnds", fn := fun _ => fun
  | [d1, d2, d3] => { results := [.lit (.bool true)], args := [d1, d2, d3] }
  | _ => none }
def graceEndsRow : OpenClaim := { program := "ytdgcadjhggidfaa", sum := "87beaa74304ba3fd6b1ba72c7211cecc36bdbf70de95ea23828f6557acee7fd2", func := "tenancy/tenancylaw24.GraceEnds", spec := "graceEnds", apart := false }
def GraceEndsSaid : Prop := graceEndsRow.holds Try.pinned (OpenSpec.ofChange graceEndsSpec)

/-- ITS FALSE NEIGHBOUR: 'it returns false'. Refute it at one input. -/
def graceEndsWrong : ChangeSpec := { name := "graceEnds", fn := fun _ => fun
  | [d1, d2, d3] => { results := [.lit (.bool false)], args := [d1, d2, d3] }
  | _ => none }
def GraceEndsWrongFalsely : Prop := graceEndsRow.holds Try.pinned (OpenSpec.ofChange graceEndsWrong)

/-- 'tenancylaw24.GracePlays': WHATEVER THE INPUT: true; the input reads as it did. -/
def gracePlaysSpec : ChangeSpec := { name := "gracePlays", fn := fun _ => fun
  | [d1, d2, d3] => { results := [.lit (.bool true)], args := [d1, d2, d3] }
  | _ => none }
def gracePlaysRow : OpenClaim := { program := "ytdgcadjhggidfaa", sum := "87beaa74304ba3fd6b1ba72c7211cecc36bdbf70de95ea23828f6557acee7fd2", func := "tenancy/tenancylaw24.GracePlays", spec := "gracePlays", apart := false }
def GracePlaysSaid : Prop := gracePlaysRow.holds Try.pinned (OpenSpec.ofChange gracePlaysSpec)

/-- ITS FALSE NEIGHBOUR: 'it returns false'. Refute it at one input. -/
def gracePlaysWrong : ChangeSpec := { name := "gracePlays", fn := fun _ => fun
  | [d1, d2, d3] => { results := [.lit (.bool false)], args := [d1, d2, d3] }
  | _ => none }
def GracePlaysWrongFalsely : Prop := gracePlaysRow.holds Try.pinned (OpenSpec.ofChange gracePlaysWrong)

/-- 'tenancylaw24.GraceNobody': WHATEVER THE INPUT: true; the input reads as it did. -/
def graceNobodySpec : ChangeSpec := { name := "graceNobody", fn := fun _ => fun
  | [d1, d2] => { results := [.lit (.bool true)], args := [d1, d2] }
  | _ => none }
def graceNobodyRow : OpenClaim := { program := "ytdgcadjhggidfaa", sum := "87beaa74304ba3fd6b1ba72c7211cecc36bdbf70de95ea23828f6557acee7fd2", func := "tenancy/tenancylaw24.GraceNobody", spec := "graceNobody", apart := false }
def GraceNobodySaid : Prop := graceNobodyRow.holds Try.pinned (OpenSpec.ofChange graceNobodySpec)

/-- ITS FALSE NEIGHBOUR: 'it returns false'. Refute it at one input. -/
def graceNobodyWrong : ChangeSpec := { name := "graceNobody", fn := fun _ => fun
  | [d1, d2] => { results := [.lit (.bool false)], args := [d1, d2] }
  | _ => none }
def GraceNobodyWrongFalsely : Prop := graceNobodyRow.holds Try.pinned (OpenSpec.ofChange graceNobodyWrong)

/- THE SECOND FORM. 'bulk': how many values and letters a reading holds, each counted each time it is reached (what is shared counts as often as it is met; a slice's spare places count too). A statement '..UptoSaid' is the law's where the arguments, and the package variables that the reading takes, are together of bulk at most 1048576: NARROWER than '..Said'. Prove '..Said' where nothing that the law and all that it calls make is longer than what came in: it says more and counts as full. Else prove '..UptoSaid'. A law counts once. -/
mutual
def uptoBulk {H : Type} : DataW H → Nat
  | .lit (.string bytes) => bytes.length + 1
  | .lit _ => 1
  | .nil => 1
  | .ptr d => uptoBulk d + 1
  | .slice elems spare => uptoBulkAll elems + uptoBulkAll spare + 1
  | .agg parts => uptoBulkAll parts + 1
  | .iface _ d => uptoBulk d + 1
  | .map entries => uptoBulkEntries entries + 1
  | .held _ => 1
def uptoBulkAll {H : Type} : List (DataW H) → Nat
  | [] => 0
  | d :: r => uptoBulk d + uptoBulkAll r
def uptoBulkEntries {H : Type} : List (Lit × DataW H) → Nat
  | [] => 0
  | x :: r => uptoBulkEntry x + uptoBulkEntries r
def uptoBulkEntry {H : Type} : Lit × DataW H → Nat
  | (.string bytes, d) => bytes.length + uptoBulk d + 1
  | (_, d) => uptoBulk d + 1
 end
def uptoSmall : (H : Type) → List (DataW H) → Bool := fun _ ds => decide (uptoBulkAll ds ≤ 1048576)
def OpenSpec.upto (s : _root_.Go.ChangeSpec) : _root_.Go.OpenSpec := { _root_.Go.OpenSpec.ofChange s with cond := some uptoSmall }

/-- 'tenancylaw24.GraceEnds', WHERE WHAT IT READS IS OF BULK AT MOST 1048576: true; the input reads as it did. -/
def graceEndsUptoRow : OpenClaim := { program := "ytdgcadjhggidfaa", sum := "87beaa74304ba3fd6b1ba72c7211cecc36bdbf70de95ea23828f6557acee7fd2", func := "tenancy/tenancylaw24.GraceEnds", spec := "graceEnds", apart := false, narrowed := true }
def GraceEndsUptoSaid : Prop := graceEndsUptoRow.holds Try.pinned (OpenSpec.upto graceEndsSpec)

/-- 'tenancylaw24.GracePlays', WHERE WHAT IT READS IS OF BULK AT MOST 1048576: true; the input reads as it did. -/
def gracePlaysUptoRow : OpenClaim := { program := "ytdgcadjhggidfaa", sum := "87beaa74304ba3fd6b1ba72c7211cecc36bdbf70de95ea23828f6557acee7fd2", func := "tenancy/tenancylaw24.GracePlays", spec := "gracePlays", apart := false, narrowed := true }
def GracePlaysUptoSaid : Prop := gracePlaysUptoRow.holds Try.pinned (OpenSpec.upto gracePlaysSpec)

/-- 'tenancylaw24.GraceNobody', WHERE WHAT IT READS IS OF BULK AT MOST 1048576: true; the input reads as it did. -/
def graceNobodyUptoRow : OpenClaim := { program := "ytdgcadjhggidfaa", sum := "87beaa74304ba3fd6b1ba72c7211cecc36bdbf70de95ea23828f6557acee7fd2", func := "tenancy/tenancylaw24.GraceNobody", spec := "graceNobody", apart := false, narrowed := true }
def GraceNobodyUptoSaid : Prop := graceNobodyUptoRow.holds Try.pinned (OpenSpec.upto graceNobodySpec)

end Rows
end Go.Proofs.Ytdgcadjhggidfaa

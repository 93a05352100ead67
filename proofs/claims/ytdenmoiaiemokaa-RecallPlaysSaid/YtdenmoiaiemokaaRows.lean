/-
  No cell of these rows narrows 'for every input' (looked for: loops, veiled, ifaces, maps, wideKeys, modest, calm, conditions, laid).
  DERIVED. THE GIVEN ROWS OF THIS SEAT. 10 by the template 'for every input the law returns true; each argument reads behind the call as it read before'; 0 by the template 'total and deterministic' (their statements: YtdenmoiaiemokaaTotals.lean).
  GIVEN WITH THE SEED: the statements are not yours to turn. If you find one false, say at which input.
  Laid BY PROGRAM, IN A SANDBOX (cutbox-rows.mjs): the forced cells as the released guide's own fill.sh prints them over the translation 3d781f749b98c5ce… (all of the seat's roots in one cut). By AI agents, Wed Nov 11 2026. No macro, syntax, notation, axiom, sorry.
-/
import Derived.Test.YtdenmoiaiemokaaChecked
import GoSem.Claim
import GoSem.ClaimJoined
import GoSem.ClaimMapViews
import Derived.JoinedTies
import Derived.KernelRfl
namespace Go.Proofs.Ytdenmoiaiemokaa
/- THE CELL 'sum', in the pinned program and in every row, IS THE sha256 OF THE DUMP (.gsa) THAT YtdenmoiaiemokaaProg.lean LOADS. Nothing in Lean hashes anything: it is a label: what it is worth is what the hold of that sum in a sandbox is worth. -/
noncomputable def Try.pinned : Pinned := { name := "ytdenmoiaiemokaa", sum := "3d781f749b98c5ce5cf2d83ee36c697f38f9070cb8f78ad6a544d531a37800c9", checked := Try.checked }
namespace Rows
def none {H : Type} : Left H := { results := [], args := [] }

/-- 'tenancylaw18.NetPlays': WHATEVER THE INPUT: true; the input reads as it did. -/
def netPlaysSpec : ChangeSpec := { name := "netPlays", fn := fun _ => fun
  | [d] => { results := [.lit (.bool true)], args := [d] }
  | _ => none }
def netPlaysRow : OpenClaim := { program := "ytdenmoiaiemokaa", sum := "3d781f749b98c5ce5cf2d83ee36c697f38f9070cb8f78ad6a544d531a37800c9", func := "tenancy/tenancylaw18.NetPlays", spec := "netPlays", unfollowed := true, recurses := true, plainKeys := false, apart := false }
def NetPlaysSaid : Prop := netPlaysRow.holds Try.pinned (OpenSpec.ofChange netPlaysSpec)

/-- ITS FALSE NEIGHBOUR: 'it returns false'. Refute it at one input. -/
def netPlaysWrong : ChangeSpec := { name := "netPlays", fn := fun _ => fun
  | [d] => { results := [.lit (.bool false)], args := [d] }
  | _ => none }
def NetPlaysWrongFalsely : Prop := netPlaysRow.holds Try.pinned (OpenSpec.ofChange netPlaysWrong)

/-- 'tenancylaw22.RecallNeeds': WHATEVER THE INPUT: true; the input reads as it did. -/
def recallNeedsSpec : ChangeSpec := { name := "recallNeeds", fn := fun _ => fun
  | [d1, d2, d3, d4] => { results := [.lit (.bool true)], args := [d1, d2, d3, d4] }
  | _ => none }
def recallNeedsRow : OpenClaim := { program := "ytdenmoiaiemokaa", sum := "3d781f749b98c5ce5cf2d83ee36c697f38f9070cb8f78ad6a544d531a37800c9", func := "tenancy/tenancylaw22.RecallNeeds", spec := "recallNeeds", unfollowed := true, recurses := true, plainKeys := false, apart := false }
def RecallNeedsSaid : Prop := recallNeedsRow.holds Try.pinned (OpenSpec.ofChange recallNeedsSpec)

/-- ITS FALSE NEIGHBOUR: 'it returns false'. Refute it at one input. -/
def recallNeedsWrong : ChangeSpec := { name := "recallNeeds", fn := fun _ => fun
  | [d1, d2, d3, d4] => { results := [.lit (.bool false)], args := [d1, d2, d3, d4] }
  | _ => none }
def RecallNeedsWrongFalsely : Prop := recallNeedsRow.holds Try.pinned (OpenSpec.ofChange recallNeedsWrong)

/-- 'tenancylaw22.RecallNobody': WHATEVER THE INPUT: true; the input reads as it did. -/
def recallNobodySpec : ChangeSpec := { name := "recallNobody", fn := fun _ => fun
  | [d1, d2] => { results := [.lit (.bool true)], args := [d1, d2] }
  | _ => none }
def recallNobodyRow : OpenClaim := { program := "ytdenmoiaiemokaa", sum := "3d781f749b98c5ce5cf2d83ee36c697f38f9070cb8f78ad6a544d531a37800c9", func := "tenancy/tenancylaw22.RecallNobody", spec := "recallNobody", unfollowed := true, recurses := true, plainKeys := false, apart := false }
def RecallNobodySaid : Prop := recallNobodyRow.holds Try.pinned (OpenSpec.ofChange recallNobodySpec)

/-- ITS FALSE NEIGHBOUR: 'it returns false'. Refute it at one input. -/
def recallNobodyWrong : ChangeSpec := { name := "recallNobody", fn := fun _ => fun
  | [d1, d2] => { results := [.lit (.bool false)], args := [d1, d2] }
  | _ => none }
def RecallNobodyWrongFalsely : Prop := recallNobodyRow.holds Try.pinned (OpenSpec.ofChange recallNobodyWrong)

/-- 'tenancylaw22.RecallPlays': WHATEVER THE INPUT: true; the input reads as it did. -/
def recallPlaysSpec : ChangeSpec := { name := "recallPlays", fn := fun _ => fun
  | [d] => { results := [.lit (.bool true)], args := [d] }
  | _ => none }
def recallPlaysRow : OpenClaim := { program := "ytdenmoiaiemokaa", sum := "3d781f749b98c5ce5cf2d83ee36c697f38f9070cb8f78ad6a544d531a37800c9", func := "tenancy/tenancylaw22.RecallPlays", spec := "recallPlays", unfollowed := true, recurses := true, plainKeys := false, apart := false }
def RecallPlaysSaid : Prop := recallPlaysRow.holds Try.pinned (OpenSpec.ofChange recallPlaysSpec)

/-- ITS FALSE NEIGHBOUR: 'it returns false'. Refute it at one input. -/
def recallPlaysWrong : ChangeSpec := { name := "recallPlays", fn := fun _ => fun
  | [d] => { results := [.lit (.bool false)], args := [d] }
  | _ => none }
def RecallPlaysWrongFalsely : Prop := recallPlaysRow.holds Try.pinned (OpenSpec.ofChange recallPlaysWrong)

/-- 'tenancylaw09.DirBlocks': WHATEVER THE INPUT: true; the input reads as it did. -/
def dirBlocksSpec : ChangeSpec := { name := "dirBlocks", fn := fun _ => fun
  | [d] => { results := [.lit (.bool true)], args := [d] }
  | _ => none }
def dirBlocksRow : OpenClaim := { program := "ytdenmoiaiemokaa", sum := "3d781f749b98c5ce5cf2d83ee36c697f38f9070cb8f78ad6a544d531a37800c9", func := "tenancy/tenancylaw09.DirBlocks", spec := "dirBlocks", unfollowed := true, recurses := true, plainKeys := false, apart := false }
def DirBlocksSaid : Prop := dirBlocksRow.holds Try.pinned (OpenSpec.ofChange dirBlocksSpec)

/-- ITS FALSE NEIGHBOUR: 'it returns false'. Refute it at one input. -/
def dirBlocksWrong : ChangeSpec := { name := "dirBlocks", fn := fun _ => fun
  | [d] => { results := [.lit (.bool false)], args := [d] }
  | _ => none }
def DirBlocksWrongFalsely : Prop := dirBlocksRow.holds Try.pinned (OpenSpec.ofChange dirBlocksWrong)

/-- 'tenancylaw09.DirEntries': WHATEVER THE INPUT: true; the input reads as it did. -/
def dirEntriesSpec : ChangeSpec := { name := "dirEntries", fn := fun _ => fun
  | [d] => { results := [.lit (.bool true)], args := [d] }
  | _ => none }
def dirEntriesRow : OpenClaim := { program := "ytdenmoiaiemokaa", sum := "3d781f749b98c5ce5cf2d83ee36c697f38f9070cb8f78ad6a544d531a37800c9", func := "tenancy/tenancylaw09.DirEntries", spec := "dirEntries", unfollowed := true, recurses := true, plainKeys := false, apart := false }
def DirEntriesSaid : Prop := dirEntriesRow.holds Try.pinned (OpenSpec.ofChange dirEntriesSpec)

/-- ITS FALSE NEIGHBOUR: 'it returns false'. Refute it at one input. -/
def dirEntriesWrong : ChangeSpec := { name := "dirEntries", fn := fun _ => fun
  | [d] => { results := [.lit (.bool false)], args := [d] }
  | _ => none }
def DirEntriesWrongFalsely : Prop := dirEntriesRow.holds Try.pinned (OpenSpec.ofChange dirEntriesWrong)

/-- 'tenancylaw09.DirBack': WHATEVER THE INPUT: true; the input reads as it did. -/
def dirBackSpec : ChangeSpec := { name := "dirBack", fn := fun _ => fun
  | [d1, d2] => { results := [.lit (.bool true)], args := [d1, d2] }
  | _ => none }
def dirBackRow : OpenClaim := { program := "ytdenmoiaiemokaa", sum := "3d781f749b98c5ce5cf2d83ee36c697f38f9070cb8f78ad6a544d531a37800c9", func := "tenancy/tenancylaw09.DirBack", spec := "dirBack", unfollowed := true, recurses := true, plainKeys := false, apart := false }
def DirBackSaid : Prop := dirBackRow.holds Try.pinned (OpenSpec.ofChange dirBackSpec)

/-- ITS FALSE NEIGHBOUR: 'it returns false'. Refute it at one input. -/
def dirBackWrong : ChangeSpec := { name := "dirBack", fn := fun _ => fun
  | [d1, d2] => { results := [.lit (.bool false)], args := [d1, d2] }
  | _ => none }
def DirBackWrongFalsely : Prop := dirBackRow.holds Try.pinned (OpenSpec.ofChange dirBackWrong)

/-- 'tenancylaw09.DirTurns': WHATEVER THE INPUT: true; the input reads as it did. -/
def dirTurnsSpec : ChangeSpec := { name := "dirTurns", fn := fun _ => fun
  | [d1, d2, d3] => { results := [.lit (.bool true)], args := [d1, d2, d3] }
  | _ => none }
def dirTurnsRow : OpenClaim := { program := "ytdenmoiaiemokaa", sum := "3d781f749b98c5ce5cf2d83ee36c697f38f9070cb8f78ad6a544d531a37800c9", func := "tenancy/tenancylaw09.DirTurns", spec := "dirTurns", inPlace := ["internal/bytealg.abigen_runtime_cmpstring"], unfollowed := true, recurses := true, plainKeys := false, apart := false }
def DirTurnsSaid : Prop := dirTurnsRow.holds Try.pinned (OpenSpec.ofChange dirTurnsSpec)

/-- ITS FALSE NEIGHBOUR: 'it returns false'. Refute it at one input. -/
def dirTurnsWrong : ChangeSpec := { name := "dirTurns", fn := fun _ => fun
  | [d1, d2, d3] => { results := [.lit (.bool false)], args := [d1, d2, d3] }
  | _ => none }
def DirTurnsWrongFalsely : Prop := dirTurnsRow.holds Try.pinned (OpenSpec.ofChange dirTurnsWrong)

/-- 'tenancylaw03.DiskPlays': WHATEVER THE INPUT: true; the input reads as it did. -/
def diskPlaysSpec : ChangeSpec := { name := "diskPlays", fn := fun _ => fun
  | [d1, d2] => { results := [.lit (.bool true)], args := [d1, d2] }
  | _ => none }
def diskPlaysRow : OpenClaim := { program := "ytdenmoiaiemokaa", sum := "3d781f749b98c5ce5cf2d83ee36c697f38f9070cb8f78ad6a544d531a37800c9", func := "tenancy/tenancylaw03.DiskPlays", spec := "diskPlays", plainKeys := false, apart := false }
def DiskPlaysSaid : Prop := diskPlaysRow.holds Try.pinned (OpenSpec.ofChange diskPlaysSpec)

/-- ITS FALSE NEIGHBOUR: 'it returns false'. Refute it at one input. -/
def diskPlaysWrong : ChangeSpec := { name := "diskPlays", fn := fun _ => fun
  | [d1, d2] => { results := [.lit (.bool false)], args := [d1, d2] }
  | _ => none }
def DiskPlaysWrongFalsely : Prop := diskPlaysRow.holds Try.pinned (OpenSpec.ofChange diskPlaysWrong)

/-- 'tenancylaw05.HeadPlays': WHATEVER THE INPUT: true; the input reads as it did. -/
def headPlaysSpec : ChangeSpec := { name := "headPlays", fn := fun _ => fun
  | [d1, d2] => { results := [.lit (.bool true)], args := [d1, d2] }
  | _ => none }
def headPlaysRow : OpenClaim := { program := "ytdenmoiaiemokaa", sum := "3d781f749b98c5ce5cf2d83ee36c697f38f9070cb8f78ad6a544d531a37800c9", func := "tenancy/tenancylaw05.HeadPlays", spec := "headPlays", plainKeys := false, apart := false }
def HeadPlaysSaid : Prop := headPlaysRow.holds Try.pinned (OpenSpec.ofChange headPlaysSpec)

/-- ITS FALSE NEIGHBOUR: 'it returns false'. Refute it at one input. -/
def headPlaysWrong : ChangeSpec := { name := "headPlays", fn := fun _ => fun
  | [d1, d2] => { results := [.lit (.bool false)], args := [d1, d2] }
  | _ => none }
def HeadPlaysWrongFalsely : Prop := headPlaysRow.holds Try.pinned (OpenSpec.ofChange headPlaysWrong)

/- THE SECOND FORM. 'bulk': how many values and letters a reading holds, each counted each time it is reached (what is shared counts as often as it is met; a slice's spare places count too). A statement '..UptoSaid' is the law's where the arguments, and the package variables that the reading takes, are together of bulk at most 1048576: NARROWER than '..Said'. Prove '..Said' where nothing that the law and all that it calls make is longer than what came in: it says more and counts as full. Else prove '..UptoSaid'. A law counts once. -/
mutual
def uptoBulk {H : Type} : DataW H → Nat
  | .lit (.string bytes) => bytes.length + 1
  | .lit _ => 1
  | .nil => 1
  | .ptr d => uptoBulk d + 1
  | .slice elems spare => uptoBulkAll elems + uptoBulkAll spare + 1
  | .agg parts => uptoBulkAll parts + 1
  | .iface _ d => uptoBulk d + 1
  | .map entries => uptoBulkEntries entries + 1
  | .held _ => 1
def uptoBulkAll {H : Type} : List (DataW H) → Nat
  | [] => 0
  | d :: r => uptoBulk d + uptoBulkAll r
def uptoBulkEntries {H : Type} : List (Lit × DataW H) → Nat
  | [] => 0
  | x :: r => uptoBulkEntry x + uptoBulkEntries r
def uptoBulkEntry {H : Type} : Lit × DataW H → Nat
  | (.string bytes, d) => bytes.length + uptoBulk d + 1
  | (_, d) => uptoBulk d + 1
 end
def uptoSmall : (H : Type) → List (DataW H) → Bool := fun _ ds => decide (uptoBulkAll ds ≤ 1048576)
def OpenSpec.upto (s : _root_.Go.ChangeSpec) : _root_.Go.OpenSpec := { _root_.Go.OpenSpec.ofChange s with cond := some uptoSmall }

/-- 'tenancylaw18.NetPlays', WHERE WHAT IT READS IS OF BULK AT MOST 1048576: true; the input reads as it did. -/
def netPlaysUptoRow : OpenClaim := { program := "ytdenmoiaiemokaa", sum := "3d781f749b98c5ce5cf2d83ee36c697f38f9070cb8f78ad6a544d531a37800c9", func := "tenancy/tenancylaw18.NetPlays", spec := "netPlays", unfollowed := true, recurses := true, plainKeys := false, apart := false, narrowed := true }
def NetPlaysUptoSaid : Prop := netPlaysUptoRow.holds Try.pinned (OpenSpec.upto netPlaysSpec)

/-- 'tenancylaw22.RecallNeeds', WHERE WHAT IT READS IS OF BULK AT MOST 1048576: true; the input reads as it did. -/
def recallNeedsUptoRow : OpenClaim := { program := "ytdenmoiaiemokaa", sum := "3d781f749b98c5ce5cf2d83ee36c697f38f9070cb8f78ad6a544d531a37800c9", func := "tenancy/tenancylaw22.RecallNeeds", spec := "recallNeeds", unfollowed := true, recurses := true, plainKeys := false, apart := false, narrowed := true }
def RecallNeedsUptoSaid : Prop := recallNeedsUptoRow.holds Try.pinned (OpenSpec.upto recallNeedsSpec)

/-- 'tenancylaw22.RecallNobody', WHERE WHAT IT READS IS OF BULK AT MOST 1048576: true; the input reads as it did. -/
def recallNobodyUptoRow : OpenClaim := { program := "ytdenmoiaiemokaa", sum := "3d781f749b98c5ce5cf2d83ee36c697f38f9070cb8f78ad6a544d531a37800c9", func := "tenancy/tenancylaw22.RecallNobody", spec := "recallNobody", unfollowed := true, recurses := true, plainKeys := false, apart := false, narrowed := true }
def RecallNobodyUptoSaid : Prop := recallNobodyUptoRow.holds Try.pinned (OpenSpec.upto recallNobodySpec)

/-- 'tenancylaw22.RecallPlays', WHERE WHAT IT READS IS OF BULK AT MOST 1048576: true; the input reads as it did. -/
def recallPlaysUptoRow : OpenClaim := { program := "ytdenmoiaiemokaa", sum := "3d781f749b98c5ce5cf2d83ee36c697f38f9070cb8f78ad6a544d531a37800c9", func := "tenancy/tenancylaw22.RecallPlays", spec := "recallPlays", unfollowed := true, recurses := true, plainKeys := false, apart := false, narrowed := true }
def RecallPlaysUptoSaid : Prop := recallPlaysUptoRow.holds Try.pinned (OpenSpec.upto recallPlaysSpec)

/-- 'tenancylaw09.DirBlocks', WHERE WHAT IT READS IS OF BULK AT MOST 1048576: true; the input reads as it did. -/
def dirBlocksUptoRow : OpenClaim := { program := "ytdenmoiaiemokaa", sum := "3d781f749b98c5ce5cf2d83ee36c697f38f9070cb8f78ad6a544d531a37800c9", func := "tenancy/tenancylaw09.DirBlocks", spec := "dirBlocks", unfollowed := true, recurses := true, plainKeys := false, apart := false, narrowed := true }
def DirBlocksUptoSaid : Prop := dirBlocksUptoRow.holds Try.pinned (OpenSpec.upto dirBlocksSpec)

/-- 'tenancylaw09.DirEntries', WHERE WHAT IT READS IS OF BULK AT MOST 1048576: true; the input reads as it did. -/
def dirEntriesUptoRow : OpenClaim := { program := "ytdenmoiaiemokaa", sum := "3d781f749b98c5ce5cf2d83ee36c697f38f9070cb8f78ad6a544d531a37800c9", func := "tenancy/tenancylaw09.DirEntries", spec := "dirEntries", unfollowed := true, recurses := true, plainKeys := false, apart := false, narrowed := true }
def DirEntriesUptoSaid : Prop := dirEntriesUptoRow.holds Try.pinned (OpenSpec.upto dirEntriesSpec)

/-- 'tenancylaw09.DirBack', WHERE WHAT IT READS IS OF BULK AT MOST 1048576: true; the input reads as it did. -/
def dirBackUptoRow : OpenClaim := { program := "ytdenmoiaiemokaa", sum := "3d781f749b98c5ce5cf2d83ee36c697f38f9070cb8f78ad6a544d531a37800c9", func := "tenancy/tenancylaw09.DirBack", spec := "dirBack", unfollowed := true, recurses := true, plainKeys := false, apart := false, narrowed := true }
def DirBackUptoSaid : Prop := dirBackUptoRow.holds Try.pinned (OpenSpec.upto dirBackSpec)

/-- 'tenancylaw09.DirTurns', WHERE WHAT IT READS IS OF BULK AT MOST 1048576: true; the input reads as it did. -/
def dirTurnsUptoRow : OpenClaim := { program := "ytdenmoiaiemokaa", sum := "3d781f749b98c5ce5cf2d83ee36c697f38f9070cb8f78ad6a544d531a37800c9", func := "tenancy/tenancylaw09.DirTurns", spec := "dirTurns", inPlace := ["internal/bytealg.abigen_runtime_cmpstring"], unfollowed := true, recurses := true, plainKeys := false, apart := false, narrowed := true }
def DirTurnsUptoSaid : Prop := dirTurnsUptoRow.holds Try.pinned (OpenSpec.upto dirTurnsSpec)

/-- 'tenancylaw03.DiskPlays', WHERE WHAT IT READS IS OF BULK AT MOST 1048576: true; the input reads as it did. -/
def diskPlaysUptoRow : OpenClaim := { program := "ytdenmoiaiemokaa", sum := "3d781f749b98c5ce5cf2d83ee36c697f38f9070cb8f78ad6a544d531a37800c9", func := "tenancy/tenancylaw03.DiskPlays", spec := "diskPlays", plainKeys := false, apart := false, narrowed := true }
def DiskPlaysUptoSaid : Prop := diskPlaysUptoRow.holds Try.pinned (OpenSpec.upto diskPlaysSpec)

/-- 'tenancylaw05.HeadPlays', WHERE WHAT IT READS IS OF BULK AT MOST 1048576: true; the input reads as it did. -/
def headPlaysUptoRow : OpenClaim := { program := "ytdenmoiaiemokaa", sum := "3d781f749b98c5ce5cf2d83ee36c697f38f9070cb8f78ad6a544d531a37800c9", func := "tenancy/tenancylaw05.HeadPlays", spec := "headPlays", plainKeys := false, apart := false, narrowed := true }
def HeadPlaysUptoSaid : Prop := headPlaysUptoRow.holds Try.pinned (OpenSpec.upto headPlaysSpec)

end Rows
end Go.Proofs.Ytdenmoiaiemokaa

/-
  No cell of these rows narrows 'for every input' (looked for: loops, veiled, ifaces, maps, wideKeys, modest, calm, conditions, laid).
  DERIVED. THE GIVEN ROWS OF THIS SEAT. 13 by the template 'for every input the law returns true; each argument reads behind the call as it read before'; 0 by the template 'total and deterministic' (their statements: YtiiekgcjilelpaaTotals.lean).
  GIVEN WITH THE SEED: the statements are not yours to turn. If you find one false, say at which input.
  Laid BY PROGRAM, IN A SANDBOX (cutbox-rows.mjs): the forced cells as the released guide's own fill.sh prints them over the translation 6622d39197b522d7… (all of the seat's roots in one cut). By AI agents, Wed Nov 11 2026. No macro, syntax, notation, axiom, sorry.
-/
import Derived.Test.YtiiekgcjilelpaaChecked
import GoSem.Claim
import GoSem.ClaimJoined
import GoSem.ClaimMapViews
import Derived.JoinedTies
import Derived.KernelRfl
namespace Go.Proofs.Ytiiekgcjilelpaa
/- THE CELL 'sum', in the pinned program and in every row, IS THE sha256 OF THE DUMP (.gsa) THAT YtiiekgcjilelpaaProg.lean LOADS. Nothing in Lean hashes anything: it is a label: what it is worth is what the hold of that sum in a sandbox is worth. -/
noncomputable def Try.pinned : Pinned := { name := "ytiiekgcjilelpaa", sum := "6622d39197b522d75de6053937bb05864b861fc8ee6892a9b5807098eb1c3882", checked := Try.checked }
namespace Rows
def none {H : Type} : Left H := { results := [], args := [] }

/-- 'tenancylaw34.ScriptEncodes': WHATEVER THE INPUT: true; the input reads as it did. -/
def scriptEncodesSpec : ChangeSpec := { name := "scriptEncodes", fn := fun _ => fun
  | [d] => { results := [.lit (.bool true)], args := [d] }
  | _ => none }
def scriptEncodesRow : OpenClaim := { program := "ytiiekgcjilelpaa", sum := "6622d39197b522d75de6053937bb05864b861fc8ee6892a9b5807098eb1c3882", func := "tenancy/tenancylaw34.ScriptEncodes", spec := "scriptEncodes", unfollowed := true, recurses := true, plainKeys := false, apart := false }
def ScriptEncodesSaid : Prop := scriptEncodesRow.holds Try.pinned (OpenSpec.ofChange scriptEncodesSpec)

/-- ITS FALSE NEIGHBOUR: 'it returns false'. Refute it at one input. -/
def scriptEncodesWrong : ChangeSpec := { name := "scriptEncodes", fn := fun _ => fun
  | [d] => { results := [.lit (.bool false)], args := [d] }
  | _ => none }
def ScriptEncodesWrongFalsely : Prop := scriptEncodesRow.holds Try.pinned (OpenSpec.ofChange scriptEncodesWrong)

/-- 'tenancylaw34.ScriptDecodes': WHATEVER THE INPUT: true; the input reads as it did. -/
def scriptDecodesSpec : ChangeSpec := { name := "scriptDecodes", fn := fun _ => fun
  | [d] => { results := [.lit (.bool true)], args := [d] }
  | _ => none }
def scriptDecodesRow : OpenClaim := { program := "ytiiekgcjilelpaa", sum := "6622d39197b522d75de6053937bb05864b861fc8ee6892a9b5807098eb1c3882", func := "tenancy/tenancylaw34.ScriptDecodes", spec := "scriptDecodes", unfollowed := true, recurses := true, plainKeys := false, apart := false }
def ScriptDecodesSaid : Prop := scriptDecodesRow.holds Try.pinned (OpenSpec.ofChange scriptDecodesSpec)

/-- ITS FALSE NEIGHBOUR: 'it returns false'. Refute it at one input. -/
def scriptDecodesWrong : ChangeSpec := { name := "scriptDecodes", fn := fun _ => fun
  | [d] => { results := [.lit (.bool false)], args := [d] }
  | _ => none }
def ScriptDecodesWrongFalsely : Prop := scriptDecodesRow.holds Try.pinned (OpenSpec.ofChange scriptDecodesWrong)

/-- 'tenancylaw34.ScriptBack': WHATEVER THE INPUT: true; the input reads as it did. -/
def scriptBackSpec : ChangeSpec := { name := "scriptBack", fn := fun _ => fun
  | [d1, d2] => { results := [.lit (.bool true)], args := [d1, d2] }
  | _ => none }
def scriptBackRow : OpenClaim := { program := "ytiiekgcjilelpaa", sum := "6622d39197b522d75de6053937bb05864b861fc8ee6892a9b5807098eb1c3882", func := "tenancy/tenancylaw34.ScriptBack", spec := "scriptBack", unfollowed := true, recurses := true, plainKeys := false, apart := false }
def ScriptBackSaid : Prop := scriptBackRow.holds Try.pinned (OpenSpec.ofChange scriptBackSpec)

/-- ITS FALSE NEIGHBOUR: 'it returns false'. Refute it at one input. -/
def scriptBackWrong : ChangeSpec := { name := "scriptBack", fn := fun _ => fun
  | [d1, d2] => { results := [.lit (.bool false)], args := [d1, d2] }
  | _ => none }
def ScriptBackWrongFalsely : Prop := scriptBackRow.holds Try.pinned (OpenSpec.ofChange scriptBackWrong)

/-- 'tenancylaw34.ScriptPicks': WHATEVER THE INPUT: true; the input reads as it did. -/
def scriptPicksSpec : ChangeSpec := { name := "scriptPicks", fn := fun _ => fun
  | [d1, d2, d3, d4] => { results := [.lit (.bool true)], args := [d1, d2, d3, d4] }
  | _ => none }
def scriptPicksRow : OpenClaim := { program := "ytiiekgcjilelpaa", sum := "6622d39197b522d75de6053937bb05864b861fc8ee6892a9b5807098eb1c3882", func := "tenancy/tenancylaw34.ScriptPicks", spec := "scriptPicks", unfollowed := true, recurses := true, plainKeys := false, apart := false }
def ScriptPicksSaid : Prop := scriptPicksRow.holds Try.pinned (OpenSpec.ofChange scriptPicksSpec)

/-- ITS FALSE NEIGHBOUR: 'it returns false'. Refute it at one input. -/
def scriptPicksWrong : ChangeSpec := { name := "scriptPicks", fn := fun _ => fun
  | [d1, d2, d3, d4] => { results := [.lit (.bool false)], args := [d1, d2, d3, d4] }
  | _ => none }
def ScriptPicksWrongFalsely : Prop := scriptPicksRow.holds Try.pinned (OpenSpec.ofChange scriptPicksWrong)

/-- 'tenancylaw17.WireEncodes': WHATEVER THE INPUT: true; the input reads as it did. -/
def wireEncodesSpec : ChangeSpec := { name := "wireEncodes", fn := fun _ => fun
  | [d] => { results := [.lit (.bool true)], args := [d] }
  | _ => none }
def wireEncodesRow : OpenClaim := { program := "ytiiekgcjilelpaa", sum := "6622d39197b522d75de6053937bb05864b861fc8ee6892a9b5807098eb1c3882", func := "tenancy/tenancylaw17.WireEncodes", spec := "wireEncodes", unfollowed := true, recurses := true, plainKeys := false, apart := false }
def WireEncodesSaid : Prop := wireEncodesRow.holds Try.pinned (OpenSpec.ofChange wireEncodesSpec)

/-- ITS FALSE NEIGHBOUR: 'it returns false'. Refute it at one input. -/
def wireEncodesWrong : ChangeSpec := { name := "wireEncodes", fn := fun _ => fun
  | [d] => { results := [.lit (.bool false)], args := [d] }
  | _ => none }
def WireEncodesWrongFalsely : Prop := wireEncodesRow.holds Try.pinned (OpenSpec.ofChange wireEncodesWrong)

/-- 'tenancylaw17.WireDecodes': WHATEVER THE INPUT: true; the input reads as it did. -/
def wireDecodesSpec : ChangeSpec := { name := "wireDecodes", fn := fun _ => fun
  | [d] => { results := [.lit (.bool true)], args := [d] }
  | _ => none }
def wireDecodesRow : OpenClaim := { program := "ytiiekgcjilelpaa", sum := "6622d39197b522d75de6053937bb05864b861fc8ee6892a9b5807098eb1c3882", func := "tenancy/tenancylaw17.WireDecodes", spec := "wireDecodes", unfollowed := true, recurses := true, plainKeys := false, apart := false }
def WireDecodesSaid : Prop := wireDecodesRow.holds Try.pinned (OpenSpec.ofChange wireDecodesSpec)

/-- ITS FALSE NEIGHBOUR: 'it returns false'. Refute it at one input. -/
def wireDecodesWrong : ChangeSpec := { name := "wireDecodes", fn := fun _ => fun
  | [d] => { results := [.lit (.bool false)], args := [d] }
  | _ => none }
def WireDecodesWrongFalsely : Prop := wireDecodesRow.holds Try.pinned (OpenSpec.ofChange wireDecodesWrong)

/-- 'tenancylaw17.WireBack': WHATEVER THE INPUT: true; the input reads as it did. -/
def wireBackSpec : ChangeSpec := { name := "wireBack", fn := fun _ => fun
  | [d1, d2] => { results := [.lit (.bool true)], args := [d1, d2] }
  | _ => none }
def wireBackRow : OpenClaim := { program := "ytiiekgcjilelpaa", sum := "6622d39197b522d75de6053937bb05864b861fc8ee6892a9b5807098eb1c3882", func := "tenancy/tenancylaw17.WireBack", spec := "wireBack", unfollowed := true, recurses := true, plainKeys := false, apart := false }
def WireBackSaid : Prop := wireBackRow.holds Try.pinned (OpenSpec.ofChange wireBackSpec)

/-- ITS FALSE NEIGHBOUR: 'it returns false'. Refute it at one input. -/
def wireBackWrong : ChangeSpec := { name := "wireBack", fn := fun _ => fun
  | [d1, d2] => { results := [.lit (.bool false)], args := [d1, d2] }
  | _ => none }
def WireBackWrongFalsely : Prop := wireBackRow.holds Try.pinned (OpenSpec.ofChange wireBackWrong)

/-- 'tenancylaw17.WireLong': WHATEVER THE INPUT: true; the input reads as it did. -/
def wireLongSpec : ChangeSpec := { name := "wireLong", fn := fun _ => fun
  | [d] => { results := [.lit (.bool true)], args := [d] }
  | _ => none }
def wireLongRow : OpenClaim := { program := "ytiiekgcjilelpaa", sum := "6622d39197b522d75de6053937bb05864b861fc8ee6892a9b5807098eb1c3882", func := "tenancy/tenancylaw17.WireLong", spec := "wireLong", unfollowed := true, recurses := true, plainKeys := false, apart := false }
def WireLongSaid : Prop := wireLongRow.holds Try.pinned (OpenSpec.ofChange wireLongSpec)

/-- ITS FALSE NEIGHBOUR: 'it returns false'. Refute it at one input. -/
def wireLongWrong : ChangeSpec := { name := "wireLong", fn := fun _ => fun
  | [d] => { results := [.lit (.bool false)], args := [d] }
  | _ => none }
def WireLongWrongFalsely : Prop := wireLongRow.holds Try.pinned (OpenSpec.ofChange wireLongWrong)

/-- 'tenancylaw22.RecallPlays': WHATEVER THE INPUT: true; the input reads as it did. -/
def recallPlaysSpec : ChangeSpec := { name := "recallPlays", fn := fun _ => fun
  | [d] => { results := [.lit (.bool true)], args := [d] }
  | _ => none }
def recallPlaysRow : OpenClaim := { program := "ytiiekgcjilelpaa", sum := "6622d39197b522d75de6053937bb05864b861fc8ee6892a9b5807098eb1c3882", func := "tenancy/tenancylaw22.RecallPlays", spec := "recallPlays", unfollowed := true, recurses := true, plainKeys := false, apart := false }
def RecallPlaysSaid : Prop := recallPlaysRow.holds Try.pinned (OpenSpec.ofChange recallPlaysSpec)

/-- ITS FALSE NEIGHBOUR: 'it returns false'. Refute it at one input. -/
def recallPlaysWrong : ChangeSpec := { name := "recallPlays", fn := fun _ => fun
  | [d] => { results := [.lit (.bool false)], args := [d] }
  | _ => none }
def RecallPlaysWrongFalsely : Prop := recallPlaysRow.holds Try.pinned (OpenSpec.ofChange recallPlaysWrong)

/-- 'tenancylaw18.NetPlays': WHATEVER THE INPUT: true; the input reads as it did. -/
def netPlaysSpec : ChangeSpec := { name := "netPlays", fn := fun _ => fun
  | [d] => { results := [.lit (.bool true)], args := [d] }
  | _ => none }
def netPlaysRow : OpenClaim := { program := "ytiiekgcjilelpaa", sum := "6622d39197b522d75de6053937bb05864b861fc8ee6892a9b5807098eb1c3882", func := "tenancy/tenancylaw18.NetPlays", spec := "netPlays", unfollowed := true, recurses := true, plainKeys := false, apart := false }
def NetPlaysSaid : Prop := netPlaysRow.holds Try.pinned (OpenSpec.ofChange netPlaysSpec)

/-- ITS FALSE NEIGHBOUR: 'it returns false'. Refute it at one input. -/
def netPlaysWrong : ChangeSpec := { name := "netPlays", fn := fun _ => fun
  | [d] => { results := [.lit (.bool false)], args := [d] }
  | _ => none }
def NetPlaysWrongFalsely : Prop := netPlaysRow.holds Try.pinned (OpenSpec.ofChange netPlaysWrong)

/-- 'tenancylaw09.DirTurns': WHATEVER THE INPUT: true; the input reads as it did. -/
def dirTurnsSpec : ChangeSpec := { name := "dirTurns", fn := fun _ => fun
  | [d1, d2, d3] => { results := [.lit (.bool true)], args := [d1, d2, d3] }
  | _ => none }
def dirTurnsRow : OpenClaim := { program := "ytiiekgcjilelpaa", sum := "6622d39197b522d75de6053937bb05864b861fc8ee6892a9b5807098eb1c3882", func := "tenancy/tenancylaw09.DirTurns", spec := "dirTurns", inPlace := ["internal/bytealg.abigen_runtime_cmpstring"], unfollowed := true, recurses := true, plainKeys := false, apart := false }
def DirTurnsSaid : Prop := dirTurnsRow.holds Try.pinned (OpenSpec.ofChange dirTurnsSpec)

/-- ITS FALSE NEIGHBOUR: 'it returns false'. Refute it at one input. -/
def dirTurnsWrong : ChangeSpec := { name := "dirTurns", fn := fun _ => fun
  | [d1, d2, d3] => { results := [.lit (.bool false)], args := [d1, d2, d3] }
  | _ => none }
def DirTurnsWrongFalsely : Prop := dirTurnsRow.holds Try.pinned (OpenSpec.ofChange dirTurnsWrong)

/-- 'tenancylaw03.DiskPlays': WHATEVER THE INPUT: true; the input reads as it did. -/
def diskPlaysSpec : ChangeSpec := { name := "diskPlays", fn := fun _ => fun
  | [d1, d2] => { results := [.lit (.bool true)], args := [d1, d2] }
  | _ => none }
def diskPlaysRow : OpenClaim := { program := "ytiiekgcjilelpaa", sum := "6622d39197b522d75de6053937bb05864b861fc8ee6892a9b5807098eb1c3882", func := "tenancy/tenancylaw03.DiskPlays", spec := "diskPlays", plainKeys := false, apart := false }
def DiskPlaysSaid : Prop := diskPlaysRow.holds Try.pinned (OpenSpec.ofChange diskPlaysSpec)

/-- ITS FALSE NEIGHBOUR: 'it returns false'. Refute it at one input. -/
def diskPlaysWrong : ChangeSpec := { name := "diskPlays", fn := fun _ => fun
  | [d1, d2] => { results := [.lit (.bool false)], args := [d1, d2] }
  | _ => none }
def DiskPlaysWrongFalsely : Prop := diskPlaysRow.holds Try.pinned (OpenSpec.ofChange diskPlaysWrong)

/-- 'tenancylaw05.HeadPlays': WHATEVER THE INPUT: true; the input reads as it did. -/
def headPlaysSpec : ChangeSpec := { name := "headPlays", fn := fun _ => fun
  | [d1, d2] => { results := [.lit (.bool true)], args := [d1, d2] }
  | _ => none }
def headPlaysRow : OpenClaim := { program := "ytiiekgcjilelpaa", sum := "6622d39197b522d75de6053937bb05864b861fc8ee6892a9b5807098eb1c3882", func := "tenancy/tenancylaw05.HeadPlays", spec := "headPlays", plainKeys := false, apart := false }
def HeadPlaysSaid : Prop := headPlaysRow.holds Try.pinned (OpenSpec.ofChange headPlaysSpec)

/-- ITS FALSE NEIGHBOUR: 'it returns false'. Refute it at one input. -/
def headPlaysWrong : ChangeSpec := { name := "headPlays", fn := fun _ => fun
  | [d1, d2] => { results := [.lit (.bool false)], args := [d1, d2] }
  | _ => none }
def HeadPlaysWrongFalsely : Prop := headPlaysRow.holds Try.pinned (OpenSpec.ofChange headPlaysWrong)

/- THE SECOND FORM. 'bulk': how many values and letters a reading holds, each counted each time it is reached (what is shared counts as often as it is met; a slice's spare places count too). A statement '..UptoSaid' is the law's where the arguments, and the package variables that the reading takes, are together of bulk at most 1048576: NARROWER than '..Said'. Prove '..Said' where nothing that the law and all that it calls make is longer than what came in: it says more and counts as full. Else prove '..UptoSaid'. A law counts once. -/
mutual
def uptoBulk {H : Type} : DataW H → Nat
  | .lit (.string bytes) => bytes.length + 1
  | .lit _ => 1
  | .nil => 1
  | .ptr d => uptoBulk d + 1
  | .slice elems spare => uptoBulkAll elems + uptoBulkAll spare + 1
  | .agg parts => uptoBulkAll parts + 1
  | .iface _ d => uptoBulk d + 1
  | .map entries => uptoBulkEntries entries + 1
  | .held _ => 1
def uptoBulkAll {H : Type} : List (DataW H) → Nat
  | [] => 0
  | d :: r => uptoBulk d + uptoBulkAll r
def uptoBulkEntries {H : Type} : List (Lit × DataW H) → Nat
  | [] => 0
  | x :: r => uptoBulkEntry x + uptoBulkEntries r
def uptoBulkEntry {H : Type} : Lit × DataW H → Nat
  | (.string bytes, d) => bytes.length + uptoBulk d + 1
  | (_, d) => uptoBulk d + 1
 end
def uptoSmall : (H : Type) → List (DataW H) → Bool := fun _ ds => decide (uptoBulkAll ds ≤ 1048576)
def OpenSpec.upto (s : _root_.Go.ChangeSpec) : _root_.Go.OpenSpec := { _root_.Go.OpenSpec.ofChange s with cond := some uptoSmall }

/-- 'tenancylaw34.ScriptEncodes', WHERE WHAT IT READS IS OF BULK AT MOST 1048576: true; the input reads as it did. -/
def scriptEncodesUptoRow : OpenClaim := { program := "ytiiekgcjilelpaa", sum := "6622d39197b522d75de6053937bb05864b861fc8ee6892a9b5807098eb1c3882", func := "tenancy/tenancylaw34.ScriptEncodes", spec := "scriptEncodes", unfollowed := true, recurses := true, plainKeys := false, apart := false, narrowed := true }
def ScriptEncodesUptoSaid : Prop := scriptEncodesUptoRow.holds Try.pinned (OpenSpec.upto scriptEncodesSpec)

/-- 'tenancylaw34.ScriptDecodes', WHERE WHAT IT READS IS OF BULK AT MOST 1048576: true; the input reads as it did. -/
def scriptDecodesUptoRow : OpenClaim := { program := "ytiiekgcjilelpaa", sum := "6622d39197b522d75de6053937bb05864b861fc8ee6892a9b5807098eb1c3882", func := "tenancy/tenancylaw34.ScriptDecodes", spec := "scriptDecodes", unfollowed := true, recurses := true, plainKeys := false, apart := false, narrowed := true }
def ScriptDecodesUptoSaid : Prop := scriptDecodesUptoRow.holds Try.pinned (OpenSpec.upto scriptDecodesSpec)

/-- 'tenancylaw34.ScriptBack', WHERE WHAT IT READS IS OF BULK AT MOST 1048576: true; the input reads as it did. -/
def scriptBackUptoRow : OpenClaim := { program := "ytiiekgcjilelpaa", sum := "6622d39197b522d75de6053937bb05864b861fc8ee6892a9b5807098eb1c3882", func := "tenancy/tenancylaw34.ScriptBack", spec := "scriptBack", unfollowed := true, recurses := true, plainKeys := false, apart := false, narrowed := true }
def ScriptBackUptoSaid : Prop := scriptBackUptoRow.holds Try.pinned (OpenSpec.upto scriptBackSpec)

/-- 'tenancylaw34.ScriptPicks', WHERE WHAT IT READS IS OF BULK AT MOST 1048576: true; the input reads as it did. -/
def scriptPicksUptoRow : OpenClaim := { program := "ytiiekgcjilelpaa", sum := "6622d39197b522d75de6053937bb05864b861fc8ee6892a9b5807098eb1c3882", func := "tenancy/tenancylaw34.ScriptPicks", spec := "scriptPicks", unfollowed := true, recurses := true, plainKeys := false, apart := false, narrowed := true }
def ScriptPicksUptoSaid : Prop := scriptPicksUptoRow.holds Try.pinned (OpenSpec.upto scriptPicksSpec)

/-- 'tenancylaw17.WireEncodes', WHERE WHAT IT READS IS OF BULK AT MOST 1048576: true; the input reads as it did. -/
def wireEncodesUptoRow : OpenClaim := { program := "ytiiekgcjilelpaa", sum := "6622d39197b522d75de6053937bb05864b861fc8ee6892a9b5807098eb1c3882", func := "tenancy/tenancylaw17.WireEncodes", spec := "wireEncodes", unfollowed := true, recurses := true, plainKeys := false, apart := false, narrowed := true }
def WireEncodesUptoSaid : Prop := wireEncodesUptoRow.holds Try.pinned (OpenSpec.upto wireEncodesSpec)

/-- 'tenancylaw17.WireDecodes', WHERE WHAT IT READS IS OF BULK AT MOST 1048576: true; the input reads as it did. -/
def wireDecodesUptoRow : OpenClaim := { program := "ytiiekgcjilelpaa", sum := "6622d39197b522d75de6053937bb05864b861fc8ee6892a9b5807098eb1c3882", func := "tenancy/tenancylaw17.WireDecodes", spec := "wireDecodes", unfollowed := true, recurses := true, plainKeys := false, apart := false, narrowed := true }
def WireDecodesUptoSaid : Prop := wireDecodesUptoRow.holds Try.pinned (OpenSpec.upto wireDecodesSpec)

/-- 'tenancylaw17.WireBack', WHERE WHAT IT READS IS OF BULK AT MOST 1048576: true; the input reads as it did. -/
def wireBackUptoRow : OpenClaim := { program := "ytiiekgcjilelpaa", sum := "6622d39197b522d75de6053937bb05864b861fc8ee6892a9b5807098eb1c3882", func := "tenancy/tenancylaw17.WireBack", spec := "wireBack", unfollowed := true, recurses := true, plainKeys := false, apart := false, narrowed := true }
def WireBackUptoSaid : Prop := wireBackUptoRow.holds Try.pinned (OpenSpec.upto wireBackSpec)

/-- 'tenancylaw17.WireLong', WHERE WHAT IT READS IS OF BULK AT MOST 1048576: true; the input reads as it did. -/
def wireLongUptoRow : OpenClaim := { program := "ytiiekgcjilelpaa", sum := "6622d39197b522d75de6053937bb05864b861fc8ee6892a9b5807098eb1c3882", func := "tenancy/tenancylaw17.WireLong", spec := "wireLong", unfollowed := true, recurses := true, plainKeys := false, apart := false, narrowed := true }
def WireLongUptoSaid : Prop := wireLongUptoRow.holds Try.pinned (OpenSpec.upto wireLongSpec)

/-- 'tenancylaw22.RecallPlays', WHERE WHAT IT READS IS OF BULK AT MOST 1048576: true; the input reads as it did. -/
def recallPlaysUptoRow : OpenClaim := { program := "ytiiekgcjilelpaa", sum := "6622d39197b522d75de6053937bb05864b861fc8ee6892a9b5807098eb1c3882", func := "tenancy/tenancylaw22.RecallPlays", spec := "recallPlays", unfollowed := true, recurses := true, plainKeys := false, apart := false, narrowed := true }
def RecallPlaysUptoSaid : Prop := recallPlaysUptoRow.holds Try.pinned (OpenSpec.upto recallPlaysSpec)

/-- 'tenancylaw18.NetPlays', WHERE WHAT IT READS IS OF BULK AT MOST 1048576: true; the input reads as it did. -/
def netPlaysUptoRow : OpenClaim := { program := "ytiiekgcjilelpaa", sum := "6622d39197b522d75de6053937bb05864b861fc8ee6892a9b5807098eb1c3882", func := "tenancy/tenancylaw18.NetPlays", spec := "netPlays", unfollowed := true, recurses := true, plainKeys := false, apart := false, narrowed := true }
def NetPlaysUptoSaid : Prop := netPlaysUptoRow.holds Try.pinned (OpenSpec.upto netPlaysSpec)

/-- 'tenancylaw09.DirTurns', WHERE WHAT IT READS IS OF BULK AT MOST 1048576: true; the input reads as it did. -/
def dirTurnsUptoRow : OpenClaim := { program := "ytiiekgcjilelpaa", sum := "6622d39197b522d75de6053937bb05864b861fc8ee6892a9b5807098eb1c3882", func := "tenancy/tenancylaw09.DirTurns", spec := "dirTurns", inPlace := ["internal/bytealg.abigen_runtime_cmpstring"], unfollowed := true, recurses := true, plainKeys := false, apart := false, narrowed := true }
def DirTurnsUptoSaid : Prop := dirTurnsUptoRow.holds Try.pinned (OpenSpec.upto dirTurnsSpec)

/-- 'tenancylaw03.DiskPlays', WHERE WHAT IT READS IS OF BULK AT MOST 1048576: true; the input reads as it did. -/
def diskPlaysUptoRow : OpenClaim := { program := "ytiiekgcjilelpaa", sum := "6622d39197b522d75de6053937bb05864b861fc8ee6892a9b5807098eb1c3882", func := "tenancy/tenancylaw03.DiskPlays", spec := "diskPlays", plainKeys := false, apart := false, narrowed := true }
def DiskPlaysUptoSaid : Prop := diskPlaysUptoRow.holds Try.pinned (OpenSpec.upto diskPlaysSpec)

/-- 'tenancylaw05.HeadPlays', WHERE WHAT IT READS IS OF BULK AT MOST 1048576: true; the input reads as it did. -/
def headPlaysUptoRow : OpenClaim := { program := "ytiiekgcjilelpaa", sum := "6622d39197b522d75de6053937bb05864b861fc8ee6892a9b5807098eb1c3882", func := "tenancy/tenancylaw05.HeadPlays", spec := "headPlays", plainKeys := false, apart := false, narrowed := true }
def HeadPlaysUptoSaid : Prop := headPlaysUptoRow.holds Try.pinned (OpenSpec.upto headPlaysSpec)

end Rows
end Go.Proofs.Ytiiekgcjilelpaa

/- G1. -/
import Derived.Test.YtdenmoiaiemokaaBasep
import Derived.Test.YtdenmoiaiemokaaG0p
import Derived.Laws.OwnMore
import Derived.Deep.AppendLies
import Derived.RegionTactic
import Derived.Deep.CutBlock
import Derived.Deep.DeepCutAuto
import Derived.Laws.Bits64
import Derived.Laws.BitsAllLaws
import Derived.Deep.QuietTactic
set_option linter.unusedVariables false
set_option linter.unusedSimpArgs false
namespace Go.Proofs.Ytdenmoiaiemokaa
def bitsOf (x:Nat):Nat→List Bool
 |0=>[]
 |n+1=>x.testBit n::bitsOf x n
def valGo:Nat→List Bool→Nat
 |v,[]=>v
 |v,b::l=>valGo (2 * v+b.toNat) l
def val (l:List Bool):Nat:=valGo 0 l
theorem bitsOf_length (x:Nat):∀ n,(bitsOf x n).length=n
 |0=>rfl
 |n+1=>by simp [bitsOf,bitsOf_length x n]
def byteN (c:List Bool):Nat:=val c * 2 ^ (8 - c.length)
def byteOf (c:List Bool):UInt8:=UInt8.ofNat (byteN c)
def packed (l:List Bool):List UInt8:=(List.range ((l.length+7) / 8)).map fun i=>byteOf ((l.drop (8 * i)).take 8)
def bitsAll (l:List UInt8):List Bool:=l.flatMap fun b=>bitsOf b.toNat 8
theorem bitsAll_length:∀ l:List UInt8,(bitsAll l).length=8 * l.length
 |[]=>rfl
 |b::l=>by
  have h:=bitsAll_length l
  unfold bitsAll at h ⊢
  rw [List.flatMap_cons,List.length_append,h,bitsOf_length,List.length_cons]
  omega
end Go.Proofs.Ytdenmoiaiemokaa
set_option linter.unusedVariables false
set_option linter.unusedSimpArgs false
namespace Go.Proofs.Ytdenmoiaiemokaa
open Go.RowKit
def usedOf (l:List Bool):Nat:=if l.length % 8=0 then 8 else l.length % 8
def WrIs (w:World) (B wb:Nat) (l:List Bool) (err:Int):Prop:=
 ∃ ao cap,w.heap[wb]? =some (.cells #[.bool true,.slice ao (packed l).length cap,.int .i64 (usedOf l:Int),.int .i64 err] 231 (0,0))∧B≤wb∧
  w.ownsRow B 5 1 (.slice ao (packed l).length cap) (packed l).length ((packed l).map bv)
def WrF (w:World) (wb:Nat) (k:Nat):Prop:=k=wb∨∃ v,w.cell? ⟨wb,1,none⟩=some v∧v.ownBlock=some k
end Go.Proofs.Ytdenmoiaiemokaa
set_option linter.unusedVariables false
set_option linter.unusedSimpArgs false
namespace Go.Proofs.Ytdenmoiaiemokaa
open Go.RowKit
def fitsN (x:Nat) (n:Int):Prop:=0≤n∧n≤64∧x<2 ^ n.toNat
instance (x:Nat) (n:Int):Decidable (fitsN x n):=by unfold fitsN;infer_instance
end Go.Proofs.Ytdenmoiaiemokaa
set_option linter.unusedVariables false
set_option linter.unusedSimpArgs false
namespace Go.Proofs.Ytdenmoiaiemokaa
open Go.RowKit
end Go.Proofs.Ytdenmoiaiemokaa
set_option linter.unusedVariables false
set_option linter.unusedSimpArgs false
namespace Go.Proofs.Ytdenmoiaiemokaa
open Go.RowKit
end Go.Proofs.Ytdenmoiaiemokaa
set_option linter.unusedVariables false
set_option linter.unusedSimpArgs false
namespace Go.Proofs.Ytdenmoiaiemokaa
open Go.RowKit
def RdIs (w:World) (B rb:Nat) (l:List UInt8) (at':Nat) (err:Int):Prop:=
 ∃ ao cap,w.heap[rb]? =some (.cells #[.bool true,.slice ao l.length cap,.int .i64 (at':Int),.int .i64 err] 234 (0,0))∧B≤rb∧
  w.ownsRow B 5 1 (.slice ao l.length cap) l.length (l.map bv)∧∀ k,(Value.slice ao l.length cap).ownBlock=some k→k<rb
section
variable {w:World} {B rb:Nat} {l:List UInt8} {at':Nat} {err:Int}
end
end Go.Proofs.Ytdenmoiaiemokaa
set_option linter.unusedVariables false
set_option linter.unusedSimpArgs false
namespace Go.Proofs.Ytdenmoiaiemokaa
open Go.RowKit
end Go.Proofs.Ytdenmoiaiemokaa

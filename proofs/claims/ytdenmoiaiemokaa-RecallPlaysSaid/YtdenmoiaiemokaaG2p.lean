/- G2. -/
import Derived.Test.YtdenmoiaiemokaaG1p
import Derived.Test.YtdenmoiaiemokaaOpenp
import Derived.Test.YtdenmoiaiemokaaG0p
set_option linter.unusedSimpArgs false
set_option linter.unusedVariables false
namespace Go.Proofs.Ytdenmoiaiemokaa
open Go.RowKit
def getV (l:List UInt8) (at':Nat) (err n:Int):Nat:=if err=0∧0≤n∧n≤64∧(at':Int)+n≤8 * (l.length:Int) then val (bitsFrom l at' n.toNat) else 0
def getAt (l:List UInt8) (at':Nat) (err n:Int):Nat:=if err=0∧0≤n∧n≤64∧(at':Int)+n≤8 * (l.length:Int) then at'+n.toNat else at'
def getE (l:List UInt8) (at':Nat) (err n:Int):Int:=if err≠0 then err else if n<0∨64<n then 2 else if 8 * (l.length:Int)<(at':Int)+n then 3 else 0
def putL (bl:List Bool) (err:Int) (x:Nat) (n:Int):List Bool:=if err=0∧fitsN x n then bl++bitsOf x n.toNat else bl
def putE (err:Int) (x:Nat) (n:Int):Int:=if err=0∧¬ fitsN x n then 2 else err
def bb (b:Bool):UInt8:=if b then 1 else 0
def bbs (l:List Bool):List UInt8:=l.map bb
theorem bbs_length (l:List Bool):(bbs l).length=l.length:=by simp [bbs]
theorem bbs_append (l m:List Bool):bbs (l++m)=bbs l++bbs m:=List.map_append
end Go.Proofs.Ytdenmoiaiemokaa

/- Messages, by the program. -/
import Derived.Test.YtklemhmdbfhcdaaM7

set_option linter.unusedVariables false
set_option linter.unusedSimpArgs false
namespace Go.Proofs.Ytklemhmdbfhcdaa
open Go.RowKit

/-- A message. -/
structure Msg where
  (ty cl ss sq bo kd er f1 f2 d1 d2 : Int)
  (nm ot : ByteArray)
  (mo pl : Int)
  (da : ByteArray)
  (ve : Int)
  (en : List Ent)
def eqS (a b : ByteArray) : Bool := a.toList == b.toList
def headSame (a b : Msg) : Bool := a.ty == b.ty && a.cl == b.cl && a.ss == b.ss && a.sq == b.sq && a.bo == b.bo && a.kd == b.kd && a.er == b.er
def fileSame (a b : Msg) : Bool := (a.f1 == b.f1 && a.f2 == b.f2)
def dirSame (a b : Msg) : Bool := (a.d1 == b.d1 && a.d2 == b.d2)
def midSame (a b : Msg) : Bool := headSame a b && fileSame a b && dirSame a b && eqS a.nm b.nm && eqS a.ot b.ot && a.mo == b.mo && a.pl == b.pl && eqS a.da b.da && a.ve == b.ve
def sameM (a b : Msg) : Bool := midSame a b && sameE a.en b.en
def filesSame (a b : Msg) : Bool := fileSame a b && dirSame a b && eqS a.nm b.nm && eqS a.ot b.ot && a.mo == b.mo
def sameR (a b : Msg) : Bool := headSame a b && filesSame a b && a.pl == b.pl && eqS a.da b.da && a.ve == b.ve && sameE a.en b.en
def HI (x : Bool) : Prop := x = true
end Go.Proofs.Ytklemhmdbfhcdaa

/- HW. -/
import Derived.Test.YtiiekgcjilelpaaH7p
import Derived.Laws.CopyRow
set_option linter.unusedSimpArgs false
set_option linter.unusedVariables false
namespace Go.Proofs.Ytiiekgcjilelpaa
open Go.RowKit
section
variable {W0:World} {G:Nat→Prop} {w w':World} {e:Env} {mem:Mem Td}
def winHi:List CV→Bool→Option Int
 |[],false=>some 128
 |[.one q],true=>(match valP q with|some (.int _ h)=>some h|_=>none)
 |_,_=>none
def isWin:List CV→Bool
 |[.one (.ptr _ off)]=>!eqb off 0
 |[.one (.elt _ _ _ _)]=>true
 |_=>false
def opWin (t:TypeId) (hi:Bool) (us:List CV):OpD:=none
theorem ytn {t:TypeId} {us:List CV} {ps:List Prop} {r:SV} {mo:Option (Mem Td)} {hi:Option Operand} (h:opWin t hi.isSome us=some (ps,r,mo)) (hp:∀ p∈ps,p) {o:Oper} {ρ:Operand→Value} {x:Operand} (ho:o.op=.slice t x none hi none) (ha:AllC e us ((x::hi.toList).map ρ)):
  yai Try.prog (fun v w'=>OutIs Id' W0 G w e r v w' mo) ((execOp ρ o).run Try.prog w):=by
 unfold opWin at h
 cases h
def ynp (ts:List TypeId) (us:List CV) (mem:Mem Td):OpD:=none
theorem yvz {xs:Array Operand} {ts:Array TypeId} {us:List CV} {ps:List Prop} {r:SV} {mo:Option (Mem Td)} (h:ynp ts.toList us mem=some (ps,r,mo)) (hp:∀ p∈ps,p) {o:Oper} {ρ:Operand→Value} (ho:o.op=.call { callee:=.builtin .copy,args:=xs,argTypes:=ts }) (hM:MemOk W0 G Id' w e mem) (ha:AllC e us (o.op.operands.toList.map ρ)):
  yai Try.prog (fun v w'=>OutIs Id' W0 G w e r v w' mo) ((execOp ρ o).run Try.prog w):=by
 unfold ynp at h
 cases h
end
end Go.Proofs.Ytiiekgcjilelpaa

/- HY. -/
import Derived.Test.YtiiekgcjilelpaaHXp
import Derived.Test.YtiiekgcjilelpaaH4p
import Derived.Test.YtiiekgcjilelpaaV2p
set_option linter.unusedSimpArgs false
set_option linter.unusedVariables false
namespace Go.Proofs.Ytiiekgcjilelpaa
open Go.RowKit
section
variable {W0:World} {G:Nat→Prop} {w w':World} {e:Env} {mem:Mem Td}
def yka (t:TypeId) (us:List CV) (mem:Mem Td):OpD:=none
theorem yvr {t:TypeId} {p:PV} {v:CV} {mem m':Mem Td} {ps:List Prop} {r:SV} (h:yka t [.one p,v] mem=some (ps,r,some m')):∃ i,ycd p=some i∧∀ j en,mem[j]? =some en→j≠i→m'[j]? =some en:=by
 unfold yka at h
 cases h
theorem opSetR_ok {t:TypeId} {us:List CV} {ps:List Prop} {r:SV} {mo:Option (Mem Td)} (h:yka t us mem=some (ps,r,mo)) {o:Oper} {ρ:Operand→Value} {x y:Operand} (ho:o.op=.store t x y) (hM:MemOk W0 G Id' w e mem) (ha:AllC e us [ρ x,ρ y]):
  yai Try.prog (fun v w'=>OutIs Id' W0 G w e r v w' mo) ((execOp ρ o).run Try.prog w):=by
 unfold yka at h
 cases h
def yji (ts:List TypeId) (us:List CV) (mem:Mem Td):OpD:=none
theorem yr6 {xs:Array Operand} {ts:Array TypeId} {us:List CV} {ps:List Prop} {r:SV} {mo:Option (Mem Td)} (h:yji ts.toList us mem=some (ps,r,mo)) (hp:∀ p∈ps,p) {o:Oper} {ρ:Operand→Value} (ho:o.op=.call { callee:=.builtin .clear,args:=xs,argTypes:=ts }) (hM:MemOk W0 G Id' w e mem)
  (ha:AllC e us (o.op.operands.toList.map ρ)):yai Try.prog (fun v w'=>OutIs Id' W0 G w e r v w' mo) ((execOp ρ o).run Try.prog w):=by
 unfold yji at h
 cases h
end
end Go.Proofs.Ytiiekgcjilelpaa

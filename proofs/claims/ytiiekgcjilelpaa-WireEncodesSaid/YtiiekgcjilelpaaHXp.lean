/- HX. -/
import Derived.Test.YtiiekgcjilelpaaHWp
set_option linter.unusedSimpArgs false
set_option linter.unusedVariables false
namespace Go.Proofs.Ytiiekgcjilelpaa
open Go.RowKit
section
variable {W0:World} {G:Nat→Prop} {w w':World} {e:Env} {mem:Mem Td}
def opWinA (t:TypeId) (us:List CV):OpD:=none
theorem opWinA_ok {t:TypeId} {us:List CV} {ps:List Prop} {r:SV} {mo:Option (Mem Td)} (h:opWinA t us=some (ps,r,mo)) (hp:∀ p∈ps,p) {o:Oper} {ρ:Operand→Value} {x y:Operand} (ho:o.op=.slice t x none (some y) none) (ha:AllC e us [ρ x,ρ y]):
  yai Try.prog (fun v w'=>OutIs Id' W0 G w e r v w' mo) ((execOp ρ o).run Try.prog w):=by
 unfold opWinA at h
 cases h
def yif (s d:TypeId) (us:List CV) (mem:Mem Td):OpD:=none
theorem yv0 {s d:TypeId} {us:List CV} {ps:List Prop} {r:SV} {mo:Option (Mem Td)} (h:yif s d us mem=some (ps,r,mo)) (hp:∀ p∈ps,p) {o:Oper} {ρ:Operand→Value} {x:Operand} (ho:o.op=.convert s d x) (hM:MemOk W0 G Id' w e mem) (ha:AllC e us [ρ x]):
  yai Try.prog (fun v w'=>OutIs Id' W0 G w e r v w' mo) ((execOp ρ o).run Try.prog w):=by
 unfold yif at h
 cases h
theorem ypj {s d:TypeId} {us:List CV} {m m':Mem Td} {ps:List Prop} {r:SV} (h:yif s d us m=some (ps,r,none)) (hl:MLe m m'):yif s d us m'=some (ps,r,none):=by
 unfold yif at h
 cases h
def opRR (t:TypeId) (us:List CV) (mem:Mem Td):OpD:=none
theorem opRR_ok {t:TypeId} {lo:Operand} {us:List CV} {ps:List Prop} {r:SV} {mo:Option (Mem Td)} (h:opRR t us mem=some (ps,r,mo)) (hp:∀ p∈ps,p) {o:Oper} {ρ:Operand→Value} {x:Operand} (ho:o.op=.slice t x (some lo) none none) (hM:MemOk W0 G Id' w e mem) (ha:AllC e us [ρ x,ρ lo]):
  yai Try.prog (fun v w'=>OutIs Id' W0 G w e r v w' mo) ((execOp ρ o).run Try.prog w):=by
 unfold opRR at h
 cases h
def opSS (t:TypeId) (us:List CV) (mem:Mem Td):OpD:=none
theorem opSS_ok {t:TypeId} {hi:Operand} {us:List CV} {ps:List Prop} {r:SV} {mo:Option (Mem Td)} (h:opSS t us mem=some (ps,r,mo)) (hp:∀ p∈ps,p) {o:Oper} {ρ:Operand→Value} {x:Operand} (ho:o.op=.slice t x none (some hi) none) (hM:MemOk W0 G Id' w e mem) (ha:AllC e us [ρ x,ρ hi]):
  yai Try.prog (fun v w'=>OutIs Id' W0 G w e r v w' mo) ((execOp ρ o).run Try.prog w):=by
 unfold opSS at h
 cases h
def isWinP:List CV→Bool
 |[.one (.win _ _ _ _ _ _)]=>true
 |_=>false
end
end Go.Proofs.Ytiiekgcjilelpaa

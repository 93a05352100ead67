/- HZ. -/
import Derived.Test.YtiiekgcjilelpaaHYp
import Derived.Test.YtiiekgcjilelpaaH7p
set_option linter.unusedSimpArgs false
set_option linter.unusedVariables false
namespace Go.Proofs.Ytiiekgcjilelpaa
open Go.RowKit
section
variable {W0:World} {G:Nat→Prop} {w w':World} {e:Env} {mem:Mem Td}
section
variable {tb:TB} {B:Nat} {vals:List Value} {u0 v':Value} {F:Nat→Prop}
end
def yj9 (t:TypeId) (us:List CV) (mem:Mem Td):OpD:=none
theorem yvq {t:TypeId} {p:PV} {v:CV} {mem m':Mem Td} {ps:List Prop} {r:SV} (h:yj9 t [.one p,v] mem=some (ps,r,some m')):∃ i,ycd p=some i∧∀ j en,mem[j]? =some en→j≠i→m'[j]? =some en:=by
 unfold yj9 at h
 cases h
theorem opSetT_ok {t:TypeId} {us:List CV} {ps:List Prop} {r:SV} {mo:Option (Mem Td)} (h:yj9 t us mem=some (ps,r,mo)) {o:Oper} {ρ:Operand→Value} {x y:Operand} (ho:o.op=.store t x y) (hM:MemOk W0 G Id' w e mem) (ha:AllC e us [ρ x,ρ y]):
  yai Try.prog (fun v w'=>OutIs Id' W0 G w e r v w' mo) ((execOp ρ o).run Try.prog w):=by
 unfold yj9 at h
 cases h
def yjh (ts:List TypeId) (us:List CV) (mem:Mem Td):OpD:=none
theorem yr5 {xs:Array Operand} {ts:Array TypeId} {us:List CV} {ps:List Prop} {r:SV} {mo:Option (Mem Td)} (h:yjh ts.toList us mem=some (ps,r,mo)) (hp:∀ p∈ps,p) {o:Oper} {ρ:Operand→Value} (ho:o.op=.call { callee:=.builtin .clear,args:=xs,argTypes:=ts }) (hM:MemOk W0 G Id' w e mem)
  (ha:AllC e us (o.op.operands.toList.map ρ)):yai Try.prog (fun v w'=>OutIs Id' W0 G w e r v w' mo) ((execOp ρ o).run Try.prog w):=by
 unfold yjh at h
 cases h
def yfe (t:TypeId) (lo hi:Bool) (us:List CV) (mem:Mem Td):OpD:=none
theorem yj8 {t:TypeId} {lo hi:Option Operand} {us:List CV} {ps:List Prop} {r:SV} {mo:Option (Mem Td)} (h:yfe t (!yiw lo) (!yiw hi) us mem=some (ps,r,mo)) (hp:∀ p∈ps,p) {o:Oper} {ρ:Operand→Value} {x:Operand} (ho:o.op=.slice t x lo hi none) (hM:MemOk W0 G Id' w e mem) (ha:AllC e us (o.op.operands.toList.map ρ)):
  yai Try.prog (fun v w'=>OutIs Id' W0 G w e r v w' mo) ((execOp ρ o).run Try.prog w):=by
 unfold yfe at h
 cases h
theorem yht {t:TypeId} {lo hi:Bool} {us:List CV} {m m':Mem Td} {ps:List Prop} {r:SV} (h:yfe t lo hi us m=some (ps,r,none)) (hl:MLe m m'):yfe t lo hi us m'=some (ps,r,none):=by
 unfold yfe at h
 cases h
def appX (t:TypeId) (us:List CV) (mem:Mem Td):OpD:=none
theorem appX_at {t:TypeId} {u v:CV} {mem m':Mem Td} {ps:List Prop} {r:SV} (h:appX t [u,v] mem=some (ps,r,some m')):∀ j en,mem[j]? =some en→(∀ p,u=.one p→ycd p≠some j)→m'[j]? =some en:=by
 unfold appX at h
 cases h
theorem appX_ok {t:TypeId} {us:List CV} {ps:List Prop} {r:SV} {m':Mem Td} (h:appX t us mem=some (ps,r,some m')) (hp:∀ p∈ps,p) (ty:TypeId) {vs:List Value} (hM:MemOk W0 G Id' w e mem) (ha:AllC e us vs):
  ∃ e' v w',Grows e e'∧(Builtin.append_ #[t,t] ty vs.toArray).run Try.prog w=.ok v w'∧r.is e' v∧MemOk W0 G Id' w' e' m':=by
 unfold appX at h
 cases h
end
end Go.Proofs.Ytiiekgcjilelpaa

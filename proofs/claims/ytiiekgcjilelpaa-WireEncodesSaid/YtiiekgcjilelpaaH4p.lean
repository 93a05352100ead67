/- H4. -/
import Derived.Test.YtiiekgcjilelpaaH3p
set_option linter.unusedSimpArgs false
set_option linter.unusedVariables false
namespace Go.Proofs.Ytiiekgcjilelpaa
open Go.RowKit
section
variable {W0:World} {G:Nat→Prop} {w w':World} {e:Env} {mem:Mem Td}
theorem ywp {t:TypeId} (hz:yan Try.prog (sizeOf t)=some 1) {b k:Nat} {v x:Value} (hc:w.cell? ⟨b,k,none⟩=some x) (hf:w.frozen? ⟨b,k,none⟩=false) (h1:v.oneCell'=true):
  (storeVar t ⟨b,k,none⟩ v).run Try.prog w=.ok () (w.setCell ⟨b,k,none⟩ v):=by
 have hs:=yam _ hz w
 have hus:v.cells=#[v]:=by cases v<;>simp_all [Value.cells,Value.oneCell']
 have hrun:=run_storeCells_cells (P:=Try.prog) b k [v] 0 w (fun j hj=>by simp at hj;subst hj;simp [hc]) (fun j hj=>by simp at hj;subst hj;simp [hf]) (fun u hu=>by simp at hu;subst hu;exact h1)
 simp only [storeVar,Sem.run_bind,hs,hus,Result.andThen_ok]
 simpa [World.setCells,storeCells] using hrun
def yf8:Value→List Value
 |.agg a=>a.toList
 |x=>[x]
def AggOk (V:Value) (n:Nat):Prop:=V=.agg (yf8 V).toArray∧(yf8 V).length=n∧∀ v∈yf8 V,v.oneCell'=true
def yfd (t:TypeId) (us:List CV) (mem:Mem Td):OpD:=none
theorem ype {t:TypeId} {p:PV} {v:CV} {mem m':Mem Td} {ps:List Prop} {r:SV} (hnv:noHC v=true) (h:yfd t [.one p,v] mem=some (ps,r,some m')):∃ i,ycd p=some i∧∀ j en,mem[j]? =some en→j≠i→m'[j]? =some en:=by
 unfold yfd at h
 cases h
theorem store_fin {o:Oper} {ρ:Operand→Value} {m':Mem Td} (hr:(execOp ρ o).run Try.prog w=.ok .skip w') (hM:MemOk W0 G Id' w' e m'):yai Try.prog (fun v w'=>OutIs Id' W0 G w e (svV undef) v w' (some m')) ((execOp ρ o).run Try.prog w):=by
 rw [hr]
 exact ⟨e,Grows.refl e,rfl,hM⟩
theorem yr2 {t:TypeId} {us:List CV} {ps:List Prop} {r:SV} {mo:Option (Mem Td)} (h:yfd t us mem=some (ps,r,mo)) (hp:∀ p∈ps,p) {o:Oper} {ρ:Operand→Value} {x y:Operand} (ho:o.op=.store t x y) (hM:MemOk W0 G Id' w e mem) (ha:AllC e us [ρ x,ρ y]):
  yai Try.prog (fun v w'=>OutIs Id' W0 G w e r v w' mo) ((execOp ρ o).run Try.prog w):=by
 unfold yfd at h
 cases h
end
end Go.Proofs.Ytiiekgcjilelpaa

/- HK. -/
import Derived.Test.YtiiekgcjilelpaaHXp
open List renaming mem_cons_self → zal, replicate → zbg
set_option linter.unusedSimpArgs false
set_option linter.unusedVariables false
namespace Go.Proofs.Ytiiekgcjilelpaa
open Go.RowKit
section
variable {W0:World} {G:Nat→Prop} {w w':World} {e:Env} {mem:Mem Td}
def ykc (t:TypeId) (us:List CV) (mem:Mem Td):OpD:=match us with
 |[.one p,.one q]=>(match eqb t 37,valP p,valP q with
  |true,some (.int .i64 n),some (.int .i64 m)=>some ([m=n,0≤n∧n≤1000000],.c (.one (.obj mem.length)),some (mem++[⟨.us (.own (zbg n.toNat 0)),true⟩]))
  |_,_,_=>none)
 |_=>none
theorem ypf {t:TypeId} {us:List CV} {ps:List Prop} {r:SV} (h:ykc t us mem=some (ps,r,none)):False:=by
 unfold ykc at h
 split at h
 ·split at h
  ·simp at h
  ·cases h
 ·cases h
theorem yvw {t:TypeId} {us:List CV} {ps:List Prop} {r:SV} {mo:Option (Mem Td)} (h:ykc t us mem=some (ps,r,mo)) (hp:∀ p∈ps,p) {o:Oper} {ρ:Operand→Value} {x y:Operand} (ho:o.op=.makeSlice t x y) (hM:MemOk W0 G Id' w e mem) (ha:AllC e us [ρ x,ρ y]):
  yai Try.prog (fun v w'=>OutIs Id' W0 G w e r v w' mo) ((execOp ρ o).run Try.prog w):=by
 unfold ykc at h
 split at h
 ·rename_i a b
  split at h
  ·rename_i n m ht hn hm'
   simp only [Option.some.injEq,Prod.mk.injEq] at h
   obtain ⟨rfl,rfl,rfl⟩:=h
   have ht:=eqb_eq.1 ht
   subst ht
   have q0:m=n:=hp _ (zal ..)
   have q1:0≤n∧n≤1000000:=hp _ (List.mem_cons_of_mem _ (zal ..))
   have h1:ρ x=.int .i64 (n.toNat:Int):=by rw [Int.toNat_of_nonneg q1.1];exact yad hn (yau ha.1)
   have h2:ρ y=.int .i64 (n.toNat:Int):=by rw [Int.toNat_of_nonneg q1.1,←q0];exact yad hm' (yau ha.2.1)
   obtain ⟨w',hr,hown,hx⟩:=yl7 n.toNat (by omega) w
   have hrun:(execOp ρ o).run Try.prog w=.ok (.value (.slice (some ⟨w.heap.size,0,none⟩) n.toNat n.toNat)) w':=by
    unfold execOp
    simp only [ho,h1,h2]
    rw [Sem.run_bind,hr]
    rfl
   rw [hrun]
   refine ⟨_,Grows.push e _,?_,hM.push hx _ ⟨.us (.own (zbg n.toNat 0)),true⟩ ⟨w.heap.size,hx.size,by rw [List.length_replicate];exact hown⟩ fun k hk=>yar hown hk⟩
   show (e++[_])[mem.length]? =_
   rw [← hM.len,List.getElem?_append_right (Nat.le_refl _)];simp
  ·cases h
 ·cases h
end
end Go.Proofs.Ytiiekgcjilelpaa

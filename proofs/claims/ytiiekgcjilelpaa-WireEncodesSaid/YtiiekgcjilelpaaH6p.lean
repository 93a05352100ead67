/- H6. -/
import Derived.Test.YtiiekgcjilelpaaH5p
open Array renaming toArray_toList → zbq
set_option linter.unusedSimpArgs false
set_option linter.unusedVariables false
namespace Go.Proofs.Ytiiekgcjilelpaa
open Go.RowKit
section
variable {W0:World} {G:Nat→Prop} {w w':World} {e:Env} {mem:Mem Td}
theorem yvt {t:TypeId} {us:List CV} {ps:List Prop} {r:SV} {mo:Option (Mem Td)} (h:ynl t us mem=some (ps,r,mo)) (hp:∀ p∈ps,p) {o:Oper} {ρ:Operand→Value} {x:Operand} (ho:o.op=.slice t x none none none) (hM:MemOk W0 G Id' w e mem) (ha:AllC e us [ρ x]):
  yai Try.prog (fun v w'=>OutIs Id' W0 G w e r v w' mo) ((execOp ρ o).run Try.prog w):=by
 unfold ynl at h
 cases h
def ytu (t:TypeId) (us:List CV) (mem:Mem Td):OpD:=none
theorem opArrD_ok {t:TypeId} {us:List CV} {ps:List Prop} {r:SV} {mo:Option (Mem Td)} (h:ytu t us mem=some (ps,r,mo)) (hp:∀ p∈ps,p) {o:Oper} {ρ:Operand→Value} {x:Operand} (ho:o.op=.sliceToArrayPointer t x) (hM:MemOk W0 G Id' w e mem) (ha:AllC e us [ρ x]):
  yai Try.prog (fun v w'=>OutIs Id' W0 G w e r v w' mo) ((execOp ρ o).run Try.prog w):=by
 unfold ytu at h
 cases h
def ynn (t:TypeId) (us:List CV) (mem:Mem Td):OpD:=none
theorem yvv {us:List CV} {ps:List Prop} {r:SV} {mo:Option (Mem Td)} (h:ynn 246 us mem=some (ps,r,mo)) (hp:∀ p∈ps,p) {o:Oper} {ρ:Operand→Value} {x y:Operand} (ho:o.op=.makeSlice 246 x y) (hM:MemOk W0 G Id' w e mem) (ha:AllC e us [ρ x,ρ y]):
  yai Try.prog (fun v w'=>OutIs Id' W0 G w e r v w' mo) ((execOp ρ o).run Try.prog w):=by
 unfold ynn at h
 cases h
def yts (ts:List TypeId) (us:List CV) (mem:Mem Td):OpD:=match us,ts with
 |[.one (.obj i)],[t]=>(match lenD mem i,elSz t with
  |some (n,_),some _=>some ([],svV (.int .i64 (n:Int)),none)
  |_,_=>none)
 |_,_=>none
theorem opLenD_ok {xs:Array Operand} {ts:Array TypeId} {us:List CV} {ps:List Prop} {r:SV} {mo:Option (Mem Td)} (h:yts ts.toList us mem=some (ps,r,mo)) {o:Oper} {ρ:Operand→Value} (ho:o.op=.call { callee:=.builtin .len,args:=xs,argTypes:=ts }) (hM:MemOk W0 G Id' w e mem) (ha:AllC e us (o.op.operands.toList.map ρ)):
  yai Try.prog (fun v w'=>OutIs Id' W0 G w e r v w' mo) ((execOp ρ o).run Try.prog w):=by
 unfold yts at h
 split at h
 ·rename_i i t htl
  split at h
  ·rename_i n s sz hl hsz
   simp only [Option.some.injEq,Prod.mk.injEq] at h
   obtain ⟨rfl,rfl,rfl⟩:=h
   rw [ho] at ha
   obtain ⟨u,he,a0⟩:=yiq ha
   have hx1:∃ x,xs.toList=[x]:=by
    have hl:=congrArg List.length he
    simp [Op.operands,Call.operands] at hl
    match hq:xs.toList,(show xs.toList.length=1 by simpa using hl) with
    |[x],_=>exact ⟨x,rfl⟩
   obtain ⟨x,hxe⟩:=hx1
   have e1:xs=#[x]:=by rw [← zbq (xs:=xs),hxe]
   subst e1
   have e2:ts=#[t]:=by rw [← zbq (xs:=ts),htl]
   subst e2
   simp [Op.operands,Call.operands] at he
   subst he
   obtain ⟨ao,cap,hv,_⟩:=ysc hM hl (show e[i]? =some (ρ x) from a0)
   obtain ⟨el,hu,_⟩:=yfv (yn3 hsz) w
   have hrun:(execOp ρ o).run Try.prog w=.ok (.value (.int .i64 (n:Int))) w:=by
    unfold execOp
    simp only [ho,resolve,invoke,builtin,Builtin.len_,Sem.run_bind,Sem.run_pure,Result.andThen_ok]
    simp [hv,hu,goInt,Sem.run_bind]
   rw [hrun]
   exact ⟨rfl,Ext.refl w⟩
  ·cases h
 ·cases h
def ptrL:List TypeId:=[139,142]
 ++[105]
 ++[76]
 ++[78]
 ++[180]
 ++[188]
def ptrIn (t:TypeId):List TypeId→Bool
 |[]=>false
 |u::r=>(match eqb u t with|true=>true|false=>ptrIn t r)
theorem ypa {t:TypeId}:∀ {l:List TypeId},ptrIn t l=true→t∈l
 |[],h=>by cases h
 |u::r,h=>by
  simp only [ptrIn] at h
  split at h
  ·rename_i he
   obtain rfl:=eqb_eq.1 he
   exact List.mem_cons_self ..
  ·exact List.mem_cons_of_mem _ (ypa h)
def isPtrT (t:TypeId):Bool:=ptrIn t ptrL
def yo9 (mem:Mem Td):List CV→Bool
 |[.one (.ptr _ _),.one (.v (.pointer none))]=>true
 |[.one (.obj i),.one (.v (.pointer none))]=>(match mem[i]? with|some ⟨.us (.wr _),_⟩=>true|some ⟨.us (.rd _),_⟩=>true|_=>false)
 |_=>false
theorem yrx {m m':Mem Td} (hl:MLe m m') {us:List CV} (h:yo9 m us=true):yo9 m' us=true:=by
 unfold yo9 at h ⊢
 split at h
 ·rfl
 ·split at h
  ·rename_i hm
   rw [hl _ _ hm (by simp)]
  ·rename_i hm
   rw [hl _ _ hm (by simp)]
  ·cases h
 ·cases h
def ytq (b:BinOp) (t:TypeId) (us:List CV) (mem:Mem Td):OpD:=match isPtrT t&&yo9 mem us with
 |true=>(match b with
  |.neq=>some ([],.c (.one (.kB true)),none)
  |.eql=>some ([],.c (.one (.kB false)),none)
  |_=>none)
 |false=>none
theorem cmp_nil {t:TypeId} (ht:isPtrT t=true) (n:Bool) (x y:Operand) (b o:Nat) (w:World):((do eqGuard (cond n .neq .eql) t x y (.pointer (some ⟨b,o,none⟩)) (.pointer none);binOp (cond n .neq .eql) t (.pointer (some ⟨b,o,none⟩)) (.pointer none)):Sem Value).run Try.prog w=.ok (.bool n) w:=by
 have hm:=ypa ht
 simp only [ptrL,List.cons_append,List.nil_append,List.mem_cons,List.not_mem_nil,or_false] at hm
 clear ht
 rcases hm with rfl|rfl
  |rfl
  |rfl
  |rfl
  |rfl
  |rfl
 all_goals
  cases n
  ·exact yam _ (by kernel_rfl) w
  ·exact yam _ (by kernel_rfl) w
theorem opNilD_ok {b:BinOp} {t:TypeId} {us:List CV} {ps:List Prop} {r:SV} {mo:Option (Mem Td)} (h:ytq b t us mem=some (ps,r,mo)) {o:Oper} {ρ:Operand→Value} {x y:Operand} {ty':TypeId} (ho:o.op=.binOp b t x y ty') (hM:MemOk W0 G Id' w e mem) (ha:AllC e us [ρ x,ρ y]):
  yai Try.prog (fun v w'=>OutIs Id' W0 G w e r v w' mo) ((execOp ρ o).run Try.prog w):=by
 unfold ytq at h
 split at h
 ·rename_i hb
  rw [Bool.and_eq_true] at hb
  obtain ⟨B,O,hx,hy⟩:∃ B O,ρ x=.pointer (some ⟨B,O,none⟩)∧ρ y=.pointer none:=by
   have:=hb.2
   unfold yo9 at this
   split at this
   ·obtain ⟨B,O,hE,hx⟩:=yau ha.1
    exact ⟨B,_,hx,yau ha.2.1⟩
   ·have hE:=yau ha.1
    split at this
    ·rename_i s mu hm
     obtain ⟨B,wb,hu,_⟩:=hM.holds _ _ _ hE hm
     exact ⟨wb,0,hu,yau ha.2.1⟩
    ·rename_i s mu hm
     obtain ⟨B,rb,hu,_⟩:=hM.holds _ _ _ hE hm
     exact ⟨rb,0,hu,yau ha.2.1⟩
    ·cases this
   ·cases this
  split at h
  ·simp only [Option.some.injEq,Prod.mk.injEq] at h
   obtain ⟨rfl,rfl,rfl⟩:=h
   have:=cmp_nil hb.1 true x y B O w
   simp only [cond_true] at this
   have hrun:(execOp ρ o).run Try.prog w=.ok (.value (.bool true)) w:=by
    unfold execOp
    simp only [ho,hx,hy]
    rw [Sem.run_bind,this];rfl
   rw [hrun]
   exact ⟨rfl,Ext.refl w⟩
  ·simp only [Option.some.injEq,Prod.mk.injEq] at h
   obtain ⟨rfl,rfl,rfl⟩:=h
   have:=cmp_nil hb.1 false x y B O w
   simp only [cond_false] at this
   have hrun:(execOp ρ o).run Try.prog w=.ok (.value (.bool false)) w:=by
    unfold execOp
    simp only [ho,hx,hy]
    rw [Sem.run_bind,this];rfl
   rw [hrun]
   exact ⟨rfl,Ext.refl w⟩
  ·cases h
 ·cases h
end
end Go.Proofs.Ytiiekgcjilelpaa

/- H7. -/
import Derived.Test.YtiiekgcjilelpaaH6p
open List renaming length_cons → zax, replicate → zbg
open Nat renaming zero_add → zbo
set_option linter.unusedSimpArgs false
set_option linter.unusedVariables false
namespace Go.Proofs.Ytiiekgcjilelpaa
open Go.RowKit
section
variable {W0:World} {G:Nat→Prop} {w w':World} {e:Env} {mem:Mem Td}
def layL (off:Nat) (us:List Value) (vs:List Value):List Value:=vs.take off++us++vs.drop (off+us.length)
theorem ymg:∀ (us:List Value) (k off:Nat) (vs:Array Value),off+k+us.length≤vs.size→((us.zipIdx k).foldl (fun a (c:Value×Nat)=>a.setIfInBounds (off+c.2) c.1) vs).toList=layL (off+k) us vs.toList
 |[],k,off,vs,_=>by simp [layL]
 |u::us,k,off,vs,h=>by
  simp only [zax] at h
  rw [List.zipIdx_cons,List.foldl_cons]
  rw [ymg us (k+1) off _ (by simp;omega)]
  simp only [layL,Array.toList_setIfInBounds,zax]
  have hlt:off+k<vs.toList.length:=by simp;omega
  rw [show off+(k+1)=off+k+1 by omega,List.take_add_one,List.take_set_of_le (Nat.le_refl _),List.getElem?_set_self hlt,List.drop_set_of_lt (by omega)]
  simp
  congr 1
  omega
theorem ykw {place:Nat→Option (Nat×Nat)} {cells:Array Value} {i off size:Nat} {v:Value} {rest:List (Nat×Value)} (hp:place i=some (off,size)) (hs:v.cells.size=size) (hl:off+size≤cells.size):
  Instr.fill place cells ((i,v)::rest)=Instr.fill place (layL off v.cells.toList cells.toList).toArray rest:=by
 rw [Instr.fill,hp]
 simp only
 rw [if_neg (by simp only [Bool.or_eq_true,decide_eq_true_eq];omega)]
 congr 1
 apply Array.ext'
 rw [← Array.foldl_toList]
 have:=ymg v.cells.toList 0 off cells (by simp;omega)
 simpa using this
theorem ys3 {V:Value} {n:Nat} (h:AggOk V n):V.cells=(yf8 V).toArray:=by
 obtain ⟨h1,_,_⟩:=h
 rw [h1]
 simp [Value.cells,yf8]
def ynq (t:TypeId) (us:List CV) (mem:Mem Td):OpD:=match us with
 |[.one p,.one (.v V)]=>(match valP p,eqb t 253 with
  |some (.int .i64 a),true=>some ([AggOk V 128],svV (.agg (.int .i64 a::yf8 V).toArray),none)
  |_,_=>none)
 |_=>none
theorem yr7 {t:TypeId} {us:List CV} {ps:List Prop} {r:SV} {mo:Option (Mem Td)} (h:ynq t us mem=some (ps,r,mo)) (hp:∀ p∈ps,p) {o:Oper} {ρ:Operand→Value} {x y:Operand} (ho:o.op=.build t #[(0,x),(1,y)]) (hM:MemOk W0 G Id' w e mem) (ha:AllC e us [ρ x,ρ y]):
  yai Try.prog (fun v w'=>OutIs Id' W0 G w e r v w' mo) ((execOp ρ o).run Try.prog w):=by
 unfold ynq at h
 split at h
 ·rename_i p V
  split at h
  ·rename_i a hv ht
   obtain rfl:=eqb_eq.1 ht
   simp only [Option.some.injEq,Prod.mk.injEq] at h
   obtain ⟨rfl,rfl,rfl⟩:=h
   have q:AggOk V 128:=hp _ (List.mem_cons_self ..)
   have hx:ρ x=.int .i64 a:=yad hv (yau ha.1)
   have hy:ρ y=V:=yau ha.2.1
   have hz:(zeroValue 253).run Try.prog w=.ok (.agg (.int .i64 0::zbg 128 (.int .u8 0)).toArray) w:=yam _ (by kernel_rfl) w
   have hpl:yan Try.prog (yof 253)=some (#[(0,1),(1,128)],none):=by kernel_rfl
   have hc:=ys3 q
   have hfill:Instr.fill (fun i=>(#[(0,1),(1,128)]:Array (Nat×Nat))[i]?) (Value.agg (.int .i64 0::zbg 128 (.int .u8 0)).toArray).cells [(0,.int .i64 a),(1,V)]=some (.int .i64 a::yf8 V).toArray:=by
    rw [ykw (off:=0) (size:=1) rfl rfl (by simp [Value.cells])]
    rw [ykw (off:=1) (size:=128) rfl (by rw [hc];simpa using q.2.1) (by simp [layL,Value.cells])]
    rw [Instr.fill,hc]
    refine congrArg (fun l:List Value=>some l.toArray) ?_
    show layL 1 (yf8 V) (layL 0 [Value.int .i64 a] (.int .i64 0::zbg 128 (.int .u8 0)))=_
    simp only [layL,List.take_zero,List.nil_append,zax,List.length_nil,zbo,List.drop_succ_cons,List.drop_zero,List.singleton_append,List.take_succ_cons,List.cons_append]
    rw [show (1+(yf8 V).length)=(yf8 V).length+1 by omega,List.drop_succ_cons,List.drop_eq_nil_of_le (by rw [q.2.1];simp)]
    simp
   have hrun:(execOp ρ o).run Try.prog w=.ok (.value (.agg (.int .i64 a::yf8 V).toArray)) w:=by
    unfold execOp
    rcases ylf hpl w with ⟨fields,arr,he,k1,k2⟩|⟨len,elem,n,he,k1,k2⟩
    ·cases he
     simp only [ho,List.map_toArray,List.map_cons,List.map_nil,hx,hy,Instr.build,Sem.run_bind,hz,k1,k2,Result.andThen_ok,Sem.run_pure]
     rw [hfill]
     simp [Sem.run_pure]
    ·cases he
   rw [hrun]
   exact ⟨rfl,Ext.refl w⟩
  ·cases h
 ·cases h
theorem run_lit1 {t el size:Nat} {z V:Value} (ht:Try.prog.underlying t=some (.slice el)) (hs:yan Try.prog (sizeOf el)=some size) (hz:yan Try.prog (zeroValue el)=some z) (h0:0<size) (h1:size≤16777216) (hV:V.cells.size=size) (w:World):
  (Instr.buildSlice t 1 #[(0,V)]).run Try.prog w=.ok (.slice (some ⟨w.heap.size,0,none⟩) 1 1) (w.alloc (.cells V.cells el)):=by
 have hu:(underlying t).run Try.prog w=.ok (.slice el) w:=run_underlying ht w
 have hs':=yam _ hs w
 have hz':=yam _ hz w
 have hfill:∀ A:Array Value,A.size=size→Instr.fill (fun i=>some (i * size,size)) A [(0,V)]=some V.cells:=fun A hA=>by
  rw [ykw (off:=0 * size) (size:=size) rfl hV (by omega),Instr.fill]
  refine congrArg some (Array.ext' ?_)
  simp only [layL,Nat.zero_mul,List.take_zero,List.nil_append,zbo]
  rw [List.drop_eq_nil_of_le (by simp;omega)]
  simp
 have h2:¬ (16777216<size):=by omega
 have h3:¬ (size=0):=by omega
 simp [Instr.buildSlice,Sem.run_bind,hu,hs',hz',h2,h3,hfill,newRow,newObj]
 rfl
def wqL:List (TypeId×TypeId):=[(154,255)]
 ++[(229,115)]
 ++[(108,117)]
def wqIn (t:TypeId):List (TypeId×TypeId)→Option TypeId
 |[]=>none
 |(u,x)::r=>match eqb u t with|true=>some x|false=>wqIn t r
def wqT (t:TypeId):Option TypeId:=wqIn t wqL
def ypi (t:TypeId) (us:List CV) (mem:Mem Td):OpD:=none
theorem opLitD_ok {t:TypeId} {us:List CV} {ps:List Prop} {r:SV} {mo:Option (Mem Td)} (h:ypi t us mem=some (ps,r,mo)) (hp:∀ p∈ps,p) {o:Oper} {ρ:Operand→Value} {x:Operand} (ho:o.op=.buildSlice t 1 #[(0,x)]) (hM:MemOk W0 G Id' w e mem) (ha:AllC e us [ρ x]):
  yai Try.prog (fun v w'=>OutIs Id' W0 G w e r v w' mo) ((execOp ρ o).run Try.prog w):=by
 unfold ypi at h
 cases h
end
end Go.Proofs.Ytiiekgcjilelpaa

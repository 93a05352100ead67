/- H6. -/
import Derived.Test.YtiiekgcjilelpaaH5p
set_option linter.unusedSimpArgs false
set_option linter.unusedVariables false
namespace Go.Proofs.Ytiiekgcjilelpaa
open Go.RowKit
section
variable {W0:World} {G:Nat→Prop} {w w':World} {e:Env} {mem:Mem Td}
theorem opPartD_ok {t:TypeId} {us:List CV} {ps:List Prop} {r:SV} {mo:Option (Mem Td)} (h:opPartD t us mem=some (ps,r,mo)) (hp:∀ p∈ps,p) {o:Oper} {ρ:Operand→Value} {x:Operand} (ho:o.op=.slice t x none none none) (hM:MemOk W0 G Id' w e mem) (ha:AllC e us [ρ x]):
  givesUpon Try.prog (fun v w'=>OutIs Id' W0 G w e r v w' mo) ((execOp ρ o).run Try.prog w):=by
 unfold opPartD at h
 split at h
 ·rename_i i off
  obtain ⟨b,oo,hE,hx⟩:=is_one ha.1
  split at h
  ·rename_i vs hm hb
   simp only [Option.some.injEq,Prod.mk.injEq] at h
   obtain ⟨rfl,rfl,rfl⟩:=h
   rw [Bool.and_eq_true] at hb
   obtain rfl:=eqb_eq.1 hb.1
   obtain rfl:=eqb_eq.1 hb.2
   have q1:vs.length=128:=hp _ (List.mem_cons_self ..)
   have q2:vs=(unb vs).map bv:=hp _ (List.mem_cons_of_mem _ (List.mem_cons_self ..))
   obtain ⟨h0,b',t',hv,hbk⟩:=hM.holds i _ _ hE hm
   simp only [Value.pointer.injEq,Option.some.injEq,Addr.mk.injEq] at hv
   obtain ⟨rfl,rfl,_⟩:=hv
   rw [Nat.zero_add] at hx
   have hl:(unb vs).length=128:=by unfold unb;rw [List.length_map];exact q1
   have hrun:(execOp ρ o).run Try.prog w=.ok (.value (.slice (some ⟨b,0,none⟩) 128 128)) w:=by
    unfold execOp
    simp only [ho,hx,Option.map_none]
    rw [Sem.run_bind,run_slice_arr]
    rfl
   rw [hrun]
   refine ⟨e++[_],Grows.push e _,?_,hM.renew3 hE hm (Mod.refl _ w) ⟨.us (.bal (unb vs)),true⟩ ⟨b,t',vs.toArray,128,by rw [hl],hbk,by omega,by decide,?_⟩ (fun k hk=>?_) fun k hk=>?_⟩
   ·show (e++[_])[mem.length]? =_
    rw [← hM.len,List.getElem?_append_right (Nat.le_refl _)];simp
   ·rw [hl,←q2,List.toList_toArray,List.take_of_length_le (by omega)]
   ·have hk':some b=some k:=hk
    cases hk'
    exact ⟨.inl ⟨b,rfl,rfl⟩,(Array.getElem?_eq_some_iff.1 hbk).1⟩
   ·have hk':some b=some k:=hk
    cases hk'
    exact .inl ⟨b,rfl,rfl⟩
  ·cases h
 ·cases h
def opArrD (t:TypeId) (us:List CV) (mem:Mem Td):OpD:=match us with
 |[.one (.obj i)]=>(match lenD mem i,eqb t 251 with
  |some (n,1),true=>some ([128≤n],.c (.one (.elt i 1 0 0)),none)
  |_,_=>none)
 |_=>none
theorem opArrD_ok {t:TypeId} {us:List CV} {ps:List Prop} {r:SV} {mo:Option (Mem Td)} (h:opArrD t us mem=some (ps,r,mo)) (hp:∀ p∈ps,p) {o:Oper} {ρ:Operand→Value} {x:Operand} (ho:o.op=.sliceToArrayPointer t x) (hM:MemOk W0 G Id' w e mem) (ha:AllC e us [ρ x]):
  givesUpon Try.prog (fun v w'=>OutIs Id' W0 G w e r v w' mo) ((execOp ρ o).run Try.prog w):=by
 unfold opArrD at h
 split at h
 ·rename_i i
  split at h
  ·rename_i n hl ht
   obtain rfl:=eqb_eq.1 ht
   simp only [Option.some.injEq,Prod.mk.injEq] at h
   obtain ⟨rfl,rfl,rfl⟩:=h
   have q:128≤n:=hp _ (List.mem_cons_self ..)
   have hx:e[i]? =some (ρ x):=ha.1
   obtain ⟨ao,cap,hv,hc,hao⟩:=lenD_is hM hl hx
   obtain ⟨b,oo,rfl⟩:=hao (by omega)
   have hu:(underlying 251).run Try.prog w=.ok (.array 128 5) w:=run_underlying Try.underlying251 w
   have hrun:(execOp ρ o).run Try.prog w=.ok (.value (.pointer (some ⟨b,oo,none⟩))) w:=by
    unfold execOp
    simp only [ho,hv,Instr.arrayAt,Sem.run_bind,hu,Result.andThen_ok]
    rw [if_neg (by omega)]
    rfl
   rw [hrun]
   exact ⟨⟨b,oo,n,cap,by rw [hx,hv],⟨by decide,by show 0<n;omega⟩,rfl⟩,Ext.refl w⟩
  ·cases h
 ·cases h
def sec0:List UInt8:=List.replicate 128 0
def opMakeD (t:TypeId) (us:List CV) (mem:Mem Td):OpD:=match us with
 |[.one p,.one q]=>(match valP p,valP q with
  |some (.int k n),some (.int k' m)=>some ([m=n,0≤n∧n≤100000],.c (.one (.obj mem.length)),some (mem++[⟨.us (.ext (.flat (.secs (List.replicate n.toNat sec0)))),true⟩]))
  |_,_=>none)
 |_=>none
theorem madeCells_rep {n m:Nat} {v:Value} (hm:0<m):(madeCells (List.replicate m v).toArray n).toList=List.replicate n v:=by
 apply List.ext_getElem?
 intro j
 by_cases hj:j<n
 ·have h1:j % m<m:=Nat.mod_lt _ hm
  simp [madeCells,hj,h1]
 ·rw [List.getElem?_eq_none (by simp [madeCells];omega),List.getElem?_eq_none (by simp;omega)]
theorem opMakeD_ok {us:List CV} {ps:List Prop} {r:SV} {mo:Option (Mem Td)} (h:opMakeD 246 us mem=some (ps,r,mo)) (hp:∀ p∈ps,p) {o:Oper} {ρ:Operand→Value} {x y:Operand} (ho:o.op=.makeSlice 246 x y) (hM:MemOk W0 G Id' w e mem) (ha:AllC e us [ρ x,ρ y]):
  givesUpon Try.prog (fun v w'=>OutIs Id' W0 G w e r v w' mo) ((execOp ρ o).run Try.prog w):=by
 unfold opMakeD at h
 split at h
 ·rename_i p q
  split at h
  ·rename_i k n k' m hv1 hv2
   simp only [Option.some.injEq,Prod.mk.injEq] at h
   obtain ⟨rfl,rfl,rfl⟩:=h
   have q1:m=n:=hp _ (List.mem_cons_self ..)
   have q2:0≤n∧n≤100000:=hp _ (List.mem_cons_of_mem _ (List.mem_cons_self ..))
   have hx:=valP_is hv1 (is_one ha.1)
   have hy:=valP_is hv2 (is_one ha.2.1)
   subst q1
   have hi:(Try.prog.info? 251).map (fun i=>(i.zero,i.size,i.bytes))=some (some (.agg (List.replicate 128 (Value.int .u8 0)).toArray),128,128):=by kernel_rfl
   obtain ⟨i,h1,h2,h3,h4⟩:=info_parts hi
   obtain ⟨w',hr,hown,hg⟩:=run_make_full (P:=Try.prog) w w.heap.size 246 251 i (.agg (List.replicate 128 (Value.int .u8 0)).toArray) 128 Try.underlying246 h1 h2 h3 k k' m.toNat (by rw [h4];omega) (by unfold maxLen;omega) (Nat.le_refl _)
   have hx2:Ext w w':=(Ext.refl w).grown hg fun k hk=>by cases hk
   rw [show ((m.toNat:Nat):Int)=m by omega] at hr
   have hrun:(execOp ρ o).run Try.prog w=.ok (.value (.slice (some ⟨w.heap.size,0,none⟩) m.toNat m.toNat)) w':=by
    unfold execOp
    simp only [ho,hx,hy]
    rw [Sem.run_bind,hr]
    rfl
   rw [hrun]
   have hR:(FL.secs (List.replicate m.toNat sec0)).R=List.replicate m.toNat (List.replicate 128 (Value.int .u8 0)):=by
    simp only [FL.R,List.map_replicate,sec0]
    rfl
   have hcells:(madeCells (Value.agg (List.replicate 128 (Value.int .u8 0)).toArray).cells (m.toNat * 128)).toList=(FL.secs (List.replicate m.toNat sec0)).R.flatten:=by
    show (madeCells (List.replicate 128 (Value.int .u8 0)).toArray (m.toNat * 128)).toList=_
    rw [hR,madeCells_rep (by decide),List.flatten_replicate_replicate]
   rw [hcells] at hown
   refine ⟨e++[_],Grows.push e _,?_,hM.push hx2 _ ⟨.us (.ext (.flat (.secs (List.replicate m.toNat sec0)))),true⟩ ⟨fun r hr=>?_,w.heap.size,hx2.size,by rw [FL.len];show w'.ownsRow _ _ 128 _ (List.replicate m.toNat sec0).length _;rw [List.length_replicate];exact hown⟩ fun k hk=>owns_block hown hk⟩
   ·show (e++[_])[mem.length]? =_
    rw [← hM.len,List.getElem?_append_right (Nat.le_refl _)];simp
   ·rw [hR] at hr
    rw [List.eq_of_mem_replicate hr];simp [FL.sz]
  ·cases h
 ·cases h
def opLenD (ts:List TypeId) (us:List CV) (mem:Mem Td):OpD:=match us,ts with
 |[.one (.obj i)],[t]=>(match lenD mem i,elSz t with
  |some (n,_),some _=>some ([],svV (.int .i64 (n:Int)),none)
  |_,_=>none)
 |_,_=>none
theorem opLenD_ok {xs:Array Operand} {ts:Array TypeId} {us:List CV} {ps:List Prop} {r:SV} {mo:Option (Mem Td)} (h:opLenD ts.toList us mem=some (ps,r,mo)) {o:Oper} {ρ:Operand→Value} (ho:o.op=.call { callee:=.builtin .len,args:=xs,argTypes:=ts }) (hM:MemOk W0 G Id' w e mem) (ha:AllC e us (o.op.operands.toList.map ρ)):
  givesUpon Try.prog (fun v w'=>OutIs Id' W0 G w e r v w' mo) ((execOp ρ o).run Try.prog w):=by
 unfold opLenD at h
 split at h
 ·rename_i i t htl
  split at h
  ·rename_i n s sz hl hsz
   simp only [Option.some.injEq,Prod.mk.injEq] at h
   obtain ⟨rfl,rfl,rfl⟩:=h
   rw [ho] at ha
   obtain ⟨u,he,a0⟩:=allC1 ha
   have hx1:∃ x,xs.toList=[x]:=by
    have hl:=congrArg List.length he
    simp [Op.operands,Call.operands] at hl
    match hq:xs.toList,(show xs.toList.length=1 by simpa using hl) with
    |[x],_=>exact ⟨x,rfl⟩
   obtain ⟨x,hxe⟩:=hx1
   have e1:xs=#[x]:=by rw [← Array.toArray_toList (xs:=xs),hxe]
   subst e1
   have e2:ts=#[t]:=by rw [← Array.toArray_toList (xs:=ts),htl]
   subst e2
   simp [Op.operands,Call.operands] at he
   subst he
   obtain ⟨ao,cap,hv,_⟩:=lenD_is hM hl (show e[i]? =some (ρ x) from a0)
   obtain ⟨el,hu,_⟩:=sElem_run (elSz_sem hsz) w
   have hrun:(execOp ρ o).run Try.prog w=.ok (.value (.int .i64 (n:Int))) w:=by
    unfold execOp
    simp only [ho,resolve,invoke,builtin,Builtin.len_,Sem.run_bind,Sem.run_pure,Result.andThen_ok]
    simp [hv,hu,goInt,Sem.run_bind]
   rw [hrun]
   exact ⟨rfl,Ext.refl w⟩
  ·cases h
 ·cases h
def ptrL:List TypeId:=[139,142]
 ++[105]
 ++[76]
 ++[78]
 ++[180]
 ++[188]
def ptrIn (t:TypeId):List TypeId→Bool
 |[]=>false
 |u::r=>(match eqb u t with|true=>true|false=>ptrIn t r)
theorem ptrIn_mem {t:TypeId}:∀ {l:List TypeId},ptrIn t l=true→t∈l
 |[],h=>by cases h
 |u::r,h=>by
  simp only [ptrIn] at h
  split at h
  ·rename_i he
   obtain rfl:=eqb_eq.1 he
   exact List.mem_cons_self ..
  ·exact List.mem_cons_of_mem _ (ptrIn_mem h)
def isPtrT (t:TypeId):Bool:=ptrIn t ptrL
def ptrNil (mem:Mem Td):List CV→Bool
 |[.one (.ptr _ _),.one (.v (.pointer none))]=>true
 |[.one (.obj i),.one (.v (.pointer none))]=>(match mem[i]? with|some ⟨.us (.wr _),_⟩=>true|some ⟨.us (.rd _),_⟩=>true|_=>false)
 |_=>false
theorem ptrNil_mono {m m':Mem Td} (hl:MLe m m') {us:List CV} (h:ptrNil m us=true):ptrNil m' us=true:=by
 unfold ptrNil at h ⊢
 split at h
 ·rfl
 ·split at h
  ·rename_i hm
   rw [hl _ _ hm (by simp)]
  ·rename_i hm
   rw [hl _ _ hm (by simp)]
  ·cases h
 ·cases h
def opNilD (b:BinOp) (t:TypeId) (us:List CV) (mem:Mem Td):OpD:=match isPtrT t&&ptrNil mem us with
 |true=>(match b with
  |.neq=>some ([],.c (.one (.kB true)),none)
  |.eql=>some ([],.c (.one (.kB false)),none)
  |_=>none)
 |false=>none
theorem cmp_nil {t:TypeId} (ht:isPtrT t=true) (n:Bool) (x y:Operand) (b o:Nat) (w:World):((do eqGuard (cond n .neq .eql) t x y (.pointer (some ⟨b,o,none⟩)) (.pointer none);binOp (cond n .neq .eql) t (.pointer (some ⟨b,o,none⟩)) (.pointer none)):Sem Value).run Try.prog w=.ok (.bool n) w:=by
 have hm:=ptrIn_mem ht
 simp only [ptrL,List.cons_append,List.nil_append,List.mem_cons,List.not_mem_nil,or_false] at hm
 clear ht
 rcases hm with rfl|rfl
  |rfl
  |rfl
  |rfl
  |rfl
  |rfl
 all_goals
  cases n
  ·exact pureSem_run _ (by kernel_rfl) w
  ·exact pureSem_run _ (by kernel_rfl) w
theorem opNilD_ok {b:BinOp} {t:TypeId} {us:List CV} {ps:List Prop} {r:SV} {mo:Option (Mem Td)} (h:opNilD b t us mem=some (ps,r,mo)) {o:Oper} {ρ:Operand→Value} {x y:Operand} {ty':TypeId} (ho:o.op=.binOp b t x y ty') (hM:MemOk W0 G Id' w e mem) (ha:AllC e us [ρ x,ρ y]):
  givesUpon Try.prog (fun v w'=>OutIs Id' W0 G w e r v w' mo) ((execOp ρ o).run Try.prog w):=by
 unfold opNilD at h
 split at h
 ·rename_i hb
  rw [Bool.and_eq_true] at hb
  obtain ⟨B,O,hx,hy⟩:∃ B O,ρ x=.pointer (some ⟨B,O,none⟩)∧ρ y=.pointer none:=by
   have:=hb.2
   unfold ptrNil at this
   split at this
   ·obtain ⟨B,O,hE,hx⟩:=is_one ha.1
    exact ⟨B,_,hx,is_one ha.2.1⟩
   ·have hE:=is_one ha.1
    split at this
    ·rename_i s mu hm
     obtain ⟨B,wb,hu,_⟩:=hM.holds _ _ _ hE hm
     exact ⟨wb,0,hu,is_one ha.2.1⟩
    ·rename_i s mu hm
     obtain ⟨B,rb,hu,_⟩:=hM.holds _ _ _ hE hm
     exact ⟨rb,0,hu,is_one ha.2.1⟩
    ·cases this
   ·cases this
  split at h
  ·simp only [Option.some.injEq,Prod.mk.injEq] at h
   obtain ⟨rfl,rfl,rfl⟩:=h
   have:=cmp_nil hb.1 true x y B O w
   simp only [cond_true] at this
   have hrun:(execOp ρ o).run Try.prog w=.ok (.value (.bool true)) w:=by
    unfold execOp
    simp only [ho,hx,hy]
    rw [Sem.run_bind,this];rfl
   rw [hrun]
   exact ⟨rfl,Ext.refl w⟩
  ·simp only [Option.some.injEq,Prod.mk.injEq] at h
   obtain ⟨rfl,rfl,rfl⟩:=h
   have:=cmp_nil hb.1 false x y B O w
   simp only [cond_false] at this
   have hrun:(execOp ρ o).run Try.prog w=.ok (.value (.bool false)) w:=by
    unfold execOp
    simp only [ho,hx,hy]
    rw [Sem.run_bind,this];rfl
   rw [hrun]
   exact ⟨rfl,Ext.refl w⟩
  ·cases h
 ·cases h
end
end Go.Proofs.Ytiiekgcjilelpaa

/- HM. -/
import Derived.Test.YtiiekgcjilelpaaHZp
import Derived.MapKept
import Derived.ChangeMaps4
set_option linter.unusedSimpArgs false
set_option linter.unusedVariables false
namespace Go.Proofs.Ytiiekgcjilelpaa
open Go.RowKit
section
variable {W0:World} {G:Nat→Prop} {w w':World} {e:Env} {mem:Mem Td}
def mpGo (a b:Int):Nat→List ((Int×Int)×Int)→Option (Nat×Int)
 |_,[]=>none
 |i,p::r=>(match a==p.1.1&&b==p.1.2 with|true=>some (i,p.2)|false=>mpGo a b (i+1) r)
def mpGet (T:List ((Int×Int)×Int)) (a b:Int):Int:=match mpGo a b 0 T with|some (_,m)=>m|none=>0
def mpPut (T:List ((Int×Int)×Int)) (a b m:Int):List ((Int×Int)×Int):=match mpGo a b 0 T with|some (i,_)=>T.set i ((a,b),m)|none=>T++[((a,b),m)]
def mpDel (T:List ((Int×Int)×Int)) (a b:Int):List ((Int×Int)×Int):=match mpGo a b 0 T with|some (i,_)=>T.eraseIdx i|none=>T
theorem mpGo_some {a b:Int}:∀ {T:List ((Int×Int)×Int)} {i j:Nat} {m:Int},mpGo a b i T=some (j,m)→i≤j∧T[j - i]? =some ((a,b),m)
 |[],_,_,_,h=>by cases h
 |p::r,i,j,m,h=>by
  unfold mpGo at h
  split at h
  ·rename_i hb
   simp only [Option.some.injEq,Prod.mk.injEq] at h
   obtain ⟨rfl,rfl⟩:=h
   rw [Bool.and_eq_true,beq_iff_eq,beq_iff_eq] at hb
   refine ⟨Nat.le_refl _,?_⟩
   rw [Nat.sub_self,hb.1,hb.2]
   rfl
  ·obtain ⟨h1,h2⟩:=mpGo_some h
   refine ⟨by omega,?_⟩
   rw [show j - i=(j - (i+1))+1 by omega,List.getElem?_cons_succ]
   exact h2
theorem eq_file (a b c d:Int) (w:World):(Op.equal 29 (mpK a b) (mpK c d)).run Try.prog w=.ok (a==c&&b==d) w:=by
 have h:=eqVs_run (P:=Try.prog) 12 29 (mpK a b) (mpK c d) (a==c&&(b==d&&true)) (by kernel_rfl) Op.maxDepth w (by decide)
 rw [Bool.and_true] at h
 exact h
theorem find_ask (a b:Int) (w:World):∀ (es:List MapEntry) (T:List ((Int×Int)×Int)) (i:Nat),es.map (fun e=>(e.key,e.val))=T.map (fun p=>(mpK p.1.1 p.1.2,mpV p.2))→
  (Instr.findAsking 29 (mpK a b) es i).run Try.prog w=.ok ((mpGo a b i T).map fun q=>(q.1,mpV q.2)) w
 |[],T,i,h=>by
  cases T with
  |nil=>simp [Instr.findAsking,mpGo]
  |cons p T=>simp at h
 |x::es,T,i,h=>by
  cases T with
  |nil=>simp at h
  |cons p T=>
   simp only [List.map_cons,List.cons.injEq,Prod.mk.injEq] at h
   obtain ⟨⟨hk,hv⟩,ht⟩:=h
   rw [Instr.findAsking,Sem.run_bind,hk,eq_file]
   unfold mpGo
   cases hq:(a==p.1.1&&b==p.1.2) with
   |true=>simp [Result.andThen,hv]
   |false=>
    simp only [Result.andThen,Bool.false_eq_true,if_false]
    exact find_ask a b w es T (i+1) ht
theorem find_key {a b:Int} {es:List MapEntry} {T:List ((Int×Int)×Int)} (h:es.map (fun e=>(e.key,e.val))=T.map (fun p=>(mpK p.1.1 p.1.2,mpV p.2))) (w:World):
  (Instr.findKey 29 (mpK a b) es).run Try.prog w=.ok ((mpGo a b 0 T).map fun q=>(q.1,mpV q.2)) w:=by
 unfold Instr.findKey
 rw [Sem.run_bind,run_underlying Try.underlying29]
 cases es with
 |nil=>
  cases T with
  |nil=>simp [Instr.findNow,mpGo,Result.andThen]
  |cons p T=>simp at h
 |cons x es=>
  simp only [Result.andThen,Instr.findNow,Instr.sameNow]
  exact find_ask a b w _ T 0 h
theorem chk_file (em:Bool) (a b:Int) (w:World):(Instr.checkKey em 10000 29 (mpK a b)).run Try.prog w=.ok () w:=by
 cases em
 ·exact pureSem_run _ (by kernel_rfl) w
 ·exact pureSem_run _ (by kernel_rfl) w
theorem same_key (a b:Int) (w:World):(Instr.keyThatStays (mpK a b) (mpK a b)).run Try.prog w=.ok (mpK a b) w:=by
 have:Instr.sameBits 10000 (mpK a b) (mpK a b)=true:=by
  show Instr.sameBits (9999+1) (.agg #[.int .i64 a,.int .i64 b]) (.agg #[.int .i64 a,.int .i64 b])=true
  rw [Instr.sameBits]
  simp [Instr.sameBits]
 unfold Instr.keyThatStays
 rw [this]
 rfl
theorem mp_look {T:List ((Int×Int)×Int)} {u:Value} (h:mpHolds T w u) (a b:Int):(Instr.lookup 209 u (mpK a b) false).run Try.prog w=.ok (mpV (mpGet T a b)) w:=by
 obtain ⟨b0,es,clock,rfl,hb,hes⟩:=h
 have hz:(zeroValue 220).run Try.prog w=.ok (.int .u16 0) w:=pureSem_run _ (by kernel_rfl) w
 unfold Instr.lookup mpGet
 simp only [Sem.run_bind,run_underlying Try.underlying209,MapKept.run_getObj_map hb,Result.andThen_ok,Sem.run_pure,chk_file,find_key hes]
 cases hg:mpGo a b 0 T with
 |none=>simp [hz,mpV]
 |some q=>simp
theorem mp_get {T:List ((Int×Int)×Int)} {es:Array MapEntry} (hes:es.toList.map (fun e=>(e.key,e.val))=T.map fun p=>(mpK p.1.1 p.1.2,mpV p.2)) {i:Nat} {a b m:Int} (h:T[i]? =some ((a,b),m)):∃ x,es[i]? =some x∧x.key=mpK a b:=by
 have:=congrArg (fun l=>l[i]?) hes
 simp only [List.getElem?_map,h,Option.map_some] at this
 cases hx:es.toList[i]? with
 |none=>rw [hx] at this;simp at this
 |some x=>
  rw [hx] at this
  simp only [Option.map_some,Option.some.injEq,Prod.mk.injEq] at this
  exact ⟨x,by simpa using hx,this.1⟩
theorem setBlk_mod (w:World) (b:Nat) (o:Obj):Mod (fun k=>(Value.map (some b))=.map (some k)) w { w with heap:=w.heap.setIfInBounds b o }:=
 ⟨rfl,rfl,rfl,by simp,fun k hk hn=>by
  have:b≠k:=fun h=>hn (by rw [h])
  simp [Array.getElem?_setIfInBounds,this]⟩
theorem setBlk_at {w:World} {b:Nat} {o0:Obj} (h:w.heap[b]? =some o0) (o:Obj):({ w with heap:=w.heap.setIfInBounds b o }:World).heap[b]? =some o:=by
 have:=(Array.getElem?_eq_some_iff.1 h).1
 simp [Array.getElem?_setIfInBounds,this]
theorem mp_update {T:List ((Int×Int)×Int)} {u:Value} (h:mpHolds T w u) (a b m:Int):∃ w',(Instr.mapUpdate 209 u (mpK a b) (mpV m)).run Try.prog w=.ok () w'∧mpHolds (mpPut T a b m) w' u∧Mod (fun k=>u=.map (some k)) w w':=by
 obtain ⟨b0,es,clock,rfl,hb,hes⟩:=h
 unfold Instr.mapUpdate mpPut
 simp only [Sem.run_bind,run_underlying Try.underlying209,MapKept.run_getObj_map hb,Result.andThen_ok,Sem.run_pure,chk_file,find_key hes]
 cases hg:mpGo a b 0 T with
 |none=>
  simp only [Option.map_none]
  refine ⟨_,MapKept.run_setObj_map _ hb,⟨b0,_,_,rfl,setBlk_at hb _,?_⟩,setBlk_mod w b0 _⟩
  simp [hes,mpK,mpV]
 |some q=>
  obtain ⟨i,m0⟩:=q
  obtain ⟨_,h2⟩:=mpGo_some hg
  rw [Nat.sub_zero] at h2
  obtain ⟨x,hx,hk⟩:=mp_get hes h2
  simp only [Option.map_some,hx,hk,Option.getD_some,same_key,Sem.run_bind,Result.andThen_ok]
  refine ⟨_,MapKept.run_setObj_map _ hb,⟨b0,_,_,rfl,setBlk_at hb _,?_⟩,setBlk_mod w b0 _⟩
  have hi:i<es.size:=(Array.getElem?_eq_some_iff.1 hx).1
  apply List.ext_getElem?
  intro j
  have hj:=congrArg (fun l=>l[j]?) hes
  simp only [List.getElem?_map] at hj ⊢
  by_cases he:i=j
  ·subst he
   rw [List.getElem?_set_self (by have:=congrArg List.length hes;simp at this;omega)]
   simp [hi,hk,mpV]
  ·rw [List.getElem?_set_ne he,←hj]
   simp [Array.getElem?_modify,he]
theorem mp_delete {T:List ((Int×Int)×Int)} {u:Value} (h:mpHolds T w u) (a b:Int) (ty k:TypeId):∃ w',(Builtin.delete_ #[209,k] ty #[u,mpK a b]).run Try.prog w=.ok (.tuple #[]) w'∧mpHolds (mpDel T a b) w' u∧Mod (fun k=>u=.map (some k)) w w':=by
 obtain ⟨b0,es,clock,rfl,hb,hes⟩:=h
 unfold Builtin.delete_ mpDel
 simp only [Sem.run_bind,run_underlying Try.underlying209,MapKept.run_getObj_map hb,Result.andThen_ok,Sem.run_pure,chk_file,find_key hes,List.getElem?_toArray,List.getElem?_cons_zero,List.getElem?_cons_succ]
 cases hg:mpGo a b 0 T with
 |none=>
  simp only [Option.map_none]
  exact ⟨_,by rw [Sem.run_bind,MapKept.run_setObj_map _ hb];rfl,⟨b0,_,_,rfl,setBlk_at hb _,hes⟩,setBlk_mod w b0 _⟩
 |some q=>
  obtain ⟨i,m0⟩:=q
  simp only [Option.map_some]
  refine ⟨_,by rw [Sem.run_bind,MapKept.run_setObj_map _ hb];rfl,⟨b0,_,_,rfl,setBlk_at hb _,?_⟩,setBlk_mod w b0 _⟩
  rw [Array.eraseIdxIfInBounds]
  split
  ·rw [Array.toList_eraseIdx,Go.ChangeMaps.map_eraseIdx,hes,←Go.ChangeMaps.map_eraseIdx]
  ·rename_i hi
   have hl:=congrArg List.length hes
   simp at hl
   rw [hes,List.eraseIdx_of_length_le (by omega)]
def isMapT (t:TypeId):Bool:=false
 ||eqb t 209
theorem mapT_eq {t:TypeId} (h:isMapT t=true) {Q:Prop}
  (h1:t=209→Q)
  :Q:=by
 unfold isMapT at h
 simp only [Bool.false_or,Bool.false_eq_true] at h
 exact h1 (eqb_eq.1 h)
def opLookM (t:TypeId) (us:List CV) (mem:Mem Td):OpD:=match us with
 |[.one (.obj i),.agg [p,q]]=>(match isMapT t,mem[i]?,valP p,valP q with
  |true,some ⟨.us (.ext (.mp T)),_⟩,some (.int .i64 a),some (.int .i64 b)=>some ([],svV (.int .u16 (mpGet T a b)),none)
  |_,_,_,_=>none)
 |_=>none
def opPutM (t:TypeId) (us:List CV) (mem:Mem Td):OpD:=match us with
 |[.one (.obj i),.agg [p,q],.one r]=>(match isMapT t,mem[i]?,valP p,valP q,valP r with
  |true,some ⟨.us (.ext (.mp T)),true⟩,some (.int .i64 a),some (.int .i64 b),some (.int .u16 m)=>some ([],svV undef,some (mem.set i ⟨.us (.ext (.mp (mpPut T a b m))),true⟩))
  |_,_,_,_,_=>none)
 |_=>none
def opDelM (ts:List TypeId) (us:List CV) (mem:Mem Td):OpD:=match ts,us with
 |[t,_],[.one (.obj i),.agg [p,q]]=>(match isMapT t,mem[i]?,valP p,valP q with
  |true,some ⟨.us (.ext (.mp T)),true⟩,some (.int .i64 a),some (.int .i64 b)=>some ([],.tup [],some (mem.set i ⟨.us (.ext (.mp (mpDel T a b))),true⟩))
  |_,_,_,_=>none)
 |_,_=>none
def opMakeM (t:TypeId) (us:List CV) (mem:Mem Td):OpD:=match us,isMapT t with
 |[],true=>some ([],.c (.one (.obj mem.length)),some (mem++[⟨.us (.ext (.mp [])),true⟩]))
 |_,_=>none
def opNilM (b:BinOp) (t:TypeId) (us:List CV) (mem:Mem Td):OpD:=match us with
 |[.one (.obj i),.one (.v (.map none))]=>(match isMapT t,mem[i]?,b with
  |true,some ⟨.us (.ext (.mp _)),_⟩,.eql=>some ([],.c (.one (.kB false)),none)
  |true,some ⟨.us (.ext (.mp _)),_⟩,.neq=>some ([],.c (.one (.kB true)),none)
  |_,_,_=>none)
 |_=>none
theorem agg2_is {p q:PV} {u:Value} {a b:Int} (h:(CV.agg [p,q]).is e u) (hp:valP p=some (.int .i64 a)) (hq:valP q=some (.int .i64 b)):u=mpK a b:=by
 obtain ⟨us,hu,rfl⟩:∃ us,AllIs e [p,q] us∧u=.agg us.toArray:=h
 match us,hu with
 |[x,y],⟨hx,hy,_⟩=>
 rw [valP_is hp hx,valP_is hq hy];rfl
theorem opLookM_ok {t:TypeId} {us:List CV} {ps:List Prop} {r:SV} {mo:Option (Mem Td)} (h:opLookM t us mem=some (ps,r,mo)) {o:Oper} {ρ:Operand→Value} {x y:Operand} (ho:o.op=.lookup t x y false) (hM:MemOk W0 G Id' w e mem) (ha:AllC e us [ρ x,ρ y]):
  givesUpon Try.prog (fun v w'=>OutIs Id' W0 G w e r v w' mo) ((execOp ρ o).run Try.prog w):=by
 unfold opLookM at h
 split at h
 ·rename_i i p q
  have hE:e[i]? =some (ρ x):=is_one ha.1
  split at h
  ·rename_i T mu a b ht hm hp hq
   simp only [Option.some.injEq,Prod.mk.injEq] at h
   obtain ⟨rfl,rfl,rfl⟩:=h
   have hk:=agg2_is ha.2.1 hp hq
   have hT:mpHolds T w (ρ x):=hM.holds i _ _ hE hm
   have hrun:(execOp ρ o).run Try.prog w=.ok (.value (.int .u16 (mpGet T a b))) w:=by
    refine mapT_eq ht
     (fun e=>?_)
    subst e
    unfold execOp
    simp only [ho,hk,Sem.run_bind,mp_look hT a b,Result.andThen_ok,Sem.run_pure]
    rfl
   rw [hrun]
   exact ⟨rfl,Ext.refl w⟩
  ·cases h
 ·cases h
theorem opPutM_ok {t:TypeId} {us:List CV} {ps:List Prop} {r:SV} {mo:Option (Mem Td)} (h:opPutM t us mem=some (ps,r,mo)) {o:Oper} {ρ:Operand→Value} {x y z:Operand} (ho:o.op=.mapUpdate t x y z) (hM:MemOk W0 G Id' w e mem) (ha:AllC e us [ρ x,ρ y,ρ z]):
  givesUpon Try.prog (fun v w'=>OutIs Id' W0 G w e r v w' mo) ((execOp ρ o).run Try.prog w):=by
 unfold opPutM at h
 split at h
 ·rename_i i p q r0
  have hE:e[i]? =some (ρ x):=is_one ha.1
  split at h
  ·rename_i T a b m ht hm hp hq hr
   simp only [Option.some.injEq,Prod.mk.injEq] at h
   obtain ⟨rfl,rfl,rfl⟩:=h
   have hk:=agg2_is ha.2.1 hp hq
   have hz:ρ z=mpV m:=valP_is hr (is_one ha.2.2.1)
   have hT:mpHolds T w (ρ x):=hM.holds i _ _ hE hm
   obtain ⟨w2,hrun,h2,hmd⟩:∃ w2,(execOp ρ o).run Try.prog w=.ok .skip w2∧mpHolds (mpPut T a b m) w2 (ρ x)∧Mod (fun k=>ρ x=.map (some k)) w w2:=by
    refine mapT_eq ht
     (fun e=>?_)
    subst e
    obtain ⟨w2,g1,g2,g3⟩:=mp_update hT a b m
    refine ⟨w2,?_,g2,g3⟩
    unfold execOp
    simp only [ho,hk,hz,Sem.run_bind,g1,Result.andThen_ok,Sem.run_pure]
   refine store_fin hrun (hM.upd hE hm hmd _ h2 fun k hk=>⟨.inl hk,?_⟩)
   obtain ⟨b0,es,clock,hu,hb,_⟩:=h2
   have hk':ρ x=.map (some k):=hk
   rw [hu] at hk'
   cases hk'
   exact (Array.getElem?_eq_some_iff.1 hb).1
  ·cases h
 ·cases h
theorem opDelM_ok {xs:Array Operand} {ts:Array TypeId} {us:List CV} {ps:List Prop} {r:SV} {mo:Option (Mem Td)} (h:opDelM ts.toList us mem=some (ps,r,mo)) {o:Oper} {ρ:Operand→Value} (ho:o.op=.call { callee:=.builtin .delete,args:=xs,argTypes:=ts }) (hM:MemOk W0 G Id' w e mem)
  (ha:AllC e us (o.op.operands.toList.map ρ)):givesUpon Try.prog (fun v w'=>OutIs Id' W0 G w e r v w' mo) ((execOp ρ o).run Try.prog w):=by
 unfold opDelM at h
 split at h
 ·rename_i t t2 i p q hts
  have hts':ts=#[t,t2]:=by rw [← Array.toArray_toList (xs:=ts),hts]
  subst hts'
  obtain ⟨u1,u2,he,h1,h2⟩:=allC2 ha
  rw [ho] at he
  simp [Op.operands,Call.operands] at he
  have hE:e[i]? =some u1:=is_one h1
  split at h
  ·rename_i T a b ht hm hp hq
   simp only [Option.some.injEq,Prod.mk.injEq] at h
   obtain ⟨rfl,rfl,rfl⟩:=h
   have hk:=agg2_is h2 hp hq
   subst hk
   have hT:mpHolds T w u1:=hM.holds i _ _ hE hm
   have hxs:(xs.map ρ)=#[u1,mpK a b]:=by
    apply Array.ext'
    simpa using he
   obtain ⟨w2,hrun,h2,hmd⟩:∃ w2,(execOp ρ o).run Try.prog w=.ok (.value (.tuple #[])) w2∧mpHolds (mpDel T a b) w2 u1∧Mod (fun k=>u1=.map (some k)) w w2:=by
    refine mapT_eq ht
     (fun e=>?_)
    subst e
    obtain ⟨w2,g1,g2,g3⟩:=mp_delete hT a b o.type t2
    refine ⟨w2,?_,g2,g3⟩
    unfold execOp
    simp only [ho,hxs,resolve,invoke,builtin,Sem.run_bind,Sem.run_pure,Result.andThen_ok,g1]
   rw [hrun]
   refine ⟨e,Grows.refl e,⟨[],trivial,rfl⟩,hM.upd hE hm hmd _ h2 fun k hk=>⟨.inl hk,?_⟩⟩
   obtain ⟨b0,es,clock,hu,hb,_⟩:=h2
   have hk':u1=.map (some k):=hk
   rw [hu] at hk'
   cases hk'
   exact (Array.getElem?_eq_some_iff.1 hb).1
  ·cases h
 ·cases h
theorem opMakeM_ok {t:TypeId} {us:List CV} {ps:List Prop} {r:SV} {mo:Option (Mem Td)} (h:opMakeM t us mem=some (ps,r,mo)) {o:Oper} {ρ:Operand→Value} (ho:o.op=.makeMap t none) (hM:MemOk W0 G Id' w e mem):
  givesUpon Try.prog (fun v w'=>OutIs Id' W0 G w e r v w' mo) ((execOp ρ o).run Try.prog w):=by
 unfold opMakeM at h
 split at h
 ·rename_i ht
  simp only [Option.some.injEq,Prod.mk.injEq] at h
  obtain ⟨rfl,rfl,rfl⟩:=h
  have hrun:(execOp ρ o).run Try.prog w=.ok (.value (.map (some w.heap.size))) (w.alloc (.map #[] 0)):=by
   unfold execOp
   simp only [ho,Option.map_none,Instr.makeMap,newObj,Sem.run_bind,Sem.run_pure,Result.andThen_ok]
   rfl
  rw [hrun]
  refine ⟨e++[_],Grows.push e _,?_,hM.push ((Ext.refl w).alloc _) _ ⟨.us (.ext (.mp [])),true⟩ ⟨w.heap.size,#[],0,rfl,heap_alloc_new w _,rfl⟩ fun k hk=>?_⟩
  ·show (e++[_])[mem.length]? =_
   rw [← hM.len,List.getElem?_append_right (Nat.le_refl _)];simp
  ·have hk':(Value.map (some w.heap.size))=.map (some k):=hk
   cases hk'
   exact ⟨Nat.le_refl _,by simp⟩
 ·cases h
theorem opNilM_ok {b:BinOp} {t:TypeId} {us:List CV} {ps:List Prop} {r:SV} {mo:Option (Mem Td)} (h:opNilM b t us mem=some (ps,r,mo)) {o:Oper} {ρ:Operand→Value} {x y:Operand} {ty':TypeId} (ho:o.op=.binOp b t x y ty') (hM:MemOk W0 G Id' w e mem) (ha:AllC e us [ρ x,ρ y]):
  givesUpon Try.prog (fun v w'=>OutIs Id' W0 G w e r v w' mo) ((execOp ρ o).run Try.prog w):=by
 unfold opNilM at h
 split at h
 ·rename_i i
  have hE:e[i]? =some (ρ x):=is_one ha.1
  have hy:ρ y=.map none:=is_one ha.2.1
  have key:∀ {T:List ((Int×Int)×Int)},isMapT t=true→mpHolds T w (ρ x)→∀ n:Bool,o.op=.binOp (cond n .neq .eql) t x y ty'→(execOp ρ o).run Try.prog w=.ok (.value (.bool n)) w:=fun ht hT n hop=>by
   obtain ⟨b0,es,clock,hu,_⟩:=hT
   refine mapT_eq ht
    (fun e=>?_)
   subst e
   have hc:((do eqGuard (cond n .neq .eql) 209 x y (.map (some b0)) (.map none);binOp (cond n .neq .eql) 209 (.map (some b0)) (.map none)):Sem Value).run Try.prog w=.ok (.bool n) w:=by
    cases n
    ·exact pureSem_run _ (by kernel_rfl) w
    ·exact pureSem_run _ (by kernel_rfl) w
   unfold execOp
   simp only [hop,hu,hy]
   rw [Sem.run_bind,hc];rfl
  split at h
  ·rename_i T mu ht hm
   simp only [Option.some.injEq,Prod.mk.injEq] at h
   obtain ⟨rfl,rfl,rfl⟩:=h
   rw [key ht (hM.holds i _ _ hE hm) false ho]
   exact ⟨rfl,Ext.refl w⟩
  ·rename_i T mu ht hm
   simp only [Option.some.injEq,Prod.mk.injEq] at h
   obtain ⟨rfl,rfl,rfl⟩:=h
   rw [key ht (hM.holds i _ _ hE hm) true ho]
   exact ⟨rfl,Ext.refl w⟩
  ·cases h
 ·cases h
theorem flat_setM {α:Type} {sz:Nat} {v:α}:∀ {R:List (List α)},(∀ r∈R,r.length=sz)→∀ {i j:Nat},i<R.length→j<sz→R.flatten.set (i * sz+j) v=(R.set i ((R.getD i []).set j v)).flatten
 |[],_,i,j,hi,_=>by simp at hi
 |r::R,h,0,j,_,hj=>by
  have h1:=h r (List.mem_cons_self ..)
  simp only [Nat.zero_mul,Nat.zero_add,List.flatten_cons,List.set_cons_zero,List.getD_cons_zero]
  rw [List.set_append_left _ _ (by omega)]
 |r::R,h,i+1,j,hi,hj=>by
  have h1:=h r (List.mem_cons_self ..)
  have ih:=flat_setM (v:=v) (fun r' hr=>h r' (List.mem_cons_of_mem _ hr)) (i:=i) (by simpa using hi) hj
  rw [List.flatten_cons,List.set_append_right _ _ (by rw [h1,Nat.add_mul];omega),List.set_cons_succ,List.flatten_cons,List.getD_cons_succ,←ih]
  congr 2
  rw [h1,Nat.add_mul];omega
theorem get_someM {α:Type} {l:List α} {n:Nat} {d:α} (h:n<l.length):l[n]? =some (l.getD n d):=by rw [List.getD_eq_getElem?_getD,List.getElem?_eq_getElem h];rfl
def opSetC (t:TypeId) (us:List CV) (mem:Mem Td):OpD:=match us,eqb t 3 with
 |[.one (.elt i sz idx off),.one p],true=>(match mem[i]?,valP p with
  |some ⟨.us (.ext (.flat (.rw x ks R))),true⟩,some (.int .i64 a)=>(match rwMk ks ((rwV ks (R.getD idx.toNat Rw.zero)).set off (.int .i64 a)),eqb sz ks.length&&leb (off+1) ks.length with
   |some (is,ss),true=>some ([],svV undef,some (mem.set i ⟨.us (.ext (.flat (.rw x ks (R.set idx.toNat ⟨is,ss⟩)))),true⟩))
   |_,_=>none)
  |_,_=>none)
 |_,_=>none
theorem opSetC_ost {t:TypeId} {p:PV} {v:CV} {mem m':Mem Td} {ps:List Prop} {r:SV} (h:opSetC t [.one p,v] mem=some (ps,r,some m')):∃ i,placeP p=some i∧∀ j en,mem[j]? =some en→j≠i→m'[j]? =some en:=by
 unfold opSetC at h
 split at h
 ·rename_i i sz idx off q he hn
  cases he
  split at h
  ·split at h
   ·simp only [Option.some.injEq,Prod.mk.injEq] at h
    obtain ⟨_,_,rfl⟩:=h
    exact ⟨i,rfl,fun j en hj hne=>by rw [List.getElem?_set_ne (Ne.symm hne)];exact hj⟩
   ·cases h
  ·cases h
 ·cases h
theorem opSetC_ok {t:TypeId} {us:List CV} {ps:List Prop} {r:SV} {mo:Option (Mem Td)} (h:opSetC t us mem=some (ps,r,mo)) {o:Oper} {ρ:Operand→Value} {x y:Operand} (ho:o.op=.store t x y) (hM:MemOk W0 G Id' w e mem) (ha:AllC e us [ρ x,ρ y]):
  givesUpon Try.prog (fun v w'=>OutIs Id' W0 G w e r v w' mo) ((execOp ρ o).run Try.prog w):=by
 unfold opSetC at h
 split at h
 ·rename_i i sz idx off p ht
  obtain rfl:=eqb_eq.1 ht
  obtain ⟨b,oo,nn,cap,hE,hi,hx⟩:=is_one ha.1
  split at h
  ·rename_i x' ks R a hm hv
   split at h
   ·rename_i is ss hmk hb
    rw [Bool.and_eq_true] at hb
    obtain rfl:=eqb_eq.1 hb.1
    have hlt:=leb_le.1 hb.2
    simp only [Option.some.injEq,Prod.mk.injEq] at h
    obtain ⟨rfl,rfl,rfl⟩:=h
    have hy:ρ y=.int .i64 a:=valP_is hv (is_one ha.2.1)
    have hgo:rwV ks ⟨is,ss⟩=(rwV ks (R.getD idx.toNat Rw.zero)).set off (.int .i64 a):=rwMk_go [] [] hmk
    obtain ⟨hnn,g,hg,h1,h2,_⟩:=flat_el (hM.holds i _ _ hE hm) rfl hi
    cases hg
    obtain ⟨z0,B,hB,hown⟩:=hM.holds i _ _ hE hm
    have hi2:=hi.2
    subst hnn
    have hln:(FL.rw x' ks R).R.length=R.length:=FL.len _
    have hi3:idx.toNat<R.length:=by rw [← hln];exact hi2
    have hrow:(FL.rw x' ks R).R.getD idx.toNat []=rwV ks (R.getD idx.toNat Rw.zero):=by
     simp only [FL.R]
     rw [List.getD_eq_getElem?_getD,List.getD_eq_getElem?_getD,List.getElem?_map,List.getElem?_eq_getElem hi3];rfl
    have hcell:=h1 off ((rwV ks (R.getD idx.toNat Rw.zero)).getD off undef) (by
     rw [hrow];exact get_someM (by rw [rwV_len];omega))
    have hfz:=hown.frozenAt (idx.toNat * ks.length+off)
    have hst:=cell_store (t:=3) (by kernel_rfl) (v:=.int .i64 a) hcell hfz rfl
    have hx':ρ x=.pointer (some ⟨b,idx.toNat * ks.length+off,none⟩):=by rw [hx];simp
    have hmd:Mod (fun k=>Own Id' w (.slice (some ⟨b,0,none⟩) (FL.rw x' ks R).R.length cap) (.us (.ext (.flat (.rw x' ks R)))) k) w (w.setCell ⟨b,idx.toNat * ks.length+off,none⟩ (.int .i64 a)):=Mod.setCell (F:=fun k=>(Value.slice (some ⟨b,0,none⟩) (FL.rw x' ks R).R.length cap).ownBlock=some k) (p:=⟨b,idx.toNat * ks.length+off,none⟩) (Mod.refl _ w) (fun _=>rfl) _
    obtain ⟨hst1,_⟩:=hown.stored (idx.toNat * ks.length+off) (.int .i64 a)
    have hset:(FL.rw x' ks (R.set idx.toNat ⟨is,ss⟩)).R=(FL.rw x' ks R).R.set idx.toNat (((FL.rw x' ks R).R.getD idx.toNat []).set off (.int .i64 a)):=by
     rw [hrow,←hgo]
     simp only [FL.R,List.map_set]
    have hall:∀ r∈(FL.rw x' ks R).R,r.length=ks.length:=z0
    have hflat:=flat_setM (v:=Value.int .i64 a) hall hi2 (show off<ks.length by omega)
    refine store_fin (run_store ho hx' (by rw [hy];exact hst)) (hM.upd hE hm hmd _ ?_ fun k hk=>?_)
    ·refine ⟨fun r hr=>?_,B,Nat.le_trans hB hmd.size,?_⟩
     ·rw [hset] at hr
      rcases List.mem_or_eq_of_mem_set hr with h|h
      ·exact z0 r h
      ·rw [h,List.length_set,hrow,rwV_len];rfl
     ·rw [hset,←hflat,List.length_set]
      exact hst1
    ·have hk':some b=some k:=hk
     cases hk'
     exact ⟨.inl rfl,Nat.lt_of_lt_of_le (owns_block hown rfl).2 hmd.size⟩
   ·cases h
  ·cases h
 ·cases h
end
end Go.Proofs.Ytiiekgcjilelpaa

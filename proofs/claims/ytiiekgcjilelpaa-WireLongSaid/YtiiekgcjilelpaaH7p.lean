/- H7. -/
import Derived.Test.YtiiekgcjilelpaaH6p
set_option linter.unusedSimpArgs false
set_option linter.unusedVariables false
namespace Go.Proofs.Ytiiekgcjilelpaa
open Go.RowKit
section
variable {W0:World} {G:Nat→Prop} {w w':World} {e:Env} {mem:Mem Td}
def layL (off:Nat) (us:List Value) (vs:List Value):List Value:=vs.take off++us++vs.drop (off+us.length)
theorem foldl_layL:∀ (us:List Value) (k off:Nat) (vs:Array Value),off+k+us.length≤vs.size→((us.zipIdx k).foldl (fun a (c:Value×Nat)=>a.setIfInBounds (off+c.2) c.1) vs).toList=layL (off+k) us vs.toList
 |[],k,off,vs,_=>by simp [layL]
 |u::us,k,off,vs,h=>by
  simp only [List.length_cons] at h
  rw [List.zipIdx_cons,List.foldl_cons]
  rw [foldl_layL us (k+1) off _ (by simp;omega)]
  simp only [layL,Array.toList_setIfInBounds,List.length_cons]
  have hlt:off+k<vs.toList.length:=by simp;omega
  rw [show off+(k+1)=off+k+1 by omega,List.take_add_one,List.take_set_of_le (Nat.le_refl _),List.getElem?_set_self hlt,List.drop_set_of_lt (by omega)]
  simp
  congr 1
  omega
theorem fill_cons {place:Nat→Option (Nat×Nat)} {cells:Array Value} {i off size:Nat} {v:Value} {rest:List (Nat×Value)} (hp:place i=some (off,size)) (hs:v.cells.size=size) (hl:off+size≤cells.size):
  Instr.fill place cells ((i,v)::rest)=Instr.fill place (layL off v.cells.toList cells.toList).toArray rest:=by
 rw [Instr.fill,hp]
 simp only
 rw [if_neg (by simp only [Bool.or_eq_true,decide_eq_true_eq];omega)]
 congr 1
 apply Array.ext'
 rw [← Array.foldl_toList]
 have:=foldl_layL v.cells.toList 0 off cells (by simp;omega)
 simpa using this
theorem aggOk_cells {V:Value} {n:Nat} (h:AggOk V n):V.cells=(cellsV V).toArray:=by
 obtain ⟨h1,_,_⟩:=h
 rw [h1]
 simp [Value.cells,cellsV]
def opBuildD (t:TypeId) (us:List CV) (mem:Mem Td):OpD:=match us with
 |[.one p,.one (.v V)]=>(match valP p,eqb t 253 with
  |some (.int .i64 a),true=>some ([AggOk V 128],svV (.agg (.int .i64 a::cellsV V).toArray),none)
  |_,_=>none)
 |_=>none
theorem opBuildD_ok {t:TypeId} {us:List CV} {ps:List Prop} {r:SV} {mo:Option (Mem Td)} (h:opBuildD t us mem=some (ps,r,mo)) (hp:∀ p∈ps,p) {o:Oper} {ρ:Operand→Value} {x y:Operand} (ho:o.op=.build t #[(0,x),(1,y)]) (hM:MemOk W0 G Id' w e mem) (ha:AllC e us [ρ x,ρ y]):
  givesUpon Try.prog (fun v w'=>OutIs Id' W0 G w e r v w' mo) ((execOp ρ o).run Try.prog w):=by
 unfold opBuildD at h
 split at h
 ·rename_i p V
  split at h
  ·rename_i a hv ht
   obtain rfl:=eqb_eq.1 ht
   simp only [Option.some.injEq,Prod.mk.injEq] at h
   obtain ⟨rfl,rfl,rfl⟩:=h
   have q:AggOk V 128:=hp _ (List.mem_cons_self ..)
   have hx:ρ x=.int .i64 a:=valP_is hv (is_one ha.1)
   have hy:ρ y=V:=is_one ha.2.1
   have hz:(zeroValue 253).run Try.prog w=.ok (.agg (.int .i64 0::List.replicate 128 (.int .u8 0)).toArray) w:=pureSem_run _ (by kernel_rfl) w
   have hpl:pureSem Try.prog (bPlaces 253)=some (#[(0,1),(1,128)],none):=by kernel_rfl
   have hc:=aggOk_cells q
   have hfill:Instr.fill (fun i=>(#[(0,1),(1,128)]:Array (Nat×Nat))[i]?) (Value.agg (.int .i64 0::List.replicate 128 (.int .u8 0)).toArray).cells [(0,.int .i64 a),(1,V)]=some (.int .i64 a::cellsV V).toArray:=by
    rw [fill_cons (off:=0) (size:=1) rfl rfl (by simp [Value.cells])]
    rw [fill_cons (off:=1) (size:=128) rfl (by rw [hc];simpa using q.2.1) (by simp [layL,Value.cells])]
    rw [Instr.fill,hc]
    refine congrArg (fun l:List Value=>some l.toArray) ?_
    show layL 1 (cellsV V) (layL 0 [Value.int .i64 a] (.int .i64 0::List.replicate 128 (.int .u8 0)))=_
    simp only [layL,List.take_zero,List.nil_append,List.length_cons,List.length_nil,Nat.zero_add,List.drop_succ_cons,List.drop_zero,List.singleton_append,List.take_succ_cons,List.cons_append]
    rw [show (1+(cellsV V).length)=(cellsV V).length+1 by omega,List.drop_succ_cons,List.drop_eq_nil_of_le (by rw [q.2.1];simp)]
    simp
   have hrun:(execOp ρ o).run Try.prog w=.ok (.value (.agg (.int .i64 a::cellsV V).toArray)) w:=by
    unfold execOp
    rcases bPlaces_run hpl w with ⟨fields,arr,he,k1,k2⟩|⟨len,elem,n,he,k1,k2⟩
    ·cases he
     simp only [ho,List.map_toArray,List.map_cons,List.map_nil,hx,hy,Instr.build,Sem.run_bind,hz,k1,k2,Result.andThen_ok,Sem.run_pure]
     rw [hfill]
     simp [Sem.run_pure]
    ·cases he
   rw [hrun]
   exact ⟨rfl,Ext.refl w⟩
  ·cases h
 ·cases h
theorem run_lit1 {t el size:Nat} {z V:Value} (ht:Try.prog.underlying t=some (.slice el)) (hs:pureSem Try.prog (sizeOf el)=some size) (hz:pureSem Try.prog (zeroValue el)=some z) (h0:0<size) (h1:size≤16777216) (hV:V.cells.size=size) (w:World):
  (Instr.buildSlice t 1 #[(0,V)]).run Try.prog w=.ok (.slice (some ⟨w.heap.size,0,none⟩) 1 1) (w.alloc (.cells V.cells el)):=by
 have hu:(underlying t).run Try.prog w=.ok (.slice el) w:=run_underlying ht w
 have hs':=pureSem_run _ hs w
 have hz':=pureSem_run _ hz w
 have hfill:∀ A:Array Value,A.size=size→Instr.fill (fun i=>some (i * size,size)) A [(0,V)]=some V.cells:=fun A hA=>by
  rw [fill_cons (off:=0 * size) (size:=size) rfl hV (by omega),Instr.fill]
  refine congrArg some (Array.ext' ?_)
  simp only [layL,Nat.zero_mul,List.take_zero,List.nil_append,Nat.zero_add]
  rw [List.drop_eq_nil_of_le (by simp;omega)]
  simp
 have h2:¬ (16777216<size):=by omega
 have h3:¬ (size=0):=by omega
 simp [Instr.buildSlice,Sem.run_bind,hu,hs',hz',h2,h3,hfill,newRow,newObj]
 rfl
def wqL:List (TypeId×TypeId):=[(154,255)]
 ++[(229,115)]
 ++[(108,117)]
def wqIn (t:TypeId):List (TypeId×TypeId)→Option TypeId
 |[]=>none
 |(u,x)::r=>match eqb u t with|true=>some x|false=>wqIn t r
def wqT (t:TypeId):Option TypeId:=wqIn t wqL
theorem wqIn_mem {t x:Nat}:∀ {l:List (TypeId×TypeId)},wqIn t l=some x→(t,x)∈l
 |[],h=>by cases h
 |(u,y)::r,h=>by
  simp only [wqIn] at h
  split at h
  ·rename_i he
   obtain rfl:=eqb_eq.1 he
   cases h
   exact List.mem_cons_self ..
  ·exact List.mem_cons_of_mem _ (wqIn_mem h)
theorem wqL_sem:∀ p∈wqL,Try.prog.underlying p.1=some (.slice p.2)∧pureSem Try.prog (sizeOf p.2)=some 2∧pureSem Try.prog (zeroValue p.2)=some (.agg #[.int .i64 0,.slice none 0 0])∧ElemT Try.prog p.1 p.2 2 32:=by
 intro p hp
 simp only [wqL,List.cons_append,List.nil_append,List.mem_cons,List.not_mem_nil,or_false] at hp
 rcases hp with rfl
  |rfl
  |rfl
 ·exact ⟨Try.underlying154,by kernel_rfl,by kernel_rfl,ElemT.mk' Try.underlying154 (z:=.agg #[.int .i64 0,.slice none 0 0]) (by kernel_rfl) rfl (by decide)⟩
 ·exact ⟨Try.underlying229,by kernel_rfl,by kernel_rfl,ElemT.mk' Try.underlying229 (z:=.agg #[.int .i64 0,.slice none 0 0]) (by kernel_rfl) rfl (by decide)⟩
 ·exact ⟨Try.underlying108,by kernel_rfl,by kernel_rfl,ElemT.mk' Try.underlying108 (z:=.agg #[.int .i64 0,.slice none 0 0]) (by kernel_rfl) rfl (by decide)⟩
theorem wqT_sem {t x:Nat} (h:wqT t=some x):Try.prog.underlying t=some (.slice x)∧pureSem Try.prog (sizeOf x)=some 2∧pureSem Try.prog (zeroValue x)=some (.agg #[.int .i64 0,.slice none 0 0])∧ElemT Try.prog t x 2 32:=wqL_sem (t,x) (wqIn_mem h)
def opLitD (t:TypeId) (us:List CV) (mem:Mem Td):OpD:=match us with
 |[.one (.v V)]=>(match eqb t 247 with
  |true=>some ([AggOk V 129,cellsV V=.int .i64 (hdI (cellsV V))::(unb (cellsV V).tail).map bv],.c (.one (.obj mem.length)),some (mem++[⟨.us (.ext (.flat (.pens [(hdI (cellsV V),unb (cellsV V).tail)]))),true⟩]))
  |false=>none)
 |[.one (.obj j)]=>(match mem[j]?,eqb t 153 with
  |some ⟨.us (.own l),true⟩,true=>some ([],.c (.one (.obj mem.length)),some (mem.set j ⟨.us (.byt l),false⟩++[⟨.us (.ext (.tab (.bs [l]))),true⟩]))
  |some ⟨.us (.bal l),true⟩,true=>some ([],.c (.one (.obj mem.length)),some (mem.set j ⟨.us (.byt l),false⟩++[⟨.us (.ext (.tab (.bs [l]))),true⟩]))
  |some ⟨.us (.byt l),false⟩,true=>some ([],.c (.one (.obj mem.length)),some (mem++[⟨.us (.ext (.tab (.bs [l]))),true⟩]))
  |_,_=>none)
 |[.agg [p,.obj j]]=>(match mem[j]?,wqT t,valP p with
  |some ⟨.us (.own l),true⟩,some t1,some (.int .i64 a)=>some ([],.c (.one (.obj mem.length)),some (mem.set j ⟨.us (.byt l),false⟩++[⟨.us (.ext (.tab (.wq t1 [(a,l)]))),true⟩]))
  |some ⟨.us (.byt l),false⟩,some t1,some (.int .i64 a)=>some ([],.c (.one (.obj mem.length)),some (mem++[⟨.us (.ext (.tab (.wq t1 [(a,l)]))),true⟩]))
  |_,_,_=>none)
 |_=>none
theorem lit_tab (hM:MemOk W0 G Id' w e mem) {j:Nat} {u:Value} {l:List UInt8} (hu:e[j]? =some u) (hm:mem[j]? =some ⟨.us (.byt l),false⟩) {t:TypeId} {cs:List Value} (h1:∀ v∈cs,v.oneCell'=true) (tb:TB) (ht1:tb.t=t) (ht2:tb.k=cs.length) (ht3:tb.R=[(cs,l)]):
  MemOk W0 G Id' (w.alloc (.cells (cs++[u]).toArray t)) (e++[.slice (some ⟨w.heap.size,0,none⟩) 1 1]) (mem++[⟨.us (.ext (.tab tb)),true⟩]):=by
 have hbs:Bs w u l:=hM.holds j u _ hu hm
 have hown:=owns_lit (w:=w) (B:=w.heap.size) (n:=1) (size:=cs.length+1) (e:=t) (cs:=(cs++[u]).toArray) (by simp) (Nat.le_refl _) (by decide)
 have hown':(w.alloc (.cells (cs++[u]).toArray t)).ownsRow w.heap.size t (cs.length+1) (.slice (some ⟨w.heap.size,0,none⟩) 1 1) [(cs,l)].length (tabCells [(cs,l)] [u]):=by
  simpa [tabCells] using hown
 have hsh:∀ kk,l≠[]→u.ownBlock=some kk→Sh Id' w e mem kk:=fun kk h1 h2=>⟨j,u,_,hu,hm,⟨h1,h2⟩,fun h=>by cases h⟩
 refine hM.push3 ((Ext.refl w).alloc _) _ ⟨.us (.ext (.tab tb)),true⟩ ?_ (fun k hk=>?_) fun k hk=>?_
 ·show tabHolds tb.t tb.k tb.R _ _
  rw [ht1,ht2,ht3]
  refine ⟨fun r hr=>by simp at hr;rw [hr],fun r hr=>by simp at hr;rw [hr];exact h1,[u],rfl,⟨w.heap.size,by simp,hown'⟩,fun i v r hv hri=>?_⟩
  match i,hv,hri with
  |0,hv,hri=>
   simp at hv hri
   subst hv;subst hri
   refine ⟨hbs.ext ((Ext.refl w).alloc _),fun kk h1 h2 h3=>?_⟩
   have h3':some w.heap.size=some kk:=h3
   cases h3'
   have:=(hsh _ h1 h2).lt hM
   omega
  |i+1,hv,_=>simp at hv
 ·have hk:tabFoot tb.k tb.R _ _ k:=hk
  rw [ht2,ht3] at hk
  rcases hk with hk|⟨i,r,v,g1,g2,g3,g4⟩
  ·have hk':some w.heap.size=some k:=hk
   cases hk'
   exact ⟨.inl (Nat.le_refl _),by simp⟩
  ·match i,g1 with
   |0,g1=>
    simp at g1
    subst g1
    have hat:=tab_at (k:=cs.length) (R:=[(cs,l)]) (vals:=[u]) rfl (fun r hr=>by simp at hr;rw [hr]) hown' (i:=0) (v:=u) rfl
    have:=tabAt_eq g3 hat
    subst this
    have:=hsh k g2 g4
    exact ⟨.inr this,by have:=this.lt hM;simp;omega⟩
   |i+1,g1=>simp at g1
 ·have hk':some w.heap.size=some k:=hk
  cases hk'
  exact Nat.le_refl _
theorem opLitD_ok {t:TypeId} {us:List CV} {ps:List Prop} {r:SV} {mo:Option (Mem Td)} (h:opLitD t us mem=some (ps,r,mo)) (hp:∀ p∈ps,p) {o:Oper} {ρ:Operand→Value} {x:Operand} (ho:o.op=.buildSlice t 1 #[(0,x)]) (hM:MemOk W0 G Id' w e mem) (ha:AllC e us [ρ x]):
  givesUpon Try.prog (fun v w'=>OutIs Id' W0 G w e r v w' mo) ((execOp ρ o).run Try.prog w):=by
 have hrun:∀ {v:Value} {w':World},(Instr.buildSlice t 1 #[(0,ρ x)]).run Try.prog w=.ok v w'→(execOp ρ o).run Try.prog w=.ok (.value v) w':=fun hr=>by
  unfold execOp
  simp only [ho,List.map_toArray,List.map_cons,List.map_nil]
  rw [Sem.run_bind,hr]
  rfl
 have hend:(e++[(.slice (some ⟨w.heap.size,0,none⟩) 1 1:Value)])[mem.length]? =some (.slice (some ⟨w.heap.size,0,none⟩) 1 1):=by
  rw [← hM.len,List.getElem?_append_right (Nat.le_refl _)];simp
 have tabs:∀ {j:Nat} {b:Td} {l:List UInt8},e[j]? =some (ρ x)→mem[j]? =some ⟨.us b,true⟩→Bs w (ρ x) l→(∀ k,(ρ x).ownBlock=some k→Own Id' w (ρ x) (.us b) k)→t=153→
   givesUpon Try.prog (fun v w'=>OutIs Id' W0 G w e (.c (.one (.obj mem.length))) v w' (some (mem.set j ⟨.us (.byt l),false⟩++[⟨.us (.ext (.tab (.bs [l]))),true⟩]))) ((execOp ρ o).run Try.prog w):=fun {j b l} hu hm hb hown ht=>by
  subst ht
  have hone:(ρ x).oneCell'=true:=by obtain ⟨_,ao,cap,hv,_⟩:=hb;rw [hv];rfl
  have hcl:(ρ x).cells=#[ρ x]:=by obtain ⟨_,ao,cap,hv,_⟩:=hb;rw [hv];rfl
  have hr:=run_lit1 (V:=ρ x) (z:=.slice none 0 0) Try.underlying153 (size:=1) (by kernel_rfl) (by kernel_rfl) (by decide) (by decide) (by rw [hcl];rfl) w
  rw [hrun hr]
  have hM2:=freeze hM hu hm hb hown
  have h3:=lit_tab hM2 (t:=37) (cs:=[]) hu (by rw [List.getElem?_set_self (List.getElem?_eq_some_iff.1 hm).1]) (fun v hv=>by cases hv) (.bs [l]) rfl rfl rfl
  rw [hcl]
  exact ⟨e++[_],Grows.push e _,hend,h3⟩
 unfold opLitD at h
 split at h
 ·rename_i V
  have hx:ρ x=V:=is_one ha.1
  split at h
  ·rename_i ht
   obtain rfl:=eqb_eq.1 ht
   simp only [Option.some.injEq,Prod.mk.injEq] at h
   obtain ⟨rfl,rfl,rfl⟩:=h
   have q:AggOk V 129:=hp _ (List.mem_cons_self ..)
   have q5:cellsV V=.int .i64 (hdI (cellsV V))::(unb (cellsV V).tail).map bv:=hp _ (List.mem_cons_of_mem _ (List.mem_cons_self ..))
   have hR:(FL.pens [(hdI (cellsV V),unb (cellsV V).tail)]).R=[cellsV V]:=by
    simp only [FL.R,List.map_cons,List.map_nil]
    rw [← q5]
   have hc:=aggOk_cells q
   have hr:=run_lit1 (V:=V) (z:=.agg (.int .i64 0::List.replicate 128 (.int .u8 0)).toArray) Try.underlying247 (size:=129) (by kernel_rfl) (by kernel_rfl) (by decide) (by decide) (by rw [hc];simpa using q.2.1) w
   rw [← hx] at hr
   rw [hrun hr]
   rw [hx,hc]
   have hown:=owns_lit (w:=w) (B:=w.heap.size) (n:=1) (size:=129) (e:=253) (cs:=(cellsV V).toArray) (by simpa using q.2.1) (Nat.le_refl _) (by decide)
   refine ⟨e++[_],Grows.push e _,hend,hM.push ((Ext.refl w).alloc _) _ ⟨.us (.ext (.flat (.pens [(hdI (cellsV V),unb (cellsV V).tail)]))),true⟩ ⟨fun r hr=>by rw [hR] at hr;simp at hr;rw [hr];exact q.2.1,w.heap.size,by simp,by rw [hR];simpa [FL.t,FL.sz] using hown⟩ fun k hk=>owns_block hown hk⟩
  ·cases h
 ·rename_i j
  have hu:e[j]? =some (ρ x):=ha.1
  split at h
  ·rename_i l hm ht
   have ht:=eqb_eq.1 ht
   simp only [Option.some.injEq,Prod.mk.injEq] at h
   obtain ⟨rfl,rfl,rfl⟩:=h
   have hh:=hM.holds j _ _ hu hm
   obtain ⟨B,_,ho2⟩:=hh
   exact tabs hu hm (bs_own ho2) (fun k hk=>hk) ht
  ·rename_i l hm ht
   have ht:=eqb_eq.1 ht
   simp only [Option.some.injEq,Prod.mk.injEq] at h
   obtain ⟨rfl,rfl,rfl⟩:=h
   exact tabs hu hm (bs_bal (J:=dkI) (hM.holds j _ _ hu hm)) (fun k hk=>hk) ht
  ·rename_i l hm ht
   have ht:=eqb_eq.1 ht
   subst ht
   simp only [Option.some.injEq,Prod.mk.injEq] at h
   obtain ⟨rfl,rfl,rfl⟩:=h
   have hb:Bs w (ρ x) l:=hM.holds j _ _ hu hm
   have hcl:(ρ x).cells=#[ρ x]:=by obtain ⟨_,ao,cap,hv,_⟩:=hb;rw [hv];rfl
   have hr:=run_lit1 (V:=ρ x) (z:=.slice none 0 0) Try.underlying153 (size:=1) (by kernel_rfl) (by kernel_rfl) (by decide) (by decide) (by rw [hcl];rfl) w
   rw [hrun hr]
   have h3:=lit_tab hM (t:=37) (cs:=[]) hu hm (fun v hv=>by cases hv) (.bs [l]) rfl rfl rfl
   rw [hcl]
   exact ⟨e++[_],Grows.push e _,hend,h3⟩
  ·cases h
 ·rename_i p j
  obtain ⟨us,hall,hx⟩:∃ us,AllIs e [p,.obj j] us∧ρ x=.agg us.toArray:=ha.1
  split at h
  ·rename_i l t1 a hm ht hv
   obtain ⟨k1,k2,k3,_⟩:=wqT_sem ht
   simp only [Option.some.injEq,Prod.mk.injEq] at h
   obtain ⟨rfl,rfl,rfl⟩:=h
   match us,hall with
   |[u0,u1],⟨a0,a1,_⟩=>
   have h0:u0=.int .i64 a:=valP_is hv a0
   subst h0
   have hu:e[j]? =some u1:=a1
   obtain ⟨B,_,ho2⟩:=hM.holds j _ _ hu hm
   have hb:Bs w u1 l:=bs_own ho2
   have hr:=run_lit1 (V:=ρ x) k1 (size:=2) k2 k3 (by decide) (by decide) (by rw [hx];rfl) w
   rw [hrun hr]
   have hM2:=freeze hM hu hm hb (fun k hk=>hk)
   have h3:=lit_tab hM2 (t:=t1) (cs:=[.int .i64 a]) hu (by rw [List.getElem?_set_self (List.getElem?_eq_some_iff.1 hm).1]) (fun v hv=>by simp at hv;subst hv;rfl) (.wq t1 [(a,l)]) rfl rfl rfl
   rw [hx]
   exact ⟨e++[_],Grows.push e _,hend,h3⟩
  ·rename_i l t1 a hm ht hv
   obtain ⟨k1,k2,k3,_⟩:=wqT_sem ht
   simp only [Option.some.injEq,Prod.mk.injEq] at h
   obtain ⟨rfl,rfl,rfl⟩:=h
   match us,hall with
   |[u0,u1],⟨a0,a1,_⟩=>
   have h0:u0=.int .i64 a:=valP_is hv a0
   subst h0
   have hu:e[j]? =some u1:=a1
   have hr:=run_lit1 (V:=ρ x) k1 (size:=2) k2 k3 (by decide) (by decide) (by rw [hx];rfl) w
   rw [hrun hr]
   have h3:=lit_tab hM (t:=t1) (cs:=[.int .i64 a]) hu hm (fun v hv=>by simp at hv;subst hv;rfl) (.wq t1 [(a,l)]) rfl rfl rfl
   rw [hx]
   exact ⟨e++[_],Grows.push e _,hend,h3⟩
  ·cases h
 ·cases h
end
end Go.Proofs.Ytiiekgcjilelpaa

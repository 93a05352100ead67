/- F2. -/
import Derived.Test.YtiiekgcjilelpaaF1p
import Derived.Test.YtiiekgcjilelpaaG0p
import Derived.Test.YtiiekgcjilelpaaG2p
import Derived.Test.YtiiekgcjilelpaaE4p
set_option linter.unusedSimpArgs false
set_option linter.unusedVariables false
namespace Go.Proofs.Ytiiekgcjilelpaa
open Go.RowKit
section
variable {ξ:Type} {J:ObI ξ} {hx:ξ→Bool} {W0:World} {G:Nat→Prop} {w w':World} {E:Env} {MEM:Mem (Th ξ)}
def lenT (mem:Mem (Th ξ)) (i:Nat):Option Nat:=match mem[i]? with
 |some ⟨.us (.own l),_⟩=>some l.length
 |some ⟨.us (.byt l),_⟩=>some l.length
 |some ⟨.us (.bts l),_⟩=>some l.length
 |some ⟨.us (.ins l),_⟩=>some l.length
 |some ⟨.sl K (.bal _),_⟩=>some K.n
 |some ⟨.us (.bal l),_⟩=>some l.length
 |_=>none
theorem lenT_is (hM:MemOk W0 G (thI J) w E MEM) {i n:Nat} (h:lenT MEM i=some n) {u:Value} (hu:E[i]? =some u):∃ ao cap,u=.slice ao n cap∧n≤cap:=by
 unfold lenT at h
 split at h
 ·rename_i hm
  simp only [Option.some.injEq] at h;subst h
  obtain ⟨B,_,hh⟩:=hM.holds i u _ hu hm
  obtain ⟨_,ao,cap,h1,h2,_⟩:=Rs.of_owns hh
  exact ⟨ao,cap,h1,h2⟩
 ·rename_i hm
  simp only [Option.some.injEq] at h;subst h
  obtain ⟨_,ao,cap,h1,h2,_⟩:=hM.holds i u _ hu hm
  exact ⟨ao,cap,h1,h2⟩
 ·rename_i hm
  simp only [Option.some.injEq] at h;subst h
  obtain ⟨B,_,hh⟩:=hM.holds i u _ hu hm
  obtain ⟨_,ao,cap,h1,h2,_⟩:=Rs.of_owns hh
  exact ⟨ao,cap,h1,h2⟩
 ·rename_i hm
  simp only [Option.some.injEq] at h;subst h
  obtain ⟨B,_,hh⟩:=hM.holds i u _ hu hm
  obtain ⟨_,ao,cap,h1,h2,_⟩:=Rs.of_owns hh
  exact ⟨ao,cap,h1,h2⟩
 ·rename_i hm
  simp only [Option.some.injEq] at h;subst h
  obtain ⟨ao,cap,h1,h2,_⟩:=hM.holds i u _ hu hm
  exact ⟨ao,cap,h1,h2⟩
 ·rename_i hm
  simp only [Option.some.injEq] at h;subst h
  obtain ⟨b,t,cur,c,h1,_,h2,_⟩:=hM.holds i u _ hu hm
  exact ⟨_,c,h1,h2⟩
 ·cases h
theorem lenT_mono {m m':Mem (Th ξ)} (hl:MLe m m') {i n:Nat} (h:lenT m i=some n):lenT m' i=some n:=by
 unfold lenT at h ⊢
 split at h
 all_goals first
  |(rename_i hm;simp only [hl _ _ hm (by simp)];exact h)
  |cases h
def lohi (lo hi:Bool) (n:Nat):List CV→Option (Int×Int)
 |[]=>(match lo,hi with|false,false=>some (0,(n:Int))|_,_=>none)
 |[.one a]=>(match lo,hi,valP a with
  |true,false,some (.int .i64 l)=>some (l,(n:Int))
  |false,true,some (.int .i64 h)=>some (0,h)
  |_,_,_=>none)
 |[.one a,.one b]=>(match lo,hi,valP a,valP b with
  |true,true,some (.int .i64 l),some (.int .i64 h)=>some (l,h)
  |_,_,_,_=>none)
 |_=>none
def isNone {α:Type}:Option α→Bool
 |none=>true
 |some _=>false
abbrev OpRow (ξ:Type):=Option (List Prop×SV×Option (Mem (Th ξ)))
def opApp (t tn:TypeId) (us:List CV) (mem:Mem (Th ξ)):OpRow ξ:=match us with
 |[.one (.obj i),.one nv]=>(match eqb t 37&&eqb tn 3,mem[i]?,valP nv with
  |true,some ⟨.us (.own l),true⟩,some (.int .i64 n)=>some ([0≤n,l.length+n.toNat≤1000000],.c (.one (.obj mem.length)),some (mem.set i ⟨.dead,true⟩++[⟨.us (.own (l++List.replicate n.toNat 0)),true⟩]))
  |_,_,_=>none)
 |_=>none
def opLen (ts:List TypeId) (us:List CV) (mem:Mem (Th ξ)):OpRow ξ:=match us,ts with
 |[.one (.obj i)],[t]=>(match eqb t 37||eqb t 32,lenT mem i with
  |true,some n=>some ([],svV (.int .i64 (n:Int)),none)
  |_,_=>none)
 |_,_=>none
def opSlice (t:TypeId) (lo hi:Bool) (us:List CV) (mem:Mem (Th ξ)):OpRow ξ:=match us with
 |.one (.obj i)::rest=>(match eqb t 37,lenT mem i with
  |true,some n=>(match lohi lo hi n rest with
   |some (l,h)=>some ([0≤l∧l≤h∧h≤(n:Int)],.c (.one (.sub i 1 l.toNat h.toNat)),none)
   |none=>none)
  |_,_=>none)
 |_=>none
def opLit (t:TypeId) (us:List CV) (mem:Mem (Th ξ)):OpRow ξ:=match us with
 |[.one x]=>(match eqb t 37,eqb t 32,valP x with
  |true,_,some (.int .u8 n)=>some ([0≤n∧n<256],.c (.one (.obj mem.length)),some (mem++[⟨.us (.own [UInt8.ofNat n.toNat]),true⟩]))
  |_,true,some (.int .i64 n)=>some ([],.c (.one (.obj mem.length)),some (mem++[⟨.us (.ins [n]),true⟩]))
  |_,_,_=>none)
 |_=>none
def opLit3 (t:TypeId) (us:List CV) (mem:Mem (Th ξ)):OpRow ξ:=match us with
 |[.one x,.one y,.one z]=>(match eqb t 32,valP x,valP y,valP z with
  |true,some (.int .i64 a),some (.int .i64 b),some (.int .i64 c)=>some ([],.c (.one (.obj mem.length)),some (mem++[⟨.us (.ins [a,b,c]),true⟩]))
  |_,_,_,_=>none)
 |_=>none
def opMake (t:TypeId) (us:List CV) (mem:Mem (Th ξ)):OpRow ξ:=match us with
 |[.one a,.one b]=>(match eqb t 37,natP a,natP b with
  |true,some n,some m=>(match eqb n m&&leb n 1000000 with
   |true=>some ([],.c (.one (.obj mem.length)),some (mem++[⟨.us (.own (List.replicate n 0)),true⟩]))
   |false=>none)
  |_,_,_=>none)
 |_=>none
def opConv (s d:TypeId) (us:List CV) (mem:Mem (Th ξ)):OpRow ξ:=match us with
 |[.one p]=>(match eqb s 37&&eqb d 9,bytesP mem p with
  |true,some l=>some ([],svV (.string ⟨l.toArray⟩),none)
  |_,_=>none)
 |_=>none
def opsT (op:Op) (us:List CV) (mem:Mem (Th ξ)):OpRow ξ:=match op with
 |.call { callee:=.builtin .append,args:=_,argTypes:=ts }=>(match ts.toList with|[t,tn]=>opApp t tn us mem|_=>none)
 |.call { callee:=.builtin .len,args:=_,argTypes:=ts }=>opLen ts.toList us mem
 |.slice t _ lo hi none=>opSlice t (!isNone lo) (!isNone hi) us mem
 |.buildSlice t 1 ps=>(match ps.toList with|[(0,_)]=>opLit t us mem|_=>none)
 |.buildSlice t 3 ps=>(match ps.toList with|[(0,_),(1,_),(2,_)]=>opLit3 t us mem|_=>none)
 |.makeSlice t _ _=>opMake t us mem
 |.convert s d _=>opConv s d us mem
 |_=>none
theorem opsT_mono (op:Op) (us:List CV) (m m':Mem (Th ξ)) (ps:List Prop) (r:SV) (h:opsT op us m=some (ps,r,none)) (hl:MLe m m'):opsT op us m'=some (ps,r,none):=by
 unfold opsT at h ⊢
 split at h
 ·split at h
  ·unfold opApp at h
   split at h
   ·split at h<;>simp at h
   ·cases h
  ·cases h
 ·unfold opLen at h ⊢
  split at h
  ·split at h
   ·rename_i ht hn;rw [ht,lenT_mono hl hn];exact h
   ·cases h
  ·cases h
 ·unfold opSlice at h ⊢
  split at h
  ·split at h
   ·rename_i ht hn;rw [ht,lenT_mono hl hn];exact h
   ·cases h
  ·cases h
 ·split at h
  ·unfold opLit at h
   split at h
   ·split at h<;>simp at h
   ·cases h
  ·cases h
 ·split at h
  ·unfold opLit3 at h
   split at h
   ·split at h<;>simp at h
   ·cases h
  ·cases h
 ·unfold opMake at h
  split at h
  ·split at h
   ·split at h<;>simp at h
   ·cases h
  ·cases h
 ·unfold opConv at h ⊢
  split at h
  ·split at h
   ·rename_i ht hn;rw [ht,bytesP_mono hl hn];exact h
   ·cases h
  ·cases h
 ·cases h
theorem lohi_is {lo hi:Bool} {n:Nat} {rest:List CV} {l h:Int} (hr:lohi lo hi n rest=some (l,h)) {us:List Value} (hu:AllC E rest us) (b:0≤l∧l≤h∧h≤(n:Int)) {ao:Option Addr} {cap:Nat} (hcap:n≤cap) {t:TypeId} {P:Program} (ht:P.underlying t=some (.slice (P.elem t)))
  (hsz:∀ w,(sizeOf (P.elem t)).run P w=.ok 1 w) (w:World):∀ (lv hv:Option Value),(lo=lv.isSome)→(hi=hv.isSome)→us=lv.toList++hv.toList→
   (Instr.sliceAt t (.slice ao n cap) lv hv none).run P w=.ok (.slice (if cap=l.toNat then ao else ao.map (·.add (l.toNat * 1))) (h.toNat - l.toNat) (cap - l.toNat)) w:=by
 intro lv hv e1 e2 e3
 rw [run_sliceAt_slice (h:=ht)]
 unfold lohi at hr
 split at hr
 ·split at hr
  ·simp only [Option.some.injEq,Prod.mk.injEq] at hr
   obtain ⟨rfl,rfl⟩:=hr
   cases lv with
   |some x=>cases e1
   |none=>
    cases hv with
    |some x=>cases e2
    |none=>
     rw [run_slice_all w t ao n cap ht]
     simp [hsz,sliced]
  ·cases hr
 ·rename_i a
  obtain ⟨u,rfl,ha⟩:=allC1 hu
  split at hr
  ·rename_i l' hv'
   simp only [Option.some.injEq,Prod.mk.injEq] at hr
   obtain ⟨rfl,rfl⟩:=hr
   cases lv with
   |none=>cases e1
   |some x=>
    cases hv with
    |some y=>cases e2
    |none=>
     simp at e3
     subst e3
     obtain rfl:=valP_is hv' (is_one ha)
     rw [run_slice_l w t ao n cap ht _ _ b.1 b.2.1]
     simp [hsz,sliced]
  ·rename_i h' hv'
   simp only [Option.some.injEq,Prod.mk.injEq] at hr
   obtain ⟨rfl,rfl⟩:=hr
   cases lv with
   |some x=>cases e1
   |none=>
    cases hv with
    |none=>cases e2
    |some y=>
     simp at e3
     subst e3
     obtain rfl:=valP_is hv' (is_one ha)
     rw [run_slice_h w t ao n cap ht _ _ b.2.1 (by omega)]
     simp [hsz,sliced]
  ·cases hr
 ·rename_i a c
  obtain ⟨u,v,rfl,ha,hc⟩:=allC2 hu
  split at hr
  ·rename_i l' h' hv1 hv2
   simp only [Option.some.injEq,Prod.mk.injEq] at hr
   obtain ⟨rfl,rfl⟩:=hr
   cases lv with
   |none=>cases e1
   |some x=>
    cases hv with
    |none=>cases e2
    |some y=>
     simp at e3
     obtain ⟨rfl,rfl⟩:=e3
     obtain rfl:=valP_is hv1 (is_one ha)
     obtain rfl:=valP_is hv2 (is_one hc)
     rw [run_slice_lh w t ao n cap ht _ _ _ _ b.1 b.2.1 (by omega)]
     simp [hsz,sliced]
  ·cases hr
 ·cases hr
theorem elemU8:Try.prog.underlying 37=some (.slice (Try.prog.elem 37)):=by
 rw [show Try.prog.elem 37=5 from by kernel_rfl];exact Try.underlying37
theorem sizeU8 (w:World):(sizeOf (Try.prog.elem 37)).run Try.prog w=.ok 1 w:=
 pureSem_run _ (show pureSem Try.prog (sizeOf (Try.prog.elem 37))=some 1 by kernel_rfl) w
theorem und_u8 (w:World):(underlying 37).run Try.prog w=.ok (.slice 5) w:=run_underlying Try.underlying37 w
theorem und_int (w:World):(underlying 32).run Try.prog w=.ok (.slice 3) w:=run_underlying Try.underlying32 w
theorem run_lit_u8 (n:Int) (w:World):(Instr.buildSlice 37 1 #[(0,.int .u8 n)]).run Try.prog w=.ok (.slice (some ⟨w.heap.size,0,none⟩) 1 1) (w.alloc (.cells #[.int .u8 n] 5)):=by
 have hs:∀ w,(sizeOf 5).run Try.prog w=.ok 1 w:=fun w=>pureSem_run _ (show pureSem Try.prog (sizeOf 5)=some 1 by kernel_rfl) w
 have hz:∀ w,(zeroValue 5).run Try.prog w=.ok (.int .u8 0) w:=fun w=>pureSem_run _ (show pureSem Try.prog (zeroValue 5)=some (.int .u8 0) by kernel_rfl) w
 have hA:((Array.map (fun x=>[Value.int IntKind.u8 0][x % 1]?.getD default) (Array.range 1)).setIfInBounds 0 (Value.int IntKind.u8 n))=#[.int .u8 n]:=by kernel_rfl
 simp [Instr.buildSlice,Sem.run_bind,und_u8,hs,hz,Instr.fill,newRow,newObj,Value.cells]
 rw [hA]
 rfl
theorem run_lit_int (n:Int) (w:World):(Instr.buildSlice 32 1 #[(0,.int .i64 n)]).run Try.prog w=.ok (.slice (some ⟨w.heap.size,0,none⟩) 1 1) (w.alloc (.cells #[.int .i64 n] 3)):=by
 have hs:∀ w,(sizeOf 3).run Try.prog w=.ok 1 w:=fun w=>pureSem_run _ (show pureSem Try.prog (sizeOf 3)=some 1 by kernel_rfl) w
 have hz:∀ w,(zeroValue 3).run Try.prog w=.ok (.int .i64 0) w:=fun w=>pureSem_run _ (show pureSem Try.prog (zeroValue 3)=some (.int .i64 0) by kernel_rfl) w
 have hA:((Array.map (fun x=>[Value.int IntKind.i64 0][x % 1]?.getD default) (Array.range 1)).setIfInBounds 0 (Value.int IntKind.i64 n))=#[.int .i64 n]:=by kernel_rfl
 simp [Instr.buildSlice,Sem.run_bind,und_int,hs,hz,Instr.fill,newRow,newObj,Value.cells]
 rw [hA]
 rfl
theorem run_lit_int3 (a b c:Int) (w:World):(Instr.buildSlice 32 3 #[(0,.int .i64 a),(1,.int .i64 b),(2,.int .i64 c)]).run Try.prog w=.ok (.slice (some ⟨w.heap.size,0,none⟩) 3 3) (w.alloc (.cells #[.int .i64 a,.int .i64 b,.int .i64 c] 3)):=by
 have hs:∀ w,(sizeOf 3).run Try.prog w=.ok 1 w:=fun w=>pureSem_run _ (show pureSem Try.prog (sizeOf 3)=some 1 by kernel_rfl) w
 have hz:∀ w,(zeroValue 3).run Try.prog w=.ok (.int .i64 0) w:=fun w=>pureSem_run _ (show pureSem Try.prog (zeroValue 3)=some (.int .i64 0) by kernel_rfl) w
 have hA:((((Array.map (fun x=>[Value.int IntKind.i64 0][x % 1]?.getD default) (Array.range 3)).setIfInBounds 0 (Value.int IntKind.i64 a)).setIfInBounds 1 (Value.int IntKind.i64 b)).setIfInBounds 2 (Value.int IntKind.i64 c))=#[.int .i64 a,.int .i64 b,.int .i64 c]:=by kernel_rfl
 simp [Instr.buildSlice,Sem.run_bind,und_int,hs,hz,Instr.fill,newRow,newObj,Value.cells]
 rw [hA]
 rfl
theorem infoU8:∃ i,Try.prog.info? 5=some i∧i.zero=some (.int .u8 0)∧i.size=1∧i.bytes=1:=
 info_parts (show (Try.prog.info? 5).map (fun i=>(i.zero,i.size,i.bytes))=some (some (.int .u8 0),1,1) by kernel_rfl)
theorem undInt:Try.prog.underlying 3=some (.int .i64):=by kernel_rfl
def thHo (hx:ξ→Bool):Ho (Th ξ):=⟨appT hx,opsT,hardT hx,true,[]⟩
def OutIs (I:ObI (Th ξ)) (W0:World) (G:Nat→Prop) (w:World) (e:Env) (r:SV) (v:Value) (w':World):Option (Mem (Th ξ))→Prop
 |none=>r.is e v∧Ext w w'
 |some m'=>∃ e',Grows e e'∧r.is e' v∧MemOk W0 G I w' e' m'
theorem opsT_ok (op:Op) (args:List CV) (mem:Mem (Th ξ)) (ps:List Prop) (r:SV) (mo:Option (Mem (Th ξ))) (h:opsT op args mem=some (ps,r,mo)) (hp:∀ p∈ps,p) (o:Oper) (ρ:Operand→Value) (w:World) (e:Env) (ho:o.op=op) (hM:MemOk W0 G (thI J) w e mem)
  (ha:AllC e args (op.operands.toList.map ρ)):givesUpon Try.prog (fun v w'=>OutIs (thI J) W0 G w e r v w' mo) ((execOp ρ o).run Try.prog w):=by
 unfold opsT at h
 split at h
 -- noughts
 ·rename_i xs ts
  split at h
  ·rename_i t tn ht
   unfold opApp at h
   split at h
   ·rename_i i nv
    split at h
    ·rename_i l n hts hm hn
     simp only [Option.some.injEq,Prod.mk.injEq] at h
     obtain ⟨rfl,rfl,rfl⟩:=h
     rw [Bool.and_eq_true] at hts
     have ht1:=eqb_eq.1 hts.1
     have ht2:=eqb_eq.1 hts.2
     subst ht1;subst ht2
     have e2:ts=#[37,3]:=by rw [← Array.toArray_toList (xs:=ts),ht]
     subst e2
     have hxs:(xs.toList.map ρ).length=2:=by
      obtain ⟨u,v,he,_⟩:=allC2 ha
      simp [Op.operands,Call.operands] at he
      have:=congrArg List.length he
      simpa using this
     have hx2:∃ x y,xs.toList=[x,y]:=by
      match hq:xs.toList,hxs with
      |[x,y],_=>exact ⟨x,y,rfl⟩
     obtain ⟨x,y,hxy⟩:=hx2
     have e1:xs=#[x,y]:=by rw [← Array.toArray_toList (xs:=xs),hxy]
     subst e1
     obtain ⟨u,v,he,a0,a1⟩:=allC2 ha
     simp [Op.operands,Call.operands] at he
     obtain ⟨rfl,rfl⟩:=he
     have q1:=hp _ (List.mem_cons_self ..)
     have q2:=hp _ (List.mem_cons_of_mem _ (List.mem_cons_self ..))
     have hv:=valP_is hn (is_one a1)
     have hu:e[i]? =some (ρ x):=a0
     obtain ⟨B,hB,hown⟩:=hM.holds i _ _ hu hm
     obtain ⟨inf,i1,i2,i3,i4⟩:=infoU8
     obtain ⟨v',w',hr,g1,g2,g3⟩:=run_app_zeros (ty:=o.type) Try.underlying37 undInt i1 i2 i3 i4 hown q2 hB
     rw [show ((n.toNat:Nat):Int)=n by omega] at hr
     have hmd:Mod (fun k=>thFoot J (.own l) w (ρ x) k) w w':=(Mod.grown_row g2).mono fun k _ hk=>hk
     have hrun:(execOp ρ o).run Try.prog w=.ok (.value v') w':=by
      unfold execOp
      simp only [ho,resolve,invoke,builtin,Sem.run_bind,Sem.run_pure,Result.andThen_ok,List.map_toArray,List.map_cons,List.map_nil,hv,hr]
     rw [hrun]
     refine ⟨e++[v'],Grows.push e v',?_,renew_ok hM hm hu hmd (b':=.own (l++List.replicate n.toNat 0)) ⟨B,Nat.le_trans hB hmd.size,by rw [List.length_append,List.length_replicate,List.map_append,List.map_replicate];exact g1⟩ fun k hk=>?_⟩
     ·show (e++[v'])[mem.length]? =some v'
      rw [← hM.len,List.getElem?_append_right (Nat.le_refl _)];simp
     ·have hk':v'.ownBlock=some k:=hk
      refine ⟨?_,(owns_block g1 hk').2⟩
      rcases g3 with h|h
      ·refine .inl ?_
       show (ρ x).ownBlock=some k
       rw [← h];exact hk'
      ·rw [h] at hk';cases hk';exact .inr (Nat.le_refl _)
    ·cases h
   ·cases h
  ·cases h
 -- len
 ·rename_i xs ts
  unfold opLen at h
  split at h
  ·rename_i us0 i t htl
   split at h
   ·rename_i n ht hn
    simp only [Option.some.injEq,Prod.mk.injEq] at h
    obtain ⟨rfl,rfl,rfl⟩:=h
    obtain ⟨u,he,a0⟩:=allC1 ha
    have hx1:∃ x,xs.toList=[x]:=by
     have hl:=congrArg List.length he
     simp [Op.operands,Call.operands] at hl
     match hq:xs.toList,(show xs.toList.length=1 by simpa using hl) with
     |[x],_=>exact ⟨x,rfl⟩
    obtain ⟨x,hxe⟩:=hx1
    have e1:xs=#[x]:=by rw [← Array.toArray_toList (xs:=xs),hxe]
    subst e1
    have e2:ts=#[t]:=by rw [← Array.toArray_toList (xs:=ts),htl]
    subst e2
    simp [Op.operands,Call.operands] at he
    subst he
    obtain ⟨ao,cap,hv,_⟩:=lenT_is hM hn (show e[i]? =some (ρ x) from a0)
    have hu:∃ el,(underlying t).run Try.prog w=.ok (.slice el) w:=by
     rw [Bool.or_eq_true] at ht
     rcases ht with ht|ht
     ·rw [eqb_eq.1 ht];exact ⟨_,und_u8 w⟩
     ·rw [eqb_eq.1 ht];exact ⟨_,und_int w⟩
    obtain ⟨el,hu⟩:=hu
    have hrun:(execOp ρ o).run Try.prog w=.ok (.value (.int .i64 (n:Int))) w:=by
     unfold execOp
     simp only [ho,resolve,invoke,builtin,Builtin.len_,Sem.run_bind,Sem.run_pure,Result.andThen_ok]
     simp [hv,hu,goInt,Sem.run_bind]
    rw [hrun]
    exact ⟨rfl,Ext.refl w⟩
   ·cases h
  ·cases h
 -- a part
 ·rename_i t x lo hi
  unfold opSlice at h
  split at h
  ·rename_i i rest
   split at h
   ·rename_i n ht hn
    split at h
    ·rename_i l hh hlh
     simp only [Option.some.injEq,Prod.mk.injEq] at h
     obtain ⟨rfl,rfl,rfl⟩:=h
     have ht:=eqb_eq.1 ht
     subst ht
     have q1:=hp _ (List.mem_cons_self ..)
     have hops:(Op.operands (.slice 37 x lo hi none)).toList.map ρ=ρ x::((lo.map ρ).toList++(hi.map ρ).toList):=by
      cases lo<;>cases hi<;>simp [Op.operands]
     rw [hops] at ha
     obtain ⟨a0,a1⟩:=ha
     obtain ⟨ao,cap,hv,hcap⟩:=lenT_is hM hn (show e[i]? =some (ρ x) from a0)
     have hr:=lohi_is hlh a1 q1 (ao:=ao) hcap elemU8 sizeU8 w (lo.map ρ) (hi.map ρ) (by cases lo<;>rfl) (by cases hi<;>rfl) rfl
     have hrun:(execOp ρ o).run Try.prog w=.ok (.value (.slice (if cap=l.toNat then ao else ao.map (·.add (l.toNat * 1))) (hh.toNat - l.toNat) (cap - l.toNat))) w:=by
      unfold execOp
      simp only [ho,Option.map_none,hv]
      rw [Sem.run_bind,hr]
      rfl
     rw [hrun]
     exact ⟨⟨ao,n,cap,by rw [← hv];exact a0,by omega,by omega,rfl⟩,Ext.refl w⟩
    ·cases h
   ·cases h
  ·cases h
 -- a literal
 ·rename_i t prts
  split at h
  ·rename_i x hps
   have e1:prts=#[(0,x)]:=by rw [← Array.toArray_toList (xs:=prts),hps]
   subst e1
   unfold opLit at h
   split at h
   ·rename_i p
    obtain ⟨u,he,a0⟩:=allC1 ha
    simp [Op.operands] at he
    subst he
    split at h
    ·rename_i n ht hv
     simp only [Option.some.injEq,Prod.mk.injEq] at h
     obtain ⟨rfl,rfl,rfl⟩:=h
     have ht:=eqb_eq.1 ht
     subst ht
     have q1:=hp _ (List.mem_cons_self ..)
     have hv:=valP_is hv (is_one a0)
     have hrun:(execOp ρ o).run Try.prog w=.ok (.value (.slice (some ⟨w.heap.size,0,none⟩) 1 1)) (w.alloc (.cells #[.int .u8 n] 5)):=by
      unfold execOp
      simp only [ho,List.map_toArray,List.map_cons,List.map_nil,hv]
      rw [Sem.run_bind,run_lit_u8]
      rfl
     rw [hrun]
     have hown:=owns_lit (w:=w) (B:=w.heap.size) (n:=1) (size:=1) (e:=5) (cs:=#[.int .u8 n]) rfl (Nat.le_refl _) (by decide)
     have hval:([UInt8.ofNat n.toNat].map bv)=[Value.int .u8 n]:=by
      simp only [List.map_cons,List.map_nil,bv,UInt8.toNat_ofNat']
      congr 2
      omega
     refine ⟨_,Grows.push e _,?_,hM.push ((Ext.refl w).alloc _) _ ⟨.us (.own [UInt8.ofNat n.toNat]),true⟩ ⟨w.heap.size,by simp,by rw [hval];exact hown⟩ fun k hk=>owns_block hown hk⟩
     show (e++[_])[mem.length]? =_
     rw [← hM.len,List.getElem?_append_right (Nat.le_refl _)];simp
    ·rename_i n ht hv
     simp only [Option.some.injEq,Prod.mk.injEq] at h
     obtain ⟨rfl,rfl,rfl⟩:=h
     have ht:=eqb_eq.1 ht
     subst ht
     have hv:=valP_is hv (is_one a0)
     have hrun:(execOp ρ o).run Try.prog w=.ok (.value (.slice (some ⟨w.heap.size,0,none⟩) 1 1)) (w.alloc (.cells #[.int .i64 n] 3)):=by
      unfold execOp
      simp only [ho,List.map_toArray,List.map_cons,List.map_nil,hv]
      rw [Sem.run_bind,run_lit_int]
      rfl
     rw [hrun]
     have hown:=owns_lit (w:=w) (B:=w.heap.size) (n:=1) (size:=1) (e:=3) (cs:=#[.int .i64 n]) rfl (Nat.le_refl _) (by decide)
     refine ⟨_,Grows.push e _,?_,hM.push ((Ext.refl w).alloc _) _ ⟨.us (.ins [n]),true⟩ ⟨w.heap.size,by simp,hown⟩ fun k hk=>owns_block hown hk⟩
     show (e++[_])[mem.length]? =_
     rw [← hM.len,List.getElem?_append_right (Nat.le_refl _)];simp
    ·cases h
   ·cases h
  ·cases h
 -- three ints
 ·rename_i t prts
  split at h
  ·rename_i x y z hps
   have e1:prts=#[(0,x),(1,y),(2,z)]:=by rw [← Array.toArray_toList (xs:=prts),hps]
   subst e1
   unfold opLit3 at h
   split at h
   ·rename_i p q s
    obtain ⟨u,v,t',he,a0,a1,a2⟩:=allC3 ha
    simp [Op.operands] at he
    obtain ⟨rfl,rfl,rfl⟩:=he
    split at h
    ·rename_i a b c ht hx hy hz
     simp only [Option.some.injEq,Prod.mk.injEq] at h
     obtain ⟨rfl,rfl,rfl⟩:=h
     have ht:=eqb_eq.1 ht
     subst ht
     have hx:=valP_is hx (is_one a0)
     have hy:=valP_is hy (is_one a1)
     have hz:=valP_is hz (is_one a2)
     have hrun:(execOp ρ o).run Try.prog w=.ok (.value (.slice (some ⟨w.heap.size,0,none⟩) 3 3)) (w.alloc (.cells #[.int .i64 a,.int .i64 b,.int .i64 c] 3)):=by
      unfold execOp
      simp only [ho,List.map_toArray,List.map_cons,List.map_nil,hx,hy,hz]
      rw [Sem.run_bind,run_lit_int3]
      rfl
     rw [hrun]
     have hown:=owns_lit (w:=w) (B:=w.heap.size) (n:=3) (size:=1) (e:=3) (cs:=#[.int .i64 a,.int .i64 b,.int .i64 c]) rfl (Nat.le_refl _) (by decide)
     refine ⟨_,Grows.push e _,?_,hM.push ((Ext.refl w).alloc _) _ ⟨.us (.ins [a,b,c]),true⟩ ⟨w.heap.size,by simp,hown⟩ fun k hk=>owns_block hown hk⟩
     show (e++[_])[mem.length]? =_
     rw [← hM.len,List.getElem?_append_right (Nat.le_refl _)];simp
    ·cases h
   ·cases h
  ·cases h
 -- noughts, made
 ·rename_i t l1 l2
  unfold opMake at h
  split at h
  ·rename_i a b
   split at h
   ·rename_i n m ht hn hm'
    split at h
    ·rename_i hb
     simp only [Option.some.injEq,Prod.mk.injEq] at h
     obtain ⟨rfl,rfl,rfl⟩:=h
     have ht:=eqb_eq.1 ht
     subst ht
     rw [Bool.and_eq_true] at hb
     have hnm:=eqb_eq.1 hb.1
     subst hnm
     have hle:=leb_le.1 hb.2
     obtain ⟨u,v,he,a0,a1⟩:=allC2 ha
     simp [Op.operands] at he
     obtain ⟨rfl,rfl⟩:=he
     have h1:=natP_is hn (is_one a0)
     have h2:=natP_is hm' (is_one a1)
     obtain ⟨w',hr,hown,hx⟩:=make_bytes n (by omega) w
     have hrun:(execOp ρ o).run Try.prog w=.ok (.value (.slice (some ⟨w.heap.size,0,none⟩) n n)) w':=by
      unfold execOp
      simp only [ho,h1,h2]
      rw [Sem.run_bind,hr]
      rfl
     rw [hrun]
     refine ⟨_,Grows.push e _,?_,hM.push hx _ ⟨.us (.own (List.replicate n 0)),true⟩ ⟨w.heap.size,hx.size,by rw [List.length_replicate];exact hown⟩ fun k hk=>owns_block hown hk⟩
     show (e++[_])[mem.length]? =_
     rw [← hM.len,List.getElem?_append_right (Nat.le_refl _)];simp
    ·cases h
   ·cases h
  ·cases h
 -- a text of bytes
 ·rename_i s d x
  unfold opConv at h
  split at h
  ·rename_i p
   split at h
   ·rename_i l hts hb
    simp only [Option.some.injEq,Prod.mk.injEq] at h
    obtain ⟨rfl,rfl,rfl⟩:=h
    rw [Bool.and_eq_true] at hts
    have ht1:=eqb_eq.1 hts.1
    have ht2:=eqb_eq.1 hts.2
    subst ht1;subst ht2
    obtain ⟨u,he,a0⟩:=allC1 ha
    simp [Op.operands] at he
    subst he
    have hr:=convert_bytes (bytesP_is hM hb (is_one a0))
    have hrun:(execOp ρ o).run Try.prog w=.ok (.value (.string ⟨l.toArray⟩)) w:=by
     unfold execOp
     simp only [ho]
     rw [Sem.run_bind,hr]
     rfl
    rw [hrun]
    exact ⟨rfl,Ext.refl w⟩
   ·cases h
  ·cases h
 ·cases h
theorem appT_at {t:TypeId} {u v:CV} {mem m':Mem (Th ξ)} {ps:List Prop} {r:SV} (h:appT hx t [u,v] mem=some (ps,r,some m')):∀ j en,mem[j]? =some en→(∀ p,u=.one p→placeP p≠some j)→m'[j]? =some en:=by
 have k1:∀ (i:Nat) (x:En (Th ξ)) (y:Mem (Th ξ)) j en,mem[j]? =some en→i≠j→(mem.set i x++y)[j]? =some en:=fun i x y j en hj hne=>by
  rw [List.getElem?_append_left (by rw [List.length_set];exact (List.getElem?_eq_some_iff.1 hj).1),List.getElem?_set_ne hne];exact hj
 have k2:∀ (y:Mem (Th ξ)) j en,mem[j]? =some en→(mem++y)[j]? =some en:=fun y j en hj=>by
  rw [List.getElem?_append_left (List.getElem?_eq_some_iff.1 hj).1];exact hj
 unfold appT at h
 intro j en hj hne
 split at h
 ·rename_i i q he
  simp only [List.cons.injEq,and_true] at he
  obtain ⟨rfl,rfl⟩:=he
  have hij:i≠j:=fun e=>hne _ rfl (by rw [e];rfl)
  repeat' split at h
  all_goals first
   |(cases h;done)
   |(simp only [Option.some.injEq,Prod.mk.injEq] at h
     obtain ⟨_,_,rfl⟩:=h
     exact k1 i _ _ j en hj hij)
 ·repeat' split at h
  all_goals first
   |(cases h;done)
   |(simp only [Option.some.injEq,Prod.mk.injEq] at h
     obtain ⟨_,_,rfl⟩:=h
     exact k2 _ j en hj)
 ·split at h
  ·simp only [Option.some.injEq,Prod.mk.injEq] at h
   obtain ⟨_,_,rfl⟩:=h
   exact k2 _ j en hj
  ·cases h
 ·cases h
theorem thHo_ok (hx:ξ→Bool):HoOk Try.prog (thHo hx) (thI J):=
 ⟨fun W0 G t args mem ps r m' h hp ty w e us hM ha=>appT_ok (hx:=hx) t args mem ps r m' h hp ty w e us hM ha,fun W0 G op args mem ps r mo h hp o ρ w e ho hM ha=>givesUpon_mono (fun v w' hv=>by cases mo<;>exact hv) (opsT_ok op args mem ps r mo h hp o ρ w e ho hM ha),fun op args m m' ps r h hl=>opsT_mono op args m m' ps r h hl,fun t k qs args mem ps r m' _ h=>(by
  simp only [thHo,opsT] at h
  split at h
  all_goals first|(cases h;done)|(rename_i heq;cases heq;done)|skip
  all_goals
   split at h
   ·first|unfold opLit at h|unfold opLit3 at h
    split at h
    ·split at h
     all_goals first|(cases h;done)|skip
     all_goals
      simp only [Option.some.injEq,Prod.mk.injEq] at h
      obtain ⟨_,_,rfl⟩:=h
      exact Keep.push _ _
    ·cases h
   ·cases h),fun op args mem ps r m' hn h=>(by
  cases op<;>simp only [newOp,Bool.false_eq_true] at hn<;>(simp only [thHo,opsT] at h;cases h)),fun t u v mem ps r m' h=>appT_at (hx:=hx) h,fun t x y p v mem ps r m' _ h=>(by
  simp only [thHo,opsT] at h
  cases h)⟩
end
section
variable {ξ:Type} {J:ObI ξ} {hx:ξ→Bool}
def F_rsame:Nat×Fn2 (Th ξ):=(22,rowP fun us mem=>match us with
 |[.one x,.one y]=>(match bytesP mem x,bytesP mem y with
  |some l,some m=>some ([],.bool (decide (l=m)))
  |_,_=>none)
 |_=>none)
end
section
variable {ξ:Type} {J:ObI ξ} {hx:ξ→Bool}
set_option maxRecDepth 100000 in
theorem equal_c (u v:Value) (l m:List UInt8) (w:World) (hu:Bs w u l) (hv:Bs w v m):Calls Try.prog 131 #[u,v] w fun e w'=>e=.returned (.bool (decide (l=m)))∧Ext w w':=by
 have h0:=args_byt (J:=noI) (args_byt (args_nil _ w) (fun n h=>by cases h) hu) (fun n h=>by simp at h;subst h;rfl) hv
 have:=sym_b (S:=⟨Try.prog,[],[],thHo (fun _=>false),(thI noI).one,10⟩) (I:=thI noI) (L:=[]) (args:=[.one (.obj 0),.one (.obj 1)]) (us:=[u,v]) (e:=[u,v]) (SyOk.mk2 Try.mixed (thHo_ok _) FnsR.nil EqsOk.nil) Try.func131 (by kernel_rfl) (LpsOk.nil _)
  ⟨rfl,rfl,trivial⟩ (by kernel_rfl) h0 (v:=(⟨l.toArray⟩:ByteArray).toList==(⟨m.toArray⟩:ByteArray).toList) [] (by kernel_rfl) (by kernel_rfl) (by simp)
 refine this.mono fun x w' ⟨h1,h2⟩=>⟨?_,h2.mono fun k _ hk=>?_⟩
 ·rw [h1]
  congr 2
  rw [ByteArray.toList_eq,ByteArray.toList_eq,Bool.eq_iff_iff,beq_iff_eq,decide_eq_true_iff]
 ·obtain ⟨i,x,n,_,hn,hm,_⟩:=footE.1 hk
  simp at hn
  match i,hn with
  |0,hn=>simp at hn;subst hn;cases hm
  |1,hn=>simp at hn;subst hn;cases hm
  |i+2,hn=>simp at hn
def F_equal:Nat×Fn2 (Th ξ):=(131,rowP fun us mem=>match us with
 |[.one x,.one y]=>(match bytesP mem x,bytesP mem y with
  |some l,some m=>some ([],.bool (decide (l=m)))
  |_,_=>none)
 |_=>none)
theorem F_equal_ok:RowOk Try.prog (thI J) (hardT hx) (F_equal (ξ:=ξ)).1 (F_equal (ξ:=ξ)).2:=by
 refine rowP_ok Try.call131 (fun args m m' ps v hs hl=>?_) fun args mem ps v hs hp W0 G w E us hM ha=>?_
 ·split at hs
  ·split at hs
   ·rename_i h1 h2
    simp only [bytesP_mono hl h1,bytesP_mono hl h2];exact hs
   ·cases hs
  ·cases hs
 ·split at hs
  ·split at hs
   ·rename_i l m h1 h2
    simp only [Option.some.injEq,Prod.mk.injEq] at hs
    obtain ⟨rfl,rfl⟩:=hs
    obtain ⟨u0,u1,rfl,a0,a1⟩:=allC2 ha
    exact equal_c u0 u1 l m w (bytesP_is hM h1 (is_one a0)) (bytesP_is hM h2 (is_one a1))
   ·cases hs
  ·cases hs
end
def hz:Unit→Bool:=fun _=>false
section
variable {β:Type} {S:Sy β} {I:ObI β} {L:Lps β} {f:FuncId} {fn:Func} {args:List CV} {us:List Value} {w:World}
end
section
variable {ξ:Type} {J:ObI ξ} {hard:Th ξ→Bool} {f:FuncId}
end
theorem mnil:∀ p∈([]:List Prop),p:=fun p hp=>by cases hp
theorem mcons {p:Prop} {ps:List Prop} (h:p) (hs:∀ q∈ps,q):∀ q∈p::ps,q:=fun q hq=>by
 rcases List.mem_cons.1 hq with rfl|hq
 ·exact h
 ·exact hs q hq
def hdC (l:List Code) (n:Nat):Code:=match l with
 |[]=>.skip
 |c::cs=>match n with|0=>c|n+1=>hdC cs n
def onlyF (id:Nat):List Code→List Code
 |[]=>[]
 |c::cs=>match eqb (idF c) id with|true=>c::onlyF id cs|false=>onlyF id cs
section
variable {β:Type} {S:Sy β} {I:ObI β} {W0:World} {G:Nat→Prop} {L:Lps β} {sz id:Nat} {b c:Code} {g:SSt β→Option (Tr β)}
theorem onlyF_mem {l:List Code} (h:c∈l) (he:eqb (idF c) id=true):c∈onlyF id l:=by
 induction l with
 |nil=>cases h
 |cons x xs ih=>
  simp only [onlyF]
  rcases List.mem_cons.1 h with rfl|h
  ·rw [he];exact List.mem_cons_self ..
  ·split
   ·exact List.mem_cons_of_mem _ (ih h)
   ·exact ih h
theorem LpsOk.cons {x:Code} (hc:onlyF id (fragsC b)=[x]) (h:FragSound S I W0 G sz x g) (hL:LpsOk S I W0 G L sz b):LpsOk S I W0 G ((id,g)::L) sz b:=fun c' hc' g' hg=>by
 simp only [lpGet] at hg
 split at hg
 ·rename_i he
  simp only [Option.some.injEq] at hg
  subst hg
  have he':eqb (idF c') id=true:=by rw [eqb_eq] at he ⊢;exact he.symm
  have:=onlyF_mem hc' he'
  rw [hc] at this
  simp at this
  subst this
  exact h
 ·exact hL c' hc' g' hg
end
theorem RS.get_ok {s:RS} {n:Nat} (h0:s.err=0) (hn:n≤64) (hl:s.at'+n≤8 * s.l.length):s.get (n:Int)=⟨s.l,s.at'+n,0⟩∧s.num (n:Int)=val (((bitsAll s.l).drop s.at').take n):=by
 have hc:s.err=0∧(0:Int)≤(n:Int)∧(n:Int)≤64∧(s.at':Int)+(n:Int)≤8 * (s.l.length:Int):=by omega
 refine ⟨?_,?_⟩
 ·unfold RS.get
  have h1:getAt s.l s.at' s.err (n:Int)=s.at'+n:=by unfold getAt;rw [if_pos hc];simp
  have h2:getE s.l s.at' s.err (n:Int)=0:=by unfold getE;rw [if_neg (by simp [h0]),if_neg (by omega),if_neg (by omega)]
  rw [h1,h2]
 ·unfold RS.num getV
  rw [if_pos hc]
  simp [bitsFrom]
end Go.Proofs.Ytiiekgcjilelpaa

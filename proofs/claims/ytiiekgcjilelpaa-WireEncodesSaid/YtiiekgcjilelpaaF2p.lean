/- F2. -/
import Derived.Test.YtiiekgcjilelpaaF1p
import Derived.Test.YtiiekgcjilelpaaG0p
import Derived.Test.YtiiekgcjilelpaaG2p
import Derived.Test.YtiiekgcjilelpaaE4p
open List renaming getElem?_eq_getElem → zaa, getElem?_eq_some_iff → zab, getElem?_append_right → zac, getElem?_append_left → zad, length_append → zae, mem_cons_of_mem → zak, mem_cons_self → zal, map_cons → zay, replicate → zbg
open Nat renaming le_refl → zbm
open Array renaming toArray_toList → zbq
open Bool renaming and_eq_true → zbs
set_option linter.unusedSimpArgs false
set_option linter.unusedVariables false
namespace Go.Proofs.Ytiiekgcjilelpaa
open Go.RowKit
section
variable {ξ:Type} {J:ObI ξ} {hx:ξ→Bool} {W0:World} {G:Nat→Prop} {w w':World} {E:Env} {MEM:Mem (Th ξ)}
def lenT (mem:Mem (Th ξ)) (i:Nat):Option Nat:=match mem[i]? with
 |some ⟨.us (.own l),_⟩=>some l.length
 |some ⟨.us (.byt l),_⟩=>some l.length
 |some ⟨.us (.bts l),_⟩=>some l.length
 |some ⟨.us (.ins l),_⟩=>some l.length
 |some ⟨.sl K (.bal _),_⟩=>some K.n
 |some ⟨.us (.bal l),_⟩=>some l.length
 |_=>none
theorem lenT_is (hM:MemOk W0 G (thI J) w E MEM) {i n:Nat} (h:lenT MEM i=some n) {u:Value} (hu:E[i]? =some u):∃ ao cap,u=.slice ao n cap∧n≤cap:=by
 unfold lenT at h
 split at h
 ·rename_i hm
  simp only [Option.some.injEq] at h;subst h
  obtain ⟨B,_,hh⟩:=hM.holds i u _ hu hm
  obtain ⟨_,ao,cap,h1,h2,_⟩:=Rs.of_owns hh
  exact ⟨ao,cap,h1,h2⟩
 ·rename_i hm
  simp only [Option.some.injEq] at h;subst h
  obtain ⟨_,ao,cap,h1,h2,_⟩:=hM.holds i u _ hu hm
  exact ⟨ao,cap,h1,h2⟩
 ·rename_i hm
  simp only [Option.some.injEq] at h;subst h
  obtain ⟨B,_,hh⟩:=hM.holds i u _ hu hm
  obtain ⟨_,ao,cap,h1,h2,_⟩:=Rs.of_owns hh
  exact ⟨ao,cap,h1,h2⟩
 ·rename_i hm
  simp only [Option.some.injEq] at h;subst h
  obtain ⟨B,_,hh⟩:=hM.holds i u _ hu hm
  obtain ⟨_,ao,cap,h1,h2,_⟩:=Rs.of_owns hh
  exact ⟨ao,cap,h1,h2⟩
 ·rename_i hm
  simp only [Option.some.injEq] at h;subst h
  obtain ⟨ao,cap,h1,h2,_⟩:=hM.holds i u _ hu hm
  exact ⟨ao,cap,h1,h2⟩
 ·rename_i hm
  simp only [Option.some.injEq] at h;subst h
  obtain ⟨b,t,cur,c,h1,_,h2,_⟩:=hM.holds i u _ hu hm
  exact ⟨_,c,h1,h2⟩
 ·cases h
theorem ypr {m m':Mem (Th ξ)} (hl:MLe m m') {i n:Nat} (h:lenT m i=some n):lenT m' i=some n:=by
 unfold lenT at h ⊢
 split at h
 all_goals first
  |(rename_i hm;simp only [hl _ _ hm (by simp)];exact h)
  |cases h
def lohi (lo hi:Bool) (n:Nat):List CV→Option (Int×Int)
 |[]=>(match lo,hi with|false,false=>some (0,(n:Int))|_,_=>none)
 |[.one a]=>(match lo,hi,valP a with
  |true,false,some (.int .i64 l)=>some (l,(n:Int))
  |false,true,some (.int .i64 h)=>some (0,h)
  |_,_,_=>none)
 |[.one a,.one b]=>(match lo,hi,valP a,valP b with
  |true,true,some (.int .i64 l),some (.int .i64 h)=>some (l,h)
  |_,_,_,_=>none)
 |_=>none
def yiw {α:Type}:Option α→Bool
 |none=>true
 |some _=>false
abbrev OpRow (ξ:Type):=Option (List Prop×SV×Option (Mem (Th ξ)))
def opApp (t tn:TypeId) (us:List CV) (mem:Mem (Th ξ)):OpRow ξ:=match us with
 |[.one (.obj i),.one nv]=>(match eqb t 37&&eqb tn 3,mem[i]?,valP nv with
  |true,some ⟨.us (.own l),true⟩,some (.int .i64 n)=>some ([0≤n,l.length+n.toNat≤1000000],.c (.one (.obj mem.length)),some (mem.set i ⟨.dead,true⟩++[⟨.us (.own (l++zbg n.toNat 0)),true⟩]))
  |_,_,_=>none)
 |_=>none
def opLen (ts:List TypeId) (us:List CV) (mem:Mem (Th ξ)):OpRow ξ:=match us,ts with
 |[.one (.obj i)],[t]=>(match eqb t 37||eqb t 32,lenT mem i with
  |true,some n=>some ([],svV (.int .i64 (n:Int)),none)
  |_,_=>none)
 |_,_=>none
def yr4 (t:TypeId) (lo hi:Bool) (us:List CV) (mem:Mem (Th ξ)):OpRow ξ:=match us with
 |.one (.obj i)::rest=>(match eqb t 37,lenT mem i with
  |true,some n=>(match lohi lo hi n rest with
   |some (l,h)=>some ([0≤l∧l≤h∧h≤(n:Int)],.c (.one (.sub i 1 l.toNat h.toNat)),none)
   |none=>none)
  |_,_=>none)
 |_=>none
def opLit (t:TypeId) (us:List CV) (mem:Mem (Th ξ)):OpRow ξ:=match us with
 |[.one x]=>(match eqb t 37,eqb t 32,valP x with
  |true,_,some (.int .u8 n)=>some ([0≤n∧n<256],.c (.one (.obj mem.length)),some (mem++[⟨.us (.own [UInt8.ofNat n.toNat]),true⟩]))
  |_,true,some (.int .i64 n)=>some ([],.c (.one (.obj mem.length)),some (mem++[⟨.us (.ins [n]),true⟩]))
  |_,_,_=>none)
 |_=>none
def ytr (t:TypeId) (us:List CV) (mem:Mem (Th ξ)):OpRow ξ:=match us with
 |[.one x,.one y,.one z]=>(match eqb t 32,valP x,valP y,valP z with
  |true,some (.int .i64 a),some (.int .i64 b),some (.int .i64 c)=>some ([],.c (.one (.obj mem.length)),some (mem++[⟨.us (.ins [a,b,c]),true⟩]))
  |_,_,_,_=>none)
 |_=>none
def opMake (t:TypeId) (us:List CV) (mem:Mem (Th ξ)):OpRow ξ:=match us with
 |[.one a,.one b]=>(match eqb t 37,natP a,natP b with
  |true,some n,some m=>(match eqb n m&&leb n 1000000 with
   |true=>some ([],.c (.one (.obj mem.length)),some (mem++[⟨.us (.own (zbg n 0)),true⟩]))
   |false=>none)
  |_,_,_=>none)
 |_=>none
def opConv (s d:TypeId) (us:List CV) (mem:Mem (Th ξ)):OpRow ξ:=match us with
 |[.one p]=>(match eqb s 37&&eqb d 9,yd2 mem p with
  |true,some l=>some ([],svV (.string ⟨l.toArray⟩),none)
  |_,_=>none)
 |_=>none
def opsT (op:Op) (us:List CV) (mem:Mem (Th ξ)):OpRow ξ:=match op with
 |.call { callee:=.builtin .append,args:=_,argTypes:=ts }=>(match ts.toList with|[t,tn]=>opApp t tn us mem|_=>none)
 |.call { callee:=.builtin .len,args:=_,argTypes:=ts }=>opLen ts.toList us mem
 |.slice t _ lo hi none=>yr4 t (!yiw lo) (!yiw hi) us mem
 |.buildSlice t 1 ps=>(match ps.toList with|[(0,_)]=>opLit t us mem|_=>none)
 |.buildSlice t 3 ps=>(match ps.toList with|[(0,_),(1,_),(2,_)]=>ytr t us mem|_=>none)
 |.makeSlice t _ _=>opMake t us mem
 |.convert s d _=>opConv s d us mem
 |_=>none
theorem yhs (op:Op) (us:List CV) (m m':Mem (Th ξ)) (ps:List Prop) (r:SV) (h:opsT op us m=some (ps,r,none)) (hl:MLe m m'):opsT op us m'=some (ps,r,none):=by
 unfold opsT at h ⊢
 split at h
 ·split at h
  ·unfold opApp at h
   split at h
   ·split at h<;>simp at h
   ·cases h
  ·cases h
 ·unfold opLen at h ⊢
  split at h
  ·split at h
   ·rename_i ht hn;rw [ht,ypr hl hn];exact h
   ·cases h
  ·cases h
 ·unfold yr4 at h ⊢
  split at h
  ·split at h
   ·rename_i ht hn;rw [ht,ypr hl hn];exact h
   ·cases h
  ·cases h
 ·split at h
  ·unfold opLit at h
   split at h
   ·split at h<;>simp at h
   ·cases h
  ·cases h
 ·split at h
  ·unfold ytr at h
   split at h
   ·split at h<;>simp at h
   ·cases h
  ·cases h
 ·unfold opMake at h
  split at h
  ·split at h
   ·split at h<;>simp at h
   ·cases h
  ·cases h
 ·unfold opConv at h ⊢
  split at h
  ·split at h
   ·rename_i ht hn;rw [ht,ydj hl hn];exact h
   ·cases h
  ·cases h
 ·cases h
theorem lohi_is {lo hi:Bool} {n:Nat} {rest:List CV} {l h:Int} (hr:lohi lo hi n rest=some (l,h)) {us:List Value} (hu:AllC E rest us) (b:0≤l∧l≤h∧h≤(n:Int)) {ao:Option Addr} {cap:Nat} (hcap:n≤cap) {t:TypeId} {P:Program} (ht:P.underlying t=some (.slice (P.elem t)))
  (hsz:∀ w,(sizeOf (P.elem t)).run P w=.ok 1 w) (w:World):∀ (lv hv:Option Value),(lo=lv.isSome)→(hi=hv.isSome)→us=lv.toList++hv.toList→
   (Instr.sliceAt t (.slice ao n cap) lv hv none).run P w=.ok (.slice (if cap=l.toNat then ao else ao.map (·.add (l.toNat * 1))) (h.toNat - l.toNat) (cap - l.toNat)) w:=by
 intro lv hv e1 e2 e3
 rw [run_sliceAt_slice (h:=ht)]
 unfold lohi at hr
 split at hr
 ·split at hr
  ·simp only [Option.some.injEq,Prod.mk.injEq] at hr
   obtain ⟨rfl,rfl⟩:=hr
   cases lv with
   |some x=>cases e1
   |none=>
    cases hv with
    |some x=>cases e2
    |none=>
     rw [run_slice_all w t ao n cap ht]
     simp [hsz,sliced]
  ·cases hr
 ·rename_i a
  obtain ⟨u,rfl,ha⟩:=yiq hu
  split at hr
  ·rename_i l' hv'
   simp only [Option.some.injEq,Prod.mk.injEq] at hr
   obtain ⟨rfl,rfl⟩:=hr
   cases lv with
   |none=>cases e1
   |some x=>
    cases hv with
    |some y=>cases e2
    |none=>
     simp at e3
     subst e3
     obtain rfl:=yad hv' (yau ha)
     rw [run_slice_l w t ao n cap ht _ _ b.1 b.2.1]
     simp [hsz,sliced]
  ·rename_i h' hv'
   simp only [Option.some.injEq,Prod.mk.injEq] at hr
   obtain ⟨rfl,rfl⟩:=hr
   cases lv with
   |some x=>cases e1
   |none=>
    cases hv with
    |none=>cases e2
    |some y=>
     simp at e3
     subst e3
     obtain rfl:=yad hv' (yau ha)
     rw [run_slice_h w t ao n cap ht _ _ b.2.1 (by omega)]
     simp [hsz,sliced]
  ·cases hr
 ·rename_i a c
  obtain ⟨u,v,rfl,ha,hc⟩:=ygx hu
  split at hr
  ·rename_i l' h' hv1 hv2
   simp only [Option.some.injEq,Prod.mk.injEq] at hr
   obtain ⟨rfl,rfl⟩:=hr
   cases lv with
   |none=>cases e1
   |some x=>
    cases hv with
    |none=>cases e2
    |some y=>
     simp at e3
     obtain ⟨rfl,rfl⟩:=e3
     obtain rfl:=yad hv1 (yau ha)
     obtain rfl:=yad hv2 (yau hc)
     rw [run_slice_lh w t ao n cap ht _ _ _ _ b.1 b.2.1 (by omega)]
     simp [hsz,sliced]
  ·cases hr
 ·cases hr
theorem elemU8:Try.prog.underlying 37=some (.slice (Try.prog.elem 37)):=by
 rw [show Try.prog.elem 37=5 from by kernel_rfl];exact Try.underlying37
theorem sizeU8 (w:World):(sizeOf (Try.prog.elem 37)).run Try.prog w=.ok 1 w:=
 yam _ (show yan Try.prog (sizeOf (Try.prog.elem 37))=some 1 by kernel_rfl) w
theorem und_u8 (w:World):(underlying 37).run Try.prog w=.ok (.slice 5) w:=run_underlying Try.underlying37 w
theorem yrd (w:World):(underlying 32).run Try.prog w=.ok (.slice 3) w:=run_underlying Try.underlying32 w
theorem yvl (n:Int) (w:World):(Instr.buildSlice 37 1 #[(0,.int .u8 n)]).run Try.prog w=.ok (.slice (some ⟨w.heap.size,0,none⟩) 1 1) (w.alloc (.cells #[.int .u8 n] 5)):=by
 have hs:∀ w,(sizeOf 5).run Try.prog w=.ok 1 w:=fun w=>yam _ (show yan Try.prog (sizeOf 5)=some 1 by kernel_rfl) w
 have hz:∀ w,(zeroValue 5).run Try.prog w=.ok (.int .u8 0) w:=fun w=>yam _ (show yan Try.prog (zeroValue 5)=some (.int .u8 0) by kernel_rfl) w
 have hA:((Array.map (fun x=>[Value.int IntKind.u8 0][x % 1]?.getD default) (Array.range 1)).setIfInBounds 0 (Value.int IntKind.u8 n))=#[.int .u8 n]:=by kernel_rfl
 simp [Instr.buildSlice,Sem.run_bind,und_u8,hs,hz,Instr.fill,newRow,newObj,Value.cells]
 rw [hA]
 rfl
theorem yro (n:Int) (w:World):(Instr.buildSlice 32 1 #[(0,.int .i64 n)]).run Try.prog w=.ok (.slice (some ⟨w.heap.size,0,none⟩) 1 1) (w.alloc (.cells #[.int .i64 n] 3)):=by
 have hs:∀ w,(sizeOf 3).run Try.prog w=.ok 1 w:=fun w=>yam _ (show yan Try.prog (sizeOf 3)=some 1 by kernel_rfl) w
 have hz:∀ w,(zeroValue 3).run Try.prog w=.ok (.int .i64 0) w:=fun w=>yam _ (show yan Try.prog (zeroValue 3)=some (.int .i64 0) by kernel_rfl) w
 have hA:((Array.map (fun x=>[Value.int IntKind.i64 0][x % 1]?.getD default) (Array.range 1)).setIfInBounds 0 (Value.int IntKind.i64 n))=#[.int .i64 n]:=by kernel_rfl
 simp [Instr.buildSlice,Sem.run_bind,yrd,hs,hz,Instr.fill,newRow,newObj,Value.cells]
 rw [hA]
 rfl
theorem yo1 (a b c:Int) (w:World):(Instr.buildSlice 32 3 #[(0,.int .i64 a),(1,.int .i64 b),(2,.int .i64 c)]).run Try.prog w=.ok (.slice (some ⟨w.heap.size,0,none⟩) 3 3) (w.alloc (.cells #[.int .i64 a,.int .i64 b,.int .i64 c] 3)):=by
 have hs:∀ w,(sizeOf 3).run Try.prog w=.ok 1 w:=fun w=>yam _ (show yan Try.prog (sizeOf 3)=some 1 by kernel_rfl) w
 have hz:∀ w,(zeroValue 3).run Try.prog w=.ok (.int .i64 0) w:=fun w=>yam _ (show yan Try.prog (zeroValue 3)=some (.int .i64 0) by kernel_rfl) w
 have hA:((((Array.map (fun x=>[Value.int IntKind.i64 0][x % 1]?.getD default) (Array.range 3)).setIfInBounds 0 (Value.int IntKind.i64 a)).setIfInBounds 1 (Value.int IntKind.i64 b)).setIfInBounds 2 (Value.int IntKind.i64 c))=#[.int .i64 a,.int .i64 b,.int .i64 c]:=by kernel_rfl
 simp [Instr.buildSlice,Sem.run_bind,yrd,hs,hz,Instr.fill,newRow,newObj,Value.cells]
 rw [hA]
 rfl
theorem infoU8:∃ i,Try.prog.info? 5=some i∧i.zero=some (.int .u8 0)∧i.size=1∧i.bytes=1:=
 info_parts (show (Try.prog.info? 5).map (fun i=>(i.zero,i.size,i.bytes))=some (some (.int .u8 0),1,1) by kernel_rfl)
theorem undInt:Try.prog.underlying 3=some (.int .i64):=by kernel_rfl
def thHo (hx:ξ→Bool):Ho (Th ξ):=⟨appT hx,opsT,yc6 hx,true,[]⟩
def OutIs (I:ObI (Th ξ)) (W0:World) (G:Nat→Prop) (w:World) (e:Env) (r:SV) (v:Value) (w':World):Option (Mem (Th ξ))→Prop
 |none=>r.is e v∧Ext w w'
 |some m'=>∃ e',Grows e e'∧r.is e' v∧MemOk W0 G I w' e' m'
theorem opsT_ok (op:Op) (args:List CV) (mem:Mem (Th ξ)) (ps:List Prop) (r:SV) (mo:Option (Mem (Th ξ))) (h:opsT op args mem=some (ps,r,mo)) (hp:∀ p∈ps,p) (o:Oper) (ρ:Operand→Value) (w:World) (e:Env) (ho:o.op=op) (hM:MemOk W0 G (thI J) w e mem)
  (ha:AllC e args (op.operands.toList.map ρ)):yai Try.prog (fun v w'=>OutIs (thI J) W0 G w e r v w' mo) ((execOp ρ o).run Try.prog w):=by
 unfold opsT at h
 split at h
 -- noughts
 ·rename_i xs ts
  split at h
  ·rename_i t tn ht
   unfold opApp at h
   split at h
   ·rename_i i nv
    split at h
    ·rename_i l n hts hm hn
     simp only [Option.some.injEq,Prod.mk.injEq] at h
     obtain ⟨rfl,rfl,rfl⟩:=h
     rw [zbs] at hts
     have ht1:=eqb_eq.1 hts.1
     have ht2:=eqb_eq.1 hts.2
     subst ht1;subst ht2
     have e2:ts=#[37,3]:=by rw [← zbq (xs:=ts),ht]
     subst e2
     have hxs:(xs.toList.map ρ).length=2:=by
      obtain ⟨u,v,he,_⟩:=ygx ha
      simp [Op.operands,Call.operands] at he
      have:=congrArg List.length he
      simpa using this
     have hx2:∃ x y,xs.toList=[x,y]:=by
      match hq:xs.toList,hxs with
      |[x,y],_=>exact ⟨x,y,rfl⟩
     obtain ⟨x,y,hxy⟩:=hx2
     have e1:xs=#[x,y]:=by rw [← zbq (xs:=xs),hxy]
     subst e1
     obtain ⟨u,v,he,a0,a1⟩:=ygx ha
     simp [Op.operands,Call.operands] at he
     obtain ⟨rfl,rfl⟩:=he
     have q1:=hp _ (zal ..)
     have q2:=hp _ (zak _ (zal ..))
     have hv:=yad hn (yau a1)
     have hu:e[i]? =some (ρ x):=a0
     obtain ⟨B,hB,hown⟩:=hM.holds i _ _ hu hm
     obtain ⟨inf,i1,i2,i3,i4⟩:=infoU8
     obtain ⟨v',w',hr,g1,g2,g3⟩:=ync (ty:=o.type) Try.underlying37 undInt i1 i2 i3 i4 hown q2 hB
     rw [show ((n.toNat:Nat):Int)=n by omega] at hr
     have hmd:Mod (fun k=>ycz J (.own l) w (ρ x) k) w w':=(Mod.grown_row g2).mono fun k _ hk=>hk
     have hrun:(execOp ρ o).run Try.prog w=.ok (.value v') w':=by
      unfold execOp
      simp only [ho,resolve,invoke,builtin,Sem.run_bind,Sem.run_pure,Result.andThen_ok,List.map_toArray,zay,List.map_nil,hv,hr]
     rw [hrun]
     refine ⟨e++[v'],Grows.push e v',?_,yti hM hm hu hmd (b':=.own (l++zbg n.toNat 0)) ⟨B,Nat.le_trans hB hmd.size,by rw [zae,List.length_replicate,List.map_append,List.map_replicate];exact g1⟩ fun k hk=>?_⟩
     ·show (e++[v'])[mem.length]? =some v'
      rw [← hM.len,zac (zbm _)];simp
     ·have hk':v'.ownBlock=some k:=hk
      refine ⟨?_,(yar g1 hk').2⟩
      rcases g3 with h|h
      ·refine .inl ?_
       show (ρ x).ownBlock=some k
       rw [← h];exact hk'
      ·rw [h] at hk';cases hk';exact .inr (zbm _)
    ·cases h
   ·cases h
  ·cases h
 -- len
 ·rename_i xs ts
  unfold opLen at h
  split at h
  ·rename_i us0 i t htl
   split at h
   ·rename_i n ht hn
    simp only [Option.some.injEq,Prod.mk.injEq] at h
    obtain ⟨rfl,rfl,rfl⟩:=h
    obtain ⟨u,he,a0⟩:=yiq ha
    have hx1:∃ x,xs.toList=[x]:=by
     have hl:=congrArg List.length he
     simp [Op.operands,Call.operands] at hl
     match hq:xs.toList,(show xs.toList.length=1 by simpa using hl) with
     |[x],_=>exact ⟨x,rfl⟩
    obtain ⟨x,hxe⟩:=hx1
    have e1:xs=#[x]:=by rw [← zbq (xs:=xs),hxe]
    subst e1
    have e2:ts=#[t]:=by rw [← zbq (xs:=ts),htl]
    subst e2
    simp [Op.operands,Call.operands] at he
    subst he
    obtain ⟨ao,cap,hv,_⟩:=lenT_is hM hn (show e[i]? =some (ρ x) from a0)
    have hu:∃ el,(underlying t).run Try.prog w=.ok (.slice el) w:=by
     rw [Bool.or_eq_true] at ht
     rcases ht with ht|ht
     ·rw [eqb_eq.1 ht];exact ⟨_,und_u8 w⟩
     ·rw [eqb_eq.1 ht];exact ⟨_,yrd w⟩
    obtain ⟨el,hu⟩:=hu
    have hrun:(execOp ρ o).run Try.prog w=.ok (.value (.int .i64 (n:Int))) w:=by
     unfold execOp
     simp only [ho,resolve,invoke,builtin,Builtin.len_,Sem.run_bind,Sem.run_pure,Result.andThen_ok]
     simp [hv,hu,goInt,Sem.run_bind]
    rw [hrun]
    exact ⟨rfl,Ext.refl w⟩
   ·cases h
  ·cases h
 -- a part
 ·rename_i t x lo hi
  unfold yr4 at h
  split at h
  ·rename_i i rest
   split at h
   ·rename_i n ht hn
    split at h
    ·rename_i l hh hlh
     simp only [Option.some.injEq,Prod.mk.injEq] at h
     obtain ⟨rfl,rfl,rfl⟩:=h
     have ht:=eqb_eq.1 ht
     subst ht
     have q1:=hp _ (zal ..)
     have hops:(Op.operands (.slice 37 x lo hi none)).toList.map ρ=ρ x::((lo.map ρ).toList++(hi.map ρ).toList):=by
      cases lo<;>cases hi<;>simp [Op.operands]
     rw [hops] at ha
     obtain ⟨a0,a1⟩:=ha
     obtain ⟨ao,cap,hv,hcap⟩:=lenT_is hM hn (show e[i]? =some (ρ x) from a0)
     have hr:=lohi_is hlh a1 q1 (ao:=ao) hcap elemU8 sizeU8 w (lo.map ρ) (hi.map ρ) (by cases lo<;>rfl) (by cases hi<;>rfl) rfl
     have hrun:(execOp ρ o).run Try.prog w=.ok (.value (.slice (if cap=l.toNat then ao else ao.map (·.add (l.toNat * 1))) (hh.toNat - l.toNat) (cap - l.toNat))) w:=by
      unfold execOp
      simp only [ho,Option.map_none,hv]
      rw [Sem.run_bind,hr]
      rfl
     rw [hrun]
     exact ⟨⟨ao,n,cap,by rw [← hv];exact a0,by omega,by omega,rfl⟩,Ext.refl w⟩
    ·cases h
   ·cases h
  ·cases h
 -- a literal
 ·rename_i t prts
  split at h
  ·rename_i x hps
   have e1:prts=#[(0,x)]:=by rw [← zbq (xs:=prts),hps]
   subst e1
   unfold opLit at h
   split at h
   ·rename_i p
    obtain ⟨u,he,a0⟩:=yiq ha
    simp [Op.operands] at he
    subst he
    split at h
    ·rename_i n ht hv
     simp only [Option.some.injEq,Prod.mk.injEq] at h
     obtain ⟨rfl,rfl,rfl⟩:=h
     have ht:=eqb_eq.1 ht
     subst ht
     have q1:=hp _ (zal ..)
     have hv:=yad hv (yau a0)
     have hrun:(execOp ρ o).run Try.prog w=.ok (.value (.slice (some ⟨w.heap.size,0,none⟩) 1 1)) (w.alloc (.cells #[.int .u8 n] 5)):=by
      unfold execOp
      simp only [ho,List.map_toArray,zay,List.map_nil,hv]
      rw [Sem.run_bind,yvl]
      rfl
     rw [hrun]
     have hown:=yds (w:=w) (B:=w.heap.size) (n:=1) (size:=1) (e:=5) (cs:=#[.int .u8 n]) rfl (zbm _) (by decide)
     have hval:([UInt8.ofNat n.toNat].map bv)=[Value.int .u8 n]:=by
      simp only [zay,List.map_nil,bv,UInt8.toNat_ofNat']
      congr 2
      omega
     refine ⟨_,Grows.push e _,?_,hM.push ((Ext.refl w).alloc _) _ ⟨.us (.own [UInt8.ofNat n.toNat]),true⟩ ⟨w.heap.size,by simp,by rw [hval];exact hown⟩ fun k hk=>yar hown hk⟩
     show (e++[_])[mem.length]? =_
     rw [← hM.len,zac (zbm _)];simp
    ·rename_i n ht hv
     simp only [Option.some.injEq,Prod.mk.injEq] at h
     obtain ⟨rfl,rfl,rfl⟩:=h
     have ht:=eqb_eq.1 ht
     subst ht
     have hv:=yad hv (yau a0)
     have hrun:(execOp ρ o).run Try.prog w=.ok (.value (.slice (some ⟨w.heap.size,0,none⟩) 1 1)) (w.alloc (.cells #[.int .i64 n] 3)):=by
      unfold execOp
      simp only [ho,List.map_toArray,zay,List.map_nil,hv]
      rw [Sem.run_bind,yro]
      rfl
     rw [hrun]
     have hown:=yds (w:=w) (B:=w.heap.size) (n:=1) (size:=1) (e:=3) (cs:=#[.int .i64 n]) rfl (zbm _) (by decide)
     refine ⟨_,Grows.push e _,?_,hM.push ((Ext.refl w).alloc _) _ ⟨.us (.ins [n]),true⟩ ⟨w.heap.size,by simp,hown⟩ fun k hk=>yar hown hk⟩
     show (e++[_])[mem.length]? =_
     rw [← hM.len,zac (zbm _)];simp
    ·cases h
   ·cases h
  ·cases h
 -- three ints
 ·rename_i t prts
  split at h
  ·rename_i x y z hps
   have e1:prts=#[(0,x),(1,y),(2,z)]:=by rw [← zbq (xs:=prts),hps]
   subst e1
   unfold ytr at h
   split at h
   ·rename_i p q s
    obtain ⟨u,v,t',he,a0,a1,a2⟩:=allC3 ha
    simp [Op.operands] at he
    obtain ⟨rfl,rfl,rfl⟩:=he
    split at h
    ·rename_i a b c ht hx hy hz
     simp only [Option.some.injEq,Prod.mk.injEq] at h
     obtain ⟨rfl,rfl,rfl⟩:=h
     have ht:=eqb_eq.1 ht
     subst ht
     have hx:=yad hx (yau a0)
     have hy:=yad hy (yau a1)
     have hz:=yad hz (yau a2)
     have hrun:(execOp ρ o).run Try.prog w=.ok (.value (.slice (some ⟨w.heap.size,0,none⟩) 3 3)) (w.alloc (.cells #[.int .i64 a,.int .i64 b,.int .i64 c] 3)):=by
      unfold execOp
      simp only [ho,List.map_toArray,zay,List.map_nil,hx,hy,hz]
      rw [Sem.run_bind,yo1]
      rfl
     rw [hrun]
     have hown:=yds (w:=w) (B:=w.heap.size) (n:=3) (size:=1) (e:=3) (cs:=#[.int .i64 a,.int .i64 b,.int .i64 c]) rfl (zbm _) (by decide)
     refine ⟨_,Grows.push e _,?_,hM.push ((Ext.refl w).alloc _) _ ⟨.us (.ins [a,b,c]),true⟩ ⟨w.heap.size,by simp,hown⟩ fun k hk=>yar hown hk⟩
     show (e++[_])[mem.length]? =_
     rw [← hM.len,zac (zbm _)];simp
    ·cases h
   ·cases h
  ·cases h
 -- noughts, made
 ·rename_i t l1 l2
  unfold opMake at h
  split at h
  ·rename_i a b
   split at h
   ·rename_i n m ht hn hm'
    split at h
    ·rename_i hb
     simp only [Option.some.injEq,Prod.mk.injEq] at h
     obtain ⟨rfl,rfl,rfl⟩:=h
     have ht:=eqb_eq.1 ht
     subst ht
     rw [zbs] at hb
     have hnm:=eqb_eq.1 hb.1
     subst hnm
     have hle:=leb_le.1 hb.2
     obtain ⟨u,v,he,a0,a1⟩:=ygx ha
     simp [Op.operands] at he
     obtain ⟨rfl,rfl⟩:=he
     have h1:=ykd hn (yau a0)
     have h2:=ykd hm' (yau a1)
     obtain ⟨w',hr,hown,hx⟩:=yl7 n (by omega) w
     have hrun:(execOp ρ o).run Try.prog w=.ok (.value (.slice (some ⟨w.heap.size,0,none⟩) n n)) w':=by
      unfold execOp
      simp only [ho,h1,h2]
      rw [Sem.run_bind,hr]
      rfl
     rw [hrun]
     refine ⟨_,Grows.push e _,?_,hM.push hx _ ⟨.us (.own (zbg n 0)),true⟩ ⟨w.heap.size,hx.size,by rw [List.length_replicate];exact hown⟩ fun k hk=>yar hown hk⟩
     show (e++[_])[mem.length]? =_
     rw [← hM.len,zac (zbm _)];simp
    ·cases h
   ·cases h
  ·cases h
 -- a text of bytes
 ·rename_i s d x
  unfold opConv at h
  split at h
  ·rename_i p
   split at h
   ·rename_i l hts hb
    simp only [Option.some.injEq,Prod.mk.injEq] at h
    obtain ⟨rfl,rfl,rfl⟩:=h
    rw [zbs] at hts
    have ht1:=eqb_eq.1 hts.1
    have ht2:=eqb_eq.1 hts.2
    subst ht1;subst ht2
    obtain ⟨u,he,a0⟩:=yiq ha
    simp [Op.operands] at he
    subst he
    have hr:=yn9 (yc4 hM hb (yau a0))
    have hrun:(execOp ρ o).run Try.prog w=.ok (.value (.string ⟨l.toArray⟩)) w:=by
     unfold execOp
     simp only [ho]
     rw [Sem.run_bind,hr]
     rfl
    rw [hrun]
    exact ⟨rfl,Ext.refl w⟩
   ·cases h
  ·cases h
 ·cases h
theorem appT_at {t:TypeId} {u v:CV} {mem m':Mem (Th ξ)} {ps:List Prop} {r:SV} (h:appT hx t [u,v] mem=some (ps,r,some m')):∀ j en,mem[j]? =some en→(∀ p,u=.one p→ycd p≠some j)→m'[j]? =some en:=by
 have k1:∀ (i:Nat) (x:En (Th ξ)) (y:Mem (Th ξ)) j en,mem[j]? =some en→i≠j→(mem.set i x++y)[j]? =some en:=fun i x y j en hj hne=>by
  rw [zad (by rw [List.length_set];exact (zab.1 hj).1),List.getElem?_set_ne hne];exact hj
 have k2:∀ (y:Mem (Th ξ)) j en,mem[j]? =some en→(mem++y)[j]? =some en:=fun y j en hj=>by
  rw [zad (zab.1 hj).1];exact hj
 unfold appT at h
 intro j en hj hne
 split at h
 ·rename_i i q he
  simp only [List.cons.injEq,and_true] at he
  obtain ⟨rfl,rfl⟩:=he
  have hij:i≠j:=fun e=>hne _ rfl (by rw [e];rfl)
  repeat' split at h
  all_goals first
   |(cases h;done)
   |(simp only [Option.some.injEq,Prod.mk.injEq] at h
     obtain ⟨_,_,rfl⟩:=h
     exact k1 i _ _ j en hj hij)
 ·repeat' split at h
  all_goals first
   |(cases h;done)
   |(simp only [Option.some.injEq,Prod.mk.injEq] at h
     obtain ⟨_,_,rfl⟩:=h
     exact k2 _ j en hj)
 ·split at h
  ·simp only [Option.some.injEq,Prod.mk.injEq] at h
   obtain ⟨_,_,rfl⟩:=h
   exact k2 _ j en hj
  ·cases h
 ·cases h
theorem yrg (hx:ξ→Bool):HoOk Try.prog (thHo hx) (thI J):=
 ⟨fun W0 G t args mem ps r m' h hp ty w e us hM ha=>appT_ok (hx:=hx) t args mem ps r m' h hp ty w e us hM ha,fun W0 G op args mem ps r mo h hp o ρ w e ho hM ha=>ybd (fun v w' hv=>by cases mo<;>exact hv) (opsT_ok op args mem ps r mo h hp o ρ w e ho hM ha),fun op args m m' ps r h hl=>yhs op args m m' ps r h hl,fun t k qs args mem ps r m' _ h=>(by
  simp only [thHo,opsT] at h
  split at h
  all_goals first|(cases h;done)|(rename_i heq;cases heq;done)|skip
  all_goals
   split at h
   ·first|unfold opLit at h|unfold ytr at h
    split at h
    ·split at h
     all_goals first|(cases h;done)|skip
     all_goals
      simp only [Option.some.injEq,Prod.mk.injEq] at h
      obtain ⟨_,_,rfl⟩:=h
      exact Keep.push _ _
    ·cases h
   ·cases h),fun op args mem ps r m' hn h=>(by
  cases op<;>simp only [yr9,Bool.false_eq_true] at hn<;>(simp only [thHo,opsT] at h;cases h)),fun t u v mem ps r m' h=>appT_at (hx:=hx) h,fun t x y p v mem ps r m' _ h=>(by
  simp only [thHo,opsT] at h
  cases h)⟩
end
section
variable {ξ:Type} {J:ObI ξ} {hx:ξ→Bool}
def yqm (l:List UInt8):KS:=⟨1,8 * l.length,fun i=>[.v (.int .u8 (((bbs (ya4 l)).getD i 0).toNat:Int))]⟩
theorem ynf {P:Program} {f:FuncId} {us:Array Value} {w:World} {b:Th ξ} {n:Nat} {xs:List Value} {t:TypeId} (hfo:∀ w u k,ycz J b w u k↔u.ownBlock=some k) (hb:∀ w' v' B,B≤w'.heap.size→w'.ownsRow B t 1 v' n xs→ycy J b w' v')
  (h:Calls P f us w fun e w'=>∃ ao cap,e=.returned (.slice ao n cap)∧Ext w w'∧w'.ownsRow w.heap.size t 1 (.slice ao n cap) n xs):
  Calls P f us w (fun x w'=>∃ v v0,x=.returned v∧(SV.c (.one (.obj 0))).is [v0] v∧Ext w w'∧(thI J).holds b w' v0∧∀ k,(thI J).foot b w' v0 k→w.heap.size≤k∧k<w'.heap.size):=
 h.mono fun x w' ⟨ao,cap,h1,h2,h3⟩=>⟨_,_,h1,rfl,h2,hb _ _ _ h2.size h3,fun k hk=>yar h3 ((hfo _ _ _).1 hk)⟩
def yci:Nat×Fn2 (Th ξ):=(122,rowN (yc6 hx) fun us mem=>match us with
 |[.one x,.one n]=>(match valP x,natP n with
  |some (.int .u64 xv),some nv=>(match leb nv 64 with
   |true=>some ([0≤xv∧xv<18446744073709551616],.c (.one (.obj 0)),.bts (yaf xv.toNat nv))
   |false=>none)
  |_,_=>none)
 |_=>none)
theorem ybs:RowOk Try.prog (thI J) (yc6 hx) (yci (hx:=hx)).1 (yci (hx:=hx)).2:=by
 refine yg3 Try.call122 fun args mem ps r b hs hp W0 G w E us hM ha=>?_
 split at hs
 ·rename_i x n
  split at hs
  ·rename_i xv nv hxv hnv
   split at hs
   ·rename_i hle
    simp only [Option.some.injEq,Prod.mk.injEq] at hs
    obtain ⟨rfl,rfl,rfl⟩:=hs
    obtain ⟨u0,u1,rfl,a0,a1⟩:=ygx ha
    obtain rfl:=yad hxv (yau a0)
    obtain rfl:=ykd hnv (yau a1)
    obtain ⟨t1,t2⟩:=tn (hp _ (zal ..))
    have:=yru xv.toNat nv w (leb_le.1 hle) t2
    rw [t1] at this
    exact ynf (fun _ _ _=>Iff.rfl) (fun w' v' B hB hh=>⟨B,hB,by rw [yae];exact hh⟩) this
   ·cases hs
  ·cases hs
 ·cases hs
def ybz:Nat×Fn2 (Th ξ):=(124,rowN (yc6 hx) fun us mem=>match us with
 |[.one x]=>(match valP x with
  |some (.string s)=>some ([s.size≤60000],.c (.one (.obj 0)),.bts (ya2 s.data.toList))
  |_=>none)
 |_=>none)
theorem ybn:RowOk Try.prog (thI J) (yc6 hx) (ybz (hx:=hx)).1 (ybz (hx:=hx)).2:=by
 refine yg3 Try.call124 fun args mem ps r b hs hp W0 G w E us hM ha=>?_
 split at hs
 ·rename_i x
  split at hs
  ·rename_i s hxv
   simp only [Option.some.injEq,Prod.mk.injEq] at hs
   obtain ⟨rfl,rfl,rfl⟩:=hs
   obtain ⟨u0,rfl,a0⟩:=yiq ha
   obtain rfl:=yad hxv (yau a0)
   exact ynf (fun _ _ _=>Iff.rfl) (fun w' v' B hB hh=>⟨B,hB,by
    have:(ya2 s.data.toList).length=16+8 * s.size:=by
     unfold ya2
     rw [zae,yae,ybr];rfl
    rw [this];exact hh⟩) (rtextb_c s w (hp _ (zal ..)))
  ·cases hs
 ·cases hs
def bitsQ (mem:Mem (Th ξ)):PV→Option (List Bool)
 |.obj i=>(match mem[i]? with
  |some ⟨.us (.bts l),_⟩=>some l
  |some ⟨.sl _ (.bal l),_⟩=>some (ya4 l)
  |_=>none)
 |.v (.slice none 0 0)=>some []
 |.sub i 1 lo hi=>(match mem[i]? with
  |some ⟨.us (.bts l),_⟩=>some ((l.drop lo).take (hi - lo))
  |some ⟨.sl _ (.bal l),_⟩=>some (((ya4 l).drop lo).take (hi - lo))
  |_=>none)
 |_=>none
def bitsA (mem:Mem (Th ξ)):PV→List Prop
 |.obj i=>(match mem[i]? with
  |some ⟨.sl K (.bal l),_⟩=>[K=yqm l]
  |_=>[])
 |.sub i _ _ _=>(match mem[i]? with
  |some ⟨.sl K (.bal l),_⟩=>[K=yqm l]
  |_=>[])
 |_=>[]
theorem bal_bs {w:World} {e:Env} {u:Value} {mu:Bool} {l:List UInt8} {b:Th ξ} (h:Holds (thI J) e w u mu (.sl (yqm l) b)) (hsp:∀ a n c,u=.slice (some a) n c→a.spot=none):Bs w u (bbs (ya4 l)):=by
 obtain ⟨ao,cap,rfl,h1,h2,h3,h4⟩:=h
 have hn:(yqm l).n=(bbs (ya4 l)).length:=by rw [ycg,ybr];rfl
 rw [hn] at h1 ⊢
 refine ⟨by simp,ao,cap,rfl,h1,h2,h3,fun a ha j u hj=>?_⟩
 have hjl:j<(bbs (ya4 l)).length:=by
  have:=(zab.1 hj).1
  simpa using this
 obtain ⟨x,g1,g2⟩:=(h4 a ha).2 j (by rw [hn];exact hjl) 0 (.v (.int .u8 (((bbs (ya4 l)).getD j 0).toNat:Int))) rfl
 have hx:x=.int .u8 (((bbs (ya4 l)).getD j 0).toNat:Int):=g2
 have hsa:=hsp a _ _ (by rw [ha])
 obtain ⟨ab,ao',asp⟩:=a
 simp only at hsa
 subst hsa
 rw [Addr.add_mid]
 simp only [yqm,Nat.mul_one,Nat.add_zero] at g1
 rw [g1,hx]
 rw [List.getElem?_map,zaa hjl] at hj
 simp only [Option.map_some,Option.some.injEq] at hj
 rw [← hj,List.getD_eq_getElem?_getD,zaa hjl]
 rfl
theorem bitsQ_is {W0:World} {G:Nat→Prop} {w:World} {E:Env} {MEM:Mem (Th ξ)} (hM:MemOk W0 G (thI J) w E MEM) {p:PV} {l:List Bool} (h:bitsQ MEM p=some l) (hp:∀ q∈bitsA MEM p,q) {u:Value} (hu:p.is E u):Bs w u (bbs l):=by
 have sub:∀ {ao:Option Addr} {n cap lo hi:Nat} {bs:List Bool},Bs w (.slice ao n cap) (bbs bs)→lo≤hi→hi≤n→Bs w (.slice (if cap=lo then ao else ao.map (·.add (lo * 1))) (hi - lo) (cap - lo)) (bbs ((bs.drop lo).take (hi - lo))):=fun {ao n cap lo hi bs} hb h1 h2=>by
  obtain ⟨_,ao',cap',he,g1,g2,g3,_⟩:=id hb
  simp only [Value.slice.injEq] at he
  obtain ⟨rfl,hn,rfl⟩:=he
  have:=Bs.sub hb h1 h2 (ao':=if cap=lo then ao else ao.map (·.add (lo * 1))) (cap':=cap - lo) (by omega) (by unfold maxLen at g2;omega) (fun hnone=>by
   split at hnone
   ·have:=g3 hnone;omega
   ·cases ao with
    |none=>have:=g3 rfl;omega
    |some a=>cases hnone) (fun a' ha' hlt=>by
   split at ha'
   ·omega
   ·cases ao with
    |none=>cases ha'
    |some a=>simp at ha';exact ⟨a,rfl,ha'.symm⟩)
  rw [show bbs ((bs.drop lo).take (hi - lo))=((bbs bs).drop lo).take (hi - lo) by simp [bbs,List.map_drop,List.map_take]]
  exact this
 have spot:∀ {i:Nat} {K:KS} {b:Th ξ} {mu:Bool} {ao:Option Addr} {n cap:Nat},MEM[i]? =some ⟨.sl K b,mu⟩→E[i]? =some (.slice ao n cap)→K.n≠0→∀ a,ao=some a→a.spot=none:=fun hm hE hn a ha=>by
  obtain ⟨ao',cap',he,_,_,_,h4⟩:=hM.holds _ _ _ hE hm
  simp only [Value.slice.injEq] at he
  obtain ⟨rfl,_,_⟩:=he
  exact (h4 a ha).1 hn
 have bal:∀ {i:Nat} {l:List UInt8} {b:Th ξ} {mu:Bool} {u:Value},MEM[i]? =some ⟨.sl (yqm l) b,mu⟩→E[i]? =some u→Bs w u (bbs (ya4 l)):=fun {i l b mu u} hm hE=>by
  have hh:=hM.holds i u _ hE hm
  by_cases h0:l.length=0
  ·have hl:l=[]:=List.eq_nil_of_length_eq_zero h0
   subst hl
   obtain ⟨ao,cap,rfl,g1,g2,g3,_⟩:=hh
   exact ⟨rfl,ao,cap,rfl,g1,g2,g3,fun a _ j u hj=>by simp [ya4,bbs] at hj⟩
  ·refine bal_bs hh fun a n c hu=>spot hm (by rw [hE,hu]) (fun e=>h0 ?_) a rfl
   have:8 * l.length=0:=e
   omega
 unfold bitsQ at h
 split at h
 ·rename_i i
  split at h
  ·rename_i bl _ hm
   simp only [Option.some.injEq] at h
   subst h
   obtain ⟨B,_,hh⟩:=hM.holds i u _ hu hm
   rw [show bl.length=(bbs bl).length from (ycg bl).symm] at hh
   exact yi0 hh
  ·rename_i K bl mu hm
   simp only [Option.some.injEq] at h
   subst h
   have hK:=hp (K=yqm bl) (by simp [bitsA,hm])
   subst hK
   exact bal hm hu
  ·cases h
 ·simp only [Option.some.injEq] at h;subst h
  have hu':u=.slice none 0 0:=hu
  rw [hu'];exact Bs.nil w
 ·rename_i i lo hi
  obtain ⟨ao,n,cap,hE,h1,h2,rfl⟩:=hu
  split at h
  ·rename_i bl _ hm
   simp only [Option.some.injEq] at h
   subst h
   obtain ⟨B,_,hh⟩:=hM.holds i _ _ hE hm
   rw [show bl.length=(bbs bl).length from (ycg bl).symm] at hh
   exact sub (yi0 hh) h1 h2
  ·rename_i K bl mu hm
   simp only [Option.some.injEq] at h
   subst h
   have hK:=hp (K=yqm bl) (by simp [bitsA,hm])
   subst hK
   exact sub (bal hm hE) h1 h2
  ·cases h
 ·cases h
def yb0:Nat×Fn2 (Th ξ):=(125,rowN (yc6 hx) fun us mem=>match us with
 |[.one x]=>(match bitsQ mem x with
  |some bs=>some ((bs.length≤1000000)::bitsA mem x,.c (.one (.obj 0)),.own (yao bs))
  |_=>none)
 |_=>none)
theorem ybo:RowOk Try.prog (thI J) (yc6 hx) (yb0 (hx:=hx)).1 (yb0 (hx:=hx)).2:=by
 refine yg3 Try.call125 fun args mem ps r b hs hp W0 G w E us hM ha=>?_
 split at hs
 ·rename_i x
  split at hs
  ·rename_i bs hb
   simp only [Option.some.injEq,Prod.mk.injEq] at hs
   obtain ⟨rfl,rfl,rfl⟩:=hs
   obtain ⟨u0,rfl,a0⟩:=yiq ha
   exact ynf (fun _ _ _=>Iff.rfl) (fun w' v' B hB hh=>⟨B,hB,hh⟩) (rbytes_c u0 bs w (bitsQ_is hM hb (fun q hq=>hp q (zak _ hq)) (yau a0)) (hp _ (zal ..)))
  ·cases hs
 ·cases hs
def ylk:Nat×Fn2 (Th ξ):=(22,rowP fun us mem=>match us with
 |[.one x,.one y]=>(match yd2 mem x,yd2 mem y with
  |some l,some m=>some ([],.bool (decide (l=m)))
  |_,_=>none)
 |_=>none)
theorem ymp:RowOk Try.prog (thI J) (yc6 hx) (ylk (ξ:=ξ)).1 (ylk (ξ:=ξ)).2:=by
 refine yrp Try.call22 (fun args m m' ps v hs hl=>?_) fun args mem ps v hs hp W0 G w E us hM ha=>?_
 ·split at hs
  ·split at hs
   ·rename_i h1 h2
    simp only [ydj hl h1,ydj hl h2];exact hs
   ·cases hs
  ·cases hs
 ·split at hs
  ·split at hs
   ·rename_i l m h1 h2
    simp only [Option.some.injEq,Prod.mk.injEq] at hs
    obtain ⟨rfl,rfl⟩:=hs
    obtain ⟨u0,u1,rfl,a0,a1⟩:=ygx ha
    exact (same_c u0 u1 l m w (yc4 hM h1 (yau a0)) (yc4 hM h2 (yau a1))).mono fun x w' ⟨g1,n,g2⟩=>⟨g1,by rw [g2];exact (Ext.refl w).drewN n⟩
   ·cases hs
  ·cases hs
end
section
variable {ξ:Type} {J:ObI ξ} {hx:ξ→Bool}
set_option maxRecDepth 100000 in
theorem equal_c (u v:Value) (l m:List UInt8) (w:World) (hu:Bs w u l) (hv:Bs w v m):Calls Try.prog 131 #[u,v] w fun e w'=>e=.returned (.bool (decide (l=m)))∧Ext w w':=by
 have h0:=yus (J:=noI) (yus (yur _ w) (fun n h=>by cases h) hu) (fun n h=>by simp at h;subst h;rfl) hv
 have:=yep (S:=⟨Try.prog,[],[],thHo (fun _=>false),(thI noI).one,10⟩) (I:=thI noI) (L:=[]) (args:=[.one (.obj 0),.one (.obj 1)]) (us:=[u,v]) (e:=[u,v]) (SyOk.mk2 Try.mixed (yrg _) FnsR.nil EqsOk.nil) Try.func131 (by kernel_rfl) (LpsOk.nil _)
  ⟨rfl,rfl,trivial⟩ (by kernel_rfl) h0 (v:=(⟨l.toArray⟩:ByteArray).toList==(⟨m.toArray⟩:ByteArray).toList) [] (by kernel_rfl) (by kernel_rfl) (by simp)
 refine this.mono fun x w' ⟨h1,h2⟩=>⟨?_,h2.mono fun k _ hk=>?_⟩
 ·rw [h1]
  congr 2
  rw [ByteArray.toList_eq,ByteArray.toList_eq,Bool.eq_iff_iff,beq_iff_eq,decide_eq_true_iff]
 ·obtain ⟨i,x,n,_,hn,hm,_⟩:=footE.1 hk
  simp at hn
  match i,hn with
  |0,hn=>simp at hn;subst hn;cases hm
  |1,hn=>simp at hn;subst hn;cases hm
  |i+2,hn=>simp at hn
def yoh:Nat×Fn2 (Th ξ):=(131,rowP fun us mem=>match us with
 |[.one x,.one y]=>(match yd2 mem x,yd2 mem y with
  |some l,some m=>some ([],.bool (decide (l=m)))
  |_,_=>none)
 |_=>none)
theorem ymr:RowOk Try.prog (thI J) (yc6 hx) (yoh (ξ:=ξ)).1 (yoh (ξ:=ξ)).2:=by
 refine yrp Try.call131 (fun args m m' ps v hs hl=>?_) fun args mem ps v hs hp W0 G w E us hM ha=>?_
 ·split at hs
  ·split at hs
   ·rename_i h1 h2
    simp only [ydj hl h1,ydj hl h2];exact hs
   ·cases hs
  ·cases hs
 ·split at hs
  ·split at hs
   ·rename_i l m h1 h2
    simp only [Option.some.injEq,Prod.mk.injEq] at hs
    obtain ⟨rfl,rfl⟩:=hs
    obtain ⟨u0,u1,rfl,a0,a1⟩:=ygx ha
    exact equal_c u0 u1 l m w (yc4 hM h1 (yau a0)) (yc4 hM h2 (yau a1))
   ·cases hs
  ·cases hs
end
def hz:Unit→Bool:=fun _=>false
section
variable {β:Type} {S:Sy β} {I:ObI β} {L:Lps β} {f:FuncId} {fn:Func} {args:List CV} {us:List Value} {w:World}
end
section
variable {ξ:Type} {J:ObI ξ} {hard:Th ξ→Bool} {f:FuncId}
end
theorem mnil:∀ p∈([]:List Prop),p:=fun p hp=>by cases hp
theorem yaa {p:Prop} {ps:List Prop} (h:p) (hs:∀ q∈ps,q):∀ q∈p::ps,q:=fun q hq=>by
 rcases List.mem_cons.1 hq with rfl|hq
 ·exact h
 ·exact hs q hq
def hdC (l:List Code) (n:Nat):Code:=match l with
 |[]=>.skip
 |c::cs=>match n with|0=>c|n+1=>hdC cs n
def yv2 (id:Nat):List Code→List Code
 |[]=>[]
 |c::cs=>match eqb (idF c) id with|true=>c::yv2 id cs|false=>yv2 id cs
section
variable {β:Type} {S:Sy β} {I:ObI β} {W0:World} {G:Nat→Prop} {L:Lps β} {sz id:Nat} {b c:Code} {g:SSt β→Option (Tr β)}
theorem onlyF_mem {l:List Code} (h:c∈l) (he:eqb (idF c) id=true):c∈yv2 id l:=by
 induction l with
 |nil=>cases h
 |cons x xs ih=>
  simp only [yv2]
  rcases List.mem_cons.1 h with rfl|h
  ·rw [he];exact zal ..
  ·split
   ·exact zak _ (ih h)
   ·exact ih h
theorem LpsOk.cons {x:Code} (hc:yv2 id (yb4 b)=[x]) (h:ye4 S I W0 G sz x g) (hL:LpsOk S I W0 G L sz b):LpsOk S I W0 G ((id,g)::L) sz b:=fun c' hc' g' hg=>by
 simp only [ysb] at hg
 split at hg
 ·rename_i he
  simp only [Option.some.injEq] at hg
  subst hg
  have he':eqb (idF c') id=true:=by rw [eqb_eq] at he ⊢;exact he.symm
  have:=onlyF_mem hc' he'
  rw [hc] at this
  simp at this
  subst this
  exact h
 ·exact hL c' hc' g' hg
end
theorem u64w_id {n:Int} (h:0≤n∧n<18446744073709551616):IntKind.u64.wrap n=n:=by
 rw [IntKind.wrap_u64];omega
end Go.Proofs.Ytiiekgcjilelpaa

/- H8. -/
import Derived.Test.YtiiekgcjilelpaaHKp
import Derived.Test.YtiiekgcjilelpaaHWp
import Derived.Test.YtiiekgcjilelpaaHXp
import Derived.Test.YtiiekgcjilelpaaHMp
import Derived.Test.YtiiekgcjilelpaaV2p
set_option linter.unusedSimpArgs false
set_option linter.unusedVariables false
namespace Go.Proofs.Ytiiekgcjilelpaa
open Go.RowKit
section
variable {W0:World} {G:Nat→Prop} {w w':World} {e:Env} {mem:Mem Td}
theorem etPen:ElemT Try.prog 247 253 129 136:=ElemT.mk' Try.underlying247 (z:=.agg (.int .i64 0::List.replicate 128 (.int .u8 0)).toArray) (by kernel_rfl) (by simp [Value.cells]) (by decide)
theorem etTab:ElemT Try.prog 153 37 1 24:=ElemT.mk' Try.underlying153 (z:=.slice none 0 0) (by kernel_rfl) rfl (by decide)
def tabT (t t1 k:Nat):Bool:=(eqb t 153&&(eqb t1 37&&eqb k 0))||((match wqT t with|some u=>eqb u t1|none=>false)&&eqb k 1)
theorem tabT_el {t t1 k:Nat} (h:tabT t t1 k=true):∃ bytes,bytes≤32∧ElemT Try.prog t t1 (k+1) bytes:=by
 unfold tabT at h
 simp only [Bool.or_eq_true,Bool.and_eq_true] at h
 rcases h with ⟨h1,h2,h3⟩|⟨h1,h3⟩
 ·rw [eqb_eq.1 h1,eqb_eq.1 h2,eqb_eq.1 h3];exact ⟨24,by decide,etTab⟩
 ·split at h1
  ·rename_i u hu
   rw [eqb_eq.1 h3,←eqb_eq.1 h1]
   exact ⟨32,by decide,(wqT_sem hu).2.2.2⟩
  ·cases h1
def appD (t:TypeId) (us:List CV) (mem:Mem Td):OpD:=match us with
 |[.one (.obj i),.one (.obj j)]=>(match mem[i]?,mem[j]? with
  |some ⟨.us (.ext (.flat (.pens R))),true⟩,some ⟨.us (.ext (.flat (.pens X))),_⟩=>(match eqb t 247 with
   |true=>some ([R.length+X.length≤100000],.c (.one (.obj mem.length)),some (mem.set i ⟨.dead,true⟩++[⟨.us (.ext (.flat (.pens (R++X)))),true⟩]))
   |false=>none)
  |some ⟨.us (.ext (.tab x)),true⟩,some ⟨.us (.ext (.tab y)),_⟩=>(match tabT t x.t x.k&&!eqb i j,x.app y with
   |true,some z=>some ([x.n+y.n≤100000],.c (.one (.obj mem.length)),some (mem.set i ⟨.dead,true⟩++[⟨.us (.ext (.tab z)),true⟩]))
   |_,_=>none)
  |_,_=>none)
 |_=>none
theorem tabCells_app {R X:List (List Value×List UInt8)}:∀ {vs xs:List Value},vs.length=R.length→tabCells (R++X) (vs++xs)=tabCells R vs++tabCells X xs:=by
 intro vs xs h
 unfold tabCells
 rw [List.zipWith_append h.symm,List.flatten_append]
theorem tabCells_one {k:Nat} {R:List (List Value×List UInt8)} {vals:List Value} (hl:vals.length=R.length) (h1:∀ r∈R,∀ v∈r.1,v.oneCell'=true) (h2:∀ (i:Nat) (v:Value) (r:List Value×List UInt8),vals[i]? =some v→R[i]? =some r→v.oneCell'=true):∀ v∈tabCells R vals,v.oneCell'=true:=by
 intro v hv
 unfold tabCells at hv
 obtain ⟨l,hl1,hl2⟩:=List.mem_flatten.1 hv
 obtain ⟨i,hi⟩:=List.getElem?_of_mem hl1
 rw [List.getElem?_zipWith] at hi
 cases hr:R[i]? with
 |none=>rw [hr] at hi;simp at hi
 |some r=>
  cases hw:vals[i]? with
  |none=>rw [hr,hw] at hi;simp at hi
  |some x=>
   rw [hr,hw] at hi
   simp at hi
   subst hi
   rcases List.mem_append.1 hl2 with h|h
   ·exact h1 r (List.mem_of_getElem? hr) v h
   ·simp at h;subst h;exact h2 i _ r hw hr
theorem appD_ok {t:TypeId} {us:List CV} {ps:List Prop} {r:SV} {m':Mem Td} (h:appD t us mem=some (ps,r,some m')) (hp:∀ p∈ps,p) (ty:TypeId) {e:Env} {vs:List Value} (hM:MemOk W0 G Id' w e mem) (ha:AllC e us vs):
  ∃ e' v w',Grows e e'∧(Builtin.append_ #[t,t] ty vs.toArray).run Try.prog w=.ok v w'∧r.is e' v∧MemOk W0 G Id' w' e' m':=by
 unfold appD at h
 split at h
 ·rename_i i j
  obtain ⟨u0,u1,rfl,a0,a1⟩:=allC2 ha
  have hu0:e[i]? =some u0:=a0
  have hu1:e[j]? =some u1:=a1
  have hend:∀ v:Value,(e++[v])[mem.length]? =some v:=fun v=>by rw [← hM.len,List.getElem?_append_right (Nat.le_refl _)];simp
  split at h
  ·rename_i R X mu hm0 hm1
   split at h
   ·rename_i hb
    simp only [Option.some.injEq,Prod.mk.injEq] at h
    obtain ⟨rfl,rfl,rfl⟩:=h
    obtain rfl:=eqb_eq.1 hb
    have q:R.length+X.length≤100000:=hp _ (List.mem_cons_self ..)
    obtain ⟨z0,B,hB,hown⟩:=hM.holds i _ _ hu0 hm0
    obtain ⟨x0,B2,_,hown2⟩:=hM.holds j _ _ hu1 hm1
    have hRX:(FL.pens (R++X)).R=(FL.pens R).R++(FL.pens X).R:=by simp [FL.R]
    have hlR:(FL.pens R).R.length=R.length:=FL.len _
    have hlX:(FL.pens X).R.length=X.length:=FL.len _
    obtain ⟨v',w',hr,q1,q2,q3⟩:=run_app_at (ty:=ty) etPen hown (Rs.of_owns hown2) (fun v hv=>by
     obtain ⟨l,hl1,hl2⟩:=List.mem_flatten.1 hv
     exact FL.ones _ l hl1 v hl2) (by omega) (by omega) hB
    have hmd:Mod (fun k=>Own Id' w u0 (.us (.ext (.flat (.pens R)))) k) w w':=(Mod.grown_row q2).mono fun k _ hk=>hk
    have q1':w'.ownsRow B 253 129 v' (FL.pens (R++X)).R.length (FL.pens (R++X)).R.flatten:=by rw [hRX,List.length_append,List.flatten_append];exact q1
    refine ⟨e++[v'],v',w',Grows.push e v',hr,hend v',hM.renew3 hu0 hm0 hmd ⟨.us (.ext (.flat (.pens (R++X)))),true⟩ ⟨fun r hr=>?_,B,Nat.le_trans hB hmd.size,q1'⟩ (fun k hk=>?_) fun k hk=>?_⟩
    ·rw [hRX] at hr
     rcases List.mem_append.1 hr with h|h
     ·exact z0 r h
     ·exact x0 r h
    ·have hk':v'.ownBlock=some k:=hk
     refine ⟨?_,(owns_block q1' hk').2⟩
     rcases q3 with h|h
     ·exact .inl (show u0.ownBlock=some k from h▸hk')
     ·rw [h] at hk';cases hk';exact .inr (.inl (Nat.le_refl _))
    ·have hk':v'.ownBlock=some k:=hk
     rcases q3 with h|h
     ·exact .inl (show u0.ownBlock=some k from h▸hk')
     ·rw [h] at hk';cases hk';exact .inr (Nat.le_refl _)
   ·cases h
  ·rename_i x y mu hm0 hm1
   split at h
   ·rename_i z hb hz
    simp only [Option.some.injEq,Prod.mk.injEq] at h
    obtain ⟨rfl,rfl,rfl⟩:=h
    simp only [Bool.and_eq_true,Bool.not_eq_true'] at hb
    obtain ⟨e1,e2,e3,e4⟩:=TB.app_eq hz
    have hij:i≠j:=fun h=>by subst h;have:=hb.2;rw [eqb_eq.2 rfl] at this;cases this
    obtain ⟨bytes,hby,hE⟩:=tabT_el hb.1
    have q:x.R.length+y.R.length≤100000:=by rw [TB.len,TB.len];exact hp _ (List.mem_cons_self ..)
    obtain ⟨z0,z1,vals,zl,⟨B,hB,hown⟩,zr⟩:=hM.holds i _ _ hu0 hm0
    obtain ⟨x0,x1,vals2,xl,⟨B2,_,hown2⟩,xr⟩:=hM.holds j _ _ hu1 hm1
    rw [e4] at x0 hown2
    have one2:∀ v∈tabCells y.R vals2,v.oneCell'=true:=tabCells_one (k:=x.k) xl x1 fun i v r hv hr=>by
     obtain ⟨⟨_,ao,cap,hv',_⟩,_⟩:=xr i v r hv hr
     rw [hv'];rfl
    obtain ⟨v',w',hr,q1,q2,q3⟩:=run_app_at (ty:=ty) hE hown (Rs.of_owns hown2) one2 (by omega) (by
     have:(x.R.length+y.R.length) * bytes≤(x.R.length+y.R.length) * 32:=Nat.mul_le_mul_left _ hby
     omega) hB
    have hmd:Mod (fun kk=>Own Id' w u0 (.us (.ext (.tab x))) kk) w w':=(Mod.grown_row q2).mono fun _ _ hk=>hk
    have q1':w'.ownsRow B x.t (x.k+1) v' (x.R++y.R).length (tabCells (x.R++y.R) (vals++vals2)):=by rw [List.length_append,tabCells_app zl];exact q1
    have hl':(vals++vals2).length=(x.R++y.R).length:=by simp [zl,xl]
    have h0':∀ r∈x.R++y.R,r.1.length=x.k:=fun r hr=>by
     rcases List.mem_append.1 hr with h|h
     ·exact z0 r h
     ·exact x0 r h
    -- where an element's bytes lie
    have inn:∀ (n:Nat) (v:Value) (r:List Value×List UInt8),(vals++vals2)[n]? =some v→(x.R++y.R)[n]? =some r→Bs w v r.2∧∀ kk,r.2≠[]→v.ownBlock=some kk→(Foot Id' w u0 (.us (.ext (.tab x))) kk∨Sh Id' w e mem kk)∧u0.ownBlock≠some kk∧kk<w.heap.size:=fun n v r hv hri=>by
     rcases Nat.lt_or_ge n vals.length with hn|hn
     ·rw [List.getElem?_append_left hn] at hv
      rw [List.getElem?_append_left (by omega)] at hri
      obtain ⟨g1,g2⟩:=zr n v r hv hri
      refine ⟨g1,fun kk h1 h2=>?_⟩
      have hft:Foot Id' w u0 (.us (.ext (.tab x))) kk:=.inr ⟨n,r,v,hri,h1,tab_at zl z0 hown hv,h2⟩
      exact ⟨.inl hft,g2 kk h1 h2,hM.lt i u0 _ hu0 hm0 kk hft⟩
     ·rw [List.getElem?_append_right hn] at hv
      rw [List.getElem?_append_right (by omega),←zl] at hri
      obtain ⟨g1,g2⟩:=xr _ v r hv hri
      refine ⟨g1,fun kk h1 h2=>?_⟩
      have hsh:Sh Id' w e mem kk:=⟨j,u1,_,hu1,hm1,.inr ⟨_,r,v,hri,h1,(e4▸tab_at xl x0 hown2 hv),h2⟩,fun _ hk=>g2 kk h1 h2 hk⟩
      exact ⟨.inr hsh,fun hk=>hsh.no hM hu0 hm0 rfl hk,hsh.lt hM⟩
    have hH:tabHolds z.t z.k z.R w' v':=by
     rw [e1,e2,e3]
     refine ⟨h0',fun r hr=>?_,vals++vals2,hl',⟨B,Nat.le_trans hB hmd.size,q1'⟩,fun n v r hv hri=>⟨?_,fun kk h1 h2 h3=>?_⟩⟩
     ·rcases List.mem_append.1 hr with h|h
      ·exact z1 r h
      ·exact x1 r h
     ·obtain ⟨g1,g2⟩:=inn n v r hv hri
      by_cases hn:r.2=[]
      ·rw [hn] at g1 ⊢;exact bs_empty g1
      ·exact g1.mod hmd fun kk hk _ hh=>(g2 kk hn hk).2.1 hh
     ·obtain ⟨g1,g2⟩:=inn n v r hv hri
      obtain ⟨_,g3,g4⟩:=g2 kk h1 h2
      rcases q3 with h|h
      ·rw [h] at h3;exact g3 h3
      ·rw [h] at h3;cases h3;omega
    refine ⟨e++[v'],v',w',Grows.push e v',hr,hend v',hM.renew3 hu0 hm0 hmd ⟨.us (.ext (.tab z)),true⟩ hH (fun kk hk=>?_) fun kk hk=>?_⟩
    ·have hk:tabFoot z.k z.R _ _ kk:=hk
     rw [e1,e3] at hk
     rcases hk with hk|⟨n,r,v,g1,g2,g3,g4⟩
     ·refine ⟨?_,(owns_block q1' hk).2⟩
      rcases q3 with h|h
      ·exact .inl (.inl (show u0.ownBlock=some kk from h▸hk))
      ·rw [h] at hk;cases hk;exact .inr (.inl (Nat.le_refl _))
     ·have hn:n<(vals++vals2).length:=by rw [hl'];exact (List.getElem?_eq_some_iff.1 g1).1
      have hv:=List.getElem?_eq_getElem hn
      have:=tabAt_eq g3 (tab_at hl' h0' q1' hv)
      subst this
      obtain ⟨c1,_,c3⟩:=(inn n _ r hv g1).2 kk g2 g4
      exact ⟨c1.elim .inl fun h=>.inr (.inr h),Nat.lt_of_lt_of_le c3 hmd.size⟩
    ·have hk':v'.ownBlock=some kk:=hk
     rcases q3 with h|h
     ·exact .inl (show u0.ownBlock=some kk from h▸hk')
     ·rw [h] at hk';cases hk';exact .inr (Nat.le_refl _)
   ·cases h
  ·cases h
 ·cases h
def mineT (t:TypeId):Bool:=eqb t 247||(eqb t 153||((match wqT t with|some _=>true|none=>false)||eqb t 246))
def mineL (t:TypeId):Bool:=(isRow t||(eqb t 229||(eqb t 108||(eqb t 104||eqb t 75))))||mineT t||(eqb t 32||(eqb t 138||eqb t 159))
def appAll (t:TypeId) (us:List CV) (mem:Mem Td):OpD:=match isRow t with
 |true=>opAppR t us mem
 |false=>(match mineT t with
  |true=>(match appX t us mem with
   |some q=>some q
   |none=>appD t us mem)
  |false=>appT hardDk t us mem)
def isWq (t:TypeId):Bool:=match wqT t with|some _=>true|none=>false
def isLen1:List (Nat×Operand)→Bool
 |[(0,_)]=>true
 |_=>false
def opsD (op:Op) (us:List CV) (mem:Mem Td):OpD:=match op with
 |.alloc t=>opAllocD t us mem
 |.load t _=>opLoadD t us mem
 |.store t _ _=>(match opSetR t us mem with
  |some q=>some q
  |none=>(match opSetT t us mem with
   |some q=>some q
   |none=>(match opSetC t us mem with
    |some q=>some q
    |none=>opStoreD t us mem)))
 |.indexAddr t _ _=>opAddrD t us mem
 |.slice t x none none none=>(match eqb t 251 with
  |true=>(match isWin us with
   |false=>opPartD t us mem
   |true=>opWin t false us)
  |false=>opsR op us mem)
 |.slice t x none (some y) none=>(match eqb t 251 with
  |true=>opWin t true us
  |false=>(match eqb t 333,isWq t with
   |true,_=>opWinA t us
   |false,true=>opSliceT t false true us mem
   |false,false=>(match opsR op us mem with
    |some q=>some q
    |none=>opSS t us mem)))
 |.slice t x (some y) none none=>(match isWq t with
  |true=>opSliceT t true false us mem
  |false=>(match opsR op us mem with
   |some q=>some q
   |none=>opRR t us mem))
 |.convert s d x=>(match isWinP us with
  |true=>opConvW s d us mem
  |false=>opsR op us mem)
 |.call { callee:=.builtin .copy,args:=_,argTypes:=ts }=>opCopyD ts.toList us mem
 |.lookup t _ _ false=>opLookM t us mem
 |.mapUpdate t _ _ _=>opPutM t us mem
 |.makeMap t none=>opMakeM t us mem
 |.call { callee:=.builtin .delete,args:=_,argTypes:=ts }=>opDelM ts.toList us mem
 |.call { callee:=.builtin .clear,args:=_,argTypes:=ts }=>(match opClearR ts.toList us mem with
  |some q=>some q
  |none=>opClearT ts.toList us mem)
 |.sliceToArrayPointer t _=>opArrD t us mem
 |.makeSlice t _ _=>(match eqb t 246 with
  |true=>opMakeD t us mem
  |false=>(match opsR op us mem with
   |some q=>some q
   |none=>opMakeB t us mem))
 |.build t ps=>(match ps.toList with
  |[(0,_),(1,_)]=>opBuildD t us mem
  |_=>none)
 |.buildSlice t 1 ps=>(match mineT t,isLen1 ps.toList with
  |true,true=>opLitD t us mem
  |_,_=>opsR op us mem)
 |.call { callee:=.builtin .len,args:=_,argTypes:=ts }=>(match ts.toList with
  |[t]=>(match mineL t with
   |true=>opLenD [t] us mem
   |false=>opsR op us mem)
  |_=>none)
 |.binOp b t _ _ _=>(match isMapT t with
  |true=>opNilM b t us mem
  |false=>opNilD b t us mem)
 |_=>opsR op us mem
def dkHo:Ho Td:=⟨appAll,opsD,hardD,true,[]⟩
end
end Go.Proofs.Ytiiekgcjilelpaa

/- V2. -/
import Derived.Test.YtiiekgcjilelpaaV1p
open List renaming getElem?_eq_some_iff → zab, getElem?_append_right → zac, getElem?_append_left → zad, mem_cons_self → zal, mem_map → zbf
open Nat renaming le_refl → zbm
open Bool renaming and_eq_true → zbs
set_option linter.unusedSimpArgs false
set_option linter.unusedVariables false
namespace Go.Proofs.Ytiiekgcjilelpaa
open Go.RowKit
section
variable {W0:World} {G:Nat→Prop} {w w':World} {e e':Env} {mem:Mem Td}
def ypk (t:TypeId) (us:List CV) (mem:Mem Td):OpD:=match us,rowT t with
 |[.one (.obj i),.one q],some (x,ks)=>(match mem[i]?,rowsP mem ks q with
  |some ⟨.us (.ext (.flat (.rw x' ks' R))),true⟩,some (_,X)=>(match eqb x x'&&eqBs ks ks' with
   |true=>some ([R.length+X.length≤100000],.c (.one (.obj mem.length)),some (mem.set i ⟨.dead,true⟩++[⟨.us (.ext (.flat (.rw x ks (R++X)))),true⟩]))
   |false=>none)
  |_,_=>none)
 |[.one (.v (.slice none 0 0)),.one q],some (x,ks)=>(match rowsP mem ks q with
  |some (_,X)=>some ([X.length≤100000],.c (.one (.obj mem.length)),some (mem++[⟨.us (.ext (.flat (.rw x ks X))),true⟩]))
  |none=>none)
 |_,_=>none
theorem yo2 {ks:List Bool} {X:List Rw}:∀ v∈(X.map (rwV ks)).flatten,v.oneCell'=true:=fun v hv=>by
 obtain ⟨l,hl1,hl2⟩:=List.mem_flatten.1 hv
 obtain ⟨r,_,rfl⟩:=zbf.1 hl1
 exact yna ks 0 0 v hl2
theorem opAppR_ok {t:TypeId} {us:List CV} {ps:List Prop} {r:SV} {m':Mem Td} (h:ypk t us mem=some (ps,r,some m')) (hp:∀ p∈ps,p) (ty:TypeId) {vs:List Value} (hM:MemOk W0 G Id' w e mem) (ha:AllC e us vs):
  ∃ e' v w',Grows e e'∧(Builtin.append_ #[t,t] ty vs.toArray).run Try.prog w=.ok v w'∧r.is e' v∧MemOk W0 G Id' w' e' m':=by
 unfold ypk at h
 have hend:∀ v:Value,(e++[v])[mem.length]? =some v:=fun v=>by rw [← hM.len,zac (zbm _)];simp
 split at h
 ·rename_i i q x ks ht
  obtain ⟨u0,u1,rfl,a0,a1⟩:=ygx ha
  have hu0:e[i]? =some u0:=a0
  obtain ⟨k0,k8,_,bytes,hby,hE⟩:=yne ht
  split at h
  ·rename_i x' ks' R pp X hm0 hX
   split at h
   ·rename_i hb
    rw [zbs] at hb
    obtain rfl:=eqb_eq.1 hb.1
    obtain rfl:=yf7 hb.2
    simp only [Option.some.injEq,Prod.mk.injEq] at h
    obtain ⟨rfl,rfl,rfl⟩:=h
    have q0:R.length+X.length≤100000:=hp _ (zal ..)
    have hRX:=ytf hM hX (yau a1)
    obtain ⟨z0,B,hB,hown⟩:=hM.holds i _ _ hu0 hm0
    rw [FL.len] at hown
    have hown:w.ownsRow B x ks.length u0 R.length (R.map (rwV ks)).flatten:=hown
    obtain ⟨v',w',hr,q1,q2,q3⟩:=ygf (ty:=ty) hE hown hRX yo2 (by omega) (by
     have:(R.length+X.length) * bytes≤100000 * 64:=Nat.mul_le_mul q0 hby
     omega) hB
    have hmd:Mod (fun k=>Own Id' w u0 (.us (.ext (.flat (.rw x ks R)))) k) w w':=(Mod.grown_row q2).mono fun k _ hk=>hk
    have q1':w'.ownsRow B x ks.length v' (FL.rw x ks (R++X)).R.length (FL.rw x ks (R++X)).R.flatten:=by
     rw [FL.len]
     show w'.ownsRow B x ks.length v' (R++X).length ((R++X).map (rwV ks)).flatten
     rw [List.length_append,List.map_append,List.flatten_append];exact q1
    refine ⟨e++[v'],v',w',Grows.push e v',hr,hend v',hM.renew3 hu0 hm0 hmd ⟨.us (.ext (.flat (.rw x ks (R++X)))),true⟩ ⟨fun r hr=>?_,B,Nat.le_trans hB hmd.size,q1'⟩ (fun k hk=>?_) fun k hk=>?_⟩
    ·obtain ⟨y,_,rfl⟩:=zbf.1 hr
     exact ydb ks y
    ·have hk':v'.ownBlock=some k:=hk
     refine ⟨?_,(yar q1' hk').2⟩
     rcases q3 with h|h
     ·exact .inl (show u0.ownBlock=some k from h▸hk')
     ·rw [h] at hk';cases hk';exact .inr (.inl (zbm _))
    ·have hk':v'.ownBlock=some k:=hk
     rcases q3 with h|h
     ·exact .inl (show u0.ownBlock=some k from h▸hk')
     ·rw [h] at hk';cases hk';exact .inr (zbm _)
   ·cases h
  ·cases h
 ·rename_i q x ks ht
  obtain ⟨u0,u1,rfl,a0,a1⟩:=ygx ha
  have hu0:u0=.slice none 0 0:=yau a0
  subst hu0
  obtain ⟨k0,k8,_,bytes,hby,hE⟩:=yne ht
  split at h
  ·rename_i pp X hX
   simp only [Option.some.injEq,Prod.mk.injEq] at h
   obtain ⟨rfl,rfl,rfl⟩:=h
   have q0:X.length≤100000:=hp _ (zal ..)
   have hRX:=ytf hM hX (yau a1)
   obtain ⟨v',w',hr,q1,q2,q3⟩:=ygf (ty:=ty) hE (World.ownsRow_nil w w.heap.size x ks.length) hRX yo2 (by omega) (by
    have:(0+X.length) * bytes≤100000 * 64:=Nat.mul_le_mul (by omega) hby
    omega) (zbm _)
   have hx:Ext w w':=(Mod.grown_row q2).mono fun k _ hk=>by cases hk
   rw [Nat.zero_add,List.nil_append] at q1
   have q1':w'.ownsRow w.heap.size x ks.length v' (FL.rw x ks X).R.length (FL.rw x ks X).R.flatten:=by
    rw [FL.len];exact q1
   refine ⟨e++[v'],v',w',Grows.push e v',hr,hend v',hM.push hx v' ⟨.us (.ext (.flat (.rw x ks X))),true⟩ ⟨fun r hr=>?_,w.heap.size,hx.size,q1'⟩ fun k hk=>?_⟩
   ·obtain ⟨y,_,rfl⟩:=zbf.1 hr
    exact ydb ks y
   ·exact yar q1' hk
  ·cases h
 ·cases h
theorem opAppR_at {t:TypeId} {u v:CV} {mem m':Mem Td} {ps:List Prop} {r:SV} (h:ypk t [u,v] mem=some (ps,r,some m')):∀ j en,mem[j]? =some en→(∀ p,u=.one p→ycd p≠some j)→m'[j]? =some en:=by
 intro j en hj hne
 unfold ypk at h
 split at h
 ·rename_i i q x ks heq ht
  simp only [List.cons.injEq,and_true] at heq
  obtain ⟨rfl,rfl⟩:=heq
  have hij:i≠j:=fun h=>hne (.obj i) rfl (by rw [h];rfl)
  split at h
  ·split at h
   ·simp only [Option.some.injEq,Prod.mk.injEq] at h
    obtain ⟨_,_,rfl⟩:=h
    rw [zad (by rw [List.length_set];exact (zab.1 hj).1),List.getElem?_set_ne hij];exact hj
   ·cases h
  ·cases h
 ·split at h
  ·simp only [Option.some.injEq,Prod.mk.injEq] at h
   obtain ⟨_,_,rfl⟩:=h
   rw [zad (zab.1 hj).1];exact hj
  ·cases h
 ·cases h
def ygl (t:TypeId) (lo hi:Bool) (us:List CV) (mem:Mem Td):OpD:=match us,rowT t with
 |.one (.obj i)::rest,some (_,ks)=>(match mem[i]? with
  |some ⟨.us (.ext (.flat (.rw _ ks' R))),_⟩=>(match eqBs ks ks',lohi lo hi R.length rest with
   |true,some (l,h)=>some ([0≤l∧l≤h∧h≤(R.length:Int)],.c (.one (.sub i ks.length l.toNat h.toNat)),none)
   |_,_=>none)
  |some ⟨.us (.ext (.vw ks' R)),_⟩=>(match eqBs ks ks',lohi lo hi R.length rest with
   |true,some (l,h)=>some ([0≤l∧l≤h∧h≤(R.length:Int)],.c (.one (.obj mem.length)),some (mem++[⟨.us (.ext (.vw ks ((R.drop l.toNat).take (h.toNat - l.toNat)))),false⟩]))
   |_,_=>none)
  |_=>none)
 |_,_=>none
theorem lohi_at {lo hi:Bool} {n s:Nat} {rest:List CV} {l h:Int} (hr:lohi lo hi n rest=some (l,h)) {us:List Value} (hu:AllC e rest us) (b:0≤l∧l≤h∧h≤(n:Int)) {ao:Option Addr} {cap:Nat} (hcap:n≤cap) {t:TypeId} {P:Program} (ht:P.underlying t=some (.slice (P.elem t)))
  (hsz:∀ w,(sizeOf (P.elem t)).run P w=.ok s w) (w:World):∀ (lv hv:Option Value),(lo=lv.isSome)→(hi=hv.isSome)→us=lv.toList++hv.toList→
   (Instr.sliceAt t (.slice ao n cap) lv hv none).run P w=.ok (.slice (if cap=l.toNat then ao else ao.map (·.add (l.toNat * s))) (h.toNat - l.toNat) (cap - l.toNat)) w:=by
 intro lv hv e1 e2 e3
 unfold lohi at hr
 split at hr
 ·split at hr
  ·simp only [Option.some.injEq,Prod.mk.injEq] at hr
   obtain ⟨rfl,rfl⟩:=hr
   cases lv with
   |some x=>cases e1
   |none=>
    cases hv with
    |some x=>cases e2
    |none=>
     rw [run_sliceAt_slice (h:=ht),run_slice_all w t ao n cap ht]
     simp [hsz,sliced]
  ·cases hr
 ·rename_i a
  obtain ⟨u,rfl,ha⟩:=yiq hu
  split at hr
  ·rename_i l' hv'
   simp only [Option.some.injEq,Prod.mk.injEq] at hr
   obtain ⟨rfl,rfl⟩:=hr
   cases lv with
   |none=>cases e1
   |some x=>
    cases hv with
    |some y=>cases e2
    |none=>
     simp at e3
     subst e3
     obtain rfl:=yad hv' (yau ha)
     rw [run_sliceAt_slice (h:=ht),run_slice_l w t ao n cap ht _ _ b.1 b.2.1]
     simp [hsz,sliced]
  ·rename_i h' hv'
   simp only [Option.some.injEq,Prod.mk.injEq] at hr
   obtain ⟨rfl,rfl⟩:=hr
   cases lv with
   |some x=>cases e1
   |none=>
    cases hv with
    |none=>cases e2
    |some y=>
     simp at e3
     subst e3
     obtain rfl:=yad hv' (yau ha)
     rw [run_sliceAt_slice (h:=ht),run_slice_h w t ao n cap ht _ _ b.2.1 (by omega)]
     simp [hsz,sliced]
  ·cases hr
 ·rename_i a c
  obtain ⟨u1,u2,rfl,ha,hc⟩:=ygx hu
  split at hr
  ·rename_i l' h' hv1 hv2
   simp only [Option.some.injEq,Prod.mk.injEq] at hr
   obtain ⟨rfl,rfl⟩:=hr
   cases lv with
   |none=>cases e1
   |some x=>
    cases hv with
    |none=>cases e2
    |some y=>
     simp at e3
     obtain ⟨rfl,rfl⟩:=e3
     obtain rfl:=yad hv1 (yau ha)
     obtain rfl:=yad hv2 (yau hc)
     rw [run_sliceAt_slice (h:=ht),run_slice_lh w t ao n cap ht _ _ _ _ b.1 b.2.1 (by omega)]
     simp [hsz,sliced]
  ·cases hr
 ·cases hr
theorem yr3 {t:TypeId} {lo hi:Option Operand} {us:List CV} {ps:List Prop} {r:SV} {mo:Option (Mem Td)} (h:ygl t (!yiw lo) (!yiw hi) us mem=some (ps,r,mo)) (hp:∀ p∈ps,p) {o:Oper} {ρ:Operand→Value} {x:Operand} (ho:o.op=.slice t x lo hi none) (hM:MemOk W0 G Id' w e mem) (ha:AllC e us (o.op.operands.toList.map ρ)):
  yai Try.prog (fun v w'=>OutIs Id' W0 G w e r v w' mo) ((execOp ρ o).run Try.prog w):=by
 have hops:(Op.operands (.slice t x lo hi none)).toList.map ρ=ρ x::((lo.map ρ).toList++(hi.map ρ).toList):=by
  cases lo<;>cases hi<;>simp [Op.operands]
 rw [ho,hops] at ha
 have hrun:∀ {v:Value} {w':World},(Instr.sliceAt t (ρ x) (lo.map ρ) (hi.map ρ) none).run Try.prog w=.ok v w'→(execOp ρ o).run Try.prog w=.ok (.value v) w':=fun hr=>by
  unfold execOp
  simp only [ho,Option.map_none]
  rw [Sem.run_bind,hr]
  rfl
 unfold ygl at h
 split at h
 ·rename_i i rest x' ks ht
  obtain ⟨a0,a1⟩:=ha
  obtain ⟨_,g2,_,g4,_⟩:=ytg ht
  have hE:e[i]? =some (ρ x):=a0
  split at h
  ·rename_i t' ks' R mu hm
   split at h
   ·rename_i l hh hs hlh
    simp only [Option.some.injEq,Prod.mk.injEq] at h
    obtain ⟨rfl,rfl,rfl⟩:=h
    obtain rfl:=yf7 hs
    have q1:0≤l∧l≤hh∧hh≤(R.length:Int):=hp _ (zal ..)
    obtain ⟨_,B,_,ho2⟩:=hM.holds i _ _ hE hm
    have hR:=Rs.of_owns ho2
    rw [FL.len] at hR
    have hR:Rs w ks.length (ρ x) R.length (R.map (rwV ks)).flatten:=hR
    obtain ⟨_,ao,cap,hv,hcap,_⟩:=hR
    have hr:=lohi_at hlh a1 q1 (ao:=ao) hcap g2 (fun w=>yam _ g4 w) w (lo.map ρ) (hi.map ρ) (by cases lo<;>rfl) (by cases hi<;>rfl) rfl
    rw [hrun (by rw [hv];exact hr)]
    exact ⟨⟨ao,R.length,cap,by rw [← hv];exact hE,by omega,by omega,rfl⟩,Ext.refl w⟩
   ·cases h
  ·rename_i ks' R mu hm
   split at h
   ·rename_i l hh hs hlh
    simp only [Option.some.injEq,Prod.mk.injEq] at h
    obtain ⟨rfl,rfl,rfl⟩:=h
    obtain rfl:=yf7 hs
    have q1:0≤l∧l≤hh∧hh≤(R.length:Int):=hp _ (zal ..)
    obtain ⟨k0,hR⟩:=hM.holds i _ _ hE hm
    have hR':=hR
    obtain ⟨_,ao,cap,hv,hcap,_⟩:=hR'
    have hr:=lohi_at hlh a1 q1 (ao:=ao) hcap g2 (fun w=>yam _ g4 w) w (lo.map ρ) (hi.map ρ) (by cases lo<;>rfl) (by cases hi<;>rfl) rfl
    rw [hrun (by rw [hv];exact hr)]
    have hcut:=ynd hR (lo:=l.toNat) (hi:=hh.toNat) ⟨ao,R.length,cap,by rw [hv],by omega,by omega,rfl⟩
    refine ⟨e++[_],Grows.push _ _,?_,hM.share _ (.us (.ext (.vw ks ((R.drop l.toNat).take (hh.toNat - l.toNat))))) ⟨k0,hcut⟩ fun kk hk=>?_⟩
    ·show (e++[_])[mem.length]? =_
     rw [← hM.len,zac (zbm _)];simp
    ·obtain ⟨hk1,hk2⟩:=hk
     refine ⟨i,_,_,hE,hm,⟨?_,?_⟩,fun _ hk=>hk.elim⟩
     ·intro hn;subst hn;exact hk1 (by simp)
     ·rw [hv]
      cases ao with
      |none=>
       rw [show (if cap=l.toNat then (none:Option Addr) else (none:Option Addr).map (·.add (l.toNat * ks.length)))=none by split<;>rfl] at hk2
       exact hk2
      |some y=>
       by_cases hc:cap=l.toNat
       ·rw [if_pos hc] at hk2;exact hk2
       ·rw [if_neg hc] at hk2
        have hk3:some (y.add (l.toNat * ks.length)).block=some kk:=hk2
        rw [ygc] at hk3;exact hk3
   ·cases h
  ·cases h
 ·cases h
theorem ynk {t:TypeId} {lo hi:Bool} {us:List CV} {m m':Mem Td} {ps:List Prop} {r:SV} (h:ygl t lo hi us m=some (ps,r,none)) (hl:MLe m m'):ygl t lo hi us m'=some (ps,r,none):=by
 unfold ygl at h ⊢
 split at h
 ·split at h
  ·rename_i hm
   simp only [hl _ _ hm (by simp)]
   exact h
  ·split at h
   ·simp at h
   ·cases h
  ·cases h
 ·cases h
def isRow (t:TypeId):Bool:=match rowT t with
 |some _=>true
 |none=>false
def isLit1:List (Nat×Operand)→Bool
 |[(0,_)]=>true
 |_=>false
def opsR (op:Op) (us:List CV) (mem:Mem Td):OpD:=match op with
 |.slice t x lo hi none=>(match isRow t with
  |true=>ygl t (!yiw lo) (!yiw hi) us mem
  |false=>opsT op us mem)
 |.buildSlice t 1 ps=>(match isRow t&&isLit1 ps.toList with
  |true=>yph t us mem
  |false=>opsT op us mem)
 |_=>opsT op us mem
theorem ydo (op:Op) (us:List CV) (m m':Mem Td) (ps:List Prop) (r:SV) (h:opsR op us m=some (ps,r,none)) (hl:MLe m m'):opsR op us m'=some (ps,r,none):=by
 unfold opsR at h ⊢
 split at h
 ·split at h
  ·rename_i ht
   try simp only [ht]
   exact ynk h hl
  ·rename_i ht
   try simp only [ht]
   exact yhs _ us m m' ps r h hl
 ·split at h
  ·unfold yph at h
   repeat' split at h
   all_goals first|(cases h;done)|(simp at h;done)
  ·rename_i ht
   try simp only [ht]
   exact yhs _ us m m' ps r h hl
 ·exact yhs _ us m m' ps r h hl
theorem opsR_ok (op:Op) (args:List CV) (mem:Mem Td) (ps:List Prop) (r:SV) (mo:Option (Mem Td)) (h:opsR op args mem=some (ps,r,mo)) (hp:∀ p∈ps,p) (o:Oper) (ρ:Operand→Value) (w:World) (e:Env) (ho:o.op=op) (hM:MemOk W0 G Id' w e mem)
  (ha:AllC e args (op.operands.toList.map ρ)):yai Try.prog (fun v w'=>OutIs Id' W0 G w e r v w' mo) ((execOp ρ o).run Try.prog w):=by
 have hT:opsT op args mem=some (ps,r,mo)→yai Try.prog (fun v w'=>OutIs Id' W0 G w e r v w' mo) ((execOp ρ o).run Try.prog w):=fun h=>opsT_ok op args mem ps r mo h hp o ρ w e ho hM ha
 unfold opsR at h
 split at h
 ·rename_i t x lo hi
  split at h
  ·exact yr3 h hp ho hM (by rw [ho];exact ha)
  ·exact hT h
 ·rename_i t prts
  split at h
  ·rename_i hl
   rw [zbs] at hl
   have:∃ x,prts.toList=[(0,x)]:=by
    have hl:=hl.2
    unfold isLit1 at hl
    split at hl
    ·rename_i x hx;exact ⟨x,hx⟩
    ·cases hl
   obtain ⟨x,hps⟩:=this
   have e1:prts=#[(0,x)]:=by rw [← Array.toArray_toList (xs:=prts),hps]
   subst e1
   exact opLitR_ok h ho hM (by simpa [Op.operands] using ha)
  ·exact hT h
 ·exact hT h
end
end Go.Proofs.Ytiiekgcjilelpaa

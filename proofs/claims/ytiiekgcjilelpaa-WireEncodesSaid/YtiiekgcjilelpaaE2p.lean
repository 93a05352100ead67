/- E2. -/
import Derived.Test.YtiiekgcjilelpaaE1p
import Derived.Test.YtiiekgcjilelpaaG0p
open List renaming getElem?_eq_getElem → zaa, getElem?_eq_some_iff → zab, getElem?_append_right → zac, getElem?_append_left → zad, mem_append_right → zag, mem_append_left → zah, getElem?_take → zai, mem_of_getElem? → zaj, mem_cons_of_mem → zak, mem_cons_self → zal, getElem?_map → zan, getElem?_set_ne → zao, getElem?_drop → zap, getElem?_eq_none → zas, length_cons → zax, map_cons → zay, getElem_of_mem → zaz, mem_append → zbe, mem_map → zbf
open Nat renaming lt_of_lt_of_le → zbh, lt_or_ge → zbk, le_trans → zbl, le_refl → zbm, zero_add → zbo
open Array renaming getElem?_eq_some_iff → zbp, toArray_toList → zbq, getD_eq_getD_getElem? → zbr
open Bool renaming and_eq_true → zbs, or_eq_true → zbt
open Classical renaming byContradiction → zbv
set_option linter.unusedSimpArgs false
set_option linter.unusedVariables false
namespace Go.Proofs.Ytiiekgcjilelpaa
open Go.RowKit
section
variable {β:Type} {S:Sy β} {I:ObI β} {W0:World} {G:Nat→Prop} {base:List (Nat×SV)} {l:List Oper} {pn sz:Nat}
theorem yaw {P:Program} {recs:List SRec} {c:List (Nat×Bool)} {o:Oper} {sv:SV} {m:Mem β} {ps:List Prop} (h:yea P (yax recs base c) o=some (sv,some m,ps)):False:=by
 unfold yea at h
 split at h
 ·split at h
  ·split at h
   ·obtain ⟨s,h1,_⟩:=yqh _ (fun s=>(retS s:OpR β))
    rw [h1] at h
    have:=yav h;simp at this
   ·have:=yav h;simp at this
  ·cases h
 ·cases h
theorem yfh {recs:List SRec} {mem mem':Mem β} {c:List (Nat×Bool)} {eff:Bool} {op:Op} {sv:SV} {ps:List Prop} (h:ycf S (yax recs base c) mem c eff op=some (sv,some mem',ps)):eff=true∧c=[]:=by
 unfold ycf at h
 split at h
 ·split at h
  ·simp at h
  ·split at h
   ·exact ⟨rfl,rfl⟩
   ·cases h
  ·cases h
 ·cases h
theorem yj6 {recs:List SRec} {mem mem':Mem β} {c:List (Nat×Bool)} {eff:Bool} {o:Oper} {sv:SV} {ps:List Prop} (h:yfm S (yax recs base c) mem c eff o=some (sv,some mem',ps)):eff=true∧c=[]:=by
 rcases yid h with h|h
 ·exact (yaw h).elim
 ·exact yfh h
theorem ybg {recs:List SRec} {mem mem':Mem β} {c:List (Nat×Bool)} {eff:Bool} {o:Oper} {sv:SV} {ps:List Prop} {neg:Bool} {ty:TypeId} {x y:Operand} (h:yiy S (yax recs base c) mem c eff o neg ty x y=some (sv,some mem',ps)):yfm S (yax recs base c) mem c eff o=some (sv,some mem',ps):=by
 unfold yiy at h
 split at h
 ·split at h
  ·split at h
   ·split at h<;>(have:=yav h;simp at this)
   ·cases h
  ·cases h
 ·exact h
theorem ya7 {σ:Operand→Option SV} {ty:TypeId} {pts:Array (Nat×Operand)} {mem m:Mem β} {sv:SV} {ps:List Prop} (h:yla S mem σ ty pts=some (sv,some m,ps)):False:=by
 unfold yla at h
 repeat' split at h
 all_goals first
  |(cases h;done)
  |(have:=yav h;simp at this;done)
theorem ykz {recs:List SRec} {mem mem':Mem β} {c:List (Nat×Bool)} {eff:Bool} {o:Oper} {sv:SV} {ps:List Prop} (h:yb5 S recs base mem c eff o=some (sv,some mem',ps)):eff=true∧c=[]:=by
 unfold yb5 at h
 repeat' split at h
 all_goals first
  |(cases h;done)
  |(exact (yaw h).elim)
  |(exact yj6 (ybg h))
  |(exact yj6 h)
  |(exact yfh h)
  |(exact yfh (ydg h).1)
  |(exact yfh (ydf h).1)
  |(rename_i h0;simp only [Option.some.injEq] at h;subst h;exact (ya7 h0).elim)
  |(have:=yav h;simp at this;done)
  |(simp only [yak] at h;have:=yav h;simp at this;done)
  |(simp at h;done)
  |exact ⟨rfl,rfl⟩
theorem ymj {w:World} {recs:List SRec} {e:Env} {mem mem':Mem β} {c:List (Nat×Bool)} {eff:Bool} {o:Oper} {ρ:Operand→Value} {sv:SV} {ps:List Prop}
  (hS:SyOk S I W0 G) (hM:MemOk W0 G I w e mem) (hc:sat recs c=true) (hρ:∀ x∈o.op.operands,OpIs recs base e x (ρ x))
  (h:yb5 S recs base mem c eff o=some (sv,some mem',ps)) (hps:∀ p∈ps,p):yai S.P (fun v w'=>∃ e',Grows e e'∧MemOk W0 G I w' e' mem'∧sv.is e' v) ((execOp ρ o).run S.P w):=by
 have hlk:∀ {x:Operand} {s:SV},x∈o.op.operands→yax recs base c x=some s→s.is e (ρ x):=fun hx hs=>yb7 hs hc (hρ _ hx)
 have hhook:∀ {op:Op},o.op=op→ycf S (yax recs base c) mem c eff op=some (sv,some mem',ps)→yai S.P (fun v w'=>∃ e',Grows e e'∧MemOk W0 G I w' e' mem'∧sv.is e' v) ((execOp ρ o).run S.P w):=fun hop hh=>
  ybd (fun v w' ⟨e',h1,h2,h3⟩=>⟨e',h1,h3,h2⟩) (ymd hS hM hc hρ hop hh hps).1
 have hpureOr:yfm S (yax recs base c) mem c eff o=some (sv,some mem',ps)→yai S.P (fun v w'=>∃ e',Grows e e'∧MemOk W0 G I w' e' mem'∧sv.is e' v) ((execOp ρ o).run S.P w):=fun hh=>by
  rcases yid hh with h1|h1
  ·exact (yaw h1).elim
  ·exact hhook rfl h1
 unfold yb5 at h
 split at h
 ·repeat' split at h
  all_goals first
   |(cases h;done)
   |(exact (yaw h).elim)
   |(exact hpureOr (ybg h))
   |(exact hpureOr h)
   |(exact hhook rfl h)
   |(rename_i h0;simp only [Option.some.injEq] at h;subst h;exact (ya7 h0).elim)
   |(have:=yav h;simp at this;done)
   |(simp only [yak] at h;have:=yav h;simp at this;done)
   |(simp at h;done)
 ·repeat' split at h
  all_goals first
   |(cases h;done)
   |(exact (yaw h).elim)
   |(exact hpureOr (ybg h))
   |(exact hpureOr h)
   |(exact hhook rfl h)
   |(rename_i h0;simp only [Option.some.injEq] at h;subst h;exact (ya7 h0).elim)
   |(have:=yav h;simp at this;done)
   |(simp only [yak] at h;have:=yav h;simp at this;done)
   |(simp at h;done)
 ·repeat' split at h
  all_goals first
   |(cases h;done)
   |(exact (yaw h).elim)
   |(exact hpureOr (ybg h))
   |(exact hpureOr h)
   |(exact hhook rfl h)
   |(rename_i h0;simp only [Option.some.injEq] at h;subst h;exact (ya7 h0).elim)
   |(have:=yav h;simp at this;done)
   |(simp only [yak] at h;have:=yav h;simp at this;done)
   |(simp at h;done)
 ·repeat' split at h
  all_goals first
   |(cases h;done)
   |(exact (yaw h).elim)
   |(exact hpureOr (ybg h))
   |(exact hpureOr h)
   |(exact hhook rfl h)
   |(rename_i h0;simp only [Option.some.injEq] at h;subst h;exact (ya7 h0).elim)
   |(have:=yav h;simp at this;done)
   |(simp only [yak] at h;have:=yav h;simp at this;done)
   |(simp at h;done)
 ·rename_i ty x y hop
  split at h
  ·exact hhook rfl (ydf h).1
  split at h
  ·rename_i i off u hs hu
   split at h
   ·rename_i m2 hst
    simp only [Option.some.injEq,Prod.mk.injEq] at h
    obtain ⟨rfl,rfl,-⟩:=h
    rw [hS.one] at hst
    obtain ⟨a,w',h1,h2,h3⟩:=yl0 hM hst (hlk (x:=x) (by rw [hop];simp [Op.operands]) (yc1 hs)) (hlk (x:=y) (by rw [hop];simp [Op.operands]) (yfj hu))
    have hrun:(execOp ρ o).run S.P w=.ok .skip w':=by
     unfold execOp
     simp only [hop,h1,Instr.storeAt,Instr.sureAddr,Sem.run_bind,Sem.run_pure,Result.andThen_ok,h2]
    rw [hrun]
    exact ⟨e,Grows.refl e,h3,rfl⟩
   ·cases h
  ·cases h
 ·rename_i ty x hop
  split at h
  ·rename_i u hu
   simp only [Option.some.injEq,Prod.mk.injEq] at h
   obtain ⟨rfl,rfl,-⟩:=h
   obtain ⟨hu1,hok⟩:=yul hu
   have his:=hlk (x:=x) (by rw [hop];simp [Op.operands]) hu1
   have hrun:(execOp ρ o).run S.P w=.ok (.value (.pointer (some ⟨w.heap.size,0,none⟩))) (w.alloc (.cells (ρ x).cells ty)):=by
    unfold execOp
    simp only [hop,Instr.box,newVar,newRow,newObj,Sem.run_bind,Sem.run_pure,Result.andThen_ok]
    rfl
   rw [hrun]
   refine ⟨_,Grows.push _ _,yg6 hM _ ty _ (yf9 his fun p x hyp hx=>by subst hyp;exact yg5 hM (hS.one▸hok) hx),w.heap.size,0,?_,rfl⟩
   rw [← hM.len,zac (zbm _)];simp
  ·cases h
 ·rename_i ty hop
  split at h
  ·exact hhook rfl (ydg h).1
  split at h
  ·rename_i z hz
   simp only [Option.some.injEq,Prod.mk.injEq] at h
   obtain ⟨rfl,rfl,-⟩:=h
   have hrun:(execOp ρ o).run S.P w=.ok (.value (.pointer (some ⟨w.heap.size,0,none⟩))) (w.alloc (.cells z.cells ty)):=by
    unfold execOp
    simp only [hop,Instr.alloc,newVar,newRow,newObj,Sem.run_bind,yam _ hz,Sem.run_pure,Result.andThen_ok]
    rfl
   rw [hrun]
   refine ⟨_,Grows.push _ _,yg6 hM _ ty _ (by simpa using yli e z.cells.toList),w.heap.size,0,?_,rfl⟩
   rw [← hM.len,zac (zbm _)];simp
  ·cases h
 ·repeat' split at h
  all_goals first
   |(cases h;done)
   |(exact (yaw h).elim)
   |(exact hpureOr (ybg h))
   |(exact hpureOr h)
   |(exact hhook rfl h)
   |(rename_i h0;simp only [Option.some.injEq] at h;subst h;exact (ya7 h0).elim)
   |(have:=yav h;simp at this;done)
   |(simp only [yak] at h;have:=yav h;simp at this;done)
   |(simp at h;done)
 ·repeat' split at h
  all_goals first
   |(cases h;done)
   |(exact (yaw h).elim)
   |(exact hpureOr (ybg h))
   |(exact hpureOr h)
   |(exact hhook rfl h)
   |(rename_i h0;simp only [Option.some.injEq] at h;subst h;exact (ya7 h0).elim)
   |(have:=yav h;simp at this;done)
   |(simp only [yak] at h;have:=yav h;simp at this;done)
   |(simp at h;done)
 ·repeat' split at h
  all_goals first
   |(cases h;done)
   |(exact (yaw h).elim)
   |(exact hpureOr (ybg h))
   |(exact hpureOr h)
   |(exact hhook rfl h)
   |(rename_i h0;simp only [Option.some.injEq] at h;subst h;exact (ya7 h0).elim)
   |(have:=yav h;simp at this;done)
   |(simp only [yak] at h;have:=yav h;simp at this;done)
   |(simp at h;done)
 ·repeat' split at h
  all_goals first
   |(cases h;done)
   |(exact (yaw h).elim)
   |(exact hpureOr (ybg h))
   |(exact hpureOr h)
   |(exact hhook rfl h)
   |(rename_i h0;simp only [Option.some.injEq] at h;subst h;exact (ya7 h0).elim)
   |(have:=yav h;simp at this;done)
   |(simp only [yak] at h;have:=yav h;simp at this;done)
   |(simp at h;done)
 ·repeat' split at h
  all_goals first
   |(cases h;done)
   |(exact (yaw h).elim)
   |(exact hpureOr (ybg h))
   |(exact hpureOr h)
   |(exact hhook rfl h)
   |(rename_i h0;simp only [Option.some.injEq] at h;subst h;exact (ya7 h0).elim)
   |(have:=yav h;simp at this;done)
   |(simp only [yak] at h;have:=yav h;simp at this;done)
   |(simp at h;done)
 ·repeat' split at h
  all_goals first
   |(cases h;done)
   |(exact (yaw h).elim)
   |(exact hpureOr (ybg h))
   |(exact hpureOr h)
   |(exact hhook rfl h)
   |(rename_i h0;simp only [Option.some.injEq] at h;subst h;exact (ya7 h0).elim)
   |(have:=yav h;simp at this;done)
   |(simp only [yak] at h;have:=yav h;simp at this;done)
   |(simp at h;done)
 ·repeat' split at h
  all_goals first
   |(cases h;done)
   |(exact (yaw h).elim)
   |(exact hpureOr (ybg h))
   |(exact hpureOr h)
   |(exact hhook rfl h)
   |(rename_i h0;simp only [Option.some.injEq] at h;subst h;exact (ya7 h0).elim)
   |(have:=yav h;simp at this;done)
   |(simp only [yak] at h;have:=yav h;simp at this;done)
   |(simp at h;done)
 ·repeat' split at h
  all_goals first
   |(cases h;done)
   |(exact (yaw h).elim)
   |(exact hpureOr (ybg h))
   |(exact hpureOr h)
   |(exact hhook rfl h)
   |(rename_i h0;simp only [Option.some.injEq] at h;subst h;exact (ya7 h0).elim)
   |(have:=yav h;simp at this;done)
   |(simp only [yak] at h;have:=yav h;simp at this;done)
   |(simp at h;done)
 ·rename_i fv xs ats hop
  split at h
  ·rename_i f fi ca us hs hus
   split at h
   ·rename_i g hg
    split at h
    ·simp at h
    ·rename_i qs r m2 hgr
     split at h
     ·simp only [Option.some.injEq,Prod.mk.injEq] at h
      obtain ⟨rfl,rfl,rfl⟩:=h
      obtain ⟨a1,a2,k1,k2,hx⟩:=fnS_is hs fun s hs=>hlk (x:=fv) (by rw [hop];simp [Op.operands,Call.operands]) hs
      have hv:=yuk (ρ:=ρ) (e:=e) hc hus (fun x hx=>hρ x (by rw [hop];simp [Op.operands,Call.operands,Array.mem_toList_iff.1 hx]))
      obtain ⟨q1,q2⟩:=hS.fns f g hg _ mem qs r _ hgr hps
      have hall:=k1.ones.append (hv.append k2.ones)
      have hrun:(execOp ρ o).run S.P w=.ok (.enter f (a1++(xs.toList.map ρ++a2)).toArray) w:=by
       unfold execOp
       simp only [hop,resolve,hx,Deferred.ofValue,invoke,Sem.run_bind,Sem.run_pure,Result.andThen_ok,ynt xs]
       rw [q1]
       simp
      rw [hrun]
      exact (q2 w e _ hM hall).mono fun x w' ⟨v,h1,e',h2,h3,h4⟩=>⟨v,h1,e',h2,h4,h3⟩
     ·cases h
    ·cases h
   ·cases h
  ·cases h
 ·repeat' split at h
  all_goals first
   |(cases h;done)
   |(exact (yaw h).elim)
   |(exact hpureOr (ybg h))
   |(exact hpureOr h)
   |(exact hhook rfl h)
   |(rename_i h0;simp only [Option.some.injEq] at h;subst h;exact (ya7 h0).elim)
   |(have:=yav h;simp at this;done)
   |(simp only [yak] at h;have:=yav h;simp at this;done)
   |(simp at h;done)
 ·rename_i xs ts hop
  split at h
  ·rename_i x y t t' hx ht
   split at h
   ·rename_i u v htt hu hv
    split at h
    ·rename_i qs r m2 hA
     simp only [Option.some.injEq,Prod.mk.injEq] at h
     obtain ⟨rfl,rfl,rfl⟩:=h
     have htt:=eqb_eq.1 htt
     subst htt
     have e1:xs=#[x,y]:=by rw [← zbq (xs:=xs),hx]
     have e2:ts=#[t,t]:=by rw [← zbq (xs:=ts),ht]
     have h1:=hlk (x:=x) (by rw [hop,e1];simp [Op.operands,Call.operands]) (yfj hu)
     have h2:=hlk (x:=y) (by rw [hop,e1];simp [Op.operands,Call.operands]) (yfj hv)
     obtain ⟨e',z,w',k1,k2,k3,k4⟩:=hS.app t [u,v] mem qs r _ hA hps o.type w e [ρ x,ρ y] hM ⟨h1,h2,trivial⟩
     have hrun:(execOp ρ o).run S.P w=.ok (.value z) w':=by
      subst e1;subst e2
      unfold execOp
      simp only [hop,resolve,invoke,builtin,Sem.run_bind,Sem.run_pure,Result.andThen_ok,List.map_toArray,zay,List.map_nil,k2]
     rw [hrun]
     exact ⟨e',k1,k4,k3⟩
    ·cases h
   ·exact hhook rfl h
   ·cases h
  ·cases h
 all_goals
  repeat' split at h
  all_goals first
   |(cases h;done)
   |(exact (yaw h).elim)
   |(exact hpureOr (ybg h))
   |(exact hpureOr h)
   |(exact hhook rfl h)
   |(rename_i h0;simp only [Option.some.injEq] at h;subst h;exact (ya7 h0).elim)
   |(have:=yav h;simp at this;done)
   |(simp only [yak] at h;have:=yav h;simp at this;done)
   |(simp at h;done)
theorem MLe.get {m m':Mem β} (h:MLe m m') {i:Nat} {en:En β} (hi:m[i]? =some en) (hd:en.ob≠.dead):m'[i]? =some en:=h i en hi hd
theorem yv4 {m m':Mem β} (h:MLe m m') {P:Program} {ty:TypeId} {p:PV} {y:CV} (hl:ynv P m ty p=some y):ynv P m' ty p=some y:=by
 unfold ynv at hl ⊢
 split at hl
 ·split at hl
  ·rename_i hm
   rw [h.get hm (by simp)];exact hl
  ·rename_i hm
   rw [h.get hm (by simp)];exact hl
  ·cases hl
 ·split at hl
  ·rename_i hm
   rw [h.get hm (by simp)];exact hl
  ·cases hl
 ·cases hl
theorem okC_mem {m m':Mem β} (c:CV):okC S m c=okC S m' c:=by
 cases c with
 |one p=>cases p<;>rfl
 |agg cs=>rfl
 |fn f ca=>rfl
theorem cvO_mem {m m':Mem β} (x:Option SV):cvO S m x=cvO S m' x:=by
 unfold cvO
 split
 ·rename_i y _
  rw [okC_mem (m:=m) (m':=m') y]
 ·rfl
theorem ywt {m m':Mem β} {σ:Operand→Option SV} {ty:TypeId} {pts:Array (Nat×Operand)}:yla S m σ ty pts=yla S m' σ ty pts:=by
 unfold yla
 simp only [cvO_mem (S:=S) (m:=m) (m':=m')]
theorem usO_mono {m m':Mem β} (h:MLe m m') {p:Option PV} (hu:usO m p=true):usO m' p=true:=by
 unfold usO at hu ⊢
 split at hu
 ·split at hu
  ·split at hu
   ·rename_i hm
    simp only [h.get hm (by simp)]
   ·cases hu
  ·cases hu
 ·cases hu
theorem usO_load {m m':Mem β} (h:MLe m m') {P:Program} {ty:TypeId} {p:PV} {y:CV} (hl:ynv P m ty p=some y) (hu:usO m (some p)=false):usO m' (some p)=false:=by
 unfold ynv at hl
 split at hl
 ·split at hl
  ·rename_i hm
   simp only [usO,ycd,h.get hm (by simp)]
  ·rename_i hm
   simp only [usO,ycd,h.get hm (by simp)]
  ·cases hl
 ·split at hl
  ·rename_i hm
   simp only [usO,ycd,h.get hm (by simp)]
  ·cases hl
 ·cases hl
theorem yha {recs:List SRec} {m m':Mem β} {c:List (Nat×Bool)} {o:Oper} {sv:SV} {ps:List Prop} (hopm:∀ op args ps r,S.A.ops op args m=some (ps,r,none)→S.A.ops op args m'=some (ps,r,none))
  (hfnm:∀ f g,yhz f S.F=some g→∀ args ps r,g args m=some (ps,r,none)→g args m'=some (ps,r,none)) (h:yb5 S recs base m c false o=some (sv,none,ps)) (hM:MLe m m'):yb5 S recs base m' c false o=some (sv,none,ps):=by
 have hh:∀ {op:Op},ycf S (yax recs base c) m c false op=some (sv,none,ps)→ycf S (yax recs base c) m' c false op=some (sv,none,ps):=fun hk=>by
  unfold ycf at hk ⊢
  split at hk
  ·rename_i us hus
   split at hk
   ·rename_i qs r hg
    rw [hopm _ _ _ _ hg];exact hk
   ·split at hk<;>simp at hk
   ·cases hk
  ·cases hk
 have hp:yfm S (yax recs base c) m c false o=some (sv,none,ps)→yfm S (yax recs base c) m' c false o=some (sv,none,ps):=fun hk=>by
  unfold yfm at hk ⊢
  split at hk
  ·exact hk
  ·exact hh hk
 unfold yb5 at h ⊢
 split at h
 ·exact h
 ·exact h
 ·exact h
 -- load
 ·split at h
  ·rename_i hu
   simp only [usO_mono hM hu]
   exact hh h
  ·rename_i hu
   split at h
   ·rename_i p hp
    split at h
    ·rename_i y hy
     have hu2:usO m' (some p)=false:=usO_load hM hy (by rw [← hp];exact hu)
     rw [hp,hu2]
     simp only [yv4 hM hy];exact h
    ·cases h
   ·cases h
 ·split at h
  ·obtain ⟨_,_,_,_,h2⟩:=ydf h
   simp at h2
  ·split at h
   ·split at h<;>simp at h
   ·cases h
 ·split at h
  ·simp at h
  ·cases h
 ·split at h
  ·obtain ⟨_,_,_,_,_,h2⟩:=ydg h
   simp at h2
  ·split at h
   ·simp at h
   ·cases h
 ·exact h
 -- nilCheck
 ·split at h
  ·exact h
  ·exact h
  ·exact hh h
 ·exact h
 ·exact h
 -- build
 ·rw [← ywt (m:=m) (m':=m')]
  split at h
  ·exact h
  ·exact hh h
 ·exact h
 ·exact h
 -- indexAddr
 ·split at h
  ·split at h
   ·rename_i hm hsz
    rw [hM.get hm (by simp),hsz]
    exact h
   ·rename_i hm
    rw [hM.get hm (by simp)]
    exact hh h
   ·cases h
  ·exact h
  ·cases h
 -- call
 ·split at h
  ·split at h
   ·rename_i g hg
    split at h
    ·rename_i qs r hgr
     rw [hfnm _ g hg _ _ _ hgr];exact h
    ·split at h<;>simp at h
    ·cases h
   ·cases h
  ·cases h
 -- len
 ·split at h
  ·split at h
   ·split at h
    ·rename_i hm
     rw [hM.get hm (by simp)];exact h
    ·rename_i hm
     rw [hM.get hm (by simp)];exact hh h
    ·cases h
   ·exact hp h
  ·cases h
 -- append
 ·split at h
  ·rename_i he _ _
   cases he
  ·cases h
 -- eql
 ·unfold yiy at h ⊢
  split at h
  ·exact h
  ·exact hp h
 ·unfold yiy at h ⊢
  split at h
  ·exact h
  ·exact hp h
 ·exact hh h
 ·exact hh h
 ·cases h
 ·exact hp h
theorem ymi {recs:List SRec} {m m':Mem β} {c:List (Nat×Bool)} {eff:Bool} {o:Oper} {sv:SV} {ps:List Prop} (hloc:∀ f g,yhz f S.F=some g→∀ args mem ps r m',g args mem=some (ps,r,some m')→SLe S.A.hard mem m') (hopb:∀ t k qs args mem ps r m',allB (roC mem) args=true→S.A.ops (.buildSlice t k qs) args mem=some (ps,r,some m')→Keep mem m') (hopa:∀ op args mem ps r m',yr9 op=true→S.A.ops op args mem=some (ps,r,some m')→Keep mem m')
  (h:yb5 S recs base m c eff o=some (sv,some m',ps)) (hn:chOk o=true):SLe S.A.hard m m':=by
 obtain ⟨dst,op,ty,pos,after,guard⟩:=o
 cases op with
 |call cl=>
  obtain ⟨callee,xs,ats⟩:=cl
  cases callee with
  |value fv=>
   simp only [yb5] at h
   split at h
   ·split at h
    ·rename_i g hg
     split at h
     ·simp at h
     ·rename_i qs r m2 hgr
      split at h
      ·simp only [Option.some.injEq,Prod.mk.injEq] at h
       obtain ⟨rfl,rfl,rfl⟩:=h
       exact hloc _ g hg _ _ _ _ _ hgr
      ·cases h
     ·cases h
    ·cases h
   ·cases h
  |invoke _ _=>simp [chOk] at hn
  |builtin _=>simp [chOk] at hn
 |box ty x=>
  simp only [yb5] at h
  split at h
  ·simp only [Option.some.injEq,Prod.mk.injEq] at h
   obtain ⟨_,rfl,_⟩:=h
   exact SLe.push _ _ _
  ·cases h
 |alloc ty=>
  simp only [yb5] at h
  split at h
  ·have hk:=(ydg h).1
   unfold ycf at hk
   split at hk
   ·split at hk
    ·simp at hk
    ·rename_i hg
     split at hk
     ·simp only [Option.some.injEq,Prod.mk.injEq] at hk
      obtain ⟨rfl,rfl,rfl⟩:=hk
      exact (hopa _ _ _ _ _ _ rfl hg).sle _
     ·cases hk
    ·cases hk
   ·cases hk
  ·split at h
   ·simp only [Option.some.injEq,Prod.mk.injEq] at h
    obtain ⟨_,rfl,_⟩:=h
    exact SLe.push _ _ _
   ·cases h
 |load ty x=>
  simp only [yb5] at h
  split at h
  ·have hk:=h
   unfold ycf at hk
   split at hk
   ·split at hk
    ·simp at hk
    ·rename_i hg
     split at hk
     ·simp only [Option.some.injEq,Prod.mk.injEq] at hk
      obtain ⟨rfl,rfl,rfl⟩:=hk
      exact (hopa _ _ _ _ _ _ rfl hg).sle _
     ·cases hk
    ·cases hk
   ·cases hk
  ·split at h
   ·split at h
    ·simp [retS] at h
    ·cases h
   ·cases h
 |_=>simp [chOk] at hn
def RecsOk (recs:List SRec) (i:Nat):Prop:=(∀ r∈recs,r.ix<i∧∀ x∈r.ctx,x.1<r.ix)∧recs.Pairwise (fun a b=>b.ix<a.ix)
theorem yb8 {i:Nat} {recs:List SRec} {mem:Mem β} {c:List (Nat×Bool)} {eff:Bool} {o:Oper} {sv:SV} {mo:Option (Mem β)} {ps:List Prop} (h:ybm S i recs base mem c eff o=some (sv,mo,ps)):
  yb5 S recs base mem c eff o=some (sv,mo,ps)∨∃ q b qs,yb5 S recs base mem c eff o=some (svV (.bool q),mo,qs)∧sv=.c (.one (.kB b))∧ps=(q=b)::qs:=by
 unfold ybm at h
 cases hov:ovGet i S.A.ov with
 |none=>rw [hov] at h;exact .inl h
 |some b=>
  rw [hov] at h
  simp only at h
  split at h
  ·rename_i q mo' qs hq
   simp only [Option.some.injEq,Prod.mk.injEq] at h
   obtain ⟨rfl,rfl,rfl⟩:=h
   exact .inr ⟨q,b,qs,hq,rfl,rfl⟩
  ·exact .inl h
theorem yed {i:Nat} {w:World} {recs:List SRec} {e:Env} {mem:Mem β} {c:List (Nat×Bool)} {eff:Bool} {o:Oper} {ρ:Operand→Value} {sv:SV} {ps:List Prop} (hS:SyOk S I W0 G) (hM:MemOk W0 G I w e mem) (hp:recs.Pairwise (fun a b=>b.ix<a.ix)) (hc:sat recs c=true) (hρ:∀ x∈o.op.operands,OpIs recs base e x (ρ x))
  (h:ybm S i recs base mem c eff o=some (sv,none,ps)) (hps:∀ p∈ps,p):yai S.P (fun v w'=>Ext w w'∧sv.is e v) ((execOp ρ o).run S.P w):=by
 rcases yb8 h with h1|⟨q,b,qs,h1,rfl,rfl⟩
 ·exact yky hS hM hp hc hρ h1 hps
 ·have hqb:q=b:=hps _ (zal ..)
  subst hqb
  exact ybd (fun v w' h=>(⟨h.1,h.2⟩:Ext w w'∧(SV.c (CV.one (PV.kB q))).is e v)) (yky hS hM hp hc hρ h1 fun p hp=>hps p (zak _ hp))
theorem yf6 {i:Nat} {recs:List SRec} {mem mem':Mem β} {c:List (Nat×Bool)} {eff:Bool} {o:Oper} {sv:SV} {ps:List Prop} (h:ybm S i recs base mem c eff o=some (sv,some mem',ps)):eff=true∧c=[]:=by
 rcases yb8 h with h1|⟨q,b,qs,h1,rfl,rfl⟩
 ·exact ykz h1
 ·exact ykz h1
theorem yk0 {i:Nat} {w:World} {recs:List SRec} {e:Env} {mem mem':Mem β} {c:List (Nat×Bool)} {eff:Bool} {o:Oper} {ρ:Operand→Value} {sv:SV} {ps:List Prop}
  (hS:SyOk S I W0 G) (hM:MemOk W0 G I w e mem) (hc:sat recs c=true) (hρ:∀ x∈o.op.operands,OpIs recs base e x (ρ x))
  (h:ybm S i recs base mem c eff o=some (sv,some mem',ps)) (hps:∀ p∈ps,p):yai S.P (fun v w'=>∃ e',Grows e e'∧MemOk W0 G I w' e' mem'∧sv.is e' v) ((execOp ρ o).run S.P w):=by
 rcases yb8 h with h1|⟨q,b,qs,h1,rfl,rfl⟩
 ·exact ymj hS hM hc hρ h1 hps
 ·have hqb:q=b:=hps _ (zal ..)
  subst hqb
  exact ybd (fun v w' ⟨e',h1,h2,h3⟩=>(⟨e',h1,h2,h3⟩:∃ e',Grows e e'∧MemOk W0 G I w' e' mem'∧(SV.c (CV.one (PV.kB q))).is e' v)) (ymj hS hM hc hρ h1 fun p hp=>hps p (zak _ hp))
theorem yqc {i:Nat} {recs:List SRec} {m m':Mem β} {c:List (Nat×Bool)} {o:Oper} {sv:SV} {ps:List Prop} (hopm:∀ op args ps r,S.A.ops op args m=some (ps,r,none)→S.A.ops op args m'=some (ps,r,none))
  (hfnm:∀ f g,yhz f S.F=some g→∀ args ps r,g args m=some (ps,r,none)→g args m'=some (ps,r,none)) (h:ybm S i recs base m c false o=some (sv,none,ps)) (hM:MLe m m'):ybm S i recs base m' c false o=some (sv,none,ps):=by
 unfold ybm at h ⊢
 cases hov:ovGet i S.A.ov with
 |none=>rw [hov] at h;exact yha hopm hfnm h hM
 |some b=>
  rw [hov] at h
  simp only at h ⊢
  split at h
  ·rename_i q mo qs hq
   simp only [Option.some.injEq,Prod.mk.injEq] at h
   obtain ⟨rfl,rfl,rfl⟩:=h
   rw [yha hopm hfnm hq hM]
  ·rename_i hne
   rw [yha hopm hfnm h hM]
   split
   ·rename_i q mo qs hq
    simp only [Option.some.injEq,Prod.mk.injEq] at hq
    obtain ⟨rfl,rfl,rfl⟩:=hq
    exact absurd h (hne _ _ _)
   ·rfl
theorem ysm {i:Nat} {recs:List SRec} {m m':Mem β} {c:List (Nat×Bool)} {eff:Bool} {o:Oper} {sv:SV} {ps:List Prop} (hloc:∀ f g,yhz f S.F=some g→∀ args mem ps r m',g args mem=some (ps,r,some m')→SLe S.A.hard mem m') (hopb:∀ t k qs args mem ps r m',allB (roC mem) args=true→S.A.ops (.buildSlice t k qs) args mem=some (ps,r,some m')→Keep mem m') (hopa:∀ op args mem ps r m',yr9 op=true→S.A.ops op args mem=some (ps,r,some m')→Keep mem m')
  (h:ybm S i recs base m c eff o=some (sv,some m',ps)) (hn:chOk o=true):SLe S.A.hard m m':=by
 rcases yb8 h with h1|⟨q,b,qs,h1,rfl,rfl⟩
 ·exact ymi hloc hopb hopa h1 hn
 ·exact ymi hloc hopb hopa h1 hn
theorem noH_all {mem:Mem β} {σ:Operand→Option SV}:∀ {l:List (Nat×Operand)} {us:List CV},allB (fun x=>roO mem (cvS (σ x.2))) l=true→mapO (fun x=>cvS (σ x)) (l.map (·.2))=some us→allB (roC mem) us=true
 |[],us,_,h=>by simp only [List.map_nil,mapO,Option.some.injEq] at h;subst h;rfl
 |x::l,us,hn,h=>by
  simp only [allB,zbs] at hn
  simp only [zay,mapO] at h
  split at h
  ·cases h
  ·rename_i y hy
   split at h
   ·cases h
   ·rename_i ys hys
    simp only [Option.some.injEq] at h
    subst h
    have h1:=hn.1
    rw [hy] at h1
    simp only [allB,zbs]
    exact ⟨h1,noH_all hn.2 hys⟩
theorem yqd {W:List Nat} {i:Nat} {recs:List SRec} {m m':Mem β} {c:List (Nat×Bool)} {eff:Bool} {o:Oper} {sv:SV} {ps:List Prop} (hloc:∀ f g,yhz f S.F=some g→∀ args mem ps r m',g args mem=some (ps,r,some m')→SLe S.A.hard mem m') (hopb:∀ t k qs args mem ps r m',allB (roC mem) args=true→S.A.ops (.buildSlice t k qs) args mem=some (ps,r,some m')→Keep mem m') (hopa:∀ op args mem ps r m',yr9 op=true→S.A.ops op args mem=some (ps,r,some m')→Keep mem m') (hapl:∀ t u v mem ps r m',S.A.app t [u,v] mem=some (ps,r,some m')→∀ j en,mem[j]? =some en→(∀ p,u=.one p→ycd p≠some j)→m'[j]? =some en) (host:∀ t x y p v mem ps r m',noHC v=true→S.A.ops (.store t x y) [.one p,v] mem=some (ps,r,some m')→∃ i,ycd p=some i∧∀ j en,mem[j]? =some en→j≠i→m'[j]? =some en)
  (h:ybm S i recs base m c eff o=some (sv,some m',ps)) (hn:ywo W recs base c o m=true):SLeX W S.A.hard m m':=by
 unfold ywo at hn
 split at hn
 ·rename_i ty x y hop
  split at hn
  ·rename_i p hp
   split at hn
   ·rename_i k hpl
    rw [zbs] at hn
    obtain ⟨hn,hnv⟩:=hn
    have key:∀ {sv:SV} {ps:List Prop},yb5 S recs base m c eff o=some (sv,some m',ps)→SLeX W S.A.hard m m':=fun {sv ps} h1=>by
     have fin:(∀ j en,m[j]? =some en→j≠k→m'[j]? =some en)→SLeX W S.A.hard m m':=fun hk j en hj hs hw=>hk j en hj fun e=>by subst e;rw [hn] at hw;cases hw
     unfold yb5 at h1
     rw [hop] at h1
     simp only [hp] at h1
     split at h1
     ·have hk:=(ydf h1).1
      unfold ycf at hk
      have hc:cvS (yax recs base c x)=some (.one p):=by
       unfold pvS at hp
       split at hp
       ·rename_i q hq;simp only [Option.some.injEq] at hp;subst hp;rw [hq];rfl
       ·cases hp
      have hops:(Op.store ty x y).operands.toList=[x,y]:=rfl
      rw [hops] at hk
      split at hk
      ·rename_i us hus
       simp only [mapO,hc] at hus
       split at hk
       ·simp at hk
       ·rename_i hg
        split at hk
        ·simp only [Option.some.injEq,Prod.mk.injEq] at hk
         obtain ⟨rfl,rfl,rfl⟩:=hk
         cases hy:cvS (yax recs base [] y) with
         |none=>rw [hy] at hus;cases hus
         |some v=>
          rw [hy] at hus
          simp only [Option.some.injEq] at hus
          subst hus
          rw [hy] at hnv
          obtain ⟨i',q1,q2⟩:=host _ _ _ _ _ _ _ _ _ hnv hg
          rw [hpl] at q1;cases q1
          exact fin q2
        ·cases hk
       ·cases hk
      ·cases hk
     ·split at h1
      ·rename_i i' off' u' hp' hu'
       simp only [Option.some.injEq] at hp'
       subst hp'
       simp only [ycd,Option.some.injEq] at hpl
       subst hpl
       split at h1
       ·rename_i m2 hst
        simp only [Option.some.injEq,Prod.mk.injEq] at h1
        obtain ⟨_,rfl,_⟩:=h1
        unfold yl1 at hst
        split at hst
        ·split at hst
         ·cases hst
         ·split at hst
          ·simp only [Option.some.injEq] at hst
           subst hst
           exact fin fun j en hj hne=>by rw [zao (Ne.symm hne)];exact hj
          ·cases hst
        ·split at hst
         ·cases hst
         ·split at hst
          ·simp only [Option.some.injEq] at hst
           subst hst
           exact fin fun j en hj hne=>by rw [zao (Ne.symm hne)];exact hj
          ·cases hst
        ·cases hst
       ·cases h1
      ·cases h1
    rcases yb8 h with h1|⟨q,b,qs,h1,rfl,rfl⟩
    ·exact key h1
    ·exact key h1
   ·cases hn
  ·cases hn
 ·rename_i t k qs hop
  have key:∀ {sv:SV} {ps:List Prop},yb5 S recs base m c eff o=some (sv,some m',ps)→SLeX W S.A.hard m m':=fun {sv ps} h1=>by
   unfold yb5 at h1
   rw [hop] at h1
   simp only at h1
   ·have hk:=h1
    try rw [hop] at hk
    unfold ycf at hk
    split at hk
    ·rename_i us hus
     have hn2:allB (roC m) us=true:=noH_all hn (by simpa [Op.operands] using hus)
     split at hk
     ·simp at hk
     ·rename_i hg
      split at hk
      ·simp only [Option.some.injEq,Prod.mk.injEq] at hk
       obtain ⟨rfl,rfl,rfl⟩:=hk
       exact ((hopb _ _ _ _ _ _ _ _ hn2 hg).sle _).x
      ·cases hk
     ·cases hk
    ·cases hk
  rcases yb8 h with h1|⟨q,b,qs,h1,rfl,rfl⟩
  ·exact key h1
  ·exact key h1
 ·rename_i xs ts hop
  split at hn
  ·rename_i t t' i hts hpl
   rw [zbs] at hn
   have htt:=eqb_eq.1 hn.1
   have key:∀ {sv:SV} {ps:List Prop},yb5 S recs base m c eff o=some (sv,some m',ps)→SLeX W S.A.hard m m':=fun {sv ps} h1=>by
    unfold yb5 at h1
    rw [hop] at h1
    simp only [hts] at h1
    split at h1
    ·rename_i x y t1 t2 hx ht
     simp only [List.cons.injEq,and_true] at ht
     obtain ⟨rfl,rfl⟩:=ht
     split at h1
     ·rename_i u v _ hu hv
      split at h1
      ·rename_i qs r m2 hA
       simp only [Option.some.injEq,Prod.mk.injEq] at h1
       obtain ⟨rfl,rfl,rfl⟩:=h1
       intro j en hj hs hw
       refine hapl _ _ _ _ _ _ _ hA j en hj fun p hp hpj=>?_
       have hpv:pvS (yax recs base [] x)=some p:=by
        unfold cvS at hu
        split at hu
        ·rename_i z hz
         simp only [Option.some.injEq] at hu
         subst hu
         subst hp
         rw [hz];rfl
        ·cases hu
       rw [hx] at hpl
       simp only [yrz,hpv,hpj,List.cons.injEq,and_true] at hpl
       subst hpl
       rw [hn.2] at hw;cases hw
      ·cases h1
     ·rename_i hne
      rw [hn.1] at hne
      cases hne
     ·cases h1
    ·cases h1
   rcases yb8 h with h1|⟨q,b,qs,h1,rfl,rfl⟩
   ·exact key h1
   ·exact key h1
  ·cases hn
 ·exact (ysm hloc hopb hopa h hn).x
theorem RecsOk.nil (i:Nat):RecsOk [] i:=⟨(fun _ h=>by cases h),List.Pairwise.nil⟩
structure RInv (l:List Oper) (recs:List SRec) (i:Nat):Prop where
 ok:RecsOk recs i
 dst:∀ r∈recs,∃ o,l[r.ix]? =some o∧o.dst=r.dst
 all:∀ j,j<i→∃ r∈recs,r.ix=j
theorem RInv.nil (l:List Oper):RInv l [] 0:=⟨RecsOk.nil 0,(fun _ h=>by cases h),fun j h=>absurd h (by omega)⟩
theorem RInv.cons {recs:List SRec} {i:Nat} (h:RInv l recs i) {o:Oper} (ho:l[i]? =some o) {c:List (Nat×Bool)} (hc:∀ x∈c,x.1<i) (sv:SV):RInv l (⟨i,o.dst,c,sv⟩::recs) (i+1):=by
 refine ⟨⟨fun r hr=>?_,List.pairwise_cons.2 ⟨fun r hr=>(h.ok.1 r hr).1,h.ok.2⟩⟩,fun r hr=>?_,fun j hj=>?_⟩
 ·rcases List.mem_cons.1 hr with rfl|hr
  ·exact ⟨Nat.lt_succ_self _,hc⟩
  ·exact ⟨Nat.lt_succ_of_lt (h.ok.1 r hr).1,(h.ok.1 r hr).2⟩
 ·rcases List.mem_cons.1 hr with rfl|hr
  ·exact ⟨o,ho,rfl⟩
  ·exact h.dst r hr
 ·by_cases he:j=i
  ·exact ⟨_,zal ..,he.symm⟩
  ·obtain ⟨r,hr,hx⟩:=h.all j (by omega)
   exact ⟨r,zak _ hr,hx⟩
theorem yfx {g:Nat} {r:SRec}:∀ {l:List SRec},yj4 g l=some r→r∈l∧r.ix=g
 |[],h=>by cases h
 |x::l,h=>by
  simp only [yj4] at h
  split at h
  ·rename_i hd
   simp only [Option.some.injEq] at h
   subst h
   exact ⟨zal ..,eqb_eq.1 hd⟩
  ·obtain ⟨h1,h2⟩:=yfx h
   exact ⟨zak _ h1,h2⟩
theorem yfb:∀ {l:List SRec},l.Pairwise (fun a b=>b.ix<a.ix)→∀ r∈l,∀ r'∈l,r.ix=r'.ix→r=r':=fun hp r hr r' hr' he=>by
 have h1:=ygi hp r hr
 have h2:=ygi hp r' hr'
 rw [he,h2] at h1
 exact (Option.some.inj h1).symm
theorem yn7 {recs:List SRec} {i:Nat} (h:RInv l recs i) {g:Option (Nat×Bool)} {c:List (Nat×Bool)} (hc:yil recs g=some (some c)):∀ x∈c,x.1<i:=by
 unfold yil at hc
 split at hc
 ·simp only [Option.some.injEq] at hc;subst hc;intro x hx;cases hx
 ·rename_i g' w
  split at hc
  ·cases hc
  ·rename_i r hr
   have key:c=(g',w)::r.ctx→∀ x∈c,x.1<i:=fun hcc=>by
    subst hcc
    obtain ⟨h1,h2⟩:=yfx hr
    have h3:=h.ok.1 r h1
    intro x hx
    rcases List.mem_cons.1 hx with rfl|hx
    ·show g'<i;omega
    ·have:=h3.2 x hx;omega
   split at hc
   ·split at hc
    ·split at hc
     ·split at hc
      ·simp only [Option.some.injEq] at hc
       subst hc
       obtain ⟨h1,h2⟩:=yfx hr
       exact fun x hx=>by have:=(h.ok.1 r h1).2 x hx;have:=(h.ok.1 r h1).1;omega
      ·simp at hc
     ·simp only [Option.some.injEq] at hc;exact key hc.symm
     ·simp at hc
     ·cases hc
    ·cases hc
   ·cases hc
def satO (recs:List SRec):Option (List (Nat×Bool))→Bool
 |some c=>sat recs c
 |none=>false
theorem ygd {recs:List SRec} {e:Env} {i:Nat} (h:RInv l recs i) {o:Oper} {co:Option (List (Nat×Bool))} (hc:yil recs o.guard=some co) {tmps:Array Value}
  (hs:∀ g w t,o.guard=some (g,w)→(l[g]?).bind (·.dst)=some t→ybb recs base e t (tmps.getD t undef)):Region.wanted o (yielded l.toArray tmps)=satO recs co:=by
 unfold yil at hc
 unfold Region.wanted
 split at hc
 ·rename_i hg
  simp only [Option.some.injEq] at hc
  subst hc
  rw [hg]
  rfl
 ·rename_i g w hg
  rw [hg]
  split at hc
  ·cases hc
  ·rename_i r hr
   have key:∀ (t:Nat) (r':SRec) (q:Bool),r.dst=some t→yas t recs=some r'→eqb r'.ix g=true→svB r.sv=some q→(yielded l.toArray tmps g==some w)=((q==w)&&sat recs r.ctx)∧yef recs g=q:=fun t r' q hdst hr' he hsv=>by
    obtain ⟨h1,h2⟩:=yfx hr
    obtain ⟨h3,h4⟩:=ycc t hr'
    have he:=eqb_eq.1 he
    have hrr:r'=r:=yfb h.ok.2 r' h3 r h1 (by omega)
    subst hrr
    obtain ⟨o',ho',hod⟩:=h.dst r' h1
    rw [h2] at ho'
    have hd:(l[g]?).bind (·.dst)=some t:=by rw [ho'];simp [hod,hdst]
    have hS:=hs g w t hg hd
    simp only [ybb,hr'] at hS
    have hb:yef recs g=q:=by rw [← h2];exact ylb h.ok.2 h1 hsv
    have hy:yielded l.toArray tmps g=(match tmps[t]? with|some (.bool b)=>some b|_=>none):=by
     unfold yielded
     have e:(l.toArray[g]?).bind (·.dst)=some t:=by simpa using hd
     rw [e]
     rfl
    refine ⟨?_,hb⟩
    rw [hy]
    cases hz:sat recs r'.ctx with
    |true=>
     have h5:=hS.1 hz
     have h6:tmps.getD t undef=.bool q:=svB_is hsv h5
     rw [zbr] at h6
     cases ht:tmps[t]? with
     |none=>rw [ht] at h6;simp [undef] at h6
     |some v=>rw [ht] at h6;simp at h6;subst h6;cases q<;>cases w<;>rfl
    |false=>
     have h6:=hS.2 hz
     rw [zbr] at h6
     cases ht:tmps[t]? with
     |none=>simp
     |some v=>rw [ht] at h6;simp at h6;subst h6;simp [undef]
   split at hc
   ·rename_i t hdst
    split at hc
    ·rename_i r' hr'
     split at hc
     ·rename_i q he hsv
      obtain ⟨k1,k2⟩:=key t r' q hdst hr' he (by rw [hsv];rfl)
      show (yielded l.toArray tmps g==some w)=_
      rw [k1]
      split at hc
      ·rename_i hbw
       have:=beqB_eq.1 hbw
       simp only [Option.some.injEq] at hc
       subst hc
       subst this
       simp only [satO]
       cases q<;>simp
      ·rename_i hbw
       simp only [Option.some.injEq] at hc
       subst hc
       simp only [satO]
       have:(q==w)=false:=by cases q<;>cases w<;>simp_all [beqB]
       rw [this];rfl
     ·rename_i q he hsv
      obtain ⟨k1,k2⟩:=key t r' q hdst hr' he (by rw [hsv];rfl)
      show (yielded l.toArray tmps g==some w)=_
      rw [k1]
      simp only [Option.some.injEq] at hc
      subst hc
      simp only [satO]
      cases w<;>simp [sat,k2]
     ·rename_i xs he hsv
      simp only [Option.some.injEq] at hc
      subst hc
      show (yielded l.toArray tmps g==some w)=false
      obtain ⟨h1,h2⟩:=yfx hr
      obtain ⟨h3,h4⟩:=ycc t hr'
      have he:=eqb_eq.1 he
      have hrr:r'=r:=yfb h.ok.2 r' h3 r h1 (by omega)
      subst hrr
      obtain ⟨o',ho',hod⟩:=h.dst r' h1
      rw [h2] at ho'
      have hd:(l[g]?).bind (·.dst)=some t:=by rw [ho'];simp [hod,hdst]
      have hS:=hs g w t hg hd
      simp only [ybb,hr'] at hS
      have hy:yielded l.toArray tmps g=(match tmps[t]? with|some (.bool b)=>some b|_=>none):=by
       unfold yielded
       have e:(l.toArray[g]?).bind (·.dst)=some t:=by simpa using hd
       rw [e]
       rfl
      rw [hy]
      have htu:∃ ys,tmps.getD t undef=.tuple ys:=by
       cases hz:sat recs r'.ctx with
       |true=>
        have h5:=hS.1 hz
        rw [hsv] at h5
        exact ⟨xs,h5⟩
       |false=>exact ⟨_,hS.2 hz⟩
      obtain ⟨ys,hys⟩:=htu
      rw [zbr] at hys
      cases ht:tmps[t]? with
      |none=>rfl
      |some v=>rw [ht] at hys;simp at hys;subst hys;rfl
     ·cases hc
    ·cases hc
   ·cases hc
structure FrOk (recs:List SRec) (base:List (Nat×SV)) (e:Env) (a:Act) (sz:Nat):Prop where
 defers:a.defers=[]
 size:a.tmps.size=sz
 slot:∀ t,ybb recs base e t (a.tmps.getD t undef)
theorem FrOk.op {recs:List SRec} {e:Env} {a:Act} (h:FrOk recs base e a sz) (x:Operand):OpIs recs base e x (a.eval x):=by
 cases x with
 |tmp t=>exact h.slot t
 |const v=>rfl
 |global g=>rfl
 |func f=>rfl
theorem ylp {t:Nat} {r:SRec} {recs:List SRec} (h:r.dst≠some t):yas t (r::recs)=yas t recs:=by
 simp only [yas]
 cases hd:ylt t r.dst with
 |false=>rfl
 |true=>
  exfalso
  unfold ylt at hd
  split at hd
  ·cases hd
  ·rename_i u hu
   exact h (by rw [hu,eqb_eq.1 hd])
theorem ylq {t:Nat} {r:SRec} {recs:List SRec} (h:r.dst=some t):yas t (r::recs)=some r:=by
 simp only [yas,h,ylt,eqb_eq.2 rfl]
theorem FrOk.step {recs:List SRec} {e e':Env} {a:Act} {i:Nat} (hI:RInv l recs i) (h:FrOk recs base e a sz) (hg:Grows e e') {o:Oper} {c:List (Nat×Bool)} (hc:∀ x∈c,x.1<i) {sv:SV} {v:Value}
  (ht:∀ t,o.dst=some t→t<sz) (hv:(sat recs c=true→sv.is e' v)∧(sat recs c=false→v=undef)):FrOk (⟨i,o.dst,c,sv⟩::recs) base e' (a.put o.dst v) sz:=by
 refine ⟨by cases o.dst<;>exact h.defers,by rw [← h.size];cases o.dst<;>simp [Act.put],fun t=>?_⟩
 by_cases hd:o.dst=some t
 ·have hr:yas t (⟨i,o.dst,c,sv⟩::recs)=some ⟨i,o.dst,c,sv⟩:=ylq hd
  simp only [ybb,hr]
  have ee:(a.put o.dst v).tmps.getD t undef=v:=by
   have:=ht t hd
   rw [← h.size] at this
   rw [hd]
   simp [Act.put,this]
  rw [ee,yhk (fun x hx=>hc x hx)]
  exact hv
 ·have hr:yas t (⟨i,o.dst,c,sv⟩::recs)=yas t recs:=ylp hd
  have ee:(a.put o.dst v).tmps.getD t undef=a.tmps.getD t undef:=by
   cases hdd:o.dst with
   |none=>rfl
   |some u=>
    have hne:u≠t:=fun e=>hd (by rw [hdd,e])
    simp only [Act.put,zbr]
    rw [Array.getElem?_setIfInBounds_ne hne]
  rw [ee]
  have:=h.slot t
  simp only [ybb,hr] at this ⊢
  split at this
  ·rename_i r hrr
   rw [yhk (fun x hx=>by
    have h1:=hI.ok.1 r (ycc t hrr).1
    have h2:=h1.2 x hx
    show x.1<i
    omega)]
   exact ⟨fun hs=>SV.is_mono hg (this.1 hs),this.2⟩
  ·split at this
   ·exact SV.is_mono hg this
   ·exact this
theorem ydn:∀ (os:List Oper) (i:Nat) (recs:List SRec) (mem:Mem β) (ver:Nat) (ps:List Prop) {r:List SRec×Mem β×Nat×List Prop},ybv S base pn sz os i recs mem ver ps=some r→∀ p∈ps,p∈r.2.2.2
 |[],_,_,_,_,_,r,h,p,hp=>by simp only [ybv,Option.some.injEq] at h;subst h;exact hp
 |o::os,i,recs,mem,ver,ps,r,h,p,hp=>by
  simp only [ybv,yak] at h
  split at h
  ·cases h
  ·split at h
   ·cases h
   ·exact ydn os _ _ _ _ _ h p hp
   ·split at h
    ·cases h
    ·exact ydn os _ _ _ _ _ h p (zag _ hp)
    ·exact ydn os _ _ _ _ _ h p (zag _ hp)
theorem ydw {b:Bool} (hb:b=true):∀ {qs:List Prop},(∀ p∈yme b qs,p)→∀ q∈qs,q
 |[],_,q,hq=>by cases hq
 |p::ps,h,q,hq=>by
  rcases List.mem_cons.1 hq with rfl|hq
  ·exact h _ (zal ..) hb
  ·exact ydw hb (fun r hr=>h r (zak _ hr)) q hq
theorem ygt {recs:List SRec} {c:List (Nat×Bool)} {qs:List Prop} (hc:sat recs c=true) (h:∀ p∈askP recs c qs,p):∀ q∈qs,q:=by
 unfold askP at h
 split at h
 ·intro q hq;cases hq
 ·exact h
 ·exact ydw hc h
theorem dst_le {o:Oper} (h:(match o.dst with|none=>true|some t=>leb (t+1) sz)=true):∀ t,o.dst=some t→t<sz:=fun t ht=>by
 rw [ht] at h
 have h2:leb (t+1) sz=true:=h
 exact leb_le.1 h2
theorem ydc (hS:SyOk S I W0 G) {Q:Exit→Act→World→Prop}:∀ (os:List Oper) (i:Nat) (recs:List SRec) (mem:Mem β) (ver:Nat) (ps:List Prop) {recs':List SRec} {mem':Mem β} {ver':Nat} {ps':List Prop} {a:Act} {w:World} {e:Env},
  ybv S base pn sz os i recs mem ver ps=some (recs',mem',ver',ps')→(∀ (j:Nat) (o:Oper),os[j]? =some o→l[i+j]? =some o)→RInv l recs i→FrOk recs base e a sz→MemOk W0 G I w e mem→(∀ p∈ps',p)→
  (∀ e' a' w',Grows e e'→FrOk recs' base e' a' sz→MemOk W0 G I w' e' mem'→Q .normal a' w')→wpList S.P l.toArray Q os a w
 |[],i,recs,mem,ver,ps,recs',mem',ver',ps',a,w,e,h,hl,hI,hf,hM,hps,hend=>by
  simp only [ybv,Option.some.injEq,Prod.mk.injEq] at h
  obtain ⟨rfl,rfl,rfl,rfl⟩:=h
  exact wpList_nil (hend e a w (Grows.refl e) hf hM)
 |o::os,i,recs,mem,ver,ps,recs',mem',ver',ps',a,w,e,h,hl,hI,hf,hM,hps,hend=>by
  simp only [ybv,yak] at h
  split at h
  ·cases h
  ·rename_i hd
   have hd:=dst_le hd
   have ho:l[i]? =some o:=by simpa using hl 0 o rfl
   have hl':∀ (j:Nat) (o':Oper),os[j]? =some o'→l[i+1+j]? =some o':=fun j o' hj=>by
    have:=hl (j+1) o' (by simpa using hj)
    rwa [show i+(j+1)=i+1+j by omega] at this
   split at h
   ·cases h
   ·rename_i hc
    have hw:=ygd (base:=base) (e:=e) hI hc (tmps:=a.tmps) (fun g w t _ _=>hf.slot t)
    refine wpList_step fun K hK=>?_
    rw [hw,if_neg (show ¬ satO recs none=true from by simp [satO])]
    refine hK _ _ ?_
    exact ydc hS os (i+1) _ _ _ _ h hl' (hI.cons ho (c:=[]) (fun x hx=>by cases hx) _) (hf.step hI (Grows.refl e) (c:=[]) (fun x hx=>by cases hx) hd ⟨fun _=>rfl,fun _=>rfl⟩) hM hps hend
   ·rename_i c hc
    have hlt:=yn7 hI hc
    have hw:=ygd (base:=base) (e:=e) hI hc (tmps:=a.tmps) (fun g w t _ _=>hf.slot t)
    split at h
    ·cases h
    ·rename_i sv qs hev
     refine wpList_step fun K hK=>?_
     rw [hw]
     by_cases hs:sat recs c=true
     ·rw [if_pos (show satO recs (some c)=true from hs)]
      refine yhy rfl (Post:=fun v w'=>Ext w w'∧sv.is e v) (by unfold yey;exact yed hS hM hI.ok.2 hs (fun x _=>hf.op x) hev (ygt hs fun p hp=>hps p (ydn os _ _ _ _ _ h p (zah _ hp)))) fun v w' ⟨h1,h2⟩=>hK _ _ ?_
      exact ydc hS os (i+1) _ _ _ _ h hl' (hI.cons ho hlt sv) (hf.step hI (Grows.refl e) hlt hd ⟨(fun _=>h2),(fun h=>by rw [hs] at h;cases h)⟩) (hM.ext h1) hps hend
     ·rw [if_neg (show ¬ satO recs (some c)=true from hs)]
      have hs:sat recs c=false:=by simpa using hs
      refine hK _ _ ?_
      exact ydc hS os (i+1) _ _ _ _ h hl' (hI.cons ho hlt sv) (hf.step hI (Grows.refl e) hlt hd ⟨(fun h=>by rw [hs] at h;cases h),fun _=>rfl⟩) hM hps hend
    ·rename_i sv m2 qs hev
     obtain ⟨_,hc0⟩:=yf6 hev
     refine wpList_step fun K hK=>?_
     rw [hw]
     subst hc0
     have hs:sat recs []=true:=rfl
     rw [if_pos (show satO recs (some [])=true from rfl)]
     refine yhy rfl (Post:=fun v w'=>∃ e',Grows e e'∧MemOk W0 G I w' e' m2∧sv.is e' v) (by unfold yey;exact yk0 hS hM hs (fun x _=>hf.op x) hev (ygt hs fun p hp=>hps p (ydn os _ _ _ _ _ h p (zah _ hp)))) fun v w' ⟨e',hg,h1,h2⟩=>hK _ _ ?_
     exact ydc hS os (i+1) _ _ _ _ h hl' (hI.cons ho hlt sv) (hf.step hI hg hlt hd ⟨(fun _=>h2),(fun h=>by cases h)⟩) h1 hps fun e2 a2 w2 hg2=>hend e2 a2 w2 (hg.trans hg2)
end
section
variable {β:Type} {S:Sy β} {I:ObI β} {W0:World} {G:Nat→Prop} {base:List (Nat×SV)} {l:List Oper} {n pn sz:Nat}
theorem yd9:∀ (xs ys:List Oper) (i:Nat) (recs:List SRec) (mem:Mem β) (ver:Nat) (ps:List Prop),ybv S base pn sz (xs++ys) i recs mem ver ps=
  (match ybv S base pn sz xs i recs mem ver ps with|none=>none|some (r,b,v,p)=>ybv S base pn sz ys (i+xs.length) r b v p)
 |[],ys,i,recs,mem,ver,ps=>by simp [ybv]
 |o::xs,ys,i,recs,mem,ver,ps=>by
  simp only [List.cons_append,ybv,yak,zax]
  rw [show i+(xs.length+1)=i+1+xs.length by omega]
  split
  ·rfl
  ·split
   ·rfl
   ·exact yd9 xs ys _ _ _ _ _
   ·split
    ·rfl
    ·exact yd9 xs ys _ _ _ _ _
    ·exact yd9 xs ys _ _ _ _ _
def Step (S:Sy β) (base:List (Nat×SV)) (l:List Oper) (recsN:List SRec) (mem:Mem β) (ps':List Prop) (sz i:Nat) (o:Oper):Prop:=
 ∃ recs co c sv qs newer,RInv l recs i∧yil recs o.guard=some co∧(∀ x∈c,x.1<i)∧((co=none∧c=[]∧sv=svV undef)∨(co=some c∧ybm S i recs base mem c false o=some (sv,none,qs)))∧(∀ q∈askP recs c qs,q∈ps')∧recsN=newer++(⟨i,o.dst,c,sv⟩::recs)∧(∀ r∈newer,i<r.ix)∧∀ t,o.dst=some t→t<sz
theorem yjy:∀ (xs:List Oper) (i:Nat) (recs:List SRec) (mem:Mem β) (ver:Nat) (ps:List Prop) {recsN:List SRec} {mem':Mem β} {ver':Nat} {ps':List Prop},ybv S base n sz xs i recs mem ver ps=some (recsN,mem',ver',ps')→i+xs.length≤n→RInv l recs i→
  (∀ (j:Nat) (o:Oper),xs[j]? =some o→l[i+j]? =some o)→mem'=mem∧RInv l recsN (i+xs.length)∧(∃ newer,recsN=newer++recs∧∀ r∈newer,i≤r.ix)∧∀ (j:Nat) (o:Oper),xs[j]? =some o→Step S base l recsN mem ps' sz (i+j) o
 |[],i,recs,mem,ver,ps,recsN,mem',ver',ps',h,_,hI,_=>by
  simp only [ybv,Option.some.injEq,Prod.mk.injEq] at h
  obtain ⟨rfl,rfl,rfl,rfl⟩:=h
  exact ⟨rfl,hI,⟨[],rfl,(fun r hr=>by cases hr)⟩,fun j o ho=>by simp at ho⟩
 |o::xs,i,recs,mem,ver,ps,recsN,mem',ver',ps',h,hn,hI,hl=>by
  simp only [zax] at hn
  simp only [ybv,yak] at h
  split at h
  ·cases h
  ·rename_i hd
   have hd:=dst_le hd
   have ho:l[i]? =some o:=by simpa using hl 0 o rfl
   have hl':∀ (j:Nat) (o':Oper),xs[j]? =some o'→l[i+1+j]? =some o':=fun j o' hj=>by
    have:=hl (j+1) o' (by simpa using hj)
    rwa [show i+(j+1)=i+1+j by omega] at this
   have fin:∀ (co:Option (List (Nat×Bool))) (c:List (Nat×Bool)) (sv:SV) (qs:List Prop),(∀ x∈c,x.1<i)→yil recs o.guard=some co→((co=none∧c=[]∧sv=svV undef)∨(co=some c∧ybm S i recs base mem c false o=some (sv,none,qs)))→
     ybv S base n sz xs (i+1) (⟨i,o.dst,c,sv⟩::recs) mem ver (askP recs c qs++ps)=some (recsN,mem',ver',ps')→
     mem'=mem∧RInv l recsN (i+(o::xs).length)∧(∃ newer,recsN=newer++recs∧∀ r∈newer,i≤r.ix)∧∀ (j:Nat) (o':Oper),(o::xs)[j]? =some o'→Step S base l recsN mem ps' sz (i+j) o':=fun co c sv qs hlt hco hev h=>by
    have hps:=ydn xs _ _ _ _ _ h
    obtain ⟨rfl,h1,⟨newer,h2,h3⟩,h4⟩:=yjy xs (i+1) _ _ _ _ h (by omega) (hI.cons ho hlt sv) hl'
    refine ⟨rfl,by rw [zax,show i+(xs.length+1)=i+1+xs.length by omega];exact h1,⟨newer++[⟨i,o.dst,c,sv⟩],by rw [h2];simp,fun r hr=>?_⟩,fun j o' hj=>?_⟩
    ·rcases zbe.1 hr with hr|hr
     ·have:=h3 r hr;omega
     ·simp at hr;subst hr;exact zbm _
    ·cases j with
     |zero=>
      simp at hj
      subst hj
      exact ⟨recs,co,c,sv,qs,newer,hI,hco,hlt,hev,fun q hq=>hps q (zah _ hq),h2,fun r hr=>by have:=h3 r hr;omega,hd⟩
     |succ j=>
      have:=h4 j o' (by simpa using hj)
      rwa [show i+1+j=i+(j+1) by omega] at this
   split at h
   ·cases h
   ·rename_i hc
    exact fin none [] (svV undef) [] (fun x hx=>by cases hx) hc (.inl ⟨rfl,rfl,rfl⟩) h
   ·rename_i c hc
    have hlt:=yn7 hI hc
    have hle:leb n i=false:=by
     cases hb:leb n i with
     |false=>rfl
     |true=>have:=leb_le.1 hb;omega
    rw [hle] at h
    split at h
    ·cases h
    ·rename_i sv qs hev
     exact fin (some c) c sv qs hlt hc (.inr ⟨rfl,hev⟩) h
    ·rename_i sv m2 qs hev
     have:=(yf6 hev).1
     cases this
theorem yeq {rest:List SRec} {c:List (Nat×Bool)}:∀ (newer:List SRec),(∀ r∈newer,∀ x∈c,x.1<r.ix)→sat (newer++rest) c=sat rest c
 |[],_=>rfl
 |r::newer,h=>by
  rw [List.cons_append,yhk (h r (zal ..))]
  exact yeq newer fun r' hr'=>h r' (zak _ hr')
theorem yi3 {t:Nat}:∀ {l:List Oper} {k:Nat} {r:Option Nat},wrt t l k r=none→r=none∧∀ o∈l,o.dst≠some t
 |[],k,r,h=>⟨h,fun o ho=>by cases ho⟩
 |o::os,k,r,h=>by
  obtain ⟨h1,h2⟩:=yi3 (l:=os) h
  cases hd:o.dst with
  |none=>
   rw [hd] at h1
   exact ⟨h1,fun o' ho'=>by
    rcases List.mem_cons.1 ho' with rfl|ho'
    ·rw [hd];simp
    ·exact h2 o' ho'⟩
  |some u=>
   rw [hd] at h1
   simp only at h1
   split at h1
   ·cases h1
   ·rename_i hne
    refine ⟨h1,fun o' ho'=>?_⟩
    rcases List.mem_cons.1 ho' with rfl|ho'
    ·rw [hd]
     intro e
     simp only [Option.some.injEq] at e
     subst e
     exact hne (Nat.beq_refl _)
    ·exact h2 o' ho'
theorem yi2 {t j:Nat}:∀ {l:List Oper} {k:Nat} {r:Option Nat},wrt t l k r=some j→r=some j∨∃ (j':Nat) (o:Oper),j=k+j'∧l[j']? =some o∧o.dst=some t
 |[],k,r,h=>.inl h
 |o::os,k,r,h=>by
  rcases yi2 (l:=os) h with h1|⟨j',o',h1,h2,h3⟩
  ·cases hd:o.dst with
   |none=>rw [hd] at h1;exact .inl h1
   |some u=>
    rw [hd] at h1
    simp only at h1
    split at h1
    ·rename_i he
     simp only [Option.some.injEq] at h1
     exact .inr ⟨0,o,by omega,rfl,by rw [hd,Nat.eq_of_beq_eq_true he]⟩
    ·exact .inl h1
  ·exact .inr ⟨j'+1,o',by omega,by simpa using h2,h3⟩
theorem memN_iff {d:Nat}:∀ {l:List Nat},memN d l=true↔d∈l
 |[]=>by simp [memN]
 |x::l=>by
  simp only [memN,zbt,memN_iff (l:=l),List.mem_cons,eqb_eq]
  constructor
  ·rintro (h|h)
   ·exact .inl h.symm
   ·exact .inr h
  ·rintro (h|h)
   ·exact .inl h.symm
   ·exact .inr h
theorem ys1 {α:Type} {f:α→Bool}:∀ {l:List α},anyB f l=true→∃ x∈l,f x=true
 |[],h=>by cases h
 |x::l,h=>by
  simp only [anyB,zbt] at h
  rcases h with h|h
  ·exact ⟨x,zal ..,h⟩
  ·obtain ⟨y,hy,hf⟩:=ys1 h
   exact ⟨y,zak _ hy,hf⟩
structure RfAt (l:List Oper) (p:Nat) (o:Oper):Prop where
 sel:∀ cs b,o.op≠.select cs b
 before:∀ e∈o.after,Region.binds .any e=true→e.on<p
 bound:∀ (j:Nat) (oj:Oper) (d:Nat),j<p→l[j]? =some oj→oj.dst=some d→d∈o.looksAt l.toArray→∃ e∈o.after,Region.binds .any e=true∧e.on=j
 fresh:∀ (d:Nat),o.dst=some d→(∀ (j:Nat) (oj:Oper),j≤p→l[j]? =some oj→d ∉ oj.looksAt l.toArray)∧∀ (j:Nat) (oj:Oper),j<p→l[j]? =some oj→oj.dst≠some d
theorem yj2:∀ (os:List Oper) (i:Nat) (ws:List (Nat×Nat)) (lk:List Nat),rfGo l.toArray os i ws lk=true→(∀ (j:Nat) (o:Oper),os[j]? =some o→l[i+j]? =some o)→
  (∀ (j:Nat) (oj:Oper) (d:Nat),j<i→l[j]? =some oj→oj.dst=some d→wget d ws=some j)→(∀ (j:Nat) (oj:Oper) (t:Nat),j<i→l[j]? =some oj→t∈oj.looksAt l.toArray→t∈lk)→
  ∀ (j:Nat) (o:Oper),os[j]? =some o→RfAt l (i+j) o
 |[],i,ws,lk,_,_,_,_,j,o,ho=>by simp at ho
 |o::os,i,ws,lk,h,hl,hw,hk,j,o',ho'=>by
  simp only [rfGo,appN_eq,yak,List.append_nil,zbs] at h
  obtain ⟨⟨h1,h2⟩,h3,h4⟩:=h
  have hoi:l[i]? =some o:=by simpa using hl 0 o rfl
  have hl':∀ (j:Nat) (o':Oper),os[j]? =some o'→l[i+1+j]? =some o':=fun j o' hj=>by
   have:=hl (j+1) o' (by simpa using hj)
   rwa [show i+(j+1)=i+1+j by omega] at this
  have hk':∀ (j:Nat) (oj:Oper) (t:Nat),j<i+1→l[j]? =some oj→t∈oj.looksAt l.toArray→t∈o.looksAt l.toArray++lk:=fun j oj t hj hoj ht=>by
   by_cases he:j=i
   ·subst he;rw [hoi] at hoj;cases hoj;exact zah _ ht
   ·exact zag _ (hk j oj t (by omega) hoj ht)
  have hat:(∀ d,o.dst=some d→memN d (o.looksAt l.toArray++lk)=false∧noneB (wget d ws)=true)→RfAt l i o:=fun hd=>by
   refine ⟨fun cs b hcs=>by rw [hcs] at h1;simp [isSel] at h1,fun e he hb=>?_,fun j oj d hj hoj hd' ht=>?_,fun d hd'=>⟨fun j oj hj hoj ht=>?_,fun j oj hj hoj hdj=>?_⟩⟩
   ·have:=yct h2 e (by simpa using he)
    rw [hb] at this
    simp only [Bool.not_true,Bool.false_or] at this
    exact leb_le.1 this
   ·have:=yct h3 d ht
    rw [hw j oj d hj hoj hd'] at this
    obtain ⟨e,he,hf⟩:=ys1 this
    rw [zbs] at hf
    exact ⟨e,by simpa using he,hf.1,eqb_eq.1 hf.2⟩
   ·have h5:=(hd d hd').1
    have h6:=hk' j oj d (by omega) hoj ht
    rw [← memN_iff,h5] at h6
    cases h6
   ·have h5:=(hd d hd').2
    rw [hw j oj d hj hoj hdj] at h5
    cases h5
  cases hd:o.dst with
  |none=>
   rw [hd] at h4
   simp only at h4
   cases j with
   |zero=>
    simp at ho';subst ho'
    exact hat fun d hd'=>by rw [hd] at hd';cases hd'
   |succ j=>
    have:=yj2 os (i+1) ws _ h4 hl' (fun j oj d hj hoj hdj=>by
     by_cases he:j=i
     ·subst he;rw [hoi] at hoj;cases hoj;rw [hd] at hdj;cases hdj
     ·exact hw j oj d (by omega) hoj hdj) hk' j o' (by simpa using ho')
    rwa [show i+1+j=i+(j+1) by omega] at this
  |some d=>
   rw [hd] at h4
   simp only [zbs] at h4
   obtain ⟨⟨h5,h6⟩,h7⟩:=h4
   have h5:memN d (o.looksAt l.toArray++lk)=false:=by simpa using h5
   cases j with
   |zero=>
    simp at ho';subst ho'
    exact hat fun d' hd'=>by rw [hd] at hd';cases hd';exact ⟨h5,h6⟩
   |succ j=>
    have:=yj2 os (i+1) ((d,i)::ws) _ h7 hl' (fun j oj d' hj hoj hdj=>by
     simp only [wget]
     by_cases he:j=i
     ·subst he;rw [hoi] at hoj;cases hoj;rw [hd] at hdj;cases hdj;rw [eqb_eq.2 rfl]
     ·have hj':=hw j oj d' (by omega) hoj hdj
      rw [ymk (fun e=>by
       subst e
       rw [hj'] at h6
       cases h6)]
      exact hj') hk' j o' (by simpa using ho')
    rwa [show i+1+j=i+(j+1) by omega] at this
theorem yth (h:rgF l=true):RgSpec l l.length:=by
 have hat:∀ (j:Nat) (o:Oper),l[j]? =some o→RfAt l j o:=fun j o ho=>by
  have:=yj2 l 0 [] [] h (fun j o hj=>by rw [zbo];exact hj) (fun j oj d hj=>absurd hj (by omega)) (fun j oj t hj=>absurd hj (by omega)) j o ho
  rwa [zbo] at this
 refine ⟨fun j o cs b ho=>(hat j o (by simpa using ho)).sel cs b,zbm _,.inl rfl,?_,fun i o _ ho e he hb=>(hat i o ho).before e he hb,fun i j o oj hi hj hij ho hoj d hd hdj=>?_,fun i j o oj hi hj ho hoj=>?_⟩
 ·rw [Nat.sub_self]
  simp only [Region.seqB]
  cases hr:Region.ready .any l.toArray ((List.range l.length).map (fun i=>decide (i<l.length))).toArray with
  |nil=>rfl
  |cons i is=>
   exfalso
   have:i∈Region.ready .any l.toArray ((List.range l.length).map (fun i=>decide (i<l.length))).toArray:=by rw [hr];exact zal ..
   obtain ⟨h1,o,ho,_⟩:=mem_ready.1 this
   have hlt:i<l.length:=by simpa using (zbp.1 ho).1
   simp [hlt] at h1
 ·exact ((hat j oj hoj).fresh d hdj).2 i o hij ho hd
 ·by_cases hij:j<i
  ·by_cases hm:∃ d,oj.dst=some d∧d∈o.looksAt l.toArray
   ·obtain ⟨d,hd,ht⟩:=hm
    exact .inl ((hat i o ho).bound j oj d hij hoj hd ht)
   ·exact .inr fun d hd ht=>hm ⟨d,hd,ht⟩
  ·exact .inr fun d hd=>((hat j oj hoj).fresh d hd).1 i o (by omega) ho
def RecV (recsN:List SRec) (e:Env) (i:Nat) (v:Value) (_:World):Prop:=∃ r∈recsN,r.ix=i∧(sat recsN r.ctx=true→r.sv.is e v)∧(sat recsN r.ctx=false→v=undef)
theorem yo4 (hS:SyOk S I W0 G) {id:Nat} {Q:Exit→Act→World→Prop} {recs':List SRec} {mem mem':Mem β} {ver ver':Nat} {ps':List Prop} {a:Act} {w:World} {e:Env}
  (RS:RgSpec l n) (h:ybv S base n sz l 0 [] mem ver []=some (recs',mem',ver',ps')) (hf:FrOk [] base e a sz) (hM:MemOk W0 G I w e mem) (hps:∀ p∈ps',p)
  (hend:∀ e' a' w',Grows e e'→FrOk recs' base e' a' sz→MemOk W0 G I w' e' mem'→Q .normal a' w'):(Code.region id l.toArray true).wp S.P Q a w:=by
 have hle:=RS.le
 have hlen:(l.take n).length=n:=by simp;omega
 have hsp:=yd9 (S:=S) (base:=base) (pn:=n) (sz:=sz) (l.take n) (l.drop n) 0 [] mem ver []
 rw [List.take_append_drop,h] at hsp
 split at hsp
 ·cases hsp
 ·rename_i recsN memN verN psN hN
  rw [hlen,zbo] at hsp
  have htake:∀ (j:Nat) (o:Oper),(l.take n)[j]? =some o→l[0+j]? =some o:=fun j o hj=>by
   rw [zai] at hj
   split at hj
   ·rw [zbo];exact hj
   ·cases hj
  obtain ⟨hbl,hIN,_,hst⟩:=yjy (l:=l) (l.take n) 0 [] mem ver [] hN (by rw [hlen];omega) (RInv.nil l) htake
  subst hbl
  rw [hlen,zbo] at hIN
  have hpsN:∀ p∈psN,p:=fun p hp=>hps p (ydn (l.drop n) n recsN memN verN psN hsp.symm p hp)
  have hstep:∀ (i:Nat) (o:Oper),i<n→l[i]? =some o→Step S base l recsN memN psN sz i o:=fun i o hi ho=>by
   have:=hst i o (by rw [zai,if_pos hi];exact ho)
   rwa [zbo] at this
  have hdst:DstOk (l.take n) a:=fun o ho u hu=>by
   obtain ⟨i,hi,he⟩:=zaz ho
   have h1:(l.take n)[i]? =some o:=by rw [zaa hi,he]
   obtain ⟨_,_,_,_,_,_,_,_,_,_,_,_,_,h2⟩:=hst i o h1
   rw [hf.size]
   exact h2 u hu
  -- what a slot holds
  have huniq:∀ (i j:Nat) (o o':Oper) (t:Nat),i<n→j<n→l[i]? =some o→l[j]? =some o'→o.dst=some t→o'.dst=some t→i=j:=fun i j o o' t hi hj ho ho' hd hd'=>by
   rcases Nat.lt_trichotomy i j with hlt|he|hlt
   ·exact absurd hd' (RS.apart i j o o' hi hj hlt ho ho' t hd)
   ·exact he
   ·exact absurd hd (RS.apart j i o' o hj hi hlt ho' ho t hd')
  have hlook:∀ (vals:Nat→Value) (t:Nat) (recs:List SRec) (newer:List SRec) (i:Nat),RInv l recs i→i≤n→recsN=newer++recs→(∀ r∈newer,i≤r.ix)→
    (∀ (j:Nat) (o:Oper),j<n→l[j]? =some o→o.dst=some t→j<i∧RecV recsN e j (vals j) w)→ybb recs base e t ((full (l.take n) vals a).tmps.getD t undef):=fun vals t recs newer i hI hin heq hnew hV=>by
   rw [yf4 hdst]
   unfold look
   cases hw:wrt t (l.take n) 0 none with
   |none=>
    have hno:=(yi3 hw).2
    have hrd:yas t recs=none:=by
     cases hr:yas t recs with
     |none=>rfl
     |some r=>
      obtain ⟨h1,h2⟩:=ycc t hr
      obtain ⟨o,ho,hd⟩:=hI.dst r h1
      have hlt:=(hI.ok.1 r h1).1
      have hmem:o∈l.take n:=zaj (i:=r.ix) (by rw [zai,if_pos (by omega)];exact ho)
      exact absurd (hd.trans h2) (hno o hmem)
    have:=hf.slot t
    simp only [ybb,yas] at this
    simp only [ybb,hrd]
    exact this
   |some j=>
    rcases yi2 hw with h1|⟨j',o,h1,h2,h3⟩
    ·cases h1
    ·have hjj:j=j':=by omega
     subst hjj
     rw [zai] at h2
     split at h2
     ·rename_i hjn
      obtain ⟨hji,r,hr,hri,hs1,hs2⟩:=hV j o hjn h2 h3
      have hrr:r∈recs:=by
       rw [heq] at hr
       rcases zbe.1 hr with hr|hr
       ·have:=hnew r hr;omega
       ·exact hr
      have hrd:r.dst=some t:=by
       obtain ⟨o',ho',hd'⟩:=hI.dst r hrr
       rw [hri,h2] at ho'
       cases ho'
       rw [← hd'];exact h3
      have hrec:yas t recs=some r:=by
       cases hr':yas t recs with
       |none=>
        exfalso
        clear hs1 hs2 heq hnew hr hV hI
        induction recs with
        |nil=>cases hrr
        |cons x xs ih=>
         simp only [yas] at hr'
         split at hr'
         ·cases hr'
         ·rename_i hb
          rcases List.mem_cons.1 hrr with rfl|hrr
          ·rw [hrd] at hb
           simp only [ylt] at hb
           rw [eqb_eq.2 rfl] at hb
           cases hb
          ·exact ih hrr hr'
       |some r'=>
        obtain ⟨g1,g2⟩:=ycc t hr'
        obtain ⟨o',ho',hd'⟩:=hI.dst r' g1
        have hlt:=(hI.ok.1 r' g1).1
        have:=huniq r'.ix j o' o t (by omega) hjn ho' h2 (hd'.trans g2) h3
        exact congrArg some (yfb hI.ok.2 r' g1 r hrr (by omega))
      simp only [ybb,hrec]
      have hsat:sat recsN r.ctx=sat recs r.ctx:=by
       rw [heq]
       refine yeq newer fun r' hr' x hx=>?_
       have q1:=hnew r' hr'
       have q2:=hI.ok.1 r hrr
       have q3:=q2.2 x hx
       omega
      rw [hsat] at hs1 hs2
      exact ⟨hs1,hs2⟩
     ·cases h2
  refine yhd n n (fun _ w'=>Ext w w') Ext (RecV recsN e) hS.mix RS (Ext.refl _).drew (fun _ w' _=>Ext.refl w') (fun _ _ _ h hx=>h.trans hx) (fun _ i v w1 w2 _ _ hV _=>hV) ?_ ?_
  ·have key:∀ (xs:List Oper) (k:Nat),(∀ (j:Nat) (o:Oper),xs[j]? =some o→RgOp S.P l n n (fun _ w'=>Ext w w') Ext (RecV recsN e) a (k+j) o)→RgOps S.P l n n (fun _ w'=>Ext w w') Ext (RecV recsN e) a k xs:=by
    intro xs
    induction xs with
    |nil=>intro k _;exact RgOps.done
    |cons o xs ih=>
     intro k hk
     refine RgOps.mk (by simpa using hk 0 o rfl) (ih (k+1) fun j o' hj=>?_)
     have:=hk (j+1) o' (by simpa using hj)
     rwa [show k+(j+1)=k+1+j by omega] at this
   refine key _ 0 fun i o hi=>?_
   rw [zbo]
   rw [zai] at hi
   split at hi
   ·rename_i hin
    obtain ⟨recs,co,c,sv,qs,newer,hI,hc,hclt,hev,hqs,heq,hnew,_⟩:=hstep i o hin hi
    have hslots:∀ (vals:Nat→Value) (w1:World),Deps (RecV recsN e) vals w1 o→∀ t∈o.looksAt l.toArray,ybb recs base e t ((full (l.take n) vals a).tmps.getD t undef):=fun vals w1 hD t ht=>by
     refine hlook vals t recs (newer++[⟨i,o.dst,c,sv⟩]) i hI (by omega) (by rw [heq];simp) (fun r hr=>?_) fun j oj hj hoj hd=>?_
     ·rcases zbe.1 hr with hr|hr
      ·have:=hnew r hr;omega
      ·simp at hr;subst hr;exact zbm _
     ·rcases RS.looks i j o oj hin hj hi hoj with ⟨e,he,hb,hon⟩|hno
      ·have hb4:=RS.before i o hin hi e he hb
       have hv:=hD e he hb
       rw [hon] at hv hb4
       exact ⟨hb4,hv⟩
      ·exact absurd ht (hno t hd)
    have hwant:∀ (vals:Nat→Value) (w1:World),Deps (RecV recsN e) vals w1 o→Region.wanted o (yielded l.toArray (full (l.take n) vals a).tmps)=satO recs co:=fun vals w1 hD=>
     ygd (base:=base) (e:=e) hI hc fun g wn t hg hd=>hslots vals w1 hD t (by
      unfold Oper.looksAt
      refine zag _ ?_
      rw [hg]
      have e:(l.toArray[g]?).bind (·.dst)=some t:=by simpa using hd
      simp only [e]
      simp)
    have hself:(⟨i,o.dst,c,sv⟩:SRec)∈recsN:=by rw [heq];exact zag _ (zal ..)
    have hsatN:sat recsN c=sat recs c:=by
     rw [heq,yeq newer (fun r hr x hx=>by have:=hnew r hr;have:=hclt x hx;omega),yhk (fun x hx=>hclt x hx)]
    rcases hev with ⟨rfl,rfl,rfl⟩|⟨rfl,hev⟩
    ·exact RgOp.off (by omega) fun b vals w1 hC hD=>⟨hwant vals w1 hD,_,hself,rfl,fun _=>rfl,fun _=>rfl⟩
    ·cases hs:sat recs c with
     |true=>
      refine RgOp.on (by omega) fun b vals w1 hC hD=>⟨(hwant vals w1 hD).trans hs,?_⟩
      have hρ:∀ x∈o.op.operands,OpIs recs base e x ((full (l.take n) vals a).eval x):=fun x hx=>by
       cases x with
       |tmp t=>
        exact hslots vals w1 hD t (by
         unfold Oper.looksAt
         exact zah _ (List.mem_filterMap.2 ⟨.tmp t,by simpa using hx,rfl⟩))
       |const v=>rfl
       |global g=>rfl
       |func f=>rfl
      have:=yed (w:=w1) hS (hM.ext hC) hI.ok.2 hs hρ hev (ygt hs fun p hp=>hpsN p (hqs p hp))
      unfold yey
      exact ybd (fun v w' hv=>⟨hv.1,_,hself,rfl,fun _=>hv.2,fun hf=>by rw [show sat recsN c=true from hsatN.trans hs] at hf;cases hf⟩) this
     |false=>
      refine RgOp.off (by omega) fun b vals w1 hC hD=>⟨(hwant vals w1 hD).trans hs,_,hself,rfl,fun hf=>?_,fun _=>rfl⟩
      rw [show sat recsN c=false from hsatN.trans hs] at hf;cases hf
   ·cases hi
  ·intro vals w' hC hV
   have hfN:FrOk recsN base e (full (l.take n) vals a) sz:=by
    refine ⟨?_,?_,fun t=>hlook vals t recsN [] n hIN (zbm _) rfl (fun r hr=>by cases hr) fun j o hj _ _=>⟨hj,hV j hj⟩⟩
    ·have:∀ (xs:List Oper) (k:Nat) (b:Act),(yby xs k vals (fun _=>true) b).defers=b.defers:=by
      intro xs
      induction xs with
      |nil=>intro k b;rfl
      |cons o xs ih=>
       intro k b
       simp only [yby,if_true]
       rw [ih]
       cases o.dst<;>rfl
     unfold full
     rw [this];exact hf.defers
    ·have:∀ (xs:List Oper) (k:Nat) (b:Act),(yby xs k vals (fun _=>true) b).tmps.size=b.tmps.size:=by
      intro xs
      induction xs with
      |nil=>intro k b;rfl
      |cons o xs ih=>
       intro k b
       simp only [yby,if_true]
       rw [ih]
       cases o.dst<;>simp [Act.put]
     unfold full
     rw [this];exact hf.size
   exact ydc (l:=l) hS (l.drop n) n recsN memN verN psN hsp.symm (fun j o hj=>by rw [zap] at hj;exact hj) hIN hfN (hM.ext hC) hps hend
theorem rj_run {P:Program} {J:Array Bool→(Nat→Value)→World→Prop} {a:Act} {Q:Exit→Act→World→Prop} (RS:RgSpec l n)
  (hops:∀ i o,i<n→l[i]? =some o→∀ (L:Array Bool) (vals:Nat→Value) (w:World),i<L.size→L.getD i false=false→
   (∀ (s:Nat) (os:Oper),l[s]? =some os→L.getD s false=true→∀ e∈os.after,Region.binds .any e=true→L.getD e.on false=true)→
   (∀ e∈o.after,Region.binds .any e=true→L.getD e.on false=true)→J L vals w→
   if Region.wanted o (yielded l.toArray (full (l.take n) vals a).tmps)=true then yey P o (full (l.take n) vals a) w (fun v w'=>J (L.setIfInBounds i true) (upd vals i v) w') else J (L.setIfInBounds i true) (upd vals i undef) w)
  (hend:∀ L vals w,(∀ i,i<n→L.getD i false=true)→J L vals w→wpList P l.toArray Q (l.drop n) (full (l.take n) vals a) w):
  ∀ (c:Nat) (listed:Array Bool) (w:World) (vals:Nat→Value),cnt n listed=c→HeadInv .any l.toArray n listed→J listed vals w→
   wpAny P .any l.toArray Q (c+(l.length - n)) listed (yby (l.take n) 0 vals (fun i=>listed.getD i false) a) w
 |0,listed,w,vals,hc,inv,hJ=>by
  have hall:=yob n hc
  have hfull:yby (l.take n) 0 vals (fun i=>listed.getD i false) a=full (l.take n) vals a:=
   ydh _ _ _ _ _ _ _ fun j _ hj=>⟨hall j (by have:=RS.le;simp at hj;omega),fun _=>rfl⟩
  have hL:listed=((List.range l.length).map (fun i=>decide (i<n))).toArray:=by
   apply Array.ext
   ·have:=inv.size;simpa using this
   ·intro i h1 h2
    have hil:i<l.length:=by have:=inv.size;simp at this;omega
    by_cases hin:i<n
    ·have:=hall i hin
     simp [h1] at this
     simp [this,hin]
    ·have:=inv.tail i (by omega) (by simpa using hil)
     simp [h1] at this
     simp [this];omega
  have hs:=RS.seq
  rw [← hL] at hs
  rw [hfull,zbo]
  have hdl:(l.drop n).length=l.length - n:=by simp
  have:=wpAny_of_seq (P:=P) (md:=.any) (Q':=Q) (l.drop n) n listed (full (l.take n) vals a) w (fun j=>by simp [zap]) (by rw [hdl];exact hs) (hend listed vals w hall hJ)
  rwa [hdl] at this
 |c+1,listed,w,vals,hc,inv,hJ=>by
  rw [show c+1+(l.length - n)=(c+(l.length - n))+1 by omega]
  have hex:∃ i,i<n∧listed.getD i false=false:=by
   apply zbv
   intro hno
   have:∀ m,m≤n→cnt m listed=0:=by
    intro m
    induction m with
    |zero=>intro _;rfl
    |succ m ih=>
     intro hm
     simp only [cnt]
     rw [ih (by omega)]
     cases hb:listed.getD m false with
     |true=>rfl
     |false=>exact absurd ⟨m,by omega,hb⟩ hno
   rw [this n (zbm _)] at hc
   omega
  have hleast:∃ i,i∈Region.ready .any l.toArray listed∧i<n∧listed.getD i false=false:=by
   obtain ⟨i,hi⟩:=hex
   induction i using Nat.strongRecOn with
   |_ i ih=>
    have hil:i<l.length:=by have:=RS.le;omega
    have hol:l[i]? =some l[i]:=zaa hil
    by_cases hd:∀ e∈l[i].after,Region.binds .any e=true→listed.getD e.on false=true
    ·refine ⟨i,mem_ready.2 ⟨getD_in (by have:=inv.size;simp at this;omega) hi.2,l[i],by simp,hd⟩,hi⟩
    ·have:∃ e∈l[i].after,Region.binds .any e=true∧listed.getD e.on false=false:=by
      apply zbv
      intro hno
      exact hd fun e he hb=>by
       cases hb':listed.getD e.on false with
       |true=>rfl
       |false=>exact absurd ⟨e,he,hb,hb'⟩ hno
     obtain ⟨e,he,hb,hf⟩:=this
     have hlt:=RS.before i l[i] hi.1 hol e he hb
     exact ih e.on hlt ⟨by omega,hf⟩
  obtain ⟨i₀,hr₀,hn₀,hu₀⟩:=hleast
  refine ⟨fun h0=>by rw [h0] at hr₀;simp at hr₀,fun i hi=>?_⟩
  have hin:i<n:=by
   rcases RS.tail with he|⟨hlt,hs,hch⟩
   ·have:=(mem_ready.1 hi).2
    obtain ⟨o,ho,_⟩:=this
    have:=(zbp.1 ho).1
    simp at this;omega
   ·rcases zbk i n with h|h
    ·exact h
    ·exact absurd hi (tail_waits hs hch (by simp;exact hlt) inv _ i₀ rfl hn₀ (getD_in (by have:=inv.size;have:=RS.le;simp at *;omega) hu₀) i h)
  obtain ⟨hun,o,ho,hdeps⟩:=mem_ready.1 hi
  have hol:l[i]? =some o:=by simpa using ho
  have huf:listed.getD i false=false:=getD_both hun
  have hsz:i<listed.size:=by have:=inv.size;have:=RS.le;simp at *;omega
  have hag:AgreeOn (o.looksAt l.toArray) (yby (l.take n) 0 vals (fun i=>listed.getD i false) a) (full (l.take n) vals a):=by
   refine yir _ (l.take n) 0 vals _ a a ⟨rfl,fun _ _=>rfl⟩ fun j oj hj hpj t ht=>?_
   rw [zai] at hj
   split at hj
   ·rename_i hjn
    rcases RS.looks i j o oj hin hjn hol hj with ⟨e,he,hb,hon⟩|hno
    ·have:=hdeps e he hb
     rw [hon] at this
     rw [zbo] at hpj
     rw [this] at hpj;cases hpj
    ·exact hno t ht
   ·cases hj
  have hnext:∀ v w',J (listed.setIfInBounds i true) (upd vals i v) w'→wpAny P .any l.toArray Q (c+(l.length - n)) (listed.setIfInBounds i true) ((yby (l.take n) 0 vals (fun i=>listed.getD i false) a).put o.dst v) w':=by
   intro v w' hJ'
   have hset:=ykx (l.take n) 0 i vals (fun i=>listed.getD i false) a o v (by rw [zai,if_pos hin];exact hol) (by rw [zbo];exact huf) (fun j oj hj hij t ht=>by
    rw [zai] at hj
    split at hj
    ·rename_i hjn;exact RS.apart i j o oj hin hjn hij hol hj t ht
    ·cases hj)
   rw [← hset,zbo]
   have hcn:cnt n (listed.setIfInBounds i true)=c:=by have:=ysw hsz huf n hin;omega
   have e:yby (l.take n) 0 (upd vals i v) (upd (fun i=>listed.getD i false) i true) a=yby (l.take n) 0 (upd vals i v) (fun j=>(listed.setIfInBounds i true).getD j false) a:=
    ydh _ _ _ _ _ _ _ fun j _ _=>⟨by
     by_cases hji:j=i
     ·subst hji;simp [upd,hsz]
     ·simp only [upd,if_neg hji];rw [getD_set_ne false (Ne.symm hji)],fun _=>rfl⟩
   rw [e]
   exact rj_run RS hops hend c _ w' _ hcn (inv.set hi hin) hJ'
  have hop:=hops i o hin hol listed vals w hsz huf (fun s os hos hl e he hb=>inv.closed s os (by simpa using hos) hl e he hb) hdeps hJ
  unfold wpOp
  rw [ho]
  dsimp only
  rw [yis o hag]
  by_cases hw:Region.wanted o (yielded l.toArray (full (l.take n) vals a).tmps)=true
  ·rw [if_pos hw] at hop ⊢
   exact .inl (yhy (yf5 o (RS.sel i o · · ho) hag) hop fun v w' h1=>hnext v w' h1)
  ·rw [if_neg hw] at hop ⊢
   exact hnext undef w hop
theorem yom {id:Nat} {l:List Oper} {n:Nat} {P:Program} {J:Array Bool→(Nat→Value)→World→Prop} {a:Act} {w:World} {Q:Exit→Act→World→Prop} (hm:P.follows .mixedOrders=true) (RS:RgSpec l n)
  (h0:J (Array.replicate l.toArray.size false) (fun _=>undef) w.drew)
  (hops:∀ i o,i<n→l[i]? =some o→∀ (L:Array Bool) (vals:Nat→Value) (w:World),i<L.size→L.getD i false=false→
   (∀ (s:Nat) (os:Oper),l[s]? =some os→L.getD s false=true→∀ e∈os.after,Region.binds .any e=true→L.getD e.on false=true)→
   (∀ e∈o.after,Region.binds .any e=true→L.getD e.on false=true)→J L vals w→
   if Region.wanted o (yielded l.toArray (full (l.take n) vals a).tmps)=true then yey P o (full (l.take n) vals a) w (fun v w'=>J (L.setIfInBounds i true) (upd vals i v) w') else J (L.setIfInBounds i true) (upd vals i undef) w)
  (hend:∀ L vals w,(∀ i,i<n→L.getD i false=true)→J L vals w→wpList P l.toArray Q (l.drop n) (full (l.take n) vals a) w):(Code.region id l.toArray true).wp P Q a w:=by
 refine wp_region_any hm ?_
 have inv0:HeadInv .any l.toArray n (Array.replicate l.toArray.size false):=
  ⟨by simp,fun j oj _ hl=>(by rw [getD_replicate_false] at hl;cases hl),fun t _ ht=>getD_in (by simpa using ht) (getD_replicate_false _ _)⟩
 have:=rj_run (Q:=Q) (a:=a) RS hops hend n (Array.replicate l.toArray.size false) w.drew (fun _=>undef) (yk8 n _) inv0 h0
 have e:yby (l.take n) 0 (fun _=>undef) (fun i=>(Array.replicate l.toArray.size false).getD i false) a=a:=by
  have:∀ (os:List Oper) (k:Nat),yby os k (fun _=>undef) (fun _=>false) a=a:=by
   intro os
   induction os with
   |nil=>intro k;rfl
   |cons o os ih=>intro k;simp only [yby,Bool.false_eq_true,if_false];exact ih (k+1)
  simp only [getD_replicate_false]
  exact this _ _
 rw [e,show n+(l.length - n)=l.toArray.size by have:=RS.le;simp;omega] at this
 exact this
def Wait (l:List Oper) (a i:Nat):Prop:=∀ (L:Array Bool),(∀ (s:Nat) (os:Oper),l[s]? =some os→L.getD s false=true→∀ e∈os.after,Region.binds .any e=true→L.getD e.on false=true)→
 (∀ o,l[i]? =some o→∀ e∈o.after,Region.binds .any e=true→L.getD e.on false=true)→L.getD a false=true
theorem ytz {d:Nat}:∀ {l:List Nat},memL d l=true→d∈l
 |[],h=>by cases h
 |x::l,h=>by
  simp only [memL,zbt] at h
  rcases h with h|h
  ·rw [eqb_eq.1 h];exact zal ..
  ·exact zak _ (ytz h)
theorem ypw {rs:List Nat} {o:Oper} {i x:Nat} (h:hits rs o=true) (ho:l[i]? =some o) (hl:∀ (s:Nat),l[s]? =none→s ∉ rs) (hr:∀ r∈rs,r=x∨Wait l x r):Wait l x i:=fun L hcl hd=>by
 obtain ⟨e,he,hf⟩:=ys1 h
 rw [zbs] at hf
 have hm:=ytz hf.2
 have hon:=hd o ho e (by simpa using he) hf.1
 rcases hr _ hm with h1|h1
 ·rw [← h1];exact hon
 ·exact h1 L hcl fun o' ho'=>hcl _ o' ho' hon
def Step2 (S:Sy β) (base:List (Nat×SV)) (W:List Nat) (l lh:List Oper) (recsN:List SRec) (m0:Mem β) (μ:Nat→Mem β) (χ ρ:Nat→Bool) (ps':List Prop) (sz i:Nat) (o:Oper):Prop:=
 ∃ recs co c sv qs newer,RInv l recs i∧yil recs o.guard=some co∧(∀ x∈c,x.1<i)∧
  ((co=none∧c=[]∧sv=svV undef∧μ (i+1)=μ i)∨
   (co=some c∧χ i=false∧ybm S i recs base m0 c false o=some (sv,none,qs)∧μ (i+1)=μ i)∨
   (co=some c∧(χ i=false∧ρ i=true)∧ybm S i recs base (μ i) c true o=some (sv,none,qs)∧μ (i+1)=μ i)∨
   (co=some c∧χ i=true∧c=[]∧ywo W recs base c o (μ i)=true∧ybm S i recs base (μ i) c true o=some (sv,some (μ (i+1)),qs))∨
   (co=some c∧χ i=false∧c=[]∧sv=anyV∧yp5 S o c=true∧μ (i+1)=μ i)∨
   (co=some c∧χ i=false∧c=[]∧sv=svV undef∧yp4 S lh recs i o c=true∧μ (i+1)=μ i))∧
  (∀ q∈askP recs c qs,q∈ps')∧recsN=newer++(⟨i,o.dst,c,sv⟩::recs)∧(∀ r∈newer,i<r.ix)∧∀ t,o.dst=some t→t<sz
theorem Step2.congr {W:List Nat} {lh:List Oper} {recsN:List SRec} {m0:Mem β} {μ μ':Nat→Mem β} {χ χ' ρ ρ':Nat→Bool} {ps':List Prop} {i:Nat} {o:Oper} (h:Step2 S base W l lh recsN m0 μ χ ρ ps' sz i o) (h0:μ' i=μ i) (h1:μ' (i+1)=μ (i+1)) (h2:χ' i=χ i) (h3:ρ' i=ρ i):Step2 S base W l lh recsN m0 μ' χ' ρ' ps' sz i o:=by
 unfold Step2 at h ⊢
 rw [h0,h1,h2,h3];exact h
theorem ye6 {W:List Nat} {m0:Mem β} {lh:List Oper}:∀ (os:List Oper) (i:Nat) (recs:List SRec) (mem:Mem β) (ver:Nat) (ps:List Prop) (reach:Rc) {r:List SRec×Mem β×Nat×List Prop},ye7 S base W m0 lh sz os i recs mem ver ps reach=some r→∀ p∈ps,p∈r.2.2.2
 |[],i,recs,mem,ver,ps,reach,r,h,p,hp=>by
  simp only [ye7,Option.some.injEq] at h
  subst h;exact hp
 |o::os,i,recs,mem,ver,ps,reach,r,h,p,hp=>by
  simp only [ye7,yak] at h
  split at h
  ·cases h
  ·split at h
   ·cases h
   ·exact ye6 os _ _ _ _ _ _ h p hp
   ·split at h
    ·exact ye6 os _ _ _ _ _ _ h p (zag _ hp)
    ·split at h
     ·split at h
      ·exact ye6 os _ _ _ _ _ _ h p hp
      ·split at h
       ·exact ye6 os _ _ _ _ _ _ h p hp
       ·cases h
     ·exact ye6 os _ _ _ _ _ _ h p (zag _ hp)
     ·exact ye6 os _ _ _ _ _ _ h p (zag _ hp)
theorem ylj {α:Type} {p:α→Bool}:∀ {l:List α},allB p l=true→∀ x∈l,p x=true
 |[],_,x,hx=>by cases hx
 |y::l,h,x,hx=>by
  simp only [allB,zbs] at h
  rcases List.mem_cons.1 hx with rfl|hx
  ·exact h.1
  ·exact ylj h.2 x hx
theorem yi9 {rs:List Nat} {i:Nat} {o:Oper} (h0:∀ r∈rs,r<i) (ho:l[i]? =some o):(∀ r∈yri i o rs,r<i+1)∧∀ x,(∀ r∈rs,r=x∨Wait l x r)→∀ r∈yri i o rs,r=x∨Wait l x r:=by
 unfold yri
 split
 ·rename_i hh
  refine ⟨fun r hr=>?_,fun x h r hr=>?_⟩
  ·rcases List.mem_cons.1 hr with rfl|hr
   ·omega
   ·have:=h0 r hr;omega
  ·rcases List.mem_cons.1 hr with rfl|hr
   ·refine .inr (ypw hh ho (fun s hs hm=>?_) h)
    have:=h0 s hm
    have hl:=(zab.1 ho).1
    rw [zaa (by omega)] at hs;cases hs
   ·exact h r hr
 ·exact ⟨fun r hr=>by have:=h0 r hr;omega,fun x h=>h⟩
theorem pendF_mem {i:Nat} {o:Oper}:∀ {p:List (List Nat)},(∀ rs∈p,yri i o rs∈pendF i o p)∧∀ rs∈pendF i o p,∃ r0∈p,rs=yri i o r0
 |[]=>⟨fun rs h=>by (cases h),fun rs h=>by (simp [pendF] at h)⟩
 |r0::p=>by
  obtain ⟨h1,h2⟩:=pendF_mem (i:=i) (o:=o) (p:=p)
  refine ⟨fun rs h=>?_,fun rs h=>?_⟩
  ·rcases List.mem_cons.1 h with rfl|h
   ·exact zal ..
   ·exact zak _ (h1 rs h)
  ·rcases List.mem_cons.1 h with rfl|h
   ·exact ⟨r0,zal ..,rfl⟩
   ·obtain ⟨q,q1,q2⟩:=h2 rs h
    exact ⟨q,zak _ q1,q2⟩
structure Rch (l:List Oper) (X Y:Nat→Prop) (i:Nat) (reach:Rc):Prop where
 no:reach.1=none→∀ x,¬ X x
 one:∀ rs,reach.1=some rs→(∀ r∈rs,r<i)∧∀ x,X x→∀ r∈rs,r=x∨Wait l x r
 lt:∀ rs∈reach.2,∀ r∈rs,r<i
 rd:∀ y,Y y→(∃ rs∈reach.2,∀ r∈rs,r=y∨Wait l y r)∨∃ rs,reach.1=some rs∧∀ r∈rs,r=y∨Wait l y r
theorem Rch.free {X Y:Nat→Prop} {i:Nat} {reach:Rc} {o:Oper} (h:Rch l X Y i reach) (ho:l[i]? =some o):Rch l X Y (i+1) (yfl reach i o):=by
 obtain ⟨r1,r2⟩:=reach
 refine ⟨fun hn=>?_,fun rs hrs=>?_,fun rs hrs=>?_,fun y hy=>?_⟩
 ·cases r1 with
  |none=>exact h.no rfl
  |some rs=>simp [yfl] at hn
 ·cases r1 with
  |none=>simp [yfl] at hrs
  |some r0=>
   simp only [yfl,Option.some.injEq] at hrs
   subst hrs
   obtain ⟨h0,h1⟩:=h.one r0 rfl
   obtain ⟨g0,g1⟩:=yi9 h0 ho
   exact ⟨g0,fun x hx=>g1 x (h1 x hx)⟩
 ·obtain ⟨q,q1,rfl⟩:=pendF_mem.2 rs hrs
  exact (yi9 (h.lt q q1) ho).1
 ·rcases h.rd y hy with ⟨rs,g1,g2⟩|⟨rs,g1,g2⟩
  ·exact .inl ⟨_,pendF_mem.1 rs g1,(yi9 (h.lt rs g1) ho).2 y g2⟩
  ·have g1:r1=some rs:=g1
   subst g1
   exact .inr ⟨_,rfl,(yi9 (h.one rs rfl).1 ho).2 y g2⟩
theorem ysf {rs:List Nat} {i x:Nat} {o:Oper} (ho:l[i]? =some o) (hh:hits rs o=true) (h0:∀ r∈rs,r<i) (h:∀ r∈rs,r=x∨Wait l x r):Wait l x i:=by
 refine ypw hh ho (fun s hs hm=>?_) h
 have:=h0 s hm
 have hl:=(zab.1 ho).1
 rw [zaa (by omega)] at hs;cases hs
theorem Rch.ok {X Y:Nat→Prop} {i:Nat} {reach:Rc} {o:Oper} (h:Rch l X Y i reach) (ho:l[i]? =some o) (hh:yrr reach o=true):∀ x,X x→Wait l x i:=fun x hx=>by
 obtain ⟨r1,r2⟩:=reach
 cases r1 with
 |none=>exact absurd hx (h.no rfl x)
 |some rs=>
  obtain ⟨h0,h1⟩:=h.one rs rfl
  exact ysf ho hh h0 (h1 x hx)
theorem Rch.okY {X Y:Nat→Prop} {i:Nat} {reach:Rc} {o:Oper} (h:Rch l X Y i reach) (ho:l[i]? =some o) (hh:ytk reach o=true):∀ y,Y y→Wait l y i:=fun y hy=>by
 unfold ytk at hh
 rw [zbs] at hh
 rcases h.rd y hy with ⟨rs,g1,g2⟩|⟨rs,g1,g2⟩
 ·exact ysf ho (ylj hh.2 rs g1) (h.lt rs g1) g2
 ·obtain ⟨r1,r2⟩:=reach
  have g1:r1=some rs:=g1
  subst g1
  exact ysf ho hh.1 (h.one rs rfl).1 g2
theorem Rch.readR {X Y:Nat→Prop} {i:Nat} {reach:Rc} {o:Oper} (h:Rch l X Y i reach) (ho:l[i]? =some o):Rch l X (fun y=>Y y∨y=i) (i+1) (yo5 reach i o):=by
 have hf:=h.free ho
 have e1:(yo5 reach i o).1=(yfl reach i o).1:=rfl
 have e2:(yo5 reach i o).2=[i]::(yfl reach i o).2:=rfl
 refine ⟨fun hn=>hf.no (e1▸hn),fun rs hrs=>hf.one rs (e1▸hrs),fun rs hrs=>?_,fun y hy=>?_⟩
 ·rw [e2] at hrs
  rcases List.mem_cons.1 hrs with rfl|hrs
  ·intro r hr;simp at hr;omega
  ·exact hf.lt rs hrs
 ·rcases hy with hy|rfl
  ·rcases hf.rd y hy with ⟨rs,g1,g2⟩|⟨rs,g1,g2⟩
   ·exact .inl ⟨rs,by rw [e2];exact zak _ g1,g2⟩
   ·exact .inr ⟨rs,by rw [e1];exact g1,g2⟩
  ·exact .inl ⟨[y],by rw [e2];exact zal ..,fun r hr=>by simp at hr;exact .inl hr⟩
theorem Rch.turn {X Y:Nat→Prop} {i:Nat} (hX:∀ x,X x→Wait l x i) (hY:∀ y,Y y→Wait l y i):Rch l (fun x=>X x∨x=i) Y (i+1) (some [i],[]):=by
 refine ⟨fun hn=>by (cases hn),fun rs hrs=>?_,fun rs hrs=>by (cases hrs),fun y hy=>.inr ⟨[i],rfl,fun r hr=>?_⟩⟩
 ·cases hrs
  refine ⟨fun r hr=>by (simp at hr;omega),fun x hx r hr=>?_⟩
  simp at hr;subst hr
  rcases hx with hx|rfl
  ·exact .inr (hX x hx)
  ·exact .inl rfl
 ·simp at hr;subst hr;exact .inr (hY y hy)
theorem yl3 {W:List Nat} {m0:Mem β} {lh:List Oper}:∀ (xs:List Oper) (i:Nat) (recs:List SRec) (mem:Mem β) (ver:Nat) (ps:List Prop) (reach:Rc) (X Y:Nat→Prop) {recsN:List SRec} {mem':Mem β} {ver':Nat} {ps':List Prop},ye7 S base W m0 lh sz xs i recs mem ver ps reach=some (recsN,mem',ver',ps')→RInv l recs i→Rch l X Y i reach→
  (∀ (j:Nat) (o:Oper),xs[j]? =some o→l[i+j]? =some o)→RInv l recsN (i+xs.length)∧(∃ newer,recsN=newer++recs∧∀ r∈newer,i≤r.ix)∧
   ∃ (μ:Nat→Mem β) (χ ρ:Nat→Bool),μ i=mem∧μ (i+xs.length)=mem'∧(∀ (j:Nat) (o:Oper),xs[j]? =some o→Step2 S base W l lh recsN m0 μ χ ρ ps' sz (i+j) o)∧
    (∀ j,i+xs.length≤j∨j<i→χ j=false∧ρ j=false)∧(∀ j,χ j=true→∀ x,(X x∨(x<j∧χ x=true))∨Y x∨(x<j∧ρ x=true)→Wait l x j)∧∀ j,ρ j=true→∀ x,X x∨(x<j∧χ x=true)→Wait l x j
 |[],i,recs,mem,ver,ps,reach,X,Y,recsN,mem',ver',ps',h,hI,hR,_=>by
  simp only [ye7,Option.some.injEq,Prod.mk.injEq] at h
  obtain ⟨rfl,rfl,rfl,rfl⟩:=h
  exact ⟨hI,⟨[],rfl,(fun r hr=>by cases hr)⟩,fun _=>mem,fun _=>false,fun _=>false,rfl,rfl,(fun j o ho=>by simp at ho),(fun _ _=>⟨rfl,rfl⟩),(fun j hj=>by cases hj),fun j hj=>by cases hj⟩
 |o::xs,i,recs,mem,ver,ps,reach,X,Y,recsN,mem',ver',ps',h,hI,hR,hl=>by
  simp only [ye7,yak] at h
  split at h
  ·cases h
  ·rename_i hd
   have hd:=dst_le hd
   have ho:l[i]? =some o:=by simpa using hl 0 o rfl
   have hl':∀ (j:Nat) (o':Oper),xs[j]? =some o'→l[i+1+j]? =some o':=fun j o' hj=>by
    have:=hl (j+1) o' (by simpa using hj)
    rwa [show i+(j+1)=i+1+j by omega] at this
   have fin:∀ (co:Option (List (Nat×Bool))) (c:List (Nat×Bool)) (sv:SV) (qs:List Prop) (m1:Mem β) (v1:Nat) (x1 y1:Bool) (reach':Rc),(∀ x∈c,x.1<i)→yil recs o.guard=some co→
     ((co=none∧c=[]∧sv=svV undef∧m1=mem)∨(co=some c∧x1=false∧ybm S i recs base m0 c false o=some (sv,none,qs)∧m1=mem)∨
      (co=some c∧(x1=false∧y1=true)∧ybm S i recs base mem c true o=some (sv,none,qs)∧m1=mem)∨(co=some c∧x1=true∧c=[]∧ywo W recs base c o mem=true∧ybm S i recs base mem c true o=some (sv,some m1,qs))∨(co=some c∧x1=false∧c=[]∧sv=anyV∧yp5 S o c=true∧m1=mem)∨(co=some c∧x1=false∧c=[]∧sv=svV undef∧yp4 S lh recs i o c=true∧m1=mem))→
     (x1=true∨y1=true→∀ x,X x→Wait l x i)→(x1=true→∀ y,Y y→Wait l y i)→(x1=true→y1=false)→Rch l (fun x=>X x∨(x1=true∧x=i)) (fun x=>Y x∨(y1=true∧x=i)) (i+1) reach'→
     ye7 S base W m0 lh sz xs (i+1) (⟨i,o.dst,c,sv⟩::recs) m1 v1 (askP recs c qs++ps) reach'=some (recsN,mem',ver',ps')→
     RInv l recsN (i+(o::xs).length)∧(∃ newer,recsN=newer++recs∧∀ r∈newer,i≤r.ix)∧
      ∃ (μ:Nat→Mem β) (χ ρ:Nat→Bool),μ i=mem∧μ (i+(o::xs).length)=mem'∧(∀ (j:Nat) (o':Oper),(o::xs)[j]? =some o'→Step2 S base W l lh recsN m0 μ χ ρ ps' sz (i+j) o')∧
       (∀ j,i+(o::xs).length≤j∨j<i→χ j=false∧ρ j=false)∧(∀ j,χ j=true→∀ x,(X x∨(x<j∧χ x=true))∨Y x∨(x<j∧ρ x=true)→Wait l x j)∧∀ j,ρ j=true→∀ x,X x∨(x<j∧χ x=true)→Wait l x j:=fun co c sv qs m1 v1 x1 y1 reach' hlt hco hev hw hwY hxy hR' h=>by
    have hps:=ye6 xs _ _ _ _ _ _ h
    obtain ⟨h1,⟨newer,h2,h3⟩,μ,χ,ρ,hμ0,hμ1,h4,h5,h6,h7⟩:=yl3 xs (i+1) _ _ _ _ _ _ _ h (hI.cons ho hlt sv) hR' hl'
    have hχ:∀ j,(if j=i then x1 else χ j)=true→(j=i∧x1=true)∨(i<j∧χ j=true):=fun j hj=>by
     by_cases he:j=i
     ·rw [if_pos he] at hj;exact .inl ⟨he,hj⟩
     ·rw [if_neg he] at hj
      refine .inr ⟨?_,hj⟩
      rcases zbk i j with h|h
      ·exact h
      ·have:=(h5 j (.inr (by omega))).1
       rw [this] at hj;cases hj
    have hρ:∀ j,(if j=i then y1 else ρ j)=true→(j=i∧y1=true)∨(i<j∧ρ j=true):=fun j hj=>by
     by_cases he:j=i
     ·rw [if_pos he] at hj;exact .inl ⟨he,hj⟩
     ·rw [if_neg he] at hj
      refine .inr ⟨?_,hj⟩
      rcases zbk i j with h|h
      ·exact h
      ·have:=(h5 j (.inr (by omega))).2
       rw [this] at hj;cases hj
    refine ⟨by rw [zax,show i+(xs.length+1)=i+1+xs.length by omega];exact h1,⟨newer++[⟨i,o.dst,c,sv⟩],by rw [h2];simp,fun r hr=>?_⟩,fun j=>if j≤i then mem else μ j,fun j=>if j=i then x1 else χ j,fun j=>if j=i then y1 else ρ j,by simp,?_,fun j o' hj=>?_,fun j hj=>?_,fun j hj x hx=>?_,fun j hj x hx=>?_⟩
    ·rcases zbe.1 hr with hr|hr
     ·have:=h3 r hr;omega
     ·simp at hr;subst hr;exact zbm _
    ·rw [zax]
     show (if i+(xs.length+1)≤i then mem else μ (i+(xs.length+1)))=mem'
     rw [if_neg (by omega),show i+(xs.length+1)=i+1+xs.length by omega];exact hμ1
    ·cases j with
     |zero=>
      simp at hj
      subst hj
      refine ⟨recs,co,c,sv,qs,newer,hI,hco,hlt,?_,fun q hq=>hps q (zah _ hq),h2,fun r hr=>by have:=h3 r hr;omega,hd⟩
      simp only [Nat.add_zero,zbm,if_true,if_neg (show ¬ i+1≤i by omega),hμ0]
      exact hev
     |succ j=>
      have:=h4 j o' (by simpa using hj)
      rw [show i+1+j=i+(j+1) by omega] at this
      exact this.congr (if_neg (by omega)) (if_neg (by omega)) (if_neg (by omega)) (if_neg (by omega))
    ·rw [zax] at hj
     simp only
     rw [if_neg (by omega),if_neg (by omega)]
     exact h5 j (by omega)
    ·rcases hχ j hj with ⟨rfl,hx1⟩|⟨hij,hj2⟩
     ·rcases hx with (hx|⟨hxj,hx⟩)|hx|⟨hxj,hx⟩
      ·exact hw (.inl hx1) x hx
      ·rcases hχ x hx with ⟨rfl,_⟩|⟨h,_⟩<;>omega
      ·exact hwY hx1 x hx
      ·rcases hρ x hx with ⟨rfl,_⟩|⟨h,_⟩<;>omega
     ·rcases hx with (hx|⟨hxj,hx⟩)|hx|⟨hxj,hx⟩
      ·exact h6 j hj2 x (.inl (.inl (.inl hx)))
      ·rcases hχ x hx with ⟨rfl,hx1⟩|⟨_,h⟩
       ·exact h6 j hj2 x (.inl (.inl (.inr ⟨hx1,rfl⟩)))
       ·exact h6 j hj2 x (.inl (.inr ⟨hxj,h⟩))
      ·exact h6 j hj2 x (.inr (.inl (.inl hx)))
      ·rcases hρ x hx with ⟨rfl,hx1⟩|⟨_,h⟩
       ·exact h6 j hj2 x (.inr (.inl (.inr ⟨hx1,rfl⟩)))
       ·exact h6 j hj2 x (.inr (.inr ⟨hxj,h⟩))
    ·rcases hρ j hj with ⟨rfl,hy1⟩|⟨hij,hj2⟩
     ·rcases hx with hx|⟨hxj,hx⟩
      ·exact hw (.inr hy1) x hx
      ·rcases hχ x hx with ⟨rfl,_⟩|⟨h,_⟩<;>omega
     ·rcases hx with hx|⟨hxj,hx⟩
      ·exact h7 j hj2 x (.inl (.inl hx))
      ·rcases hχ x hx with ⟨rfl,hx1⟩|⟨_,h⟩
       ·exact h7 j hj2 x (.inl (.inr ⟨hx1,rfl⟩))
       ·exact h7 j hj2 x (.inr ⟨hxj,h⟩)
   have hfree:Rch l (fun x=>X x∨(false=true∧x=i)) (fun x=>Y x∨(false=true∧x=i)) (i+1) (yfl reach i o):=by
    have:=hR.free ho
    have e:(fun x=>X x∨(false=true∧x=i))=X:=by
     funext x;simp
    have e2:(fun x=>Y x∨(false=true∧x=i))=Y:=by
     funext x;simp
    rw [e,e2];exact this
   have nof:∀ {P:Prop},(false=true∨false=true)→P:=fun h=>by rcases h with h|h<;>cases h
   split at h
   ·cases h
   ·rename_i hc
    exact fin none [] (svV undef) [] mem ver false false _ (fun x hx=>by cases hx) hc (.inl ⟨rfl,rfl,rfl,rfl⟩) (fun h=>nof h) (fun h=>by cases h) (fun h=>by cases h) hfree h
   ·rename_i c hc
    have hlt:=yn7 hI hc
    split at h
    ·rename_i sv qs hev
     exact fin (some c) c sv qs mem ver false false _ hlt hc (.inr (.inl ⟨rfl,rfl,hev,rfl⟩)) (fun h=>nof h) (fun h=>by cases h) (fun h=>by cases h) hfree h
    ·split at h
     ·split at h
      ·rename_i hfl
       have hc0:c=[]:=by
        unfold yp5 at hfl
        split at hfl
        ·rfl
        ·cases hfl
       subst hc0
       exact fin (some []) [] anyV [] mem (ver+1) false false _ hlt hc (.inr (.inr (.inr (.inr (.inl ⟨rfl,rfl,rfl,rfl,hfl,rfl⟩))))) (fun h=>nof h) (fun h=>by cases h) (fun h=>by cases h) hfree h
      ·split at h
       ·rename_i hfl
        have hc0:c=[]:=by
         unfold yp4 at hfl
         split at hfl
         ·rfl
         ·cases hfl
        subst hc0
        exact fin (some []) [] (svV undef) [] mem ver false false _ hlt hc (.inr (.inr (.inr (.inr (.inr ⟨rfl,rfl,rfl,rfl,hfl,rfl⟩))))) (fun h=>nof h) (fun h=>by cases h) (fun h=>by cases h) hfree h
       ·cases h
     ·rename_i sv qs hsel
      unfold chSel at hsel
      split at hsel
      ·cases hsel
      ·rename_i sv' qs' hev
       split at hsel
       ·rename_i hok
        simp only [Option.some.injEq,Prod.mk.injEq] at hsel
        obtain ⟨rfl,_,rfl⟩:=hsel
        have hw:=hR.ok ho hok
        have hR':Rch l (fun x=>X x∨(false=true∧x=i)) (fun x=>Y x∨(true=true∧x=i)) (i+1) (yo5 reach i o):=by
         have:=hR.readR ho
         have e:(fun x=>X x∨(false=true∧x=i))=X:=by
          funext x;simp
         have e2:(fun x=>Y x∨(true=true∧x=i))=fun x=>Y x∨x=i:=by
          funext x;simp
         rw [e,e2];exact this
        exact fin (some c) c _ _ mem ver false true _ hlt hc (.inr (.inr (.inl ⟨rfl,⟨rfl,rfl⟩,hev,rfl⟩))) (fun _=>hw) (fun h=>by cases h) (fun h=>by cases h) hR' h
       ·cases hsel
      ·split at hsel
       ·simp at hsel
       ·cases hsel
     ·rename_i sv m2 qs hsel
      unfold chSel at hsel
      split at hsel
      ·cases hsel
      ·split at hsel
       ·simp at hsel
       ·cases hsel
      ·rename_i sv' m2' qs' hev
       split at hsel
       ·rename_i hok
        simp only [Option.some.injEq,Prod.mk.injEq] at hsel
        obtain ⟨rfl,rfl,rfl⟩:=hsel
        rw [zbs] at hok
        have hw:=hR.ok ho (by have:=hok.2;unfold ytk at this;rw [zbs] at this;exact this.1)
        have hwY:=hR.okY ho hok.2
        have hR':Rch l (fun x=>X x∨(true=true∧x=i)) (fun x=>Y x∨(false=true∧x=i)) (i+1) (some [i],[]):=by
         have:=Rch.turn (l:=l) hw hwY
         have e:(fun x=>X x∨(true=true∧x=i))=fun x=>X x∨x=i:=by
          funext x;simp
         have e2:(fun x=>Y x∨(false=true∧x=i))=Y:=by
          funext x;simp
         rw [e,e2];exact this
        obtain ⟨_,hc0⟩:=yf6 hev
        subst hc0
        exact fin (some []) [] _ _ _ (ver+1) true false _ hlt hc (.inr (.inr (.inr (.inl ⟨rfl,rfl,rfl,hok.1,hev⟩)))) (fun _=>hw) (fun _=>hwY) (fun _=>rfl) hR' h
       ·cases hsel
def OwnOf (I:ObI β) (w:World) (e:Env) (mem:Mem β) (k:Nat):Prop:=∃ (i:Nat) (u:Value) (n:En β),e[i]? =some u∧mem[i]? =some n∧n.mu=true∧Own I w u n.ob k
def ReadOf (I:ObI β) (w:World) (e:Env) (mem:Mem β) (k:Nat):Prop:=∃ (i:Nat) (u:Value) (n:En β),e[i]? =some u∧mem[i]? =some n∧Foot I w u n.ob k
def ybc (I:ObI β) (w:World) (e:Env) (mem:Mem β) (k:Nat):Prop:=(k % 2=0∧OwnOf I w e mem (k / 2))∨(k % 2=1∧¬ ReadOf I w e mem (k / 2))
theorem footE {I:ObI β} {w:World} {e:Env} {mem:Mem β} {k:Nat}:ybc I w e mem (2 * k)↔OwnOf I w e mem k:=by
 unfold ybc
 rw [show 2 * k / 2=k by omega]
 constructor
 ·rintro (⟨_,h⟩|⟨h,_⟩)
  ·exact h
  ·omega
 ·exact fun h=>.inl ⟨by omega,h⟩
theorem footO {I:ObI β} {w:World} {e:Env} {mem:Mem β} {k:Nat}:¬ ybc I w e mem (2 * k+1)↔ReadOf I w e mem k:=by
 unfold ybc
 rw [show (2 * k+1) / 2=k by omega]
 constructor
 ·intro h
  exact zbv fun hn=>h (.inr ⟨by omega,hn⟩)
 ·rintro h (⟨h1,_⟩|⟨_,h1⟩)
  ·omega
  ·exact h1 h
section
variable {w:World} {e:Env} {mem:Mem β}
theorem MemOk.self (h:MemOk W0 G I w e mem):MemOk w (ybc I w e mem) I w e mem:=
 ⟨h.len,h.holds,h.lt,fun i u n hu hn hm k hk=>.inr (footE.2 ⟨i,u,n,hu,hn,hm,hk⟩),h.sep,Mod.refl _ w,fun i u n hu hn k hk=>.inr (footO.2 ⟨i,u,n,hu,hn,hk⟩)⟩
theorem MemOk.back {mem':Mem β} {w':World} {e':Env} (h:MemOk W0 G I w e mem) (h2:MemOk w (ybc I w e mem) I w' e' mem'):MemOk W0 G I w' e' mem':=by
 refine ⟨h2.len,h2.holds,h2.lt,fun i u n hu hn hm k hk=>?_,h2.sep,Mod.trans h.mod h2.mod fun k hk hlt=>?_,fun i u n hu hn k hk=>?_⟩
 ·rcases h2.own i u n hu hn hm k hk with h1|h1
  ·exact .inl (zbl h.mod.size h1)
  ·obtain ⟨j,v,m,a,b,c,d⟩:=footE.1 h1
   exact h.own j v m a b c k d
 ·obtain ⟨j,v,m,a,b,c,d⟩:=footE.1 hk
  rcases h.own j v m a b c k d with h1|h1
  ·omega
  ·exact h1
 ·rcases h2.rd i u n hu hn k hk with h1|h1
  ·exact .inl (zbl h.mod.size h1)
  ·obtain ⟨j,v,m,a,b,d⟩:=footO.1 h1
   exact h.rd j v m a b k d
theorem ReadOf.ext {w':World} {k:Nat} (hM:MemOk W0 G I w e mem) (hx:Ext w w') (h:ReadOf I w' e mem k):ReadOf I w e mem k:=by
 obtain ⟨i,u,n,hu,hn,hk⟩:=h
 exact ⟨i,u,n,hu,hn,((hM.holds i u n hu hn).stay hx (fun _ _=>id)).2 k hk⟩
structure Fla (I:ObI β) (W0 w:World) (e:Env) (mem:Mem β) (ps:List PV) (a:Nat):Prop where
 new:W0.heap.size≤a
 lt:a<w.heap.size
 cell:∀ (j:Nat) (p:PV),ps[j]? =some p→∃ x,w.cell? ⟨a,0+j,none⟩=some x∧p.is e x∧w.frozen? ⟨a,0+j,none⟩=false
 free:¬ ReadOf I w e mem a
theorem Fla.ext {w':World} {ps:List PV} {k:Nat} (h:Fla I W0 w e mem ps k) (hM:MemOk W0 G I w e mem) (hx:Ext w w'):Fla I W0 w' e mem ps k:=
 ⟨h.new,zbh h.lt hx.size,fun j p hj=>by obtain ⟨x,h1,h2,h3⟩:=h.cell j p hj;exact ⟨x,hx.cell h1,h2,hx.frozen h.lt h3⟩,fun hr=>h.free (hr.ext hM hx)⟩
theorem Fla.step {w':World} {e':Env} {mem':Mem β} {ps:List PV} {k:Nat} (h:Fla I W0 w e mem ps k) (hg:Grows e e') (h2:MemOk w (ybc I w e mem) I w' e' mem'):Fla I W0 w' e' mem' ps k:=by
 have hno:¬ ybc I w e mem (2 * k):=fun hk=>by
  obtain ⟨j,v,m,a,b,c,d⟩:=footE.1 hk
  exact h.free ⟨j,v,m,a,b,d.foot⟩
 refine ⟨h.new,zbh h.lt h2.mod.size,fun j p hj=>?_,fun hr=>?_⟩
 ·obtain ⟨x,g1,g2,g3⟩:=h.cell j p hj
  exact ⟨x,h2.mod.cell g1 hno,PV.is_mono hg g2,h2.mod.frozen h.lt hno g3⟩
 ·obtain ⟨i,u,n,hu,hn,hk⟩:=hr
  rcases h2.rd i u n hu hn k hk with h1|h1
  ·have:=h.lt;omega
  ·exact h.free (footO.1 h1)
theorem Fla.push {ps:List PV} {k:Nat} (h:Fla I W0 w e mem ps k) (hM:MemOk W0 G I w e mem):MemOk W0 G I w (e++[.pointer (some ⟨k,0,none⟩)]) (mem++[⟨.blk ps,true⟩]):=by
 have hl:=hM.len
 have he:∀ (i:Nat) (v:Value) (n:En β),(e++[.pointer (some ⟨k,0,none⟩)])[i]? =some v→(mem++[⟨.blk ps,true⟩])[i]? =some n→(e[i]? =some v∧mem[i]? =some n)∨(i=e.length∧v=.pointer (some ⟨k,0,none⟩)∧n=⟨.blk ps,true⟩):=fun i v n hv hn=>by
  rcases zbk i e.length with hi|hi
  ·rw [zad hi] at hv
   rw [zad (by omega)] at hn
   exact .inl ⟨hv,hn⟩
  ·rw [zac hi] at hv
   rw [zac (by omega)] at hn
   have:i - e.length=0:=by
    rcases Nat.eq_zero_or_pos (i - e.length) with h0|h0
    ·exact h0
    ·rw [zas (by simp;omega)] at hv;cases hv
   rw [this] at hv
   rw [show i - mem.length=0 by omega] at hn
   simp at hv hn
   exact .inr ⟨by omega,hv.symm,hn.symm⟩
 have hft:∀ j,Foot I w (.pointer (some ⟨k,0,none⟩)) (.blk ps:Ob β) j→j=k:=fun j hj=>by
  obtain ⟨b,o,h1,h2⟩:=hj
  simp only [Value.pointer.injEq,Option.some.injEq,Addr.mk.injEq] at h1
  omega
 refine ⟨by simp [hl],fun i v n hv hn=>?_,fun i v n hv hn j hj=>?_,fun i v n hv hn hmu j hj=>?_,fun i i' v v' n n' hv hn hmu hv' hn' hne j hj hj'=>?_,hM.mod,fun i v n hv hn j hj=>?_⟩
 ·rcases he i v n hv hn with ⟨h1,h2⟩|⟨rfl,rfl,rfl⟩
  ·exact (hM.holds i v n h1 h2).mono (Grows.push e _)
  ·refine ⟨k,0,rfl,fun j p hp=>?_⟩
   obtain ⟨x,g1,g2,g3⟩:=h.cell j p hp
   exact ⟨x,g1,PV.is_mono (Grows.push e _) g2,fun _=>g3⟩
 ·rcases he i v n hv hn with ⟨h1,h2⟩|⟨rfl,rfl,rfl⟩
  ·exact hM.lt i v n h1 h2 j hj
  ·rw [hft j hj];exact h.lt
 ·rcases he i v n hv hn with ⟨h1,h2⟩|⟨rfl,rfl,rfl⟩
  ·exact hM.own i v n h1 h2 hmu j hj
  ·rw [hft j hj.foot];exact .inl h.new
 ·rcases he i v n hv hn with ⟨h1,h2⟩|⟨rfl,rfl,rfl⟩
  ·rcases he i' v' n' hv' hn' with ⟨g1,g2⟩|⟨rfl,rfl,rfl⟩
   ·exact hM.sep i i' v v' n n' h1 h2 hmu g1 g2 hne j hj hj'
   ·rw [hft j hj'] at hj
    exact h.free ⟨i,v,n,h1,h2,hj.foot⟩
  ·rcases he i' v' n' hv' hn' with ⟨g1,g2⟩|⟨rfl,rfl,rfl⟩
   ·rw [hft j hj.foot] at hj'
    exact h.free ⟨i',v',n',g1,g2,hj'⟩
   ·exact hne rfl
 ·rcases he i v n hv hn with ⟨h1,h2⟩|⟨rfl,rfl,rfl⟩
  ·exact hM.rd i v n h1 h2 j hj
  ·rw [hft j hj];exact .inl h.new
theorem Fla.ofNew {zs:List Value} {k:Nat} (hM:MemOk W0 G I w (e++[.pointer (some ⟨k,0,none⟩)]) (mem++[⟨.blk (zs.map .v),true⟩])) (hl:e.length=mem.length) (hk:W0.heap.size≤k):Fla I W0 w e mem (zs.map .v) k:=by
 have h1:(e++[.pointer (some ⟨k,0,none⟩)])[e.length]? =some (Value.pointer (some ⟨k,0,none⟩)):=by simp
 have h2:(mem++[⟨.blk (zs.map .v),true⟩])[e.length]? =some (⟨.blk (zs.map .v),true⟩:En β):=by rw [hl];simp
 have hft:Foot I w (.pointer (some ⟨k,0,none⟩)) (.blk (zs.map .v):Ob β) k:=⟨k,0,rfl,rfl⟩
 refine ⟨hk,hM.lt _ _ _ h1 h2 k hft,fun j p hj=>?_,fun ⟨i,u,n,hu,hn,hf⟩=>?_⟩
 ·obtain ⟨b,o,e1,h⟩:=hM.holds _ _ _ h1 h2
  simp only [Value.pointer.injEq,Option.some.injEq,Addr.mk.injEq] at e1
  obtain ⟨rfl,rfl,_⟩:=e1
  obtain ⟨y,g1,g2,g3⟩:=h j p hj
  rw [zan] at hj
  cases hx:zs[j]? with
  |none=>rw [hx] at hj;cases hj
  |some x=>
   rw [hx] at hj
   simp only [Option.map_some,Option.some.injEq] at hj
   subst hj
   exact ⟨y,g1,g2,g3 rfl⟩
 ·have hi:i<e.length:=(zab.1 hu).1
  exact hM.sep e.length i _ u _ n h1 h2 rfl (by rw [zad hi];exact hu) (by rw [zad (by omega)];exact hn) (by omega) k ⟨k,0,rfl,rfl⟩ hf
end
section
variable {lh:List Oper}
theorem yh0 {r:SRec} {z:Value} (h:flOf S lh r=some z):∃ o ty,lh[r.ix]? =some o∧o.op=.alloc ty∧r.sv=anyV∧r.ctx=[]∧yan S.P (zeroValue ty)=some z:=by
 unfold flOf at h
 split at h
 ·rename_i o ho
  split at h
  ·rename_i ty hop
   split at h
   ·rename_i h1 h2
    exact ⟨o,ty,ho,hop,h1,h2,h⟩
   ·cases h
  ·cases h
 ·cases h
theorem ye3 {i:Nat} {recs:List SRec} {mem:Mem β} {c:List (Nat×Bool)} {eff:Bool} {o:Oper} {mo:Option (Mem β)} {ps:List Prop} {ty:TypeId} (hop:o.op=.alloc ty) (h:ybm S i recs base mem c eff o=some (anyV,mo,ps)):False:=by
 rcases yb8 h with h1|⟨q,b,qs,_,h1,_⟩
 ·unfold yb5 at h1
  rw [hop] at h1
  simp only at h1
  split at h1
  ·obtain ⟨_,_,_,_,_,h2⟩:=ydg h1
   simp [anyV] at h2
  split at h1
  ·simp [anyV] at h1
  ·cases h1
 ·cases h1
theorem fixF_ok {W0:World} {G:Nat→Prop} {w:World} {vals:Nat→Value} {mem:Mem β} {all:List SRec}:∀ (recs:List SRec) {e:Env},MemOk W0 G I w e mem→recs.Pairwise (fun a b=>b.ix<a.ix)→∀ (B:SRec→Nat→Value→Prop),
  (∀ r∈recs,∀ z,flOf S lh r=some z→∃ a,vals r.ix=.pointer (some ⟨a,0,none⟩)∧Fla I W0 w e mem (flC all lh (fun _=>true) r z) a)→
  (∀ r∈recs,∀ r'∈recs,(flOf S lh r).isSome=true→(flOf S lh r').isSome=true→r.ix≠r'.ix→vals r.ix≠vals r'.ix)→
  ∃ e',Grows e e'∧MemOk W0 G I w e' (fixF S lh all recs mem).2∧
   (∀ z a,Fla I W0 w e mem z a→(∀ r∈recs,(flOf S lh r).isSome=true→vals r.ix≠.pointer (some ⟨a,0,none⟩))→Fla I W0 w e' (fixF S lh all recs mem).2 z a)∧
   (∀ r∈recs,∀ z,flOf S lh r=some z→∃ q,(⟨r.ix,r.dst,[],.c (.one (.ptr q 0))⟩:SRec)∈(fixF S lh all recs mem).1∧∃ a,vals r.ix=.pointer (some ⟨a,0,none⟩)∧e'[q]? =some (.pointer (some ⟨a,0,none⟩)))∧
   (∀ r∈recs,flOf S lh r=none→r∈(fixF S lh all recs mem).1)
 |[],e,hM,_,B,_,_=>⟨e,Grows.refl e,hM,fun z a h _=>h,(fun r hr=>by cases hr),(fun r hr=>by cases hr)⟩
 |r::rs,e,hM,hp,B,hfl,hne=>by
  obtain ⟨hp1,hp2⟩:=List.pairwise_cons.1 hp
  obtain ⟨e1,g1,g2,g3,g4,g5⟩:=fixF_ok rs hM hp2 B (fun r' hr'=>hfl r' (zak _ hr')) (fun r1 h1 r2 h2=>hne r1 (zak _ h1) r2 (zak _ h2))
  cases hz:flOf S lh r with
  |none=>
   have e1':fixF S lh all (r::rs) mem=(r::(fixF S lh all rs mem).1,(fixF S lh all rs mem).2):=by
    conv=>lhs;unfold fixF
    rw [hz]
   rw [e1']
   refine ⟨e1,g1,g2,fun z a h1 h2=>g3 z a h1 fun r' hr'=>h2 r' (zak _ hr'),fun r' hr' z hz'=>?_,fun r' hr' hz'=>?_⟩
   ·rcases List.mem_cons.1 hr' with rfl|hr'
    ·rw [hz] at hz';cases hz'
    ·obtain ⟨q,h1,h2⟩:=g4 r' hr' z hz'
     exact ⟨q,zak _ h1,h2⟩
   ·rcases List.mem_cons.1 hr' with rfl|hr'
    ·exact zal ..
    ·exact zak _ (g5 r' hr' hz')
  |some z0=>
   have e1':fixF S lh all (r::rs) mem=(⟨r.ix,r.dst,[],.c (.one (.ptr (fixF S lh all rs mem).2.length 0))⟩::(fixF S lh all rs mem).1,(fixF S lh all rs mem).2++[⟨.blk (flC all lh (fun _=>true) r z0),true⟩]):=by
    conv=>lhs;unfold fixF
    rw [hz]
   rw [e1']
   obtain ⟨a0,hv0,hf0⟩:=hfl r (zal ..) z0 hz
   have hf1:=g3 _ a0 hf0 fun r' hr' hs=>by
    have:=hne r (zal ..) r' (zak _ hr') (by rw [hz];rfl) hs (by have:=hp1 r' hr';omega)
    rw [hv0] at this
    exact fun h=>this h.symm
   have hM2:=hf1.push g2
   refine ⟨e1++[.pointer (some ⟨a0,0,none⟩)],g1.trans (Grows.push _ _),hM2,fun z a h1 h2=>?_,fun r' hr' z hz'=>?_,fun r' hr' hz'=>?_⟩
   ·have h3:=g3 z a h1 fun r' hr'=>h2 r' (zak _ hr')
    have h4:=h2 r (zal ..) (by rw [hz];rfl)
    rw [hv0] at h4
    refine ⟨h3.new,h3.lt,fun j p hj=>(by obtain ⟨x,p1,p2,p3⟩:=h3.cell j p hj;exact ⟨x,p1,PV.is_mono (Grows.push _ _) p2,p3⟩),fun ⟨i,u,n,hu,hn,hf⟩=>?_⟩
    have hl:=g2.len
    rcases zbk i e1.length with hi|hi
    ·rw [zad hi] at hu
     rw [zad (by omega)] at hn
     exact h3.free ⟨i,u,n,hu,hn,hf⟩
    ·rw [zac hi] at hu
     rw [zac (by omega)] at hn
     have h0:i - e1.length=0:=by
      rcases Nat.eq_zero_or_pos (i - e1.length) with h0|h0
      ·exact h0
      ·rw [zas (by simp;omega)] at hu;cases hu
     rw [h0] at hu
     rw [show i - (fixF S lh all rs mem).2.length=0 by omega] at hn
     simp at hu hn
     subst hu;subst hn
     obtain ⟨b,o,q1,q2⟩:=hf
     simp only [Value.pointer.injEq,Option.some.injEq,Addr.mk.injEq] at q1
     obtain ⟨rfl,_,_⟩:=q1
     exact h4 (by rw [q2])
   ·rcases List.mem_cons.1 hr' with rfl|hr'
    ·refine ⟨_,zal ..,a0,hv0,?_⟩
     rw [← g2.len,zac (zbm _)];simp
    ·obtain ⟨q,h1,a,h2,h3⟩:=g4 r' hr' z hz'
     exact ⟨q,zak _ h1,a,h2,Grows.push _ _ q _ h3⟩
   ·rcases List.mem_cons.1 hr' with rfl|hr'
    ·rw [hz] at hz';cases hz'
    ·exact zak _ (g5 r' hr' hz')
theorem yjm {mem:Mem β} {all:List SRec}:∀ {recs:List SRec} {r:SRec},r∈(fixF S lh all recs mem).1→∃ r'∈recs,r'.ix=r.ix∧r'.dst=r.dst∧r'.ctx=r.ctx∧svB r'.sv=svB r.sv
 |[],r,h=>by simp [fixF] at h
 |x::xs,r,h=>by
  simp only [fixF] at h
  split at h
  ·rcases List.mem_cons.1 h with rfl|h
   ·exact ⟨_,zal ..,rfl,rfl,rfl,rfl⟩
   ·obtain ⟨r',h1,h2⟩:=yjm h
    exact ⟨r',zak _ h1,h2⟩
  ·rename_i z hz
   rcases List.mem_cons.1 h with rfl|h
   ·obtain ⟨o,ty,_,_,h1,h2,_⟩:=yh0 hz
    exact ⟨_,zal ..,rfl,rfl,h2,by rw [h1];rfl⟩
   ·obtain ⟨r',h1,h2⟩:=yjm h
    exact ⟨r',zak _ h1,h2⟩
theorem ysh {mem:Mem β} {all:List SRec}:∀ (recs:List SRec),(fixF S lh all recs mem).1.map (·.ix)=recs.map (·.ix)
 |[]=>rfl
 |x::xs=>by
  have:=ysh (mem:=mem) (all:=all) xs
  simp only [fixF]
  split
  ·simp only [zay,this]
  ·simp only [zay,this]
theorem ykt {mem:Mem β} {all:List SRec} (g:Nat):∀ (recs:List SRec),yef (fixF S lh all recs mem).1 g=yef recs g
 |[]=>rfl
 |x::xs=>by
  have:=ykt (mem:=mem) (all:=all) g xs
  unfold yef at this ⊢
  cases hz:flOf S lh x with
  |none=>
   have e1':(fixF S lh all (x::xs) mem).1=x::(fixF S lh all xs mem).1:=by
    conv=>lhs;unfold fixF
    rw [hz]
   rw [e1']
   simp only [yj4]
   cases hb:eqb x.ix g with
   |true=>rfl
   |false=>exact this
  |some z=>
   have e1':(fixF S lh all (x::xs) mem).1=⟨x.ix,x.dst,[],.c (.one (.ptr (fixF S lh all xs mem).2.length 0))⟩::(fixF S lh all xs mem).1:=by
    conv=>lhs;unfold fixF
    rw [hz]
   rw [e1']
   obtain ⟨o,ty,_,_,h1,h2,_⟩:=yh0 hz
   simp only [yj4]
   cases hb:eqb x.ix g with
   |true=>simp [h1,anyV,svB]
   |false=>exact this
theorem yjl {mem:Mem β} {all:List SRec} {recs:List SRec}:∀ (c:List (Nat×Bool)),sat (fixF S lh all recs mem).1 c=sat recs c
 |[]=>rfl
 |(g,true)::c=>by simp only [sat,ykt,yjl c]
 |(g,false)::c=>by simp only [sat,ykt,yjl c]
theorem fixF_inv {mem:Mem β} {all:List SRec} {recs:List SRec} {i:Nat} (h:RInv l recs i):RInv l (fixF S lh all recs mem).1 i:=by
 refine ⟨⟨fun r hr=>?_,?_⟩,fun r hr=>?_,fun j hj=>?_⟩
 ·obtain ⟨r',h1,h2,h3,h4,_⟩:=yjm hr
  rw [← h2,←h4];exact h.ok.1 r' h1
 ·have h1:=h.ok.2
  have h2:(recs.map (·.ix)).Pairwise (fun a b=>b<a):=List.pairwise_map.2 h1
  rw [← ysh (S:=S) (lh:=lh) (mem:=mem) (all:=all) recs] at h2
  exact List.pairwise_map.1 h2
 ·obtain ⟨r',h1,h2,h3,h4,_⟩:=yjm hr
  rw [← h2,←h3];exact h.dst r' h1
 ·obtain ⟨r,h1,h2⟩:=h.all j hj
  have h3:j∈recs.map (·.ix):=zbf.2 ⟨r,h1,h2⟩
  rw [← ysh (S:=S) (lh:=lh) (mem:=mem) (all:=all) recs] at h3
  obtain ⟨r',h4,h5⟩:=zbf.1 h3
  exact ⟨r',h4,h5⟩
theorem yhj {t s y:Nat}:∀ {l:List Oper} {k:Nat},stOf t l k=some (s,y)→∃ j o ty,s=k+j∧l[j]? =some o∧o.op=.store ty (.tmp t) (.tmp y)∧o.guard=none
 |[],k,h=>by cases h
 |o::os,k,h=>by
  simp only [stOf,yak] at h
  have next:stOf t os (k+1)=some (s,y)→∃ j o' ty,s=k+j∧(o::os)[j]? =some o'∧o'.op=.store ty (.tmp t) (.tmp y)∧o'.guard=none:=fun h=>by
   obtain ⟨j,o',ty,h1,h2,h3⟩:=yhj h
   exact ⟨j+1,o',ty,by omega,by simpa using h2,h3⟩
  split at h
  ·rename_i ty u y' hop hg
   split at h
   ·rename_i he
    simp only [Option.some.injEq,Prod.mk.injEq] at h
    obtain ⟨rfl,rfl⟩:=h
    exact ⟨0,o,ty,rfl,rfl,by rw [hop,eqb_eq.1 he],hg⟩
   ·exact next h
  ·exact next h
theorem yks {all:List SRec} {d d':Nat→Bool} {r:SRec} {z:Value} (h:∀ t s y,r.dst=some t→stOf t lh 0=some (s,y)→d s=d' s):flC all lh d r z=flC all lh d' r z:=by
 unfold flC
 split
 ·rename_i t ht
  split
  ·rename_i s y hs
   rw [h t s y ht hs]
  ·rfl
 ·rfl
theorem MemOk.away {w w':World} {e:Env} {mem:Mem β} {a:Nat} (h:MemOk W0 G I w e mem) (hm:Mod (fun k=>k=a) w w') (ha:W0.heap.size≤a) (hr:¬ ReadOf I w e mem a):MemOk W0 G I w' e mem:=by
 have hn:∀ (i:Nat) (u:Value) (n:En β),e[i]? =some u→mem[i]? =some n→∀ k,Foot I w u n.ob k→¬ k=a:=fun i u n hu hn k hk he=>hr ⟨i,u,n,hu,hn,he▸hk⟩
 have st:∀ (i:Nat) (u:Value) (n:En β),e[i]? =some u→mem[i]? =some n→Holds I e w' u n.mu n.ob∧∀ k,Foot I w' u n.ob k→Foot I w u n.ob k:=fun i u n hu hm'=>(h.holds i u n hu hm').stay hm (hn i u n hu hm')
 have so:∀ (i:Nat) (u:Value) (n:En β),e[i]? =some u→mem[i]? =some n→∀ k,Own I w' u n.ob k→Own I w u n.ob k:=fun i u n hu hm'=>(h.holds i u n hu hm').stayO hm (hn i u n hu hm')
 exact ⟨h.len,fun i u n hu hn=>(st i u n hu hn).1,fun i u n hu hn k hk=>zbh (h.lt i u n hu hn k ((st i u n hu hn).2 k hk)) hm.size,fun i u n hu hn hm k hk=>h.own i u n hu hn hm k (so i u n hu hn k hk),
  fun i j u v n m hu hn hmu hv hm hij k hk hk'=>h.sep i j u v n m hu hn hmu hv hm hij k (so i u n hu hn k hk) ((st j v m hv hm).2 k hk'),Mod.trans h.mod hm (fun k hk hlt=>by omega),fun i u n hu hn k hk=>h.rd i u n hu hn k ((st i u n hu hn).2 k hk)⟩
theorem ReadOf.away {w w':World} {e:Env} {mem:Mem β} {a k:Nat} (h:MemOk W0 G I w e mem) (hm:Mod (fun k=>k=a) w w') (hr:¬ ReadOf I w e mem a) (hk:ReadOf I w' e mem k):ReadOf I w e mem k:=by
 obtain ⟨i,u,n,hu,hn,hf⟩:=hk
 exact ⟨i,u,n,hu,hn,((h.holds i u n hu hn).stay hm fun k hk he=>hr ⟨i,u,n,hu,hn,he▸hk⟩).2 k hf⟩
theorem Fla.away {w w':World} {e:Env} {mem:Mem β} {a k:Nat} {ps:List PV} (h:Fla I W0 w e mem ps k) (hM:MemOk W0 G I w e mem) (hm:Mod (fun k=>k=a) w w') (hr:¬ ReadOf I w e mem a) (hne:k≠a):Fla I W0 w' e mem ps k:=
 ⟨h.new,zbh h.lt hm.size,fun j p hj=>by obtain ⟨x,h1,h2,h3⟩:=h.cell j p hj;exact ⟨x,hm.cell h1 hne,h2,hm.frozen h.lt hne h3⟩,fun hk=>h.free (hk.away hM hm hr)⟩
theorem AllIs.ex {e:Env} {xs:List PV} {us:List Value} (h:AllIs e xs us) {j:Nat} {p:PV} (hp:xs[j]? =some p):∃ u,us[j]? =some u∧p.is e u:=by
 have hj:=(zab.1 hp).1
 have hu:us[j]? =some (us[j]'(by rw [h.len];exact hj)):=zaa _
 exact ⟨_,hu,h.get j p _ hp hu⟩
theorem Fla.fill {w:World} {e:Env} {mem:Mem β} {a n:Nat} {zs:List Value} {ty:TypeId} {u:CV} {v:Value} {P:Program} (h:Fla I W0 w e mem (zs.map .v) a) (hM:MemOk W0 G I w e mem) (hn:yan P (sizeOf ty)=some n) (hz:zs.length=n) (hu:(ybp u).length=n) (h1:allB (oneP I.one ([]:Mem β)) (ybp u)=true) (hv:u.is e v):
  ∃ w',(storeVar ty ⟨a,0,none⟩ v).run P w=.ok () w'∧Mod (fun k=>k=a) w w'∧Fla I W0 w' e mem (ybp u) a:=by
 have hb:∀ p x,p∈ybp u→p.is e x→x.oneCell'=true:=fun p x hp hx=>yg5 hM (ylj h1 p hp) hx
 have hxs:AllIs e (ybp u) v.cells.toList:=yf9 hv fun p x hp hx=>hb p x (by rw [hp];exact zal ..) hx
 have hlen:v.cells.toList.length=n:=by rw [hxs.len];exact hu
 have hall:∀ x∈v.cells.toList,x.oneCell'=true:=fun x hx=>by
  obtain ⟨j,hj,he⟩:=zaz hx
  have hj2:j<(ybp u).length:=by rw [← hxs.len];exact hj
  obtain ⟨y,h2,h3⟩:=hxs.ex (zaa hj2)
  rw [zaa hj] at h2
  cases h2
  exact he▸hb _ _ (List.getElem_mem hj2) h3
 obtain ⟨y,hy,hyc⟩:∃ y:CV,y.is [Value.pointer (some ⟨a,0,none⟩)] v∧ybp y=v.cells.toList.map .v:=by
  cases u with
  |one p=>
   have hv1:v.cells.toList=[v]:=by
    have:=hb p v (zal ..) hv
    cases v<;>first|rfl|cases this
   exact ⟨.one (.v v),rfl,by rw [hv1];rfl⟩
  |fn f ca=>
   obtain ⟨us,_,rfl⟩:=hv
   exact ⟨.one (.v (.func (.func f) #[] us.toArray)),rfl,rfl⟩
  |agg cs=>
   obtain ⟨us,_,rfl⟩:=hv
   exact ⟨.agg (us.map .v),⟨us,yli _ us,rfl⟩,by simp [ybp,Value.cells]⟩
 have hft:∀ j,Foot I w (.pointer (some ⟨a,0,none⟩)) (.blk (zs.map .v):Ob β) j→j=a:=fun j hj=>by
  obtain ⟨b,o,q1,q2⟩:=hj
  simp only [Value.pointer.injEq,Option.some.injEq,Addr.mk.injEq] at q1
  omega
 have one:∀ (i:Nat) (v:Value) (n:En β),[Value.pointer (some ⟨a,0,none⟩)][i]? =some v→[(⟨.blk (zs.map .v),true⟩:En β)][i]? =some n→i=0∧v=.pointer (some ⟨a,0,none⟩)∧n=⟨.blk (zs.map .v),true⟩:=fun i v n h1 h2=>by
  have:=(zab.1 h1).1
  simp at this
  subst this
  simp at h1 h2
  exact ⟨rfl,h1.symm,h2.symm⟩
 have hM0:MemOk w (fun q=>q=2 * a) I w [Value.pointer (some ⟨a,0,none⟩)] [(⟨.blk (zs.map .v),true⟩:En β)]:=by
  refine ⟨rfl,fun i v n hv hn=>?_,fun i v n hv hn j hj=>?_,fun i v n hv hn hmu j hj=>?_,fun i i' v v' n n' hv hn hmu hv' hn' hne j hj hj'=>?_,Mod.refl _ w,fun i v n hv hn j hj=>?_⟩
  ·obtain ⟨rfl,rfl,rfl⟩:=one i v n hv hn
   refine ⟨a,0,rfl,fun j p hp=>?_⟩
   obtain ⟨x,g1,g2,g3⟩:=h.cell j p hp
   rw [zan] at hp
   cases hx:zs[j]? with
   |none=>rw [hx] at hp;cases hp
   |some z=>
    rw [hx] at hp
    simp only [Option.map_some,Option.some.injEq] at hp
    subst hp
    exact ⟨x,g1,g2,fun _=>g3⟩
  ·obtain ⟨rfl,rfl,rfl⟩:=one i v n hv hn
   rw [hft j hj];exact h.lt
  ·obtain ⟨rfl,rfl,rfl⟩:=one i v n hv hn
   rw [hft j hj.foot];exact .inr rfl
  ·obtain ⟨rfl,_,_⟩:=one i v n hv hn
   obtain ⟨rfl,_,_⟩:=one i' v' n' hv' hn'
   exact hne rfl
  ·obtain ⟨rfl,rfl,rfl⟩:=one i v n hv hn
   rw [hft j hj];exact .inr (by omega)
 have hst:yl1 P I.one [(⟨.blk (zs.map .v),true⟩:En β)] ty 0 0 y=some [⟨.blk (v.cells.toList.map .v),true⟩]:=by
  unfold yl1
  simp only [List.getElem?_cons_zero,hn]
  have c1:eqb (ybp y).length n=true:=eqb_eq.2 (by rw [hyc,List.length_map];exact hlen)
  have c2:leb (0+n) (zs.map PV.v).length=true:=leb_le.2 (by simp;omega)
  have c3:allB (oneP I.one [(⟨.blk (zs.map .v),true⟩:En β)]) (ybp y)=true:=by
   rw [hyc]
   have:∀ xs:List Value,(∀ x∈xs,x.oneCell'=true)→allB (oneP I.one [(⟨.blk (zs.map .v),true⟩:En β)]) (xs.map .v)=true:=fun xs=>by
    induction xs with
    |nil=>intro _;rfl
    |cons x xs ih=>
     intro h
     simp only [zay,allB,zbs]
     exact ⟨h x (zal ..),ih fun x hx=>h x (zak _ hx)⟩
   exact this _ hall
  rw [c1,c2,c3]
  simp [hyc,hz]
 obtain ⟨a',w',g1,g2,g3⟩:=yl0 hM0 hst ⟨a,0,rfl,rfl⟩ hy
 cases g1
 refine ⟨w',g2,g3.mod.mono fun k _ hk=>by omega,h.new,zbh h.lt g3.mod.size,fun j p hj=>?_,fun hr=>?_⟩
 ·obtain ⟨x,h2,h3⟩:=hxs.ex hj
  obtain ⟨b,o,q1,q2⟩:=g3.holds 0 _ _ rfl rfl
  simp only [Value.pointer.injEq,Option.some.injEq,Addr.mk.injEq] at q1
  obtain ⟨rfl,rfl,_⟩:=q1
  obtain ⟨x',q3,q4,q5⟩:=q2 j (.v x) (by rw [zan,h2];rfl)
  have q4:x'=x:=q4
  subst q4
  exact ⟨_,q3,h3,q5 rfl⟩
 ·exact h.free (hr.away hM (g3.mod.mono fun k _ hk=>by omega) h.free)
end
theorem FrOk.grow {recs:List SRec} {e e':Env} {a:Act} (h:FrOk recs base e a sz) (hg:Grows e e'):FrOk recs base e' a sz:=by
 refine ⟨h.defers,h.size,fun t=>?_⟩
 have:=h.slot t
 unfold ybb at this ⊢
 split at this
 ·exact ⟨fun hs=>SV.is_mono hg (this.1 hs),this.2⟩
 ·split at this
  ·exact SV.is_mono hg this
  ·exact this
theorem yoy {i:Nat} {recs:List SRec} {mem:Mem β} {c:List (Nat×Bool)} {eff:Bool} {o:Oper} {ps:List Prop} {sv:SV} {ty:TypeId} {x y:Operand} (hop:o.op=.store ty x y) (h:ybm S i recs base mem c eff o=some (sv,none,ps)):False:=by
 rcases yb8 h with h1|⟨q,b,qs,h1,_,_⟩
 ·unfold yb5 at h1
  rw [hop] at h1
  simp only at h1
  split at h1
  ·obtain ⟨_,_,_,_,h2⟩:=ydf h1
   simp at h2
  split at h1
  ·split at h1
   ·simp at h1
   ·cases h1
  ·cases h1
 ·unfold yb5 at h1
  rw [hop] at h1
  simp only at h1
  split at h1
  ·obtain ⟨_,_,_,_,h2⟩:=ydf h1
   simp at h2
  split at h1
  ·split at h1
   ·simp at h1
   ·cases h1
  ·cases h1
theorem region_hd {W:List Nat} (hS:SyOk S I W0 G) (hch:S.A.ch=true) {id:Nat} {Q:Exit→Act→World→Prop} {recsN recs':List SRec} {mem memN mem':Mem β} {ver verN verX ver':Nat} {psN ps':List Prop} {a:Act} {w:World} {e:Env}
  (RS:RgSpec l n) (hN:ye7 S base W (yns S.A.hard W 0 mem) (l.take n) sz (l.take n) 0 [] mem ver [] (none,[])=some (recsN,memN,verN,psN)) (h:ybv S base n sz (l.drop n) n (fixF S (l.take n) recsN recsN memN).1 (fixF S (l.take n) recsN recsN memN).2 verX psN=some (recs',mem',ver',ps'))
  (hf0:FrOk [] base e a sz) (hM:MemOk W0 G I w e mem) (hps:∀ p∈ps',p)
  (hend:∀ e' a' w',Grows e e'→FrOk recs' base e' a' sz→MemOk W0 G I w' e' mem'→Q .normal a' w'):(Code.region id l.toArray true).wp S.P Q a w:=by
 have hle:=RS.le
 have hlen:(l.take n).length=n:=by simp;omega
 have htake:∀ (j:Nat) (o:Oper),(l.take n)[j]? =some o→l[0+j]? =some o:=fun j o hj=>by
  rw [zai] at hj
  split at hj
  ·rw [zbo];exact hj
  ·cases hj
 obtain ⟨hIN,_,μ,χ,ρ,hμ0,hμn,hst,hχn,hχw,hρw⟩:=yl3 (l:=l) (l.take n) 0 [] mem ver [] (none,[]) (fun _=>False) (fun _=>False) hN (RInv.nil l) ⟨fun _ _ h=>h,fun rs h=>by (cases h),fun rs h=>by (cases h),fun y h=>h.elim⟩ htake
 rw [hlen,zbo] at hIN hμn
 have hpsN:∀ p∈psN,p:=fun p hp=>hps p (ydn (l.drop n) n _ _ _ psN h p hp)
 have hstep:∀ (i:Nat) (o:Oper),i<n→l[i]? =some o→Step2 S base W l (l.take n) recsN (yns S.A.hard W 0 mem) μ χ ρ psN sz i o:=fun i o hi ho=>by
  have:=hst i o (by rw [zai,if_pos hi];exact ho)
  rwa [zbo] at this
 have hdst:DstOk (l.take n) a:=fun o ho u hu=>by
  obtain ⟨i,hi,he⟩:=zaz ho
  have h1:(l.take n)[i]? =some o:=by rw [zaa hi,he]
  obtain ⟨_,_,_,_,_,_,_,_,_,_,_,_,_,h2⟩:=hst i o h1
  rw [hf0.size]
  exact h2 u hu
 -- what a slot holds
 have huniq:∀ (i j:Nat) (o o':Oper) (t:Nat),i<n→j<n→l[i]? =some o→l[j]? =some o'→o.dst=some t→o'.dst=some t→i=j:=fun i j o o' t hi hj ho ho' hd hd'=>by
  rcases Nat.lt_trichotomy i j with hlt|he|hlt
  ·exact absurd hd' (RS.apart i j o o' hi hj hlt ho ho' t hd)
  ·exact he
  ·exact absurd hd (RS.apart j i o' o hj hi hlt ho' ho t hd')
 have hlook:∀ (e:Env) (w:World) (hf:FrOk [] base e a sz) (vals:Nat→Value) (t:Nat) (R recs:List SRec) (newer:List SRec) (i:Nat),RInv l recs i→i≤n→R=newer++recs→(∀ r∈newer,i≤r.ix)→
   (∀ (j:Nat) (o:Oper),j<n→l[j]? =some o→o.dst=some t→j<i∧RecV R e j (vals j) w)→ybb recs base e t ((full (l.take n) vals a).tmps.getD t undef):=fun e w hf vals t R recs newer i hI hin heq hnew hV=>by
  rw [yf4 hdst]
  unfold look
  cases hw:wrt t (l.take n) 0 none with
  |none=>
   have hno:=(yi3 hw).2
   have hrd:yas t recs=none:=by
    cases hr:yas t recs with
    |none=>rfl
    |some r=>
     obtain ⟨h1,h2⟩:=ycc t hr
     obtain ⟨o,ho,hd⟩:=hI.dst r h1
     have hlt:=(hI.ok.1 r h1).1
     have hmem:o∈l.take n:=zaj (i:=r.ix) (by rw [zai,if_pos (by omega)];exact ho)
     exact absurd (hd.trans h2) (hno o hmem)
   have:=hf.slot t
   simp only [ybb,yas] at this
   simp only [ybb,hrd]
   exact this
  |some j=>
   rcases yi2 hw with h1|⟨j',o,h1,h2,h3⟩
   ·cases h1
   ·have hjj:j=j':=by omega
    subst hjj
    rw [zai] at h2
    split at h2
    ·rename_i hjn
     obtain ⟨hji,r,hr,hri,hs1,hs2⟩:=hV j o hjn h2 h3
     have hrr:r∈recs:=by
      rw [heq] at hr
      rcases zbe.1 hr with hr|hr
      ·have:=hnew r hr;omega
      ·exact hr
     have hrd:r.dst=some t:=by
      obtain ⟨o',ho',hd'⟩:=hI.dst r hrr
      rw [hri,h2] at ho'
      cases ho'
      rw [← hd'];exact h3
     have hrec:yas t recs=some r:=by
      cases hr':yas t recs with
      |none=>
       exfalso
       clear hs1 hs2 heq hnew hr hV hI
       induction recs with
       |nil=>cases hrr
       |cons x xs ih=>
        simp only [yas] at hr'
        split at hr'
        ·cases hr'
        ·rename_i hb
         rcases List.mem_cons.1 hrr with rfl|hrr
         ·rw [hrd] at hb
          simp only [ylt] at hb
          rw [eqb_eq.2 rfl] at hb
          cases hb
         ·exact ih hrr hr'
      |some r'=>
       obtain ⟨g1,g2⟩:=ycc t hr'
       obtain ⟨o',ho',hd'⟩:=hI.dst r' g1
       have hlt:=(hI.ok.1 r' g1).1
       have:=huniq r'.ix j o' o t (by omega) hjn ho' h2 (hd'.trans g2) h3
       exact congrArg some (yfb hI.ok.2 r' g1 r hrr (by omega))
     simp only [ybb,hrec]
     have hsat:sat R r.ctx=sat recs r.ctx:=by
      rw [heq]
      refine yeq newer fun r' hr' x hx=>?_
      have q1:=hnew r' hr'
      have q2:=hI.ok.1 r hrr
      have q3:=q2.2 x hx
      omega
     rw [hsat] at hs1 hs2
     exact ⟨hs1,hs2⟩
    ·cases h2
 have hval:∀ (vals:Nat→Value) (j:Nat) (o:Oper) (t:Nat),j<n→l[j]? =some o→o.dst=some t→(full (l.take n) vals a).tmps.getD t undef=vals j:=fun vals j o t hj ho hd=>by
  rw [yf4 hdst]
  unfold look
  have hmem:o∈l.take n:=zaj (i:=j) (by rw [zai,if_pos hj];exact ho)
  cases hw:wrt t (l.take n) 0 none with
  |none=>exact absurd hd ((yi3 hw).2 o hmem)
  |some j2=>
   rcases yi2 hw with h1|⟨j',o',h1,h2,h3⟩
   ·cases h1
   ·have hjj:j2=j':=by omega
    subst hjj
    rw [zai] at h2
    split at h2
    ·rename_i hjn
     rw [huniq j2 j o' o t hjn hj h2 ho h3 hd]
    ·cases h2
 have hrec:∀ (recs newer:List SRec) (x:SRec) (k:Nat),RInv l recs k→k≤n→recsN=newer++recs→∀ r∈recs,∀ t,r.dst=some t→yas t recs=some r:=fun recs newer x k hI hk heq r hr t hd=>by
  cases hr':yas t recs with
  |none=>
   exfalso
   clear heq hI
   induction recs with
   |nil=>cases hr
   |cons x xs ih=>
    simp only [yas] at hr'
    split at hr'
    ·cases hr'
    ·rename_i hb
     rcases List.mem_cons.1 hr with rfl|hr
     ·rw [hd] at hb
      simp only [ylt] at hb
      rw [eqb_eq.2 rfl] at hb
      cases hb
     ·exact ih hr hr'
  |some r'=>
   obtain ⟨g1,g2⟩:=ycc t hr'
   obtain ⟨o',ho',hd'⟩:=hI.dst r' g1
   obtain ⟨o,ho,hd2⟩:=hI.dst r hr
   have hlt:=(hI.ok.1 r' g1).1
   have hlt2:=(hI.ok.1 r hr).1
   have:=huniq r'.ix r.ix o' o t (by omega) (by omega) ho' ho (hd'.trans g2) (hd2.trans hd)
   exact congrArg some (yfb hI.ok.2 r' g1 r hr this)
 have hμs:∀ i,i<n→μ (i+1)=μ i∨χ i=true:=fun i hi=>by
  have ho:l[i]? =some l[i]:=zaa (by omega)
  obtain ⟨_,_,_,_,_,_,_,_,_,hev,_⟩:=hstep i _ hi ho
  rcases hev with ⟨_,_,_,h⟩|⟨_,_,_,h⟩|⟨_,_,_,h⟩|⟨_,hc,_⟩|⟨_,_,_,_,_,h⟩|⟨_,_,_,_,_,h⟩
  ·exact .inl h
  ·exact .inl h
  ·exact .inl h
  ·exact .inr hc
  ·exact .inl h
  ·exact .inl h
 have hμk:∀ d k,k+d≤n→(∀ j,k≤j→j<k+d→χ j=false)→μ (k+d)=μ k:=fun d=>by
  induction d with
  |zero=>intro k _ _;rfl
  |succ d ih=>
   intro k hk hno
   rcases hμs (k+d) (by omega) with h|hc
   ·rw [← Nat.add_assoc,h];exact ih k (by omega) fun j h1 h2=>hno j h1 (by omega)
   ·have:=hno (k+d) (by omega) (by omega)
    rw [this] at hc;cases hc
 have hSL:∀ k,k≤n→SLeX W S.A.hard mem (μ k):=fun k=>by
  induction k with
  |zero=>intro _;rw [hμ0];exact SLeX.refl _ _ _
  |succ k ih=>
   intro hk
   have ho:l[k]? =some l[k]:=zaa (by omega)
   obtain ⟨_,_,_,_,_,_,_,_,_,hev,_⟩:=hstep k _ (by omega) ho
   rcases hev with ⟨_,_,_,h⟩|⟨_,_,_,h⟩|⟨_,_,_,h⟩|⟨_,_,_,hok,hev⟩|⟨_,_,_,_,_,h⟩|⟨_,_,_,_,_,h⟩
   ·rw [h];exact ih (by omega)
   ·rw [h];exact ih (by omega)
   ·rw [h];exact ih (by omega)
   ·exact (ih (by omega)).trans (yqd (hS.loc hch) (hS.opb hch) (hS.opa hch) (hS.apl hch) (hS.ost hch) hev hok)
   ·rw [h];exact ih (by omega)
   ·rw [h];exact ih (by omega)
 refine yom (J:=fun L vals w'=>∃ k e',k≤n∧(∀ j,j<n→χ j=true→(L.getD j false=true↔j<k))∧Grows e e'∧MemOk W0 G I w' e' (μ k)∧(∀ j,j<n→L.getD j false=true→RecV recsN e' j (vals j) w')∧(∀ r∈recsN,∀ z,flOf S (l.take n) r=some z→L.getD r.ix false=true→∃ a,vals r.ix=.pointer (some ⟨a,0,none⟩)∧Fla I W0 w' e' (μ k) (flC recsN (l.take n) (fun s=>L.getD s false) r z) a)∧(∀ r∈recsN,∀ r'∈recsN,(flOf S (l.take n) r).isSome=true→(flOf S (l.take n) r').isSome=true→L.getD r.ix false=true→L.getD r'.ix false=true→r.ix≠r'.ix→vals r.ix≠vals r'.ix)) hS.mix RS
  ⟨0,e,Nat.zero_le _,fun j _ _=>by rw [getD_replicate_false];simp,Grows.refl e,by rw [hμ0];exact hM.ext (Ext.refl _).drew,(fun j _ hl=>by rw [getD_replicate_false] at hl;cases hl),(fun r _ z _ hl=>by rw [getD_replicate_false] at hl;cases hl),(fun r _ r' _ _ _ hl=>by rw [getD_replicate_false] at hl;cases hl)⟩ ?_ ?_
 ·intro i o hin hi L vals w1 hsz hu hcl hdeps ⟨k,e1,hkn,hk,hg1,hM1,hV,hFl,hNe⟩
  obtain ⟨recs,co,c,sv,qs,newer,hI,hc,hclt,hev,hqs,heq,hnew,_⟩:=hstep i o hin hi
  have hf:=hf0.grow hg1
  have hslots:∀ t∈o.looksAt l.toArray,ybb recs base e1 t ((full (l.take n) vals a).tmps.getD t undef):=fun t ht=>by
   refine hlook e1 w1 hf vals t recsN recs (newer++[⟨i,o.dst,c,sv⟩]) i hI (by omega) (by rw [heq];simp) (fun r hr=>?_) fun j oj hj hoj hd=>?_
   ·rcases zbe.1 hr with hr|hr
    ·have:=hnew r hr;omega
    ·simp at hr;subst hr;exact zbm _
   ·rcases RS.looks i j o oj hin hj hi hoj with ⟨e,he,hb,hon⟩|hno
    ·have hb4:=RS.before i o hin hi e he hb
     have hl:=hdeps e he hb
     rw [hon] at hl hb4
     exact ⟨hb4,hV j hj hl⟩
    ·exact absurd ht (hno t hd)
  have hwant:Region.wanted o (yielded l.toArray (full (l.take n) vals a).tmps)=satO recs co:=
   ygd (base:=base) (e:=e1) hI hc fun g wn t hg hd=>hslots t (by
    unfold Oper.looksAt
    refine zag _ ?_
    rw [hg]
    have e:(l.toArray[g]?).bind (·.dst)=some t:=by simpa using hd
    simp only [e]
    simp)
  have hself:(⟨i,o.dst,c,sv⟩:SRec)∈recsN:=by rw [heq];exact zag _ (zal ..)
  have hsatN:sat recsN c=sat recs c:=by
   rw [heq,yeq newer (fun r hr x hx=>by have:=hnew r hr;have:=hclt x hx;omega),yhk (fun x hx=>hclt x hx)]
  have hρ:∀ x∈o.op.operands,OpIs recs base e1 x ((full (l.take n) vals a).eval x):=fun x hx=>by
   cases x with
   |tmp t=>
    exact hslots t (by
     unfold Oper.looksAt
     exact zah _ (List.mem_filterMap.2 ⟨.tmp t,by simpa using hx,rfl⟩))
   |const v=>rfl
   |global g=>rfl
   |func f=>rfl
  have hLset:∀ j,j≠i→(L.setIfInBounds i true).getD j false=L.getD j false:=fun j hj=>getD_set_ne false (Ne.symm hj)
  have hLi:(L.setIfInBounds i true).getD i false=true:=by simp [hsz]
  -- the stage behind it
  have hnext:∃ k',k'≤n∧(∀ j,j<n→χ j=true→((L.setIfInBounds i true).getD j false=true↔j<k'))∧μ k'=(if χ i=true then μ (i+1) else μ k)∧(χ i=true→μ k=μ i):=by
   cases hcall:χ i with
   |false=>
    refine ⟨k,hkn,fun j hj hcj=>?_,by simp,fun h=>by cases h⟩
    have hji:j≠i:=fun e=>by subst e;rw [hcall] at hcj;cases hcj
    rw [hLset j hji];exact hk j hj hcj
   |true=>
    have hdown:∀ j,j<i→χ j=true→L.getD j false=true:=fun j hji hcj=>hχw i hcall j (.inl (.inr ⟨hji,hcj⟩)) L hcl fun o' ho'=>by rw [hi] at ho';cases ho';exact hdeps
    have hki:k≤i:=by
     rcases zbk i k with h|h
     ·have:=(hk i hin hcall).2 h
      rw [hu] at this;cases this
     ·exact h
    refine ⟨i+1,by omega,fun j hj hcj=>?_,by simp,fun _=>?_⟩
    ·by_cases hji:j=i
     ·subst hji;rw [hLi];simp
     ·rw [hLset j hji]
      constructor
      ·intro h;have:=(hk j hj hcj).1 h;omega
      ·intro h;exact hdown j (by omega) hcj
    ·obtain ⟨d,rfl⟩:∃ d,i=k+d:=⟨i - k,by omega⟩
     exact (hμk d k (by omega) fun j h1 h2=>by
      cases hcj:χ j with
      |false=>rfl
      |true=>
       have:=(hk j (by omega) hcj).1 (hdown j (by omega) hcj)
       omega).symm
  obtain ⟨k',hk'n,hk',hμk',hμki⟩:=hnext
  have hμkr:χ i=false∧ρ i=true→μ k=μ i:=fun ⟨hci,hri⟩=>by
   have hdown:∀ j,j<i→χ j=true→j<k:=fun j hji hcj=>(hk j (by omega) hcj).1 (hρw i hri j (.inr ⟨hji,hcj⟩) L hcl fun o' ho'=>by rw [hi] at ho';cases ho';exact hdeps)
   have hup:∀ j,j<n→i<j→χ j=true→k≤j:=fun j hjn hij hcj=>by
    rcases zbk j k with h|h
    ·have hl:=(hk j hjn hcj).2 h
     have:=hχw j hcj i (.inr (.inr ⟨hij,hri⟩)) L hcl fun o' ho'=>hcl j o' ho' hl
     rw [hu] at this;cases this
    ·exact h
   rcases Nat.le_total k i with hki|hik
   ·obtain ⟨d,rfl⟩:∃ d,i=k+d:=⟨i - k,by omega⟩
    exact (hμk d k (by omega) fun j h1 h2=>by
     cases hcj:χ j with
     |false=>rfl
     |true=>have:=hdown j (by omega) hcj;omega).symm
   ·obtain ⟨d,rfl⟩:∃ d,k=i+d:=⟨k - i,by omega⟩
    exact hμk d i (by omega) fun j h1 h2=>by
     cases hcj:χ j with
     |false=>rfl
     |true=>
      rcases zbk i j with h|h
      ·have:=hup j (by omega) h hcj;omega
      ·have hji:j=i:=by omega
       subst hji
       rw [hci] at hcj;cases hcj
  have huq:∀ r∈recsN,r.ix=i→r=⟨i,o.dst,c,sv⟩:=fun r hr hri=>yfb hIN.ok.2 r hr _ hself hri
  have done:∀ (v:Value) (w2:World) (e2:Env),Grows e1 e2→MemOk W0 G I w2 e2 (μ k')→(sat recsN c=true→sv.is e2 v)→(sat recsN c=false→v=undef)→
    (∀ r∈recsN,∀ z,flOf S (l.take n) r=some z→L.getD r.ix false=true→∀ a,vals r.ix=.pointer (some ⟨a,0,none⟩)→Fla I W0 w1 e1 (μ k) (flC recsN (l.take n) (fun s=>L.getD s false) r z) a→Fla I W0 w2 e2 (μ k') (flC recsN (l.take n) (fun s=>(L.setIfInBounds i true).getD s false) r z) a)→(∀ z,flOf S (l.take n) ⟨i,o.dst,c,sv⟩=some z→∃ a,v=.pointer (some ⟨a,0,none⟩)∧Fla I W0 w2 e2 (μ k') (flC recsN (l.take n) (fun s=>(L.setIfInBounds i true).getD s false) ⟨i,o.dst,c,sv⟩ z) a∧w1.heap.size≤a)→
    ∃ k e',k≤n∧(∀ j,j<n→χ j=true→((L.setIfInBounds i true).getD j false=true↔j<k))∧Grows e e'∧MemOk W0 G I w2 e' (μ k)∧(∀ j,j<n→(L.setIfInBounds i true).getD j false=true→RecV recsN e' j (upd vals i v j) w2)∧
     (∀ r∈recsN,∀ z,flOf S (l.take n) r=some z→(L.setIfInBounds i true).getD r.ix false=true→∃ a,upd vals i v r.ix=.pointer (some ⟨a,0,none⟩)∧Fla I W0 w2 e' (μ k) (flC recsN (l.take n) (fun s=>(L.setIfInBounds i true).getD s false) r z) a)∧(∀ r∈recsN,∀ r'∈recsN,(flOf S (l.take n) r).isSome=true→(flOf S (l.take n) r').isSome=true→(L.setIfInBounds i true).getD r.ix false=true→(L.setIfInBounds i true).getD r'.ix false=true→r.ix≠r'.ix→upd vals i v r.ix≠upd vals i v r'.ix):=fun v w2 e2 hg2 hM2 h1 h2 h3 h4=>by
   have hold:∀ r∈recsN,∀ z,flOf S (l.take n) r=some z→(L.setIfInBounds i true).getD r.ix false=true→r.ix≠i→∃ a,upd vals i v r.ix=.pointer (some ⟨a,0,none⟩)∧Fla I W0 w1 e1 (μ k) (flC recsN (l.take n) (fun s=>L.getD s false) r z) a∧L.getD r.ix false=true∧vals r.ix=.pointer (some ⟨a,0,none⟩):=fun r hr z hz hl hri=>by
    rw [hLset _ hri] at hl
    obtain ⟨a,g1,g2⟩:=hFl r hr z hz hl
    exact ⟨a,by simp only [upd,if_neg hri];exact g1,g2,hl,g1⟩
   have hcur:∀ r∈recsN,∀ z,flOf S (l.take n) r=some z→r.ix=i→∃ a,upd vals i v r.ix=.pointer (some ⟨a,0,none⟩)∧Fla I W0 w2 e2 (μ k') (flC recsN (l.take n) (fun s=>(L.setIfInBounds i true).getD s false) r z) a∧w1.heap.size≤a:=fun r hr z hz hri=>by
    have hrr:=huq r hr hri
    rw [hrr] at hz
    obtain ⟨a,g1,g2⟩:=h4 z hz
    exact ⟨a,by simp only [upd,if_pos hri];exact g1,by rw [hrr];exact g2⟩
   refine ⟨k',e2,hk'n,hk',hg1.trans hg2,hM2,fun j hj hl=>?_,fun r hr z hz hl=>?_,fun r hr r' hr' hs hs' hl hl' hne=>?_⟩
   ·by_cases hji:j=i
    ·subst hji
     simp only [upd,if_true]
     exact ⟨_,hself,rfl,h1,h2⟩
    ·rw [hLset j hji] at hl
     simp only [upd,if_neg hji]
     obtain ⟨r,hr,hri,q1,q2⟩:=hV j hj hl
     exact ⟨r,hr,hri,fun hs=>SV.is_mono hg2 (q1 hs),q2⟩
   ·by_cases hri:r.ix=i
    ·obtain ⟨a,g1,g2,_⟩:=hcur r hr z hz hri
     exact ⟨a,g1,g2⟩
    ·obtain ⟨a,g1,g2,g3,g4⟩:=hold r hr z hz hl hri
     exact ⟨a,g1,h3 r hr z hz g3 a g4 g2⟩
   ·obtain ⟨z,hz⟩:=Option.isSome_iff_exists.1 hs
    obtain ⟨z',hz'⟩:=Option.isSome_iff_exists.1 hs'
    by_cases hri:r.ix=i
    ·obtain ⟨a,g1,_,g3⟩:=hcur r hr z hz hri
     obtain ⟨a',q1,q2,_,_⟩:=hold r' hr' z' hz' hl' (by omega)
     rw [g1,q1]
     intro he
     have:=q2.lt
     simp only [Value.pointer.injEq,Option.some.injEq,Addr.mk.injEq] at he
     omega
    ·by_cases hri':r'.ix=i
     ·obtain ⟨a,g1,_,g3⟩:=hcur r' hr' z' hz' hri'
      obtain ⟨a',q1,q2,_,_⟩:=hold r hr z hz hl hri
      rw [g1,q1]
      intro he
      have:=q2.lt
      simp only [Value.pointer.injEq,Option.some.injEq,Addr.mk.injEq] at he
      omega
     ·rw [hLset _ hri] at hl
      rw [hLset _ hri'] at hl'
      simp only [upd,if_neg hri,if_neg hri']
      exact hNe r hr r' hr' hs hs' hl hl' hne
  have hnofl:(∀ ty,o.op=.alloc ty→sv=anyV→False)→∀ (P:Value→Prop) z,flOf S (l.take n) ⟨i,o.dst,c,sv⟩=some z→P z:=fun hno P z hz=>by
   obtain ⟨o',ty,g1,g2,g3,_⟩:=yh0 hz
   simp only at g1 g3
   rw [zai,if_pos hin,hi] at g1;cases g1
   exact (hno ty g2 g3).elim
  have hkeep:(∀ t y,(∃ r∈recsN,∃ z,flOf S (l.take n) r=some z∧r.dst=some t)→stOf t (l.take n) 0=some (i,y)→False)→∀ r∈recsN,∀ z,flOf S (l.take n) r=some z→flC recsN (l.take n) (fun s=>(L.setIfInBounds i true).getD s false) r z=flC recsN (l.take n) (fun s=>L.getD s false) r z:=fun hno r hr z hz=>yks fun t s y ht hs=>by
   have hsi:s≠i:=fun he=>by subst he;exact hno t y ⟨r,hr,z,hz,ht⟩ hs
   exact hLset s hsi
  have hst:∀ t y,stOf t (l.take n) 0=some (i,y)→∃ ty,o.op=.store ty (.tmp t) (.tmp y)∧o.guard=none:=fun t y hs=>by
   obtain ⟨j,o',ty,h1,h2,h3,h4⟩:=yhj hs
   have hj:j=i:=by omega
   subst hj
   rw [zai,if_pos hin,hi] at h2
   cases h2
   exact ⟨ty,h3,h4⟩
  have hrd:∀ r∈recsN,∀ t,r.dst=some t→t∈o.looksAt l.toArray→r∈recs∧L.getD r.ix false=true:=fun r hr t hd ht=>by
   obtain ⟨o',ho',hd'⟩:=hIN.dst r hr
   have hrn:=(hIN.ok.1 r hr).1
   rcases RS.looks i r.ix o o' hin hrn hi ho' with ⟨e,he,hb,hon⟩|hno
   ·have hb4:=RS.before i o hin hi e he hb
    have hl:=hdeps e he hb
    rw [hon] at hl hb4
    refine ⟨?_,hl⟩
    rw [heq] at hr
    rcases zbe.1 hr with hr|hr
    ·have:=hnew r hr;omega
    ·rcases List.mem_cons.1 hr with rfl|hr
     ·simp at hb4
     ·exact hr
   ·exact absurd ht (hno t (hd'.trans hd))
  have hlookT:∀ t y ty,o.op=.store ty (.tmp t) (.tmp y)→t∈o.looksAt l.toArray∧y∈o.looksAt l.toArray:=fun t y ty hop=>by
   unfold Oper.looksAt
   exact ⟨zah _ (List.mem_filterMap.2 ⟨.tmp t,by rw [hop];simp [Op.operands],rfl⟩),zah _ (List.mem_filterMap.2 ⟨.tmp y,by rw [hop];simp [Op.operands],rfl⟩)⟩
  have hkp:(∀ ty t y,o.op=.store ty (.tmp t) (.tmp y)→o.guard=none→∀ r∈recs,r.sv=anyV→r.ctx=[]→yas t recs=some r→False)→∀ r∈recsN,∀ z,flOf S (l.take n) r=some z→flC recsN (l.take n) (fun s=>(L.setIfInBounds i true).getD s false) r z=flC recsN (l.take n) (fun s=>L.getD s false) r z:=fun hno=>hkeep fun t y ⟨r,hr,z,hz,ht⟩ hs=>by
   obtain ⟨ty,h1,h2⟩:=hst t y hs
   obtain ⟨hr1,_⟩:=hrd r hr t ht (hlookT t y ty h1).1
   obtain ⟨_,_,_,_,h3,h4,_⟩:=yh0 hz
   exact hno ty t y h1 h2 r hr1 h3 h4 (hrec recs (newer++[⟨i,o.dst,c,sv⟩]) r i hI (by omega) (by rw [heq];simp) r hr1 t ht)
  rw [hwant]
  have same:μ (i+1)=μ i→μ k'=μ k:=fun hs=>by
   rw [hμk']
   split
   ·rename_i hc;rw [hs,hμki hc]
   ·rfl
  cases hs:satO recs co with
  |false=>
   rw [if_neg (by decide)]
   have hsame:μ (i+1)=μ i:=by
    rcases hev with ⟨_,_,_,h⟩|⟨_,_,_,h⟩|⟨_,_,_,h⟩|⟨rfl,_,rfl,_⟩|⟨_,_,_,_,_,h⟩|⟨_,_,_,_,_,h⟩
    ·exact h
    ·exact h
    ·exact h
    ·simp [satO,sat] at hs
    ·exact h
    ·exact h
   have hno:∀ ty,o.op=.alloc ty→sv=anyV→False:=fun ty hop hsv=>by
    rcases hev with ⟨_,_,h,_⟩|⟨_,_,h,_⟩|⟨_,_,h,_⟩|⟨_,_,_,_,h⟩|⟨rfl,_,rfl,_⟩|⟨rfl,_,rfl,_⟩
    ·rw [hsv] at h;cases h
    ·subst hsv;exact ye3 hop h
    ·subst hsv;exact ye3 hop h
    ·subst hsv;exact ye3 hop h
    ·simp [satO,sat] at hs
    ·simp [satO,sat] at hs
   have hko:∀ ty t y,o.op=.store ty (.tmp t) (.tmp y)→o.guard=none→∀ r∈recs,r.sv=anyV→r.ctx=[]→yas t recs=some r→False:=fun ty t y hop hg r _ _ _ _=>by
    rw [hg] at hc
    simp only [yil,Option.some.injEq] at hc
    subst hc
    simp [satO,sat] at hs
   refine done undef w1 e1 (Grows.refl _) (by rw [same hsame];exact hM1) (fun h=>?_) (fun _=>rfl) (fun r hr z hz _ a _ h=>by rw [same hsame,hkp hko r hr z hz];exact h) (hnofl hno _)
   rcases hev with ⟨rfl,rfl,rfl,_⟩|⟨rfl,_⟩|⟨rfl,_⟩|⟨rfl,_⟩|⟨rfl,_⟩|⟨rfl,_⟩
   ·rfl
   all_goals
    have:sat recs c=false:=hs
    rw [hsatN,this] at h;cases h
  |true=>
   rw [if_pos rfl]
   have hsc:∀ (hco:co=some c),sat recs c=true:=fun hco=>by rw [hco] at hs;exact hs
   rcases hev with ⟨rfl,_⟩|⟨rfl,hcall,hev,hsame⟩|⟨rfl,hcall,hev,hsame⟩|⟨rfl,hcall,rfl,hok,hev⟩|⟨rfl,hcall,rfl,rfl,hfo,hsame⟩|⟨rfl,hcall,rfl,rfl,hfs,hsame⟩
   ·simp [satO] at hs
   ·have hsat:=hsc rfl
    have hno:∀ ty,o.op=.alloc ty→sv=anyV→False:=fun ty hop hsv=>by subst hsv;exact ye3 hop hev
    have hko:∀ ty t y,o.op=.store ty (.tmp t) (.tmp y)→o.guard=none→∀ r∈recs,r.sv=anyV→r.ctx=[]→yas t recs=some r→False:=fun ty t y hop _ _ _ _ _ _=>yoy hop hev
    have hev':=yqc (fun op args ps r h=>hS.opm hch op args _ _ ps r h (hSL k hkn).mask) (fun f g hg args ps r h=>hS.fnm hch f g hg args _ _ ps r h (hSL k hkn).mask) hev (hSL k hkn).mask
    have:=yed (w:=w1) hS hM1 hI.ok.2 hsat hρ hev' (ygt hsat fun p hp=>hpsN p (hqs p hp))
    unfold yey
    exact ybd (fun v w' hv=>done v w' e1 (Grows.refl _) (by rw [same hsame];exact hM1.ext hv.1) (fun _=>hv.2) (fun hf=>by rw [hsatN,hsat] at hf;cases hf) (fun r hr z hz _ a _ h=>by rw [same hsame,hkp hko r hr z hz];exact h.ext hM1 hv.1) (hnofl hno _)) this
   ·have hsat:=hsc rfl
    have hno:∀ ty,o.op=.alloc ty→sv=anyV→False:=fun ty hop hsv=>by subst hsv;exact ye3 hop hev
    have hko:∀ ty t y,o.op=.store ty (.tmp t) (.tmp y)→o.guard=none→∀ r∈recs,r.sv=anyV→r.ctx=[]→yas t recs=some r→False:=fun ty t y hop _ _ _ _ _ _=>yoy hop hev
    rw [← hμkr hcall] at hev
    have:=yed (w:=w1) hS hM1 hI.ok.2 hsat hρ hev (ygt hsat fun p hp=>hpsN p (hqs p hp))
    unfold yey
    exact ybd (fun v w' hv=>done v w' e1 (Grows.refl _) (by rw [same hsame];exact hM1.ext hv.1) (fun _=>hv.2) (fun hf=>by rw [hsatN,hsat] at hf;cases hf) (fun r hr z hz _ a _ h=>by rw [same hsame,hkp hko r hr z hz];exact h.ext hM1 hv.1) (hnofl hno _)) this
   ·have hsat:sat recs []=true:=rfl
    have hno:∀ ty,o.op=.alloc ty→sv=anyV→False:=fun ty hop hsv=>by subst hsv;exact ye3 hop hev
    have hko:∀ ty t y,o.op=.store ty (.tmp t) (.tmp y)→o.guard=none→∀ r∈recs,r.sv=anyV→r.ctx=[]→yas t recs=some r→False:=fun ty t y hop _ r _ h1 h2 h3=>by
     unfold ywo at hok
     rw [hop] at hok
     simp only [yax,h3,h2,subC,h1,anyV,pvS] at hok
     cases hok
    rw [← hμki hcall] at hev
    have:=yk0 (w:=w1) (hS.at_ hch w1 (ybc I w1 e1 (μ k))) hM1.self hsat hρ hev (ygt hsat fun p hp=>hpsN p (hqs p hp))
    unfold yey
    refine ybd (fun v w' ⟨e2,hg2,hM2,hv⟩=>done v w' e2 hg2 (by rw [hμk',if_pos hcall];exact hM1.back hM2) (fun _=>hv) (fun hf=>?_) (fun r hr z hz _ a _ h=>by rw [hμk',if_pos hcall,hkp hko r hr z hz];exact h.step hg2 hM2) (hnofl hno _)) this
    cases hf
   ·obtain ⟨ty,z,hop,hz⟩:∃ ty z,o.op=.alloc ty∧yan S.P (zeroValue ty)=some z:=by
     unfold yp5 at hfo
     split at hfo
     ·rename_i ty hop _
      obtain ⟨z,hz⟩:=Option.isSome_iff_exists.1 hfo
      exact ⟨ty,z,hop,hz⟩
     ·cases hfo
    have hko:∀ ty t y,o.op=.store ty (.tmp t) (.tmp y)→o.guard=none→∀ r∈recs,r.sv=anyV→r.ctx=[]→yas t recs=some r→False:=fun ty t y hop2 _ r _ h1 h2 h3=>by rw [hop] at hop2;cases hop2
    have hrun:(execOp (full (l.take n) vals a).eval o).run S.P w1=.ok (.value (.pointer (some ⟨w1.heap.size,0,none⟩))) (w1.alloc (.cells z.cells ty)):=by
     unfold execOp
     simp only [hop,Instr.alloc,newVar,newRow,newObj,Sem.run_bind,yam _ hz,Sem.run_pure,Result.andThen_ok]
     rfl
    have hMn:=yg6 hM1 z.cells ty (z.cells.toList.map .v) (by simpa using yli e1 z.cells.toList)
    have hnew:Fla I W0 (w1.alloc (.cells z.cells ty)) e1 (μ k) (z.cells.toList.map .v) w1.heap.size:=Fla.ofNew hMn hM1.len hM1.mod.size
    have hx:Ext w1 (w1.alloc (.cells z.cells ty)):=(Ext.refl w1).alloc _
    unfold yey
    rw [hrun]
    refine done _ _ e1 (Grows.refl _) (by rw [same hsame];exact hM1.ext hx) (fun _=>trivial) (fun hf=>by cases hf) (fun r hr z hz _ a _ h=>by rw [same hsame,hkp hko r hr z hz];exact h.ext hM1 hx) fun z' hz'=>⟨w1.heap.size,rfl,?_,zbm _⟩
    obtain ⟨o',ty',g1,g2,_,_,g3⟩:=yh0 hz'
    simp only at g1
    rw [zai,if_pos hin,hi] at g1;cases g1
    rw [hop] at g2;cases g2
    rw [hz] at g3;cases g3
    rw [same hsame]
    -- its filling comes behind it
    have hz0:flC recsN (l.take n) (fun s=>(L.setIfInBounds i true).getD s false) ⟨i,o.dst,[],anyV⟩ z=z.cells.toList.map .v:=by
     unfold flC
     split
     ·rename_i t ht
      split
      ·rename_i s y hs
       have hsd:(L.setIfInBounds i true).getD s false=false:=by
        cases hb:(L.setIfInBounds i true).getD s false with
        |false=>rfl
        |true=>
         exfalso
         obtain ⟨j,o',ty',h1,h2,h3,h4⟩:=yhj hs
         have hj:j=s:=by omega
         subst hj
         have hjn:j<n:=by
          have:=(zab.1 h2).1
          simp at this;omega
         rw [zai,if_pos hjn] at h2
         have hji:j≠i:=fun e=>by subst e;rw [hi] at h2;cases h2;rw [hop] at h3;cases h3
         rw [hLset j hji] at hb
         rcases RS.looks j i o' o hjn hin h2 hi with ⟨e,he,hbd,hon⟩|hno
         ·have:=hcl j o' h2 hb e he hbd
          rw [hon,hu] at this;cases this
         ·refine hno t ht ?_
          unfold Oper.looksAt
          exact zah _ (List.mem_filterMap.2 ⟨.tmp t,by rw [h3];simp [Op.operands],rfl⟩)
       simp only [hsd]
      ·rfl
     ·rfl
    rw [hz0];exact hnew
   ·unfold yp4 at hfs
    split at hfs
    ·rename_i ty t y hop _
     split at hfs
     ·rename_i r0 ry s yy hr0 hry hso
      split at hfs
      ·rename_i z0 u nn hsi hz0 hcx hcv hnsz
       simp only [zbs] at hfs
       obtain ⟨f1,f2,f3⟩:=hfs
       have hsi:=eqb_eq.1 hsi
       subst hsi
       obtain ⟨hr0m,hr0d⟩:=ycc t hr0
       obtain ⟨hrym,hryd⟩:=ycc y hry
       obtain ⟨hl1,hl2⟩:=hlookT t y ty hop
       have inN:∀ r∈recs,r∈recsN:=fun r hr=>by rw [heq];exact zag _ (zak _ hr)
       obtain ⟨_,hLr⟩:=hrd r0 (inN r0 hr0m) t hr0d hl1
       have hyy:yy=y:=by
        obtain ⟨ty',h1,_⟩:=hst t yy hso
        rw [hop] at h1
        simp only [Op.store.injEq,Operand.tmp.injEq] at h1
        exact h1.2.2.symm
       subst hyy
       obtain ⟨aa,hva,hfa⟩:=hFl r0 (inN r0 hr0m) z0 hz0 hLr
       have hc0:flC recsN (l.take n) (fun q=>L.getD q false) r0 z0=z0.cells.toList.map .v:=by
        unfold flC
        rw [hr0d]
        simp only [hso,hu]
       rw [hc0] at hfa
       have hryN:yas yy recsN=some ry:=by
        have hrI:RInv l recsN n:=hIN
        exact hrec recsN [] ry n hIN (zbm _) rfl ry (inN ry hrym) yy hryd
       have hc1:flC recsN (l.take n) (fun q=>(L.setIfInBounds s true).getD q false) r0 z0=ybp u:=by
        unfold flC
        rw [hr0d]
        simp only [hso,hLi,hryN,hcv]
       have hsv:ry.sv=.c u:=by
        cases hq:ry.sv with
        |c x=>rw [hq] at hcv;simp only [cvS,Option.some.injEq] at hcv;rw [hcv]
        |_=>rw [hq] at hcv;cases hcv
       have hvy:u.is e1 ((full (l.take n) vals a).eval (.tmp yy)):=by
        have h1:=hslots yy hl2
        simp only [ybb,hry,hcx,sat,hsv] at h1
        exact h1.1 trivial
       have hvt:(full (l.take n) vals a).eval (.tmp t)=.pointer (some ⟨aa,0,none⟩):=by
        obtain ⟨o',ho',hd'⟩:=hI.dst r0 hr0m
        have hlt:=(hI.ok.1 r0 hr0m).1
        rw [← hva]
        exact hval vals r0.ix o' t (by omega) ho' (hd'.trans hr0d)
       obtain ⟨w2,hrun,hmod,hfill⟩:=hfa.fill hM1 hnsz (by simpa using eqb_eq.1 f2) (eqb_eq.1 f1) (by rw [← hS.one];exact f3) hvy
       have hex:(execOp (full (l.take n) vals a).eval o).run S.P w1=.ok .skip w2:=by
        unfold execOp
        simp only [hop,hvt,Instr.storeAt,Instr.sureAddr,Sem.run_bind,Sem.run_pure,Result.andThen_ok,hrun]
       unfold yey
       rw [hex]
       refine done undef w2 e1 (Grows.refl _) (by rw [same hsame];exact hM1.away hmod hfa.new hfa.free) (fun _=>rfl) (fun hf=>by cases hf) (fun r hr z hz hl a' hv' h=>?_) (hnofl (fun ty' hop' _=>by rw [hop] at hop';cases hop') _)
       rw [same hsame]
       by_cases hrr:r.ix=r0.ix
       ·have:r=r0:=yfb hIN.ok.2 r hr r0 (inN r0 hr0m) hrr
        subst this
        rw [hz0] at hz;cases hz
        rw [hva] at hv'
        cases hv'
        rw [hc1];exact hfill
       ·have hne:a'≠aa:=fun he=>by
         refine hNe r hr r0 (inN r0 hr0m) (by rw [hz];rfl) (by rw [hz0];rfl) hl hLr hrr ?_
         rw [hv',hva,he]
        have hcc:flC recsN (l.take n) (fun q=>(L.setIfInBounds s true).getD q false) r z=flC recsN (l.take n) (fun q=>L.getD q false) r z:=yks fun t' s' y' ht' hs'=>by
         have hsi:s'≠s:=fun he=>by
          subst he
          obtain ⟨ty',h1,_⟩:=hst t' y' hs'
          rw [hop] at h1
          simp only [Op.store.injEq,Operand.tmp.injEq] at h1
          have h2:=hrec recsN [] r n hIN (zbm _) rfl r hr t' ht'
          have h3:=hrec recsN [] r0 n hIN (zbm _) rfl r0 (inN r0 hr0m) t hr0d
          rw [h1.2.1,h2] at h3
          cases h3
          exact hrr rfl
         exact hLset s' hsi
        rw [hcc]
        exact h.away hM1 hmod hfa.free hne
      ·cases hfs
     ·cases hfs
    ·cases hfs
 ·intro L vals w' hL ⟨k,e1,hkn,hk,hg1,hM1,hV,hFl,hNe⟩
  have hμ:μ k=memN:=by
   obtain ⟨d,hd⟩:∃ d,n=k+d:=⟨n - k,by omega⟩
   rw [← hμn,hd]
   exact (hμk d k (by omega) fun j h1 h2=>by
    cases hcj:χ j with
    |false=>rfl
    |true=>
     have:=(hk j (by omega) hcj).1 (hL j (by omega))
     omega).symm
  rw [hμ] at hM1 hFl
  have hrn:∀ r∈recsN,r.ix<n:=fun r hr=>(hIN.ok.1 r hr).1
  have hflD:∀ (r:SRec) (z:Value),flC recsN (l.take n) (fun q=>L.getD q false) r z=flC recsN (l.take n) (fun _=>true) r z:=fun r z=>yks fun t' s' y' _ hs'=>by
   obtain ⟨j,o',ty,h1,h2,_,_⟩:=yhj hs'
   have hj:=(zab.1 h2).1
   exact hL s' (by omega)
  obtain ⟨e2,q1,q2,_,q4,q5⟩:=fixF_ok (S:=S) (lh:=l.take n) (all:=recsN) recsN hM1 hIN.ok.2 (fun _ _ _=>True) (fun r hr z hz=>by rw [← hflD r z];exact hFl r hr z hz (hL r.ix (hrn r hr))) (fun r hr r' hr' hs hs' hne=>hNe r hr r' hr' hs hs' (hL r.ix (hrn r hr)) (hL r'.ix (hrn r' hr')) hne)
  have hI2:RInv l (fixF S (l.take n) recsN recsN memN).1 n:=fixF_inv hIN
  have hf:=(hf0.grow hg1).grow q1
  have hV2:∀ j,j<n→RecV (fixF S (l.take n) recsN recsN memN).1 e2 j (vals j) w':=fun j hj=>by
   obtain ⟨r,hr,hri,p1,p2⟩:=hV j hj (hL j hj)
   cases hz:flOf S (l.take n) r with
   |none=>
    refine ⟨r,q5 r hr hz,hri,fun hs=>SV.is_mono q1 (p1 ?_),fun hs=>p2 ?_⟩
    ·rw [← hs,yjl]
    ·rw [← hs,yjl]
   |some z=>
    obtain ⟨q,g1,a,g2,g3⟩:=q4 r hr z hz
    refine ⟨_,g1,hri,fun _=>?_,fun hs=>by cases hs⟩
    rw [← hri,g2]
    exact ⟨a,0,g3,rfl⟩
  have hfN:FrOk (fixF S (l.take n) recsN recsN memN).1 base e2 (full (l.take n) vals a) sz:=by
   refine ⟨?_,?_,fun t=>hlook e2 w' hf vals t _ (fixF S (l.take n) recsN recsN memN).1 [] n hI2 (zbm _) rfl (fun r hr=>by cases hr) fun j o hj _ _=>⟨hj,hV2 j hj⟩⟩
   ·have:∀ (xs:List Oper) (k:Nat) (b:Act),(yby xs k vals (fun _=>true) b).defers=b.defers:=by
     intro xs
     induction xs with
     |nil=>intro k b;rfl
     |cons o xs ih=>
      intro k b
      simp only [yby,if_true]
      rw [ih]
      cases o.dst<;>rfl
    unfold full
    rw [this];exact hf.defers
   ·have:∀ (xs:List Oper) (k:Nat) (b:Act),(yby xs k vals (fun _=>true) b).tmps.size=b.tmps.size:=by
     intro xs
     induction xs with
     |nil=>intro k b;rfl
     |cons o xs ih=>
      intro k b
      simp only [yby,if_true]
      rw [ih]
      cases o.dst<;>simp [Act.put]
    unfold full
    rw [this];exact hf.size
  exact ydc (l:=l) hS (l.drop n) n _ _ _ psN h (fun j o hj=>by rw [zap] at hj;exact hj) hI2 hfN q2 hps fun e3 a2 w2 hg2=>hend e3 a2 w2 ((hg1.trans q1).trans hg2)
end
end Go.Proofs.Ytiiekgcjilelpaa

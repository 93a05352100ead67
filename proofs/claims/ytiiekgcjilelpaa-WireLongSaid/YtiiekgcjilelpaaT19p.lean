/- T19. -/
import Derived.Test.YtiiekgcjilelpaaT18p
set_option linter.unusedSimpArgs false
set_option linter.unusedVariables false
namespace Go.Proofs.Ytiiekgcjilelpaa
open Go.RowKit
section
variable {β:Type} {S:Sy β} {I:ObI β} {W0:World} {G:Nat→Prop} {L:Lps β} {P:Program} {w w':World} {E e e':Env} {MEM mem ms:Mem β} {hard:β→Bool}
def lenL {α:Type}:List α→Nat
 |[]=>0
 |_::r=>lenL r+1
def liveIs (mem:Mem β):List Nat→Bool
 |[]=>true
 |i::r=>(match mem[i]? with|some en=>!isDead en|none=>false)&&liveIs mem r
theorem liveIs_mem {m:Mem β}:∀ {is:List Nat},liveIs m is=true→∀ i∈is,∃ en,m[i]? =some en∧en.ob≠.dead
 |[],_,i,h=>by cases h
 |j::r,h,i,hi=>by
  simp only [liveIs,Bool.and_eq_true] at h
  rcases List.mem_cons.1 hi with rfl|hi
  ·have h1:=h.1
   split at h1
   ·rename_i en hen
    refine ⟨en,hen,fun hd=>?_⟩
    unfold isDead at h1
    rw [hd] at h1
    cases h1
   ·cases h1
  ·exact liveIs_mem h.2 i hi
theorem liveIs_mono {m m':Mem β} (hl:MLe m m'):∀ {is:List Nat},liveIs m is=true→liveIs m' is=true∧∀ i∈is,m'[i]? =m[i]?
 |[],_=>⟨rfl,fun i h=>by cases h⟩
 |j::r,h=>by
  obtain ⟨en,h1,h2⟩:=liveIs_mem h j (List.mem_cons_self ..)
  have hj:=hl j en h1 h2
  simp only [liveIs,Bool.and_eq_true] at h ⊢
  obtain ⟨k1,k2⟩:=liveIs_mono hl h.2
  refine ⟨⟨?_,k1⟩,fun i hi=>?_⟩
  ·have h0:=h.1
   rw [h1] at h0
   rw [hj];exact h0
  ·rcases List.mem_cons.1 hi with rfl|hi
   ·rw [hj,h1]
   ·exact k2 i hi
theorem hsPs_sub {ps:List PV}:∀ {is:List Nat} {i:Nat},i∈is→i∈hsPs ps is:=by
 induction ps with
 |nil=>intro is i h;exact h
 |cons p ps ih=>
  intro is i h
  simp only [hsPs]
  refine ih ?_
  cases p<;>simp only [hsP]<;>first
   |exact h
   |(split<;>first|exact h|exact List.mem_append_left _ h)
theorem cloH_mono {m m':Mem β} (hl:MLe m m'):∀ (n j:Nat) (is:List Nat),liveIs m (cloH m n j is)=true→cloH m' n j is=cloH m n j is∧∀ i∈is,i∈cloH m n j is
 |0,j,is,_=>⟨rfl,fun i h=>h⟩
 |n+1,j,is,h=>by
  simp only [cloH] at h ⊢
  cases hj:is[j]? with
  |none=>exact ⟨rfl,fun i h=>h⟩
  |some i=>
   rw [hj] at h
   simp only at h ⊢
   cases hm:m[i]? with
   |none=>
    rw [hm] at h
    simp only at h
    obtain ⟨en,h1,_⟩:=liveIs_mem h i (List.mem_of_getElem? hj)
    rw [hm] at h1;cases h1
   |some en=>
    rw [hm] at h
    simp only at h
    have hin:i∈is:=List.mem_of_getElem? hj
    have key:en.ob≠.dead→m'[i]? =some en:=fun hd=>hl i en hm hd
    obtain ⟨ob,mu⟩:=en
    cases ob with
    |dead=>
     simp only [forceN_eq] at h ⊢
     obtain ⟨_,g2⟩:=cloH_mono hl n (j+1) is h
     obtain ⟨en,h1,h2⟩:=liveIs_mem h i (g2 i hin)
     rw [hm] at h1;cases h1
     exact absurd rfl h2
    |blk cs=>
     rw [key (by simp)]
     simp only [forceN_eq] at h ⊢
     obtain ⟨g1,g2⟩:=cloH_mono hl n (j+1) _ h
     exact ⟨g1,fun a ha=>g2 a (hsPs_sub ha)⟩
    |bx cs=>
     rw [key (by simp)]
     simp only [forceN_eq] at h ⊢
     obtain ⟨g1,g2⟩:=cloH_mono hl n (j+1) _ h
     exact ⟨g1,fun a ha=>g2 a (hsPs_sub ha)⟩
    |us b=>
     rw [key (by simp)]
     simp only [forceN_eq] at h ⊢
     exact cloH_mono hl n (j+1) _ h
    |sl K b=>
     rw [key (by simp)]
     simp only [forceN_eq] at h ⊢
     exact cloH_mono hl n (j+1) _ h
theorem dnMG_mono {m m':Mem β} {is:List Nat}:∀ {r:List Nat},(∀ i∈r,m'[i]? =m[i]?)→dnMG hard is m' r=dnMG hard is m r
 |[],_=>rfl
 |i::r,h=>by
  simp only [dnMG]
  rw [h i (List.mem_cons_self ..),dnMG_mono fun j hj=>h j (List.mem_cons_of_mem _ hj)]
def roM:Mem β→Mem β
 |[]=>[]
 |en::r=>⟨en.ob,false⟩::roM r
theorem roM_get:∀ {m:Mem β} {i:Nat} {n:En β},(roM m)[i]? =some n→∃ en,m[i]? =some en∧n=⟨en.ob,false⟩
 |[],i,n,h=>by simp [roM] at h
 |en::r,0,n,h=>by simp [roM] at h;exact ⟨en,rfl,h.symm⟩
 |en::r,i+1,n,h=>by
  simp only [roM,List.getElem?_cons_succ] at h ⊢
  exact roM_get h
theorem roM_len:∀ m:Mem β,(roM m).length=m.length
 |[]=>rfl
 |en::r=>by simp [roM,roM_len r]
theorem MemOk.ro {sub:Mem β} (h:MemOk w (FootOf I w e sub) I w e sub):MemOk w (FootOf I w e (roM sub)) I w e (roM sub):=by
 refine ⟨by rw [roM_len];exact h.len,fun i u n hu hn=>?_,fun i u n hu hn k hk=>?_,fun i u n hu hn hmu=>?_,fun i j u v n m hu hn hmu=>?_,Mod.refl _ w,fun i u n hu hn k hk=>.inr (footO.2 ⟨i,u,n,hu,hn,hk⟩)⟩
 ·obtain ⟨en,h1,rfl⟩:=roM_get hn
  have hh:=h.holds i u en hu h1
  obtain ⟨ob,mu⟩:=en
  cases ob with
  |blk cs=>
   obtain ⟨b,o,rfl,hc⟩:=hh
   exact ⟨b,o,rfl,fun j p hp=>by obtain ⟨x,g1,g2,_⟩:=hc j p hp;exact ⟨x,g1,g2,fun h=>by cases h⟩⟩
  |bx cs=>
   obtain ⟨b,o,rfl,hc⟩:=hh
   exact ⟨b,o,rfl,fun j p hp=>by obtain ⟨x,g1,g2,_⟩:=hc j p hp;exact ⟨x,g1,g2,fun h=>by cases h⟩⟩
  |sl K l=>exact hh
  |us b=>exact hh
  |dead=>exact hh
 ·obtain ⟨en,h1,rfl⟩:=roM_get hn
  exact h.lt i u en hu h1 k hk
 ·obtain ⟨en,h1,rfl⟩:=roM_get hn
  cases hmu
 ·obtain ⟨en,h1,rfl⟩:=roM_get hn
  cases hmu
theorem ro_ext {sub:Mem β} (h:Mod (fun k=>FootOf I w e (roM sub) (2 * k)) w w'):Ext w w':=h.mono fun k _ hk=>by
 obtain ⟨i,u,n,_,hn,hmu,_⟩:=footE.1 hk
 obtain ⟨en,_,rfl⟩:=roM_get hn
 cases hmu
abbrev CtrV (β:Type):=List CV→Mem β→Option (List Prop×Value)
def ctrV (spec:CtrV β) (hard:β→Bool):Fn2 β:=fun us mem=>forceL (cloH mem (lenL (hsCs us [])) 0 (hsCs us [])) fun is=>
 match nodupB is&&liveIs mem is,mapO (dnC is) us,dnMG hard is mem is with
 |true,some us0,some (sub,qs)=>(match spec (cvCs us0) (roM (canM sub)) with
  |some (ps,v)=>some (qs++ps,svOf v,none)
  |none=>none)
 |_,_,_=>none
def CtrVOk (P:Program) (I:ObI β) (f:FuncId) (spec:CtrV β):Prop:=∀ us sub ps x,spec us sub=some (ps,x)→(∀ p∈ps,p)→∀ w e vs,MemOk w (FootOf I w e sub) I w e sub→AllC e us vs→
 Calls P f vs.toArray w (fun y w'=>y=.returned x∧Ext w w')
theorem ctrV_ok {f:FuncId} {spec:CtrV β} (he:∀ us w,(callFunc f us).run P w=.ok (.enter f us) w) (hspec:CtrVOk P I f spec):RowOk P I hard f (ctrV spec hard):=by
 refine ⟨he,fun W0 G args mem ps r mo hr hp w E us hM ha=>?_,fun args m m' ps r hr hl=>?_,fun args mem ps r m' hr=>?_⟩
 ·unfold ctrV at hr
  rw [forceL_eq] at hr
  split at hr
  ·rename_i us0 sub qs hB h1 h2
   split at hr
   ·rename_i pps v hs
    simp only [Option.some.injEq,Prod.mk.injEq] at hr
    obtain ⟨rfl,rfl,rfl⟩:=hr
    rw [Bool.and_eq_true] at hB
    have hn:=nodupB_iff hB.1
    let is:=cloH mem (lenL (hsCs args [])) 0 (hsCs args [])
    let e:Env:=is.map fun i=>E.getD i undef
    have hee:∀ j i:Nat,is[j]? =some i→e[j]? =E[i]? :=fun j i hj=>by
     obtain ⟨en,h3,_⟩:=liveIs_mem hB.2 i (List.mem_of_getElem? hj)
     have hlt:i<E.length:=by rw [hM.len];exact (List.getElem?_eq_some_iff.1 h3).1
     simp only [e,List.getElem?_map,hj,Option.map_some,List.getD_eq_getElem?_getD]
     rw [List.getElem?_eq_getElem hlt];rfl
    have hsub:=subG_ok (e:=e) hM hn h2 (fun p h=>hp p (List.mem_append_left _ h)) (by simp [e,is]) hee
    exact (hspec _ _ pps v hs (fun p h=>hp p (List.mem_append_right _ h)) w e us (MemOk.ro (by rw [footOf_can];exact hsub.can)) (cvCs_is (dnCs_is hee h1 ha))).mono fun y w' ⟨h4,h5⟩=>⟨v,h4,svOf_is E v,h5⟩
   ·cases hr
  ·cases hr
 ·unfold ctrV at hr ⊢
  rw [forceL_eq] at hr ⊢
  split at hr
  ·rename_i us0 sub qs hB h1 h2
   have hB':=hB
   rw [Bool.and_eq_true] at hB'
   obtain ⟨g1,_⟩:=cloH_mono hl _ _ _ hB'.2
   obtain ⟨g2,g3⟩:=liveIs_mono hl hB'.2
   rw [g1,hB'.1,g2,h1,dnMG_mono g3,h2]
   exact hr
  ·cases hr
 ·unfold ctrV at hr
  rw [forceL_eq] at hr
  split at hr
  ·split at hr<;>simp at hr
  ·cases hr
end
end Go.Proofs.Ytiiekgcjilelpaa

/- T16. -/
import Derived.Test.YtdenmoiaiemokaaT15p
import Derived.Test.YtdenmoiaiemokaaO1p
set_option linter.unusedSimpArgs false
set_option linter.unusedVariables false
namespace Go.Proofs.Ytdenmoiaiemokaa
open Go.RowKit
section
variable {β:Type} {S:Sy β} {I:ObI β} {W0:World} {G:Nat→Prop} {L:Lps β} {P:Program} {w w':World} {E e e':Env} {MEM mem ms:Mem β} {hard:β→Bool}
def hsC:CV→List Nat→List Nat
 |.one p,is=>hsP p is
 |.agg ps,is=>hsPs ps is
 |.fn _ ps,is=>hsPs ps is
def hsCs:List CV→List Nat→List Nat
 |[],is=>is
 |c::cs,is=>hsCs cs (hsC c is)
def cloH (mem:Mem β):Nat→Nat→List Nat→List Nat
 |0,_,is=>is
 |n+1,j,is=>match is[j]? with
  |none=>is
  |some i=>(match mem[i]? with
   |some en=>(match en.ob with
    |.blk cs=>forceN (j+1) fun j1=>cloH mem n j1 (hsPs cs is)
    |.bx cs=>forceN (j+1) fun j1=>cloH mem n j1 (hsPs cs is)
    |_=>forceN (j+1) fun j1=>cloH mem n j1 is)
   |none=>is)
def forceL {α:Type}:List Nat→(List Nat→α)→α
 |[],k=>k []
 |i::r,k=>forceN i fun i'=>forceL r fun r'=>k (i'::r')
theorem forceL_eq {α:Type}:∀ (xs:List Nat) (k:List Nat→α),forceL xs k=k xs
 |[],_=>rfl
 |i::r,k=>by simp only [forceL,forceN_eq];rw [forceL_eq r]
def dnC (is:List Nat):CV→Option CV
 |.one p=>(match dnP is p with|some q=>some (.one q)|none=>none)
 |.agg ps=>(match mapO (dnP is) ps with|some qs=>some (.agg qs)|none=>none)
 |.fn f ps=>(match mapO (dnP is) ps with|some qs=>some (.fn f qs)|none=>none)
theorem dnC_is {is:List Nat} {E e0:Env} (he:∀ j i:Nat,is[j]? =some i→e0[j]? =E[i]?) {x y:CV} (h:dnC is x=some y) {u:Value} (hu:x.is E u):y.is e0 u:=by
 cases x with
 |one p=>
  simp only [dnC] at h
  split at h
  ·rename_i q hq
   simp only [Option.some.injEq] at h;subst h
   exact dnP_is he hq hu
  ·cases h
 |agg ps=>
  simp only [dnC] at h
  split at h
  ·rename_i q hq
   simp only [Option.some.injEq] at h;subst h
   obtain ⟨us,h1,rfl⟩:=hu
   exact ⟨us,dnPs_is he hq h1,rfl⟩
  ·cases h
 |fn f ps=>
  simp only [dnC] at h
  split at h
  ·rename_i q hq
   simp only [Option.some.injEq] at h;subst h
   obtain ⟨us,h1,rfl⟩:=hu
   exact ⟨us,dnPs_is he hq h1,rfl⟩
  ·cases h
theorem dnCs_is {is:List Nat} {E e0:Env} (he:∀ j i:Nat,is[j]? =some i→e0[j]? =E[i]?):∀ {xs ys:List CV} {us:List Value},mapO (dnC is) xs=some ys→AllC E xs us→AllC e0 ys us
 |[],ys,us,h,hu=>by
  simp only [mapO,Option.some.injEq] at h;subst h
  cases us<;>exact hu
 |p::ps,qs,us,h,hu=>by
  cases us with
  |nil=>exact hu.elim
  |cons u us=>
   simp only [mapO] at h
   split at h
   ·cases h
   ·rename_i y hy
    split at h
    ·cases h
    ·rename_i ys hys
     simp only [Option.some.injEq] at h
     subst h
     exact ⟨dnC_is he hy hu.1,dnCs_is he hys hu.2⟩
def freeKS (K:KS):Prop:=∀ i,allB valB (K.cells i)=true
def softB (hard:β→Bool) (en:En β):Bool:=en.mu&&!solid hard en
theorem freeKS_holds {K:KS} {b:β} {mu mu':Bool} (h:freeKS K) {e e':Env} {w:World} {u:Value} (hh:Holds I e w u mu (.sl K b)):Holds I e' w u mu' (.sl K b):=by
 obtain ⟨ao,cap,rfl,g1,g2,g3,g4⟩:=hh
 refine ⟨ao,cap,rfl,g1,g2,g3,fun a ha=>⟨(g4 a ha).1,fun i hi j p hp=>?_⟩⟩
 obtain ⟨x,q1,q2⟩:=(g4 a ha).2 i hi j p hp
 exact ⟨x,q1,valB_is (allB_mem (h i) p (List.mem_of_getElem? hp)) q2⟩
theorem blkDn {is:List Nat} {E e0:Env} (he:∀ j i:Nat,is[j]? =some i→e0[j]? =E[i]?) {cs ds:List PV} (h:mapO (dnP is) cs=some ds) {mu mu':Bool} (hmu:mu'=true→mu=true) {u:Value} (hh:Holds I E w u mu (.blk cs)):Holds I e0 w u mu' (.blk ds):=by
 obtain ⟨b,o,rfl,hc⟩:=hh
 obtain ⟨hl,hg⟩:=mapO_get h
 refine ⟨b,o,rfl,fun j q hq=>?_⟩
 have hj:j<cs.length:=by rw [← hl];exact (List.getElem?_eq_some_iff.1 hq).1
 obtain ⟨y,hy,hd⟩:=hg j _ (List.getElem?_eq_getElem hj)
 rw [hq] at hy;cases hy
 obtain ⟨x,g1,g2,g3⟩:=hc j _ (List.getElem?_eq_getElem hj)
 exact ⟨x,g1,dnP_is he hd g2,fun h=>g3 (hmu h)⟩
def upEn (I:ObI β) (is:List Nat) (m:Nat) (en:En β):En β×List Prop:=match en.mu with
 |false=>(⟨.dead,true⟩,[])
 |true=>(match en.ob with
  |.blk cs=>(⟨.blk (cs.map (renP is m)),true⟩,[])
  |.bx _=>(⟨.dead,true⟩,[])
  |.us b=>(⟨.us b,true⟩,[∀ w u k,I.foot b w u k→I.own b w u k])
  |.sl K b=>(⟨.sl K b,true⟩,[freeKS K])
  |.dead=>(⟨.dead,true⟩,[]))
def asBx (en0 x:En β):En β:=match en0.ob with
 |.bx _=>(match x.ob with
  |.blk cs=>⟨.bx cs,x.mu⟩
  |_=>x)
 |_=>x
theorem asBx_is {en0 x:En β} {e:Env} {w:World} {u:Value} (h:Holds I e w u x.mu x.ob):Holds I e w u (asBx en0 x).mu (asBx en0 x).ob:=by
 obtain ⟨ob,mu⟩:=x
 unfold asBx
 split
 ·cases ob<;>exact h
 ·exact h
theorem asBx_own {en0 x:En β} {w:World} {u:Value} {k:Nat}:Own I w u (asBx en0 x).ob k↔Own I w u x.ob k:=by
 obtain ⟨ob,mu⟩:=x
 unfold asBx
 split
 ·cases ob<;>exact Iff.rfl
 ·exact Iff.rfl
theorem asBx_foot {en0 x:En β} {w:World} {u:Value} {k:Nat}:Foot I w u (asBx en0 x).ob k↔Foot I w u x.ob k:=by
 obtain ⟨ob,mu⟩:=x
 unfold asBx
 split
 ·cases ob<;>exact Iff.rfl
 ·exact Iff.rfl
def upOld (I:ObI β) (hard:β→Bool) (is:List Nat) (m:Nat):Mem β→List Nat→Mem β→Mem β×List Prop
 |mem,i::r,s::ss=>(match mem[i]? with
  |some en=>(match softB hard en with
   |true=>(match upEn I is m s with|(x,ps)=>(match upOld I hard is m (mem.set i (asBx en x)) r ss with|(m',qs)=>(m',ps++qs)))
   |false=>upOld I hard is m mem r ss)
  |none=>upOld I hard is m mem r ss)
 |mem,_,_=>(mem,[])
def RT.al:RT β→List Bool→Option (List Prop×SV×SSt β)
 |.leaf x s,[]=>some ([],x,s)
 |.leaf _ _,_::_=>none
 |.br _ _ _,[]=>none
 |.br b t e,c::cs=>(match c with
  |true=>(match t.al cs with|some (ps,r)=>some ((b=true)::ps,r)|none=>none)
  |false=>(match e.al cs with|some (ps,r)=>some ((b=false)::ps,r)|none=>none))
 |.need ps t,cs=>(match t.al cs with|some (qs,r)=>some (ps++qs,r)|none=>none)
 |.fail,_=>none
theorem RT.al_holds:∀ {t:RT β} {cs:List Bool} {ps:List Prop} {x:SV} {s:SSt β},t.al cs=some (ps,x,s)→(∀ p∈ps,p)→t.holds fun y s'=>y=x∧s'=s
 |.leaf x0 s0,[],ps,x,s,h,_=>by
  simp only [RT.al,Option.some.injEq,Prod.mk.injEq] at h
  obtain ⟨_,rfl,rfl⟩:=h
  exact ⟨rfl,rfl⟩
 |.leaf _ _,_::_,_,_,_,h,_=>by simp [RT.al] at h
 |.br _ _ _,[],_,_,_,h,_=>by simp [RT.al] at h
 |.br b t e,c::cs,ps,x,s,h,hp=>by
  simp only [RT.al] at h
  split at h
  ·split at h
   ·rename_i qs r hr
    simp only [Option.some.injEq,Prod.mk.injEq] at h
    obtain ⟨rfl,rfl⟩:=h
    have hb:b=true:=hp _ (List.mem_cons_self ..)
    subst hb
    exact ⟨fun _=>al_holds hr (fun p hq=>hp p (List.mem_cons_of_mem _ hq)),fun h=>by cases h⟩
   ·cases h
  ·split at h
   ·rename_i qs r hr
    simp only [Option.some.injEq,Prod.mk.injEq] at h
    obtain ⟨rfl,rfl⟩:=h
    have hb:b=false:=hp _ (List.mem_cons_self ..)
    subst hb
    exact ⟨(fun h=>by cases h),fun _=>al_holds hr (fun p hq=>hp p (List.mem_cons_of_mem _ hq))⟩
   ·cases h
 |.need ps0 t,cs,ps,x,s,h,hp=>by
  simp only [RT.al] at h
  split at h
  ·rename_i qs r hr
   simp only [Option.some.injEq,Prod.mk.injEq] at h
   obtain ⟨rfl,rfl⟩:=h
   exact ⟨fun p hq=>hp p (List.mem_append_left _ hq),al_holds (t:=t) hr (fun p hq=>hp p (List.mem_append_right _ hq))⟩
  ·cases h
 |.fail,_,_,_,_,h,_=>by simp [RT.al] at h
end
end Go.Proofs.Ytdenmoiaiemokaa

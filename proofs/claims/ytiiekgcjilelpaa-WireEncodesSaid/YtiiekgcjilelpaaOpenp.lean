/- Open. -/
import Derived.Test.YtiiekgcjilelpaaBasep
import Derived.ProofKit
import Derived.OpenShut
import Derived.SizedLaws
import Derived.JoinedCond
import Derived.Deep.CondSized
import Derived.Deep.Slices
open List renaming mem_append_left → zah
set_option linter.unusedSimpArgs false
set_option linter.unusedVariables false
namespace Go.Proofs.Ytiiekgcjilelpaa
open Go.RowKit Go.ChangeShapes Go.WideShapes Go.ChangeAt
section
variable {H:Type} {enc:TypeId×Value→H} {P:Program} {W:World}
theorem yl8 {α:Type} {p:Nat→α→Prop}:∀ (n:Nat),(∀ i,i<n→∃ x,p i x)→∃ l:List α,l.length=n∧∀ k x,l[k]? =some x→p k x
 |0,_=>⟨[],rfl,fun k x h=>by simp at h⟩
 |n+1,h=>by
  obtain ⟨l,hl,hp⟩:=yl8 n fun i hi=>h i (by omega)
  obtain ⟨x,hx⟩:=h n (by omega)
  refine ⟨l++[x],by simp [hl],fun k y hk=>?_⟩
  by_cases hkn:k<n
  ·rw [List.getElem?_append_left (by omega)] at hk
   exact hp k y hk
  ·rw [List.getElem?_append_right (by omega),hl] at hk
   have:k - n=0:=by
    rcases Nat.eq_zero_or_pos (k - n) with h|h
    ·exact h
    ·rw [List.getElem?_eq_none (by simp;omega)] at hk;cases hk
   rw [this] at hk
   simp at hk
   have hkn':k=n:=by omega
   subst hkn';subst hk;exact hx
theorem yqi {base:Nat} {a:Addr} {n:Nat} {cs:List Value} (h:W.cells? base a n=some cs):cs.length=n∧∀ j,j<n→W.cell? (a.add j)=cs[j]? :=by
 unfold World.cells? at h
 split at h
 ·have hl:=mapM_some_length h
  refine ⟨by simpa using hl,fun j hj=>?_⟩
  have:=mapM_some_get h j j (by simp [hj])
  exact this
 ·cases h
theorem yvn {t e:TypeId} {c:Nat} {cs:List Value} {fuel:Nat} {x:DataW H×List MemPlace} (ht:P.underlying t=some (.slice e)) (hc:P.cellsOf e=c) (h0:0<c)
  (h:DataW.trod enc P W 0 (fun _=>true) true fuel t cs=some x):
  ∃ ao len cap,cs=[.slice ao len cap]∧len≤cap∧cap≤9223372036854775807∧(ao=none→cap=0)∧∀ i,i<len→∃ b o cs' fuel' y,ao=some ⟨b,o,none⟩∧cs'.length=c∧
   (∀ j,j<c→W.cell? ⟨b,o+i * c+j,none⟩=cs'[j]?)∧DataW.trod enc P W 0 (fun _=>true) true fuel' e cs'=some y:=by
 rcases Go.Deep.open_slice ht h with ⟨hcs,_⟩|⟨a,len,cap,m,n,D,Pl,hcs,_,hl,hm,hmm,_,hel⟩
 ·exact ⟨none,0,0,hcs,Nat.le_refl _,by decide,fun _=>rfl,fun i hi=>absurd hi (by omega)⟩
 ·refine ⟨some a,len,cap,hcs,hl,hm,(fun h=>by cases h),fun i hi=>?_⟩
  simp only [if_true] at hmm
  obtain ⟨cs',h1,h2⟩:=hel i (by omega)
  rw [hc] at h1
  obtain ⟨h3,h4⟩:=yqi h1
  obtain ⟨b,o,sp⟩:=a
  have hsp:sp=none:=by
   obtain ⟨cs0,g1,g2⟩:=hel 0 (by omega)
   rw [hc,Nat.zero_mul,yd5] at g1
   obtain ⟨g3,g4⟩:=yqi g1
   have h5:=g4 0 h0
   rw [yd5] at h5
   rw [List.getElem?_eq_getElem (by omega)] at h5
   cases sp with
   |none=>rfl
   |some s=>
    exfalso
    unfold World.cell? at h5
    split at h5<;>simp at h5
  subst hsp
  refine ⟨b,o,cs',n,_,rfl,h3,fun j hj=>?_,h2⟩
  rw [← h4 j hj,yuw]
  congr 1
  unfold Addr.add
  split
  all_goals (first|(simp;done)|(simp [Nat.add_assoc];done)|(simp;omega))
theorem yta {n:Int} (h:(Lit.int .u64 n).wf=true):0≤n∧n≤18446744073709551615:=by
 simpa [Lit.wf,IntKind.min,IntKind.max,IntKind.signed,IntKind.bits] using h
theorem yhg (hl:laidOutB P=true) {W':World} (hb:Below W.heap.size W W'):∀ {ts:List TypeId} {vs:List Value} {ds:List (DataW H)} {ps:List MemPlace},
  (∀ t∈ts,P.readableRec t=true∧t<P.types.size)→DataW.TrodAll enc P W 0 (fun _=>true) true ts vs ds ps→(∀ x∈ps,x.block<W.heap.size)→
  DataW.TrodAll enc P W' 0 (fun b=>decide (b<W.heap.size)) true ts vs ds ps
 |[],[],[],_,_,h,_=>h
 |t::ts,v::vs,d::ds,ps,hr,h,hlt=>by
  obtain ⟨p,q,h1,h2,rfl⟩:=h
  have hrt:=hr t (by simp)
  exact ⟨p,q,Below.trod hl hrt.1 hrt.2 h1 hb fun x hx=>hlt x (zah _ hx),yhg hl hb (fun t ht=>hr t (by simp [ht])) h2 fun x hx=>hlt x (List.mem_append_right _ hx),rfl⟩
 |[],[],_::_,_,_,h,_=>h.elim
 |[],_::_,_,_,_,h,_=>h.elim
 |_::_,[],_,_,_,h,_=>h.elim
 |_::_,_::_,[],_,_,h,_=>h.elim
theorem law_post {f:Func} {s:ChangeSpec} {W':World} {args:Array Value} {ds:List (DataW H)} {before:List MemPlace} {tb:TypeId} (hl:laidOutB P=true)
  (hW:DataW.Whole enc P f.params.toList s.vars false W args.toList ds [] before) (hv:s.vars=[]) (hb:Below W.heap.size W W') (hr:f.resultTypes=#[tb]) (htb:P.underlying tb=some .bool)
  (hs:s.fn H ds={ results:=[.lit (.bool true)],args:=ds,vars:=[] }) (hre:∀ t∈f.params.toList,P.readableRec t=true∧t<P.types.size):
  s.post enc P f false true false false W args (.bool true) W':=by
 have hlt:=hW.lt
 obtain ⟨p,q,hA,hV,rfl,hz,hn⟩:=hW
 refine ⟨ds,[],_,[],p,[],⟨p,q,hA,hV,rfl,hz,hn⟩,?_,?_,?_,hb.frame _,fun h=>by cases h⟩
 ·rw [List.append_nil,hs,hr]
  exact trodAll_mk1 (shut_bool htb true)
 ·rw [List.append_nil,hs]
  exact yhg hl hb hre hA fun x hx=>hlt x (zah _ hx)
 ·rw [List.append_nil,hs,hv]
  rfl
end
end Go.Proofs.Ytiiekgcjilelpaa

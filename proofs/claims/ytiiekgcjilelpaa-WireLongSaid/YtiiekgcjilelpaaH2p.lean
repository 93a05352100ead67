/- H2. -/
import Derived.Test.YtiiekgcjilelpaaH1p
import Derived.Test.YtiiekgcjilelpaaT18p
set_option linter.unusedSimpArgs false
set_option linter.unusedVariables false
namespace Go.Proofs.Ytiiekgcjilelpaa
open Go.RowKit
theorem flat_len {α:Type} {sz:Nat}:∀ {R:List (List α)},(∀ r∈R,r.length=sz)→R.flatten.length=R.length * sz
 |[],_=>by simp
 |r::R,h=>by
  have h1:=h r (List.mem_cons_self ..)
  have h2:=flat_len (R:=R) fun r' hr=>h r' (List.mem_cons_of_mem _ hr)
  rw [List.flatten_cons,List.length_append,h1,h2,List.length_cons,Nat.succ_mul]
  omega
theorem flat_get {α:Type} {sz:Nat}:∀ {R:List (List α)},(∀ r∈R,r.length=sz)→∀ {i j:Nat} {r:List α} {v:α},R[i]? =some r→r[j]? =some v→R.flatten[i * sz+j]? =some v
 |[],_,i,j,r,v,h,_=>by simp at h
 |r0::R,hl,i,j,r,v,h,hv=>by
  have h1:=hl r0 (List.mem_cons_self ..)
  rw [List.flatten_cons]
  cases i with
  |zero=>
   simp at h
   subst h
   rw [List.getElem?_append_left (by have:=(List.getElem?_eq_some_iff.1 hv).1;omega)]
   simpa using hv
  |succ i=>
   rw [List.getElem?_append_right (by rw [Nat.succ_mul];omega)]
   have:=flat_get (R:=R) (fun r' hr=>hl r' (List.mem_cons_of_mem _ hr)) (i:=i) (j:=j) (r:=r) (v:=v) (by simpa using h) hv
   rw [← this]
   congr 1
   rw [Nat.succ_mul]
   omega
theorem flat_set {α:Type} {sz:Nat} {cs:List α} (hc:cs.length=sz):∀ {R:List (List α)},(∀ r∈R,r.length=sz)→∀ {i:Nat},i<R.length→∀ q,(R.set i cs).flatten[q]? =if i * sz≤q∧q<i * sz+sz then cs[q - i * sz]? else R.flatten[q]?
 |[],_,i,hi,_=>by simp at hi
 |r0::R,hl,i,hi,q=>by
  have h1:=hl r0 (List.mem_cons_self ..)
  cases i with
  |zero=>
   rw [List.set_cons_zero,List.flatten_cons,List.flatten_cons]
   by_cases hq:q<sz
   ·rw [List.getElem?_append_left (by omega),if_pos ⟨by omega,by omega⟩]
    simp
   ·rw [List.getElem?_append_right (by omega),List.getElem?_append_right (by omega),if_neg (by omega),hc,h1]
  |succ i=>
   rw [List.set_cons_succ,List.flatten_cons,List.flatten_cons]
   by_cases hq:q<sz
   ·rw [List.getElem?_append_left (by omega),List.getElem?_append_left (by omega),if_neg (by rw [Nat.succ_mul];omega)]
   ·have ih:=flat_set hc (R:=R) (fun r' hr=>hl r' (List.mem_cons_of_mem _ hr)) (i:=i) (by simpa using hi) (q - sz)
    rw [List.getElem?_append_right (by omega),List.getElem?_append_right (by omega),h1,ih]
    rw [Nat.succ_mul]
    by_cases hcond:i * sz≤q - sz∧q - sz<i * sz+sz
    ·rw [if_pos hcond,if_pos (by omega)]
     congr 1
     omega
    ·rw [if_neg hcond,if_neg (by omega)]
theorem setCells_blk {b:Nat} {t:TypeId} {fr:Nat×Nat}:∀ (vs:List Value) (o:Nat) (w:World) (c:Array Value),w.heap[b]? =some (.cells c t fr)→o+vs.length≤c.size→
  ∃ c',(w.setCells b o vs).heap[b]? =some (.cells c' t fr)∧c'.size=c.size∧∀ q,c'.toList[q]? =if o≤q∧q<o+vs.length then vs[q - o]? else c.toList[q]?
 |[],o,w,c,h,_=>⟨c,h,rfl,fun q=>by rw [if_neg (by simp)]⟩
 |v::vs,o,w,c,h,hl=>by
  simp only [List.length_cons] at hl
  obtain ⟨c',h1,h2,h3⟩:=setCells_blk vs (o+1) (w.setCell ⟨b,o,none⟩ v) (c.setIfInBounds o v) (setCell_blk h) (by simp;omega)
  refine ⟨c',h1,by rw [h2];simp,fun q=>?_⟩
  rw [h3 q,Array.toList_setIfInBounds]
  by_cases hq:q=o
  ·subst hq
   rw [if_neg (by omega),if_pos ⟨Nat.le_refl _,by simp⟩,List.getElem?_set_self (by simp;omega)]
   simp
  ·rw [List.getElem?_set_ne (fun e=>hq e.symm)]
   by_cases hc:o+1≤q∧q<o+1+vs.length
   ·rw [if_pos hc,if_pos ⟨by omega,by simp;omega⟩,show q - o=(q - (o+1))+1 by omega,List.getElem?_cons_succ]
   ·rw [if_neg hc,if_neg (by simp only [List.length_cons];omega)]
theorem owns_range {w:World} {B sz:Nat} {t:TypeId} {u:Value} {R:List (List Value)} (hl:∀ r∈R,r.length=sz) (ho:w.ownsRow B t sz u R.length R.flatten) {i:Nat} (hi:i<R.length):
  ∃ g cap,u=.slice (some ⟨g,0,none⟩) R.length cap∧B≤g∧w.rangeAt g (i * sz) (R.getD i [])∧w.there g (i * sz) sz:=by
 obtain ⟨h1,h2⟩:=ho
 rcases h2 with ⟨_,h2⟩|⟨g,cap,cur,rfl,hB,hg,hn,hc,hs,ht⟩
 ·omega
 ·have hmul:i * sz+sz≤R.length * sz:=by
   have:=Nat.mul_le_mul_right sz (show i+1≤R.length by omega)
   rw [Nat.succ_mul] at this;omega
  have hcap:R.length * sz≤cap * sz:=Nat.mul_le_mul_right sz hn
  have hri:R[i]? =some (R.getD i []):=by rw [List.getD_eq_getElem?_getD,List.getElem?_eq_getElem hi];rfl
  refine ⟨g,cap,rfl,hB,fun j v hv=>?_,fun j hj=>⟨?_,frozen_of_blk hg _⟩⟩
  ·have:=flat_get hl hri hv
   have hj:j<sz:=by rw [← hl _ (List.mem_of_getElem? hri)];exact (List.getElem?_eq_some_iff.1 hv).1
   rw [cell_of_blk hg,←Array.getElem?_toList,←this,←ht,List.getElem?_take,if_pos (by omega)]
  ·rw [cell_of_blk hg,Array.getElem?_eq_getElem (by omega)];rfl
theorem owns_setEl {w:World} {B sz g cap:Nat} {t:TypeId} {R:List (List Value)} (hl:∀ r∈R,r.length=sz) (ho:w.ownsRow B t sz (.slice (some ⟨g,0,none⟩) R.length cap) R.length R.flatten) {i:Nat} (hi:i<R.length) {cs:List Value} (hc:cs.length=sz):
  (w.setCells g (i * sz) cs).ownsRow B t sz (.slice (some ⟨g,0,none⟩) (R.set i cs).length cap) (R.set i cs).length (R.set i cs).flatten:=by
 obtain ⟨h1,h2⟩:=ho
 have hl':∀ r∈R.set i cs,r.length=sz:=fun r hr=>by
  rcases List.mem_or_eq_of_mem_set hr with h|h
  ·exact hl r h
  ·rw [h];exact hc
 rcases h2 with ⟨h,_⟩|⟨g',cap',cur,he,hB,hg,hn,hcc,hs,ht⟩
 ·cases h
 ·cases he
  have hmul:i * sz+sz≤R.length * sz:=by
   have:=Nat.mul_le_mul_right sz (show i+1≤R.length by omega)
   rw [Nat.succ_mul] at this;omega
  have hcap:R.length * sz≤cap * sz:=Nat.mul_le_mul_right sz hn
  obtain ⟨c',k1,k2,k3⟩:=setCells_blk cs (i * sz) w cur hg (by omega)
  refine ⟨flat_len hl',.inr ⟨g,cap,c',rfl,hB,k1,by simpa using hn,hcc,by rw [k2];exact hs,?_⟩⟩
  apply List.ext_getElem?
  intro q
  rw [flat_set hc hl hi q,List.getElem?_take,List.length_set]
  by_cases hq:q<R.length * sz
  ·rw [if_pos hq,k3 q,hc]
   by_cases hcond:i * sz≤q∧q<i * sz+sz
   ·rw [if_pos hcond,if_pos hcond]
   ·rw [if_neg hcond,if_neg hcond,←ht,List.getElem?_take,if_pos hq]
  ·rw [if_neg hq,if_neg (by omega),List.getElem?_eq_none (by rw [flat_len hl];omega)]
end Go.Proofs.Ytiiekgcjilelpaa

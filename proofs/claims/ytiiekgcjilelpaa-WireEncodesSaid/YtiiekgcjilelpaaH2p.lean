/- H2. -/
import Derived.Test.YtiiekgcjilelpaaH1p
import Derived.Test.YtiiekgcjilelpaaT18p
open List renaming getElem?_eq_some_iff → zab, mem_cons_of_mem → zak, mem_cons_self → zal
set_option linter.unusedSimpArgs false
set_option linter.unusedVariables false
namespace Go.Proofs.Ytiiekgcjilelpaa
open Go.RowKit
theorem yt8 {α:Type} {sz:Nat}:∀ {R:List (List α)},(∀ r∈R,r.length=sz)→R.flatten.length=R.length * sz
 |[],_=>by simp
 |r::R,h=>by
  have h1:=h r (zal ..)
  have h2:=yt8 (R:=R) fun r' hr=>h r' (zak _ hr)
  rw [List.flatten_cons,List.length_append,h1,h2,List.length_cons,Nat.succ_mul]
  omega
theorem ygq {α:Type} {sz:Nat}:∀ {R:List (List α)},(∀ r∈R,r.length=sz)→∀ {i j:Nat} {r:List α} {v:α},R[i]? =some r→r[j]? =some v→R.flatten[i * sz+j]? =some v
 |[],_,i,j,r,v,h,_=>by simp at h
 |r0::R,hl,i,j,r,v,h,hv=>by
  have h1:=hl r0 (zal ..)
  rw [List.flatten_cons]
  cases i with
  |zero=>
   simp at h
   subst h
   rw [List.getElem?_append_left (by have:=(zab.1 hv).1;omega)]
   simpa using hv
  |succ i=>
   rw [List.getElem?_append_right (by rw [Nat.succ_mul];omega)]
   have:=ygq (R:=R) (fun r' hr=>hl r' (zak _ hr)) (i:=i) (j:=j) (r:=r) (v:=v) (by simpa using h) hv
   rw [← this]
   congr 1
   rw [Nat.succ_mul]
   omega
theorem yvp {w:World} {B sz:Nat} {t:TypeId} {u:Value} {R:List (List Value)} (hl:∀ r∈R,r.length=sz) (ho:w.ownsRow B t sz u R.length R.flatten) {i:Nat} (hi:i<R.length):
  ∃ g cap,u=.slice (some ⟨g,0,none⟩) R.length cap∧B≤g∧w.rangeAt g (i * sz) (R.getD i [])∧w.there g (i * sz) sz:=by
 obtain ⟨h1,h2⟩:=ho
 rcases h2 with ⟨_,h2⟩|⟨g,cap,cur,rfl,hB,hg,hn,hc,hs,ht⟩
 ·omega
 ·have hmul:i * sz+sz≤R.length * sz:=by
   have:=Nat.mul_le_mul_right sz (show i+1≤R.length by omega)
   rw [Nat.succ_mul] at this;omega
  have hcap:R.length * sz≤cap * sz:=Nat.mul_le_mul_right sz hn
  have hri:R[i]? =some (R.getD i []):=by rw [List.getD_eq_getElem?_getD,List.getElem?_eq_getElem hi];rfl
  refine ⟨g,cap,rfl,hB,fun j v hv=>?_,fun j hj=>⟨?_,yay hg _⟩⟩
  ·have:=ygq hl hri hv
   have hj:j<sz:=by rw [← hl _ (List.mem_of_getElem? hri)];exact (zab.1 hv).1
   rw [yac hg,←Array.getElem?_toList,←this,←ht,List.getElem?_take,if_pos (by omega)]
  ·rw [yac hg,Array.getElem?_eq_getElem (by omega)];rfl
end Go.Proofs.Ytiiekgcjilelpaa

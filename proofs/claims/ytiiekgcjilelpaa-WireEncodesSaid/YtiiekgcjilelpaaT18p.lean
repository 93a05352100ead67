/- T18. -/
import Derived.Test.YtiiekgcjilelpaaT17p
open List renaming getElem?_append_right → zac, getElem?_append_left → zad
open Nat renaming lt_or_ge → zbk, le_trans → zbl
set_option linter.unusedSimpArgs false
set_option linter.unusedVariables false
namespace Go.Proofs.Ytiiekgcjilelpaa
open Go.RowKit
section
variable {β:Type} {I:ObI β} {W0:World} {G:Nat→Prop} {w w':World} {e:Env} {mem:Mem β}
def Sh (I:ObI β) (w:World) (e:Env) (mem:Mem β) (k:Nat):Prop:=∃ (j:Nat) (v:Value) (m:En β),e[j]? =some v∧mem[j]? =some m∧Foot I w v m.ob k∧(m.mu=true→¬ Own I w v m.ob k)
theorem Sh.no (h:MemOk W0 G I w e mem) {k:Nat} (hs:Sh I w e mem k) {i:Nat} {u:Value} {n:En β} (hu:e[i]? =some u) (hn:mem[i]? =some n) (hmu:n.mu=true):¬ Own I w u n.ob k:=fun hk=>by
 obtain ⟨j,v,m,h1,h2,h3,h4⟩:=hs
 by_cases he:i=j
 ·subst he
  rw [hu] at h1;rw [hn] at h2;cases h1;cases h2
  exact h4 hmu hk
 ·exact h.sep i j u v n m hu hn hmu h1 h2 he k hk h3
theorem Sh.lt (h:MemOk W0 G I w e mem) {k:Nat} (hs:Sh I w e mem k):k<w.heap.size:=by
 obtain ⟨j,v,m,h1,h2,h3,_⟩:=hs
 exact h.lt j v m h1 h2 k h3
theorem Sh.rd (h:MemOk W0 G I w e mem) {k:Nat} (hs:Sh I w e mem k):W0.heap.size≤k∨¬ G (2 * k+1):=by
 obtain ⟨j,v,m,h1,h2,h3,_⟩:=hs
 exact h.rd j v m h1 h2 k h3
theorem MemOk.share (h:MemOk W0 G I w e mem) (v:Value) (o:Ob β) (hold:Holds I (e++[v]) w v false o) (hf:∀ k,Foot I w v o k→Sh I w e mem k):MemOk W0 G I w (e++[v]) (mem++[⟨o,false⟩]):=by
 have hl:=h.len
 have hget:∀ (i:Nat) (x:Value) (n:En β),(e++[v])[i]? =some x→(mem++[⟨o,false⟩])[i]? =some n→(e[i]? =some x∧mem[i]? =some n)∨(i=e.length∧x=v∧n=⟨o,false⟩):=fun i x n hx hn=>by
  rcases zbk i e.length with hi|hi
  ·rw [zad hi] at hx
   rw [zad (by omega)] at hn
   exact .inl ⟨hx,hn⟩
  ·rw [zac hi] at hx
   rw [zac (by omega)] at hn
   rw [← hl] at hn
   cases hq:i - e.length with
   |zero=>rw [hq] at hx hn;simp at hx hn;exact .inr ⟨by omega,hx.symm,hn.symm⟩
   |succ q=>rw [hq] at hx;simp at hx
 refine ⟨by simp [hl],fun i x n hx hn=>?_,fun i x n hx hn k hk=>?_,fun i x n hx hn hm k hk=>?_,fun i j x y n m hx hn hm hy hm' hij k hk1 hk2=>?_,h.mod,fun i x n hx hn k hk=>?_⟩
 ·rcases hget i x n hx hn with ⟨h1,h2⟩|⟨_,rfl,rfl⟩
  ·exact (h.holds i x n h1 h2).mono (Grows.push e v)
  ·exact hold
 ·rcases hget i x n hx hn with ⟨h1,h2⟩|⟨_,rfl,rfl⟩
  ·exact h.lt i x n h1 h2 k hk
  ·exact (hf k hk).lt h
 ·rcases hget i x n hx hn with ⟨h1,h2⟩|⟨_,rfl,rfl⟩
  ·exact h.own i x n h1 h2 hm k hk
  ·cases hm
 ·rcases hget i x n hx hn with ⟨h1,h2⟩|⟨_,rfl,rfl⟩
  ·rcases hget j y m hy hm' with ⟨g1,g2⟩|⟨_,rfl,rfl⟩
   ·exact h.sep i j x y n m h1 h2 hm g1 g2 hij k hk1 hk2
   ·exact (hf k hk2).no h h1 h2 hm hk1
  ·cases hm
 ·rcases hget i x n hx hn with ⟨h1,h2⟩|⟨_,rfl,rfl⟩
  ·exact h.rd i x n h1 h2 k hk
  ·exact (hf k hk).rd h
theorem MemOk.renew3 (h:MemOk W0 G I w e mem) {i:Nat} {u v':Value} {o:Ob β} (hu:e[i]? =some u) (hn:mem[i]? =some ⟨o,true⟩) (hm:Mod (fun k=>Own I w u o k) w w') (n':En β)
  (hold:Holds I (e++[v']) w' v' n'.mu n'.ob) (hf:∀ k,Foot I w' v' n'.ob k→(Foot I w u o k∨w.heap.size≤k∨Sh I w e mem k)∧k<w'.heap.size) (ho:∀ k,Own I w' v' n'.ob k→Own I w u o k∨w.heap.size≤k):
  MemOk W0 G I w' (e++[v']) (mem.set i ⟨.dead,true⟩++[n']):=by
 have hl:=h.len
 have hget:∀ (j:Nat) (x:Value) (m:En β),(e++[v'])[j]? =some x→(mem.set i ⟨.dead,true⟩++[n'])[j]? =some m→(j≠i∧e[j]? =some x∧mem[j]? =some m)∨(j=i∧m=⟨.dead,true⟩∧x=u)∨(j=e.length∧x=v'∧m=n'):=fun j x m hx hmm=>by
  rcases zbk j e.length with hi|hi
  ·rw [zad hi] at hx
   rw [zad (by simp;omega)] at hmm
   by_cases he:j=i
   ·subst he
    rw [List.getElem?_set_self (by omega)] at hmm
    rw [hu] at hx
    cases hx
    exact .inr (.inl ⟨rfl,by simpa using hmm.symm,rfl⟩)
   ·rw [List.getElem?_set_ne (fun e=>he e.symm)] at hmm
    exact .inl ⟨he,hx,hmm⟩
  ·rw [zac hi] at hx
   rw [zac (by simp;omega)] at hmm
   simp only [List.length_set,←hl] at hmm
   cases hq:j - e.length with
   |zero=>rw [hq] at hx hmm;simp at hx hmm;exact .inr (.inr ⟨by omega,hx.symm,hmm.symm⟩)
   |succ q=>rw [hq] at hx;simp at hx
 have dis:∀ (j:Nat) (v:Value) (m:En β),j≠i→e[j]? =some v→mem[j]? =some m→∀ k,Foot I w v m.ob k→¬ Own I w u o k:=fun j v m hj hv hmm k hk hk'=>h.sep i j u v _ m hu hn rfl hv hmm (fun e=>hj e.symm) k hk' hk
 have st:∀ (j:Nat) (v:Value) (m:En β),j≠i→e[j]? =some v→mem[j]? =some m→Holds I e w' v m.mu m.ob∧∀ k,Foot I w' v m.ob k→Foot I w v m.ob k:=fun j v m hj hv hmm=>
  (h.holds j v m hv hmm).stay hm (dis j v m hj hv hmm)
 have so:∀ (j:Nat) (v:Value) (m:En β),j≠i→e[j]? =some v→mem[j]? =some m→∀ k,Own I w' v m.ob k→Own I w v m.ob k:=fun j v m hj hv hmm=>(h.holds j v m hv hmm).stayO hm (dis j v m hj hv hmm)
 refine ⟨by simp [hl],fun j v m hv hmm=>?_,fun j v m hv hmm k hk=>?_,fun j v m hv hmm hmu k hk=>?_,fun j1 j2 v1 v2 m1 m2 hv1 hm1 hmu hv2 hm2 hne k hk1 hk2=>?_,?_,fun j v m hv hmm k hk=>?_⟩
 ·rcases hget j v m hv hmm with ⟨hne,h1,h2⟩|⟨_,rfl,rfl⟩|⟨_,rfl,rfl⟩
  ·exact ((st j v m hne h1 h2).1).mono (Grows.push e v')
  ·exact (h.holds i v _ hu hn).oneCell
  ·exact hold
 ·rcases hget j v m hv hmm with ⟨hne,h1,h2⟩|⟨_,rfl,rfl⟩|⟨_,rfl,rfl⟩
  ·exact Nat.lt_of_lt_of_le (h.lt j v m h1 h2 k ((st j v m hne h1 h2).2 k hk)) hm.size
  ·exact hk.elim
  ·exact (hf k hk).2
 ·rcases hget j v m hv hmm with ⟨hne,h1,h2⟩|⟨_,rfl,rfl⟩|⟨_,rfl,rfl⟩
  ·exact h.own j v m h1 h2 hmu k (so j v m hne h1 h2 k hk)
  ·exact hk.elim
  ·rcases ho k hk with h2|h2
   ·exact h.own i u _ hu hn rfl k h2
   ·exact .inl (zbl h.mod.size h2)
 ·rcases hget j1 v1 m1 hv1 hm1 with ⟨hne1,a1,a2⟩|⟨_,rfl,rfl⟩|⟨e1,rfl,rfl⟩
  ·have q1:=so j1 v1 m1 hne1 a1 a2 k hk1
   rcases hget j2 v2 m2 hv2 hm2 with ⟨hne2,b1,b2⟩|⟨_,rfl,rfl⟩|⟨_,rfl,rfl⟩
   ·exact h.sep j1 j2 v1 v2 m1 m2 a1 a2 hmu b1 b2 hne k q1 ((st j2 v2 m2 hne2 b1 b2).2 k hk2)
   ·exact hk2.elim
   ·rcases (hf k hk2).1 with h3|h3|h3
    ·exact h.sep j1 i v1 u m1 _ a1 a2 hmu hu hn hne1 k q1 h3
    ·have:=h.lt j1 v1 m1 a1 a2 k q1.foot;omega
    ·exact h3.no h a1 a2 hmu q1
  ·exact hk1.elim
  ·rcases hget j2 v2 m2 hv2 hm2 with ⟨hne2,b1,b2⟩|⟨_,rfl,rfl⟩|⟨e2,rfl,rfl⟩
   ·have q:=(st j2 v2 m2 hne2 b1 b2).2 k hk2
    rcases ho k hk1 with h3|h3
    ·exact dis j2 v2 m2 hne2 b1 b2 k q h3
    ·have:=h.lt j2 v2 m2 b1 b2 k q;omega
   ·exact hk2.elim
   ·omega
 ·refine Mod.trans h.mod hm fun k hk hl=>?_
  rcases h.own i u _ hu hn rfl k hk with h1|h1
  ·omega
  ·exact h1
 ·rcases hget j v m hv hmm with ⟨hne,h1,h2⟩|⟨_,rfl,rfl⟩|⟨_,rfl,rfl⟩
  ·exact h.rd j v m h1 h2 k ((st j v m hne h1 h2).2 k hk)
  ·exact hk.elim
  ·rcases (hf k hk).1 with h2|h2|h2
   ·exact h.rd i u _ hu hn k h2
   ·exact .inl (zbl h.mod.size h2)
   ·exact h2.rd h
end
end Go.Proofs.Ytiiekgcjilelpaa

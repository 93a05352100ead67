/- H13. -/
import Derived.Test.YtonomiljclemnaaH12p
set_option linter.unusedVariables false
set_option linter.unusedSimpArgs false
namespace Go.Proofs.Ytonomiljclemnaa
open Go.RowKit
def WidQ (Q:List (Int×List UInt8)):Prop:=(∀ q∈Q,q.2.length=128)∧Q.length≤100000
def WidL (L:List (List UInt8)):Prop:=∀ l∈L,l.length=128
theorem WidQ.at {Q:List (Int×List UInt8)} (h:WidQ Q) {k:Int} (hk:0≤k∧k.toNat<Q.length):(Q.getD k.toNat (0,[])).2.length=128:=by
 have:Q.getD k.toNat (0,[])∈Q:=by
  rw [List.getD_eq_getElem?_getD,List.getElem?_eq_getElem hk.2]
  exact List.getElem_mem ..
 exact h.1 _ this
theorem WidL.at {L:List (List UInt8)} (h:WidL L) {k:Int} (hk:0≤k∧k.toNat<L.length):(L.getD k.toNat []).length=128:=by
 have:L.getD k.toNat []∈L:=by
  rw [List.getD_eq_getElem?_getD,List.getElem?_eq_getElem hk.2]
  exact List.getElem_mem ..
 exact h _ this
theorem rnd_nD {P:Program} {W0:World} {G:Nat→Prop} {sz:Nat} {c:Code} {k0:Nat} {V:Nat→List (Nat×SV)} {M:Nat→Mem Td} {N:Nat} {Ux:Nat→SX→Option (List (Nat×SV)×Mem Td)} {X:Nat→SX→Prop} {J:Nat→Prop} {k:Nat} {b Vn:List (Nat×SV)} {mm Mn:Mem Td} (S:Sy Td) (hP:S.P=P) (hS:SyOk S Id' W0 G)
  {cs:List Bool} (h:∃ ps,alN Id' k0 Vn Mn ((symC S [] sz c ⟨b,mm,0⟩).al cs)=some ps∧∀ p∈ps,p) (hV:V (k+1)=Vn) (hM:M (k+1)=Mn) (hk:k<N) (hJ:J (k+1)):Rnd P Id' W0 G sz c ⟨b,mm,0⟩ (RK3 Id' k0 V M N J Ux X k):=by
 obtain ⟨ps,h1,h2⟩:=h
 exact rnd_n S [] hP hS (LpsOk.nil _) (m2:=mm) (fun w e h=>h) cs ps h1 h2 hV hM hk hJ
theorem rnd_xD {P:Program} {W0:World} {G:Nat→Prop} {sz:Nat} {c:Code} {k0:Nat} {V:Nat→List (Nat×SV)} {M:Nat→Mem Td} {N:Nat} {Ux:Nat→SX→Option (List (Nat×SV)×Mem Td)} {X:Nat→SX→Prop} {J:Nat→Prop} {k id:Nat} {b Vn:List (Nat×SV)} {mm Mn:Mem Td} (S:Sy Td) (hP:S.P=P) (hS:SyOk S Id' W0 G)
  {cs:List Bool} (h:∃ ps,alX Id' k0 id Vn Mn ((symC S [] sz c ⟨b,mm,0⟩).al cs)=some ps∧∀ p∈ps,p) (hU:Ux k (.exit id)=some (Vn,Mn)) (hX:X k (.exit id)):Rnd P Id' W0 G sz c ⟨b,mm,0⟩ (RK3 Id' k0 V M N J Ux X k):=by
 obtain ⟨ps,h1,h2⟩:=h
 exact rnd_x S [] hP hS (LpsOk.nil _) (m2:=mm) (fun w e h=>h) cs id ps h1 h2 hU hX
theorem ltNI {k n:Nat} {b:Bool} (h:decide ((k:Int)<(n:Int))=b):(k<n)=(b=true):=by
 rw [← h,decide_eq_true_eq];exact propext ⟨fun h=>by omega,fun h=>by omega⟩
end Go.Proofs.Ytonomiljclemnaa

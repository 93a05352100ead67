/- H13. -/
import Derived.Test.YtdenmoiaiemokaaH12p
set_option linter.unusedSimpArgs false
set_option linter.unusedVariables false
namespace Go.Proofs.Ytdenmoiaiemokaa
open Go.RowKit
theorem rnd_nD {P:Program} {W0:World} {G:Nat→Prop} {sz:Nat} {c:Code} {k0:Nat} {V:Nat→List (Nat×SV)} {M:Nat→Mem Td} {N:Nat} {Ux:Nat→SX→Option (List (Nat×SV)×Mem Td)} {X:Nat→SX→Prop} {J:Nat→Prop} {k:Nat} {b Vn:List (Nat×SV)} {mm Mn:Mem Td} (S:Sy Td) (hP:S.P=P) (hS:SyOk S Id' W0 G)
  {cs:List Bool} (h:∃ ps,alN Id' k0 Vn Mn ((symC S [] sz c ⟨b,mm,0⟩).al cs)=some ps∧∀ p∈ps,p) (hV:V (k+1)=Vn) (hM:M (k+1)=Mn) (hk:k<N) (hJ:J (k+1)):Rnd P Id' W0 G sz c ⟨b,mm,0⟩ (RK3 Id' k0 V M N J Ux X k):=by
 obtain ⟨ps,h1,h2⟩:=h
 exact rnd_n S [] hP hS (LpsOk.nil _) (m2:=mm) (fun w e h=>h) cs ps h1 h2 hV hM hk hJ
theorem rnd_xD {P:Program} {W0:World} {G:Nat→Prop} {sz:Nat} {c:Code} {k0:Nat} {V:Nat→List (Nat×SV)} {M:Nat→Mem Td} {N:Nat} {Ux:Nat→SX→Option (List (Nat×SV)×Mem Td)} {X:Nat→SX→Prop} {J:Nat→Prop} {k id:Nat} {b Vn:List (Nat×SV)} {mm Mn:Mem Td} (S:Sy Td) (hP:S.P=P) (hS:SyOk S Id' W0 G)
  {cs:List Bool} (h:∃ ps,alX Id' k0 id Vn Mn ((symC S [] sz c ⟨b,mm,0⟩).al cs)=some ps∧∀ p∈ps,p) (hU:Ux k (.exit id)=some (Vn,Mn)) (hX:X k (.exit id)):Rnd P Id' W0 G sz c ⟨b,mm,0⟩ (RK3 Id' k0 V M N J Ux X k):=by
 obtain ⟨ps,h1,h2⟩:=h
 exact rnd_x S [] hP hS (LpsOk.nil _) (m2:=mm) (fun w e h=>h) cs id ps h1 h2 hU hX
theorem rnd_rD {P:Program} {W0:World} {G:Nat→Prop} {sz:Nat} {c:Code} {k0:Nat} {V:Nat→List (Nat×SV)} {M:Nat→Mem Td} {N:Nat} {Ux:Nat→SX→Option (List (Nat×SV)×Mem Td)} {X:Nat→SX→Prop} {J:Nat→Prop} {k:Nat} {b Vn:List (Nat×SV)} {mm Mn:Mem Td} (S:Sy Td) (hP:S.P=P) (hS:SyOk S Id' W0 G)
  {cs:List Bool} (h:∃ ps,alR Id' k0 Vn Mn ((symC S [] sz c ⟨b,mm,0⟩).al cs)=some ps∧∀ p∈ps,p) (hU:Ux k .ret=some (Vn,Mn)) (hX:X k .ret):Rnd P Id' W0 G sz c ⟨b,mm,0⟩ (RK3 Id' k0 V M N J Ux X k):=by
 obtain ⟨ps,h1,h2⟩:=h
 exact rnd_r S [] hP hS (LpsOk.nil _) (m2:=mm) (fun w e h=>h) cs ps h1 h2 hU hX
end Go.Proofs.Ytdenmoiaiemokaa

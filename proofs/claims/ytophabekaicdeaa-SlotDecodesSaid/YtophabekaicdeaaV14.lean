/- SlotDecodes. -/
import Derived.Test.YtophabekaicdeaaV13
import Derived.Test.YtophabekaicdeaaV8


set_option linter.unusedVariables false
set_option linter.unusedSimpArgs false
namespace Go.Proofs.Ytophabekaicdeaa
open Go.RowKit

def sdL (m : List UInt8) : Bool := (eqS' (decS m) (rdecS m) && (decSE m == rdecSE m && true))
set_option maxRecDepth 100000 in
theorem lawSD_c (l : List UInt8) (w : World) (u0 : Value) (hb0 : Bs w u0 l) : Calls Try.prog 10 #[u0] w fun e w' => e = .returned (.bool ((eqS' (decS (l.take 140)) (rdecS (l.take 140)) && decSE (l.take 140) == rdecSE (l.take 140)) && true)) ∧ Ext w w' :=
  conR (S := (⟨Try.prog, [(F_rcut : Nat × Fn2 Tu), F_sdec, F_rsdec, F_smine, F_slives], [E_of Try.prog 76], thHo hz, Iu.one, 40⟩ : Sy Tu)) (I := Iu) (L := []) (args := [.one (.obj 0)]) (us := [u0]) (e := [u0]) (mem := [⟨.us (.byt l), false⟩]) (SyOk.mk2 Try.mixed (thHo_ok hz) (FnsR.cons (F_rcut_ok (J := noI) (hx := hz)) (FnsR.cons F_sdec_ok (FnsR.cons F_rsdec_ok (FnsR.cons F_smine_ok (FnsR.cons F_slives_ok (FnsR.nil)))))) (E_of_ok (by kernel_rfl) (EqsOk.nil))) Try.func10 (by kernel_rfl) (LpsOk.nil _) (args_byt (J := noI) (args_nil _ w) (fun n h => by cases h) hb0) (fun n hn => by simp at hn; subst hn; rfl) (⟨rfl, trivial⟩) (by kernel_rfl) nil_u (noSh) (by kernel_rfl) [nat_lit 140 ≤ (9223372036854775807 : Nat), (List.take 140 l).length ≤ (100000 : Nat), (List.take 140 l).length ≤ (100000 : Nat)] (by kernel_rfl) ((by
    repeat' (first | exact mnil | refine mcons ?_ ?_)
    all_goals first
      | exact Nat.le_trans (List.length_take_le _ _) (by decide)
      | exact (by decide)
    ))
theorem bad_same (l : List UInt8) : badD l = badR l := by
  obtain ⟨h1, h2⟩ := enc_same (rawD_ok l)
  unfold badD badR
  rw [h1, h2]
theorem dec_same (l : List UInt8) : decS l = rdecS l ∧ decSE l = rdecSE l := by
  unfold decS rdecS decSE rdecSE
  rw [bad_same]
  exact ⟨rfl, rfl⟩
theorem slotDecodes_calls (ao : Option Addr) (cap : Nat) (l : List UInt8) (W : World) (hb : Bs W (.slice ao l.length cap) l) : Calls Try.prog 10 #[.slice ao l.length cap] W fun e w' => e = .returned (.bool true) ∧ Below W.heap.size W w' := by
  refine (lawSD_c l W _ hb).mono fun e w' hh => ⟨?_, hh.2.below⟩
  rw [hh.1, ← (dec_same _).1, ← (dec_same _).2, eqS'_refl, beq_self_eq_true]
  rfl

end Go.Proofs.Ytophabekaicdeaa

/- slot: the laws walked. -/
import Derived.Test.YtophabekaicdeaaV5

set_option linter.unusedVariables false
set_option linter.unusedSimpArgs false
namespace Go.Proofs.Ytophabekaicdeaa
open Go.RowKit

def encB (x : Sl) : Bool := ((decide (encL x = rencL x) && encE x == rencE x) && isZ x == isZ x) && true
set_option maxRecDepth 100000 in
theorem lawE_c (us : Bool) (io gn pl ve : Int) (di : Bool) (da : ByteArray) (h0 : 0 ≤ ve ∧ ve < 18446744073709551616) (w : World) : Calls Try.prog 9 #[.agg #[.bool us, .int .i64 io, .int .i64 gn, .int .i64 pl, .int .u64 ve, .bool di, .string da]] w fun e w' => e = .returned (.bool (encB (⟨us, io, gn, pl, ve, di, shortT da 70⟩ : Sl))) ∧ Ext w w' :=
  conR (S := (⟨Try.prog, [(F_rshort : Nat × Fn2 Tu), F_smine, F_senc, F_rsenc, (F_rsame : Nat × Fn2 Tu), F_sfree, F_slives], [E_of Try.prog 73], thHo hz, Iu.one, 40⟩ : Sy Tu)) (I := Iu) (L := []) (args := [.agg [.v (.bool us), .v (.int .i64 io), .v (.int .i64 gn), .v (.int .i64 pl), .v (.int .u64 ve), .v (.bool di), .v (.string da)]]) (us := [.agg #[.bool us, .int .i64 io, .int .i64 gn, .int .i64 pl, .int .u64 ve, .bool di, .string da]]) (e := []) (mem := []) (SyOk.mk2 Try.mixed (thHo_ok hz) (FnsR.cons (F_rshort_ok (J := noI) (hx := hz)) (FnsR.cons F_smine_ok (FnsR.cons F_senc_ok (FnsR.cons F_rsenc_ok (FnsR.cons (F_rsame_ok (J := noI) (hx := hz)) (FnsR.cons F_sfree_ok (FnsR.cons F_slives_ok (FnsR.nil)))))))) (E_of_ok (by kernel_rfl) (EqsOk.nil))) Try.func9 (by kernel_rfl) (LpsOk.nil _) (args_nil Iu w) (fun n hn => by cases hn) (⟨⟨[.bool us, .int .i64 io, .int .i64 gn, .int .i64 pl, .int .u64 ve, .bool di, .string da], ⟨rfl, rfl, rfl, rfl, rfl, rfl, rfl, trivial⟩, rfl⟩, trivial⟩) (by kernel_rfl) nil_u (noSh) (by kernel_rfl) [nat_lit 70 ≤ (9223372036854775807 : Nat), (0 : Int) ≤ ve ∧ ve < (18446744073709551616 : Int), (0 : Int) ≤ ve ∧ ve < (18446744073709551616 : Int)] (by kernel_rfl) ((by
    repeat' (first | exact mnil | refine mcons ?_ ?_)
    all_goals first
      | exact h0
      | exact (by decide)
    ))
def eqS' (x y : Sl) : Bool := x.us == y.us && (((x.io == y.io && (x.gn == y.gn && true)) && (x.pl == y.pl && true)) && (x.ve == y.ve && (x.di == y.di && (x.da == y.da && true))))
theorem ba_beq (a b : ByteArray) : (a == b) = (a.data == b.data) := by cases a; cases b; rfl
theorem ba_iff (a b : ByteArray) : (a == b) = true ↔ a = b := by
  rw [ba_beq, beq_iff_eq]
  exact ⟨fun h => by cases a; cases b; simp only at h; rw [h], fun h => by rw [h]⟩
theorem eqS'_refl (x : Sl) : eqS' x x = true := by
  have := (ba_iff x.da x.da).2 rfl
  simp [eqS', this]
def bkB (m : List UInt8) : Bool := (decSE m != 0 || encE (decS m) == 0 && decide (encL (decS m) = m)) && true
def bakB (x : Sl) (m : List UInt8) : Bool := cond (encE x == 0) (cond (decSE (encL x) != 0 || !eqS' (decS (encL x)) x) false (bkB m)) (bkB m)
set_option maxRecDepth 100000 in
theorem lawB_c (us : Bool) (io gn pl ve : Int) (di : Bool) (da : ByteArray) (l : List UInt8) (h0 : 0 ≤ ve ∧ ve < 18446744073709551616) (h1 : (encL (⟨us, io, gn, pl, ve, di, shortT da 70⟩ : Sl)).length ≤ 100000) (h2 : ∀ m : List UInt8, 0 ≤ (decS m).ve ∧ (decS m).ve < 18446744073709551616) (w : World) (u0 : Value) (hb0 : Bs w u0 l) : Calls Try.prog 11 #[.agg #[.bool us, .int .i64 io, .int .i64 gn, .int .i64 pl, .int .u64 ve, .bool di, .string da], u0] w fun e w' => e = .returned (.bool (bakB (⟨us, io, gn, pl, ve, di, shortT da 70⟩ : Sl) (l.take 140))) ∧ Ext w w' :=
  conR (S := (⟨Try.prog, [(F_rshort : Nat × Fn2 Tu), (F_rcut : Nat × Fn2 Tu), F_smine, F_senc, F_sdec, (F_rsame : Nat × Fn2 Tu), F_slives], [E_of Try.prog 76], thHo hz, Iu.one, 40⟩ : Sy Tu)) (I := Iu) (L := []) (args := [.agg [.v (.bool us), .v (.int .i64 io), .v (.int .i64 gn), .v (.int .i64 pl), .v (.int .u64 ve), .v (.bool di), .v (.string da)], .one (.obj 0)]) (us := [.agg #[.bool us, .int .i64 io, .int .i64 gn, .int .i64 pl, .int .u64 ve, .bool di, .string da], u0]) (e := [u0]) (mem := [⟨.us (.byt l), false⟩]) (SyOk.mk2 Try.mixed (thHo_ok hz) (FnsR.cons (F_rshort_ok (J := noI) (hx := hz)) (FnsR.cons (F_rcut_ok (J := noI) (hx := hz)) (FnsR.cons F_smine_ok (FnsR.cons F_senc_ok (FnsR.cons F_sdec_ok (FnsR.cons (F_rsame_ok (J := noI) (hx := hz)) (FnsR.cons F_slives_ok (FnsR.nil)))))))) (E_of_ok (by kernel_rfl) (EqsOk.nil))) Try.func11 (by kernel_rfl) (LpsOk.nil _) (args_byt (J := noI) (args_nil _ w) (fun n h => by cases h) hb0) (fun n hn => by simp at hn; subst hn; rfl) (⟨⟨[.bool us, .int .i64 io, .int .i64 gn, .int .i64 pl, .int .u64 ve, .bool di, .string da], ⟨rfl, rfl, rfl, rfl, rfl, rfl, rfl, trivial⟩, rfl⟩, rfl, trivial⟩) (by kernel_rfl) nil_u (noSh) (by kernel_rfl) [nat_lit 140 ≤ (9223372036854775807 : Nat), nat_lit 70 ≤ (9223372036854775807 : Nat), (0 : Int) ≤ ve ∧ ve < (18446744073709551616 : Int), (encE (Sl.mk us io gn pl ve di (shortT da 70)) == (0 : Int)) = true → (encL (Sl.mk us io gn pl ve di (shortT da 70))).length ≤ (100000 : Nat), (encE (Sl.mk us io gn pl ve di (shortT da 70)) == (0 : Int)) = true → (decSE (encL (Sl.mk us io gn pl ve di (shortT da 70))) != (0 : Int) || !((decS (encL (Sl.mk us io gn pl ve di (shortT da 70)))).us == us && ((decS (encL (Sl.mk us io gn pl ve di (shortT da 70)))).io == io && ((decS (encL (Sl.mk us io gn pl ve di (shortT da 70)))).gn == gn && true) && ((decS (encL (Sl.mk us io gn pl ve di (shortT da 70)))).pl == pl && true) && ((decS (encL (Sl.mk us io gn pl ve di (shortT da 70)))).ve == ve && ((decS (encL (Sl.mk us io gn pl ve di (shortT da 70)))).di == di && ((decS (encL (Sl.mk us io gn pl ve di (shortT da 70)))).da == shortT da 70 && true)))))) = false → (List.take 140 l).length ≤ (100000 : Nat), (encE (Sl.mk us io gn pl ve di (shortT da 70)) == (0 : Int)) = true → (decSE (encL (Sl.mk us io gn pl ve di (shortT da 70))) != (0 : Int) || !((decS (encL (Sl.mk us io gn pl ve di (shortT da 70)))).us == us && ((decS (encL (Sl.mk us io gn pl ve di (shortT da 70)))).io == io && ((decS (encL (Sl.mk us io gn pl ve di (shortT da 70)))).gn == gn && true) && ((decS (encL (Sl.mk us io gn pl ve di (shortT da 70)))).pl == pl && true) && ((decS (encL (Sl.mk us io gn pl ve di (shortT da 70)))).ve == ve && ((decS (encL (Sl.mk us io gn pl ve di (shortT da 70)))).di == di && ((decS (encL (Sl.mk us io gn pl ve di (shortT da 70)))).da == shortT da 70 && true)))))) = false → (0 : Int) ≤ (decS (List.take 140 l)).ve ∧ (decS (List.take 140 l)).ve < (18446744073709551616 : Int), (encE (Sl.mk us io gn pl ve di (shortT da 70)) == (0 : Int)) = false → (List.take 140 l).length ≤ (100000 : Nat), (encE (Sl.mk us io gn pl ve di (shortT da 70)) == (0 : Int)) = false → (0 : Int) ≤ (decS (List.take 140 l)).ve ∧ (decS (List.take 140 l)).ve < (18446744073709551616 : Int)] (by kernel_rfl) ((by
    repeat' (first | exact mnil | refine mcons ?_ ?_)
    all_goals first
      | exact h0
      | exact fun _ => h1
      | exact fun _ _ => h2 _
      | exact fun _ => h2 _
      | exact fun _ => Nat.le_trans (List.length_take_le _ _) (by decide)
      | exact fun _ _ => Nat.le_trans (List.length_take_le _ _) (by decide)
      | exact (by decide)
    ))

end Go.Proofs.Ytophabekaicdeaa

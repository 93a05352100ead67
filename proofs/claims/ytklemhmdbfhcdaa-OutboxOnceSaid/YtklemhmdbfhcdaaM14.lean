/- The table of fields. -/
import Derived.Test.YtklemhmdbfhcdaaM13

set_option linter.unusedVariables false
set_option linter.unusedSimpArgs false
namespace Go.Proofs.Ytklemhmdbfhcdaa
open Go.RowKit

def strs (l : List (List UInt8)) : List ByteArray := l.map fun x => ⟨x.toArray⟩
def askedT : List (List UInt8) := [[], [], [], [100, 110], [100, 110, 107], [100, 110], [100, 110, 102, 111], [100], [102, 107], [102, 97], [102, 97, 116], [102], [102], [102, 107], []]
def toldT : List (List UInt8) := [[], [], [], [102, 107], [102], [], [], [101], [118], [116, 118], [118], [118], [], [118], []]
def fieldsS (r : Bool) (k : Int) : ByteArray := ⟨((cond r toldT askedT).getD k.toNat []).toArray⟩
set_option maxHeartbeats 400000 in
theorem fields_t1 (w : World) : Calls Try.prog 32 #[.bool true, .int .i64 1] w fun e w' => e = .returned (.string (fieldsS true 1)) ∧ Ext w w' := by
  go_enter Try.func32, Try.ntmps32
  go_wp2
  go_ret
  exact ⟨rfl, ((Ext.refl w).alloc _).alloc _⟩
set_option maxHeartbeats 400000 in
theorem fields_t2 (w : World) : Calls Try.prog 32 #[.bool true, .int .i64 2] w fun e w' => e = .returned (.string (fieldsS true 2)) ∧ Ext w w' := by
  go_enter Try.func32, Try.ntmps32
  go_wp2
  go_ret
  exact ⟨rfl, ((Ext.refl w).alloc _).alloc _⟩
set_option maxHeartbeats 400000 in
theorem fields_t3 (w : World) : Calls Try.prog 32 #[.bool true, .int .i64 3] w fun e w' => e = .returned (.string (fieldsS true 3)) ∧ Ext w w' := by
  go_enter Try.func32, Try.ntmps32
  go_wp2
  go_ret
  exact ⟨rfl, ((Ext.refl w).alloc _).alloc _⟩
set_option maxHeartbeats 400000 in
theorem fields_t4 (w : World) : Calls Try.prog 32 #[.bool true, .int .i64 4] w fun e w' => e = .returned (.string (fieldsS true 4)) ∧ Ext w w' := by
  go_enter Try.func32, Try.ntmps32
  go_wp2
  go_ret
  exact ⟨rfl, ((Ext.refl w).alloc _).alloc _⟩
set_option maxHeartbeats 400000 in
theorem fields_t5 (w : World) : Calls Try.prog 32 #[.bool true, .int .i64 5] w fun e w' => e = .returned (.string (fieldsS true 5)) ∧ Ext w w' := by
  go_enter Try.func32, Try.ntmps32
  go_wp2
  go_ret
  exact ⟨rfl, ((Ext.refl w).alloc _).alloc _⟩
set_option maxHeartbeats 400000 in
theorem fields_t6 (w : World) : Calls Try.prog 32 #[.bool true, .int .i64 6] w fun e w' => e = .returned (.string (fieldsS true 6)) ∧ Ext w w' := by
  go_enter Try.func32, Try.ntmps32
  go_wp2
  go_ret
  exact ⟨rfl, ((Ext.refl w).alloc _).alloc _⟩
set_option maxHeartbeats 400000 in
theorem fields_t7 (w : World) : Calls Try.prog 32 #[.bool true, .int .i64 7] w fun e w' => e = .returned (.string (fieldsS true 7)) ∧ Ext w w' := by
  go_enter Try.func32, Try.ntmps32
  go_wp2
  go_ret
  exact ⟨rfl, ((Ext.refl w).alloc _).alloc _⟩
set_option maxHeartbeats 400000 in
theorem fields_t8 (w : World) : Calls Try.prog 32 #[.bool true, .int .i64 8] w fun e w' => e = .returned (.string (fieldsS true 8)) ∧ Ext w w' := by
  go_enter Try.func32, Try.ntmps32
  go_wp2
  go_ret
  exact ⟨rfl, ((Ext.refl w).alloc _).alloc _⟩
set_option maxHeartbeats 400000 in
theorem fields_t9 (w : World) : Calls Try.prog 32 #[.bool true, .int .i64 9] w fun e w' => e = .returned (.string (fieldsS true 9)) ∧ Ext w w' := by
  go_enter Try.func32, Try.ntmps32
  go_wp2
  go_ret
  exact ⟨rfl, ((Ext.refl w).alloc _).alloc _⟩
set_option maxHeartbeats 400000 in
theorem fields_t10 (w : World) : Calls Try.prog 32 #[.bool true, .int .i64 10] w fun e w' => e = .returned (.string (fieldsS true 10)) ∧ Ext w w' := by
  go_enter Try.func32, Try.ntmps32
  go_wp2
  go_ret
  exact ⟨rfl, ((Ext.refl w).alloc _).alloc _⟩
set_option maxHeartbeats 400000 in
theorem fields_t11 (w : World) : Calls Try.prog 32 #[.bool true, .int .i64 11] w fun e w' => e = .returned (.string (fieldsS true 11)) ∧ Ext w w' := by
  go_enter Try.func32, Try.ntmps32
  go_wp2
  go_ret
  exact ⟨rfl, ((Ext.refl w).alloc _).alloc _⟩
set_option maxHeartbeats 400000 in
theorem fields_t12 (w : World) : Calls Try.prog 32 #[.bool true, .int .i64 12] w fun e w' => e = .returned (.string (fieldsS true 12)) ∧ Ext w w' := by
  go_enter Try.func32, Try.ntmps32
  go_wp2
  go_ret
  exact ⟨rfl, ((Ext.refl w).alloc _).alloc _⟩
set_option maxHeartbeats 400000 in
theorem fields_t13 (w : World) : Calls Try.prog 32 #[.bool true, .int .i64 13] w fun e w' => e = .returned (.string (fieldsS true 13)) ∧ Ext w w' := by
  go_enter Try.func32, Try.ntmps32
  go_wp2
  go_ret
  exact ⟨rfl, ((Ext.refl w).alloc _).alloc _⟩
set_option maxHeartbeats 400000 in
theorem fields_t14 (w : World) : Calls Try.prog 32 #[.bool true, .int .i64 14] w fun e w' => e = .returned (.string (fieldsS true 14)) ∧ Ext w w' := by
  go_enter Try.func32, Try.ntmps32
  go_wp2
  go_ret
  exact ⟨rfl, ((Ext.refl w).alloc _).alloc _⟩
set_option maxHeartbeats 400000 in
theorem fields_f1 (w : World) : Calls Try.prog 32 #[.bool false, .int .i64 1] w fun e w' => e = .returned (.string (fieldsS false 1)) ∧ Ext w w' := by
  go_enter Try.func32, Try.ntmps32
  go_wp2
  go_ret
  exact ⟨rfl, ((Ext.refl w).alloc _).alloc _⟩
set_option maxHeartbeats 400000 in
theorem fields_f2 (w : World) : Calls Try.prog 32 #[.bool false, .int .i64 2] w fun e w' => e = .returned (.string (fieldsS false 2)) ∧ Ext w w' := by
  go_enter Try.func32, Try.ntmps32
  go_wp2
  go_ret
  exact ⟨rfl, ((Ext.refl w).alloc _).alloc _⟩
set_option maxHeartbeats 400000 in
theorem fields_f3 (w : World) : Calls Try.prog 32 #[.bool false, .int .i64 3] w fun e w' => e = .returned (.string (fieldsS false 3)) ∧ Ext w w' := by
  go_enter Try.func32, Try.ntmps32
  go_wp2
  go_ret
  exact ⟨rfl, ((Ext.refl w).alloc _).alloc _⟩
set_option maxHeartbeats 400000 in
theorem fields_f4 (w : World) : Calls Try.prog 32 #[.bool false, .int .i64 4] w fun e w' => e = .returned (.string (fieldsS false 4)) ∧ Ext w w' := by
  go_enter Try.func32, Try.ntmps32
  go_wp2
  go_ret
  exact ⟨rfl, ((Ext.refl w).alloc _).alloc _⟩
set_option maxHeartbeats 400000 in
theorem fields_f5 (w : World) : Calls Try.prog 32 #[.bool false, .int .i64 5] w fun e w' => e = .returned (.string (fieldsS false 5)) ∧ Ext w w' := by
  go_enter Try.func32, Try.ntmps32
  go_wp2
  go_ret
  exact ⟨rfl, ((Ext.refl w).alloc _).alloc _⟩
set_option maxHeartbeats 400000 in
theorem fields_f6 (w : World) : Calls Try.prog 32 #[.bool false, .int .i64 6] w fun e w' => e = .returned (.string (fieldsS false 6)) ∧ Ext w w' := by
  go_enter Try.func32, Try.ntmps32
  go_wp2
  go_ret
  exact ⟨rfl, ((Ext.refl w).alloc _).alloc _⟩
set_option maxHeartbeats 400000 in
theorem fields_f7 (w : World) : Calls Try.prog 32 #[.bool false, .int .i64 7] w fun e w' => e = .returned (.string (fieldsS false 7)) ∧ Ext w w' := by
  go_enter Try.func32, Try.ntmps32
  go_wp2
  go_ret
  exact ⟨rfl, ((Ext.refl w).alloc _).alloc _⟩
set_option maxHeartbeats 400000 in
theorem fields_f8 (w : World) : Calls Try.prog 32 #[.bool false, .int .i64 8] w fun e w' => e = .returned (.string (fieldsS false 8)) ∧ Ext w w' := by
  go_enter Try.func32, Try.ntmps32
  go_wp2
  go_ret
  exact ⟨rfl, ((Ext.refl w).alloc _).alloc _⟩
set_option maxHeartbeats 400000 in
theorem fields_f9 (w : World) : Calls Try.prog 32 #[.bool false, .int .i64 9] w fun e w' => e = .returned (.string (fieldsS false 9)) ∧ Ext w w' := by
  go_enter Try.func32, Try.ntmps32
  go_wp2
  go_ret
  exact ⟨rfl, ((Ext.refl w).alloc _).alloc _⟩
set_option maxHeartbeats 400000 in
theorem fields_f10 (w : World) : Calls Try.prog 32 #[.bool false, .int .i64 10] w fun e w' => e = .returned (.string (fieldsS false 10)) ∧ Ext w w' := by
  go_enter Try.func32, Try.ntmps32
  go_wp2
  go_ret
  exact ⟨rfl, ((Ext.refl w).alloc _).alloc _⟩
set_option maxHeartbeats 400000 in
theorem fields_f11 (w : World) : Calls Try.prog 32 #[.bool false, .int .i64 11] w fun e w' => e = .returned (.string (fieldsS false 11)) ∧ Ext w w' := by
  go_enter Try.func32, Try.ntmps32
  go_wp2
  go_ret
  exact ⟨rfl, ((Ext.refl w).alloc _).alloc _⟩
set_option maxHeartbeats 400000 in
theorem fields_f12 (w : World) : Calls Try.prog 32 #[.bool false, .int .i64 12] w fun e w' => e = .returned (.string (fieldsS false 12)) ∧ Ext w w' := by
  go_enter Try.func32, Try.ntmps32
  go_wp2
  go_ret
  exact ⟨rfl, ((Ext.refl w).alloc _).alloc _⟩
set_option maxHeartbeats 400000 in
theorem fields_f13 (w : World) : Calls Try.prog 32 #[.bool false, .int .i64 13] w fun e w' => e = .returned (.string (fieldsS false 13)) ∧ Ext w w' := by
  go_enter Try.func32, Try.ntmps32
  go_wp2
  go_ret
  exact ⟨rfl, ((Ext.refl w).alloc _).alloc _⟩
set_option maxHeartbeats 400000 in
theorem fields_f14 (w : World) : Calls Try.prog 32 #[.bool false, .int .i64 14] w fun e w' => e = .returned (.string (fieldsS false 14)) ∧ Ext w w' := by
  go_enter Try.func32, Try.ntmps32
  go_wp2
  go_ret
  exact ⟨rfl, ((Ext.refl w).alloc _).alloc _⟩
theorem fields_c (r : Bool) (kd : Int) (w : World) (h : 1 ≤ kd ∧ kd ≤ 14) : Calls Try.prog 32 #[.bool r, .int .i64 kd] w fun e w' => e = .returned (.string (fieldsS r kd)) ∧ Ext w w' := by
  have hk : kd = 1 ∨ kd = 2 ∨ kd = 3 ∨ kd = 4 ∨ kd = 5 ∨ kd = 6 ∨ kd = 7 ∨ kd = 8 ∨ kd = 9 ∨ kd = 10 ∨ kd = 11 ∨ kd = 12 ∨ kd = 13 ∨ kd = 14 := by omega
  cases r
  all_goals rcases hk with rfl | rfl | rfl | rfl | rfl | rfl | rfl | rfl | rfl | rfl | rfl | rfl | rfl | rfl
  · exact fields_f1 w
  · exact fields_f2 w
  · exact fields_f3 w
  · exact fields_f4 w
  · exact fields_f5 w
  · exact fields_f6 w
  · exact fields_f7 w
  · exact fields_f8 w
  · exact fields_f9 w
  · exact fields_f10 w
  · exact fields_f11 w
  · exact fields_f12 w
  · exact fields_f13 w
  · exact fields_f14 w
  · exact fields_t1 w
  · exact fields_t2 w
  · exact fields_t3 w
  · exact fields_t4 w
  · exact fields_t5 w
  · exact fields_t6 w
  · exact fields_t7 w
  · exact fields_t8 w
  · exact fields_t9 w
  · exact fields_t10 w
  · exact fields_t11 w
  · exact fields_t12 w
  · exact fields_t13 w
  · exact fields_t14 w
def F_fields : Nat × Fn2 Lab := (32, fun us mem => match us with | [.one a0, .one a1] => (match valP a0 with | some (.bool r) => (match valP a1 with | some (.int .i64 kd) => some ([1 ≤ kd ∧ kd ≤ 14], svV (.string (fieldsS r kd)), none) | _ => none) | _ => none) | _ => none)
theorem F_fields_ok {W0 : World} {G : Nat → Prop} {F : Fns Lab} (ht : FnsOk Try.prog labI W0 G F) : FnsOk Try.prog labI W0 G (F_fields :: F) :=
  FnsOk.cons Try.call32 (fun args mem ps r mo h hp w e us hM ha => by
    repeat' split at h
    all_goals first
      | (cases h; done)
      | skip
    simp only [Option.some.injEq, Prod.mk.injEq] at h
    obtain ⟨rfl, rfl, rfl⟩ := h
    simp only [allC_cons, allC_nil] at ha
    obtain ⟨u0, t0, rfl, hc0, u1, t1, rfl, hc1, rfl⟩ := ha
    obtain rfl := valP_is (by assumption) (show PV.is e _ _ from hc0)
    obtain rfl := valP_is (by assumption) (show PV.is e _ _ from hc1)
    refine (fields_c _ _ w  ?_).mono fun x w' ⟨h1, h2⟩ => ⟨_, h1, rfl, h2⟩
    all_goals first
      | (exact es_of hM (by assumption) (by assumption) (hp _ (by simp)))
      | (exact hp _ (by simp))) ht

end Go.Proofs.Ytklemhmdbfhcdaa

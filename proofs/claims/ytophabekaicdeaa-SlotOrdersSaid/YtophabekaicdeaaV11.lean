/- slot: orders. -/
import Derived.Test.YtophabekaicdeaaV10
import Derived.Test.YtophabekaicdeaaV5


set_option linter.unusedVariables false
set_option linter.unusedSimpArgs false
namespace Go.Proofs.Ytophabekaicdeaa
open Go.RowKit

structure Bk where
  i : Int
  g : Int
  p : Int
def F_cmpor : Nat × Fn2 Tu := (65, rowP fun us mem => match us with
  | [.one x] => (match intsP mem x with
    | some l => some ([], .int .i64 (orI l))
    | none => none)
  | _ => none)
theorem F_cmpor_ok : RowOk Try.prog Iu (hardT hz) F_cmpor.1 F_cmpor.2 := by
  refine rowP_ok Try.call65 (fun args m m' ps v hs hl => ?_) fun args mem ps v hs hp W0 G w E us hM ha => ?_
  · split at hs
    · split at hs
      · rename_i h1
        simp only [intsP_mono hl h1]; exact hs
      · cases hs
    · cases hs
  · split at hs
    · split at hs
      · rename_i l h1
        simp only [Option.some.injEq, Prod.mk.injEq] at hs
        obtain ⟨rfl, rfl⟩ := hs
        obtain ⟨u0, rfl, a0⟩ := allC1 ha
        exact (or_c u0 l w (intsP_is hM h1 (is_one a0))).mono fun x w' ⟨g1, n, g2⟩ => ⟨g1, by rw [g2]; exact (Ext.refl w).drewN n⟩
      · cases hs
    · cases hs
set_option maxRecDepth 100000 in
theorem isnan_c (n : Int) (w : World) : Calls Try.prog 72 #[.int .i64 n] w fun e w' => e = .returned (.bool (n != n)) ∧ Ext w w' :=
  conR (S := (⟨Try.prog, [], [], thHo hz, Iu.one, 40⟩ : Sy Tu)) (I := Iu) (L := []) (args := [.one (.v (.int .i64 n))]) (us := [.int .i64 n]) (e := []) (mem := []) (SyOk.mk2 Try.mixed (thHo_ok hz) (FnsR.nil) (EqsOk.nil)) Try.func72 (by kernel_rfl) (LpsOk.nil _) (args_nil Iu w) (fun n hn => by cases hn) (⟨rfl, trivial⟩) (by kernel_rfl) nil_u (noSh) (by kernel_rfl) [] (by kernel_rfl) (by simp)
def F_isnan : Nat × Fn2 Tu := (72, vfn fun us => match us with | [.int .i64 n] => some ([], .bool (n != n)) | _ => none)
theorem F_isnan_ok : RowOk Try.prog Iu (hardT hz) F_isnan.1 F_isnan.2 := by
  refine vfn_ok Try.call72 fun args ps r hs hp w => ?_
  split at hs
  · simp only [Option.some.injEq, Prod.mk.injEq] at hs
    obtain ⟨rfl, rfl⟩ := hs
    exact isnan_c _  w
  · cases hs
def cmpI (x y : Int) : Int := cond (x != x) (cond (y != y) 0 (-1)) (cond (y != y) 1 (cond (decide (x < y)) (-1) (cond (decide (x > y)) 1 0)))
set_option maxRecDepth 100000 in
theorem cmpc_c (x y : Int) (w : World) : Calls Try.prog 66 #[.int .i64 x, .int .i64 y] w fun e w' => e = .returned (.int .i64 (cmpI x y)) ∧ Ext w w' :=
  conR (S := (⟨Try.prog, [F_isnan], [], thHo hz, Iu.one, 40⟩ : Sy Tu)) (I := Iu) (L := []) (args := [.one (.v (.int .i64 x)), .one (.v (.int .i64 y))]) (us := [.int .i64 x, .int .i64 y]) (e := []) (mem := []) (SyOk.mk2 Try.mixed (thHo_ok hz) (FnsR.cons F_isnan_ok (FnsR.nil)) (EqsOk.nil)) Try.func66 (by kernel_rfl) (LpsOk.nil _) (args_nil Iu w) (fun n hn => by cases hn) (⟨rfl, rfl, trivial⟩) (by kernel_rfl) nil_u (noSh) (by kernel_rfl) [] (by kernel_rfl) (by simp)
def F_cmpc : Nat × Fn2 Tu := (66, vfn fun us => match us with | [.int .i64 x, .int .i64 y] => some ([], .int .i64 (cmpI x y)) | _ => none)
theorem F_cmpc_ok : RowOk Try.prog Iu (hardT hz) F_cmpc.1 F_cmpc.2 := by
  refine vfn_ok Try.call66 fun args ps r hs hp w => ?_
  split at hs
  · simp only [Option.some.injEq, Prod.mk.injEq] at hs
    obtain ⟨rfl, rfl⟩ := hs
    exact cmpc_c _ _  w
  · cases hs
def ordI (a b : Bk) : Int := orI [cmpI a.i b.i, cmpI a.g b.g, cmpI a.p b.p]
set_option maxRecDepth 100000 in
theorem order_c (i1 g1 p1 i2 g2 p2 : Int) (w : World) : Calls Try.prog 40 #[.agg #[.int .i64 i1, .int .i64 g1, .int .i64 p1], .agg #[.int .i64 i2, .int .i64 g2, .int .i64 p2]] w fun e w' => e = .returned (.int .i64 (ordI (⟨i1, g1, p1⟩ : Bk) (⟨i2, g2, p2⟩ : Bk))) ∧ Ext w w' :=
  conR (S := (⟨Try.prog, [F_cmpc, F_cmpor], [], thHo hz, Iu.one, 40⟩ : Sy Tu)) (I := Iu) (L := []) (args := [.agg [.v (.int .i64 i1), .v (.int .i64 g1), .v (.int .i64 p1)], .agg [.v (.int .i64 i2), .v (.int .i64 g2), .v (.int .i64 p2)]]) (us := [.agg #[.int .i64 i1, .int .i64 g1, .int .i64 p1], .agg #[.int .i64 i2, .int .i64 g2, .int .i64 p2]]) (e := []) (mem := []) (SyOk.mk2 Try.mixed (thHo_ok hz) (FnsR.cons F_cmpc_ok (FnsR.cons F_cmpor_ok (FnsR.nil))) (EqsOk.nil)) Try.func40 (by kernel_rfl) (LpsOk.nil _) (args_nil Iu w) (fun n hn => by cases hn) (⟨⟨[.int .i64 i1, .int .i64 g1, .int .i64 p1], ⟨rfl, rfl, rfl, trivial⟩, rfl⟩, ⟨[.int .i64 i2, .int .i64 g2, .int .i64 p2], ⟨rfl, rfl, rfl, trivial⟩, rfl⟩, trivial⟩) (by kernel_rfl) nil_u (noSh) (by kernel_rfl) [] (by kernel_rfl) (mnil)
def F_order : Nat × Fn2 Tu := (40, vfn fun us => match us with | [.agg ⟨[.int .i64 i1, .int .i64 g1, .int .i64 p1]⟩, .agg ⟨[.int .i64 i2, .int .i64 g2, .int .i64 p2]⟩] => some ([], .int .i64 (ordI (⟨i1, g1, p1⟩ : Bk) (⟨i2, g2, p2⟩ : Bk))) | _ => none)
theorem F_order_ok : RowOk Try.prog Iu (hardT hz) F_order.1 F_order.2 := by
  refine vfn_ok Try.call40 fun args ps r hs hp w => ?_
  split at hs
  · simp only [Option.some.injEq, Prod.mk.injEq] at hs
    obtain ⟨rfl, rfl⟩ := hs
    exact order_c _ _ _ _ _ _  w
  · cases hs
def lessB (a b : Bk) : Bool := cond (a.i != b.i) (decide (a.i < b.i)) (cond (a.g != b.g) (decide (a.g < b.g)) (decide (a.p < b.p)))
set_option maxRecDepth 100000 in
theorem rless_c (i1 g1 p1 i2 g2 p2 : Int) (w : World) : Calls Try.prog 41 #[.agg #[.int .i64 i1, .int .i64 g1, .int .i64 p1], .agg #[.int .i64 i2, .int .i64 g2, .int .i64 p2]] w fun e w' => e = .returned (.bool (lessB (⟨i1, g1, p1⟩ : Bk) (⟨i2, g2, p2⟩ : Bk))) ∧ Ext w w' :=
  conR (S := (⟨Try.prog, [], [], thHo hz, Iu.one, 40⟩ : Sy Tu)) (I := Iu) (L := []) (args := [.agg [.v (.int .i64 i1), .v (.int .i64 g1), .v (.int .i64 p1)], .agg [.v (.int .i64 i2), .v (.int .i64 g2), .v (.int .i64 p2)]]) (us := [.agg #[.int .i64 i1, .int .i64 g1, .int .i64 p1], .agg #[.int .i64 i2, .int .i64 g2, .int .i64 p2]]) (e := []) (mem := []) (SyOk.mk2 Try.mixed (thHo_ok hz) (FnsR.nil) (EqsOk.nil)) Try.func41 (by kernel_rfl) (LpsOk.nil _) (args_nil Iu w) (fun n hn => by cases hn) (⟨⟨[.int .i64 i1, .int .i64 g1, .int .i64 p1], ⟨rfl, rfl, rfl, trivial⟩, rfl⟩, ⟨[.int .i64 i2, .int .i64 g2, .int .i64 p2], ⟨rfl, rfl, rfl, trivial⟩, rfl⟩, trivial⟩) (by kernel_rfl) nil_u (noSh) (by kernel_rfl) [] (by kernel_rfl) (by simp)
def F_rless : Nat × Fn2 Tu := (41, vfn fun us => match us with | [.agg ⟨[.int .i64 i1, .int .i64 g1, .int .i64 p1]⟩, .agg ⟨[.int .i64 i2, .int .i64 g2, .int .i64 p2]⟩] => some ([], .bool (lessB (⟨i1, g1, p1⟩ : Bk) (⟨i2, g2, p2⟩ : Bk))) | _ => none)
theorem F_rless_ok : RowOk Try.prog Iu (hardT hz) F_rless.1 F_rless.2 := by
  refine vfn_ok Try.call41 fun args ps r hs hp w => ?_
  split at hs
  · simp only [Option.some.injEq, Prod.mk.injEq] at hs
    obtain ⟨rfl, rfl⟩ := hs
    exact rless_c _ _ _ _ _ _  w
  · cases hs
def eqK2 (a b : Bk) : Bool := ((a.i == b.i && (a.g == b.g && true)) && (a.p == b.p && true))
def soL (a b c : Bk) : Bool := (((ordI a b == cond (lessB a b) (-1) (cond (!eqK2 a b) 1 0)) && ordI b a == IntKind.i64.wrap (0 - ordI a b)) && ((decide (ordI a b ≥ 0) || decide (ordI b c ≥ 0)) || decide (ordI a c < 0))) && true
set_option maxRecDepth 100000 in
theorem lawO_c (i1 g1 p1 i2 g2 p2 i3 g3 p3 : Int) (w : World) : Calls Try.prog 12 #[.agg #[.int .i64 i1, .int .i64 g1, .int .i64 p1], .agg #[.int .i64 i2, .int .i64 g2, .int .i64 p2], .agg #[.int .i64 i3, .int .i64 g3, .int .i64 p3]] w fun e w' => e = .returned (.bool (soL (⟨i1, g1, p1⟩ : Bk) (⟨i2, g2, p2⟩ : Bk) (⟨i3, g3, p3⟩ : Bk))) ∧ Ext w w' :=
  conR (S := (⟨Try.prog, [F_order, F_rless, F_slives], [E_of Try.prog 71], thHo hz, Iu.one, 40⟩ : Sy Tu)) (I := Iu) (L := []) (args := [.agg [.v (.int .i64 i1), .v (.int .i64 g1), .v (.int .i64 p1)], .agg [.v (.int .i64 i2), .v (.int .i64 g2), .v (.int .i64 p2)], .agg [.v (.int .i64 i3), .v (.int .i64 g3), .v (.int .i64 p3)]]) (us := [.agg #[.int .i64 i1, .int .i64 g1, .int .i64 p1], .agg #[.int .i64 i2, .int .i64 g2, .int .i64 p2], .agg #[.int .i64 i3, .int .i64 g3, .int .i64 p3]]) (e := []) (mem := []) (SyOk.mk2 Try.mixed (thHo_ok hz) (FnsR.cons F_order_ok (FnsR.cons F_rless_ok (FnsR.cons F_slives_ok (FnsR.nil)))) (E_of_ok (by kernel_rfl) (EqsOk.nil))) Try.func12 (by kernel_rfl) (LpsOk.nil _) (args_nil Iu w) (fun n hn => by cases hn) (⟨⟨[.int .i64 i1, .int .i64 g1, .int .i64 p1], ⟨rfl, rfl, rfl, trivial⟩, rfl⟩, ⟨[.int .i64 i2, .int .i64 g2, .int .i64 p2], ⟨rfl, rfl, rfl, trivial⟩, rfl⟩, ⟨[.int .i64 i3, .int .i64 g3, .int .i64 p3], ⟨rfl, rfl, rfl, trivial⟩, rfl⟩, trivial⟩) (by kernel_rfl) nil_u (noSh) (by kernel_rfl) [] (by kernel_rfl) (mnil)
def Lx (a b : Bk) : Prop := a.i < b.i ∨ (a.i = b.i ∧ (a.g < b.g ∨ (a.g = b.g ∧ a.p < b.p)))
theorem cmp_eq (x y : Int) : cmpI x y = if x < y then -1 else if y < x then 1 else 0 := by
  unfold cmpI
  simp only [bne_self_eq_false, cond_false]
  by_cases h1 : x < y
  · rw [decide_eq_true h1, if_pos h1]; rfl
  · rw [decide_eq_false h1, if_neg h1]
    by_cases h2 : y < x
    · rw [decide_eq_true (show x > y from h2), if_pos h2]; rfl
    · rw [decide_eq_false (show ¬ x > y from h2), if_neg h2]; rfl
theorem ord_spec (a b : Bk) : (Lx a b ∧ ordI a b = -1) ∨ (Lx b a ∧ ordI a b = 1) ∨ ((a.i = b.i ∧ a.g = b.g ∧ a.p = b.p) ∧ ordI a b = 0) := by
  have key : ∀ x y : Int, (x < y ∧ cmpI x y = -1) ∨ (y < x ∧ cmpI x y = 1) ∨ (x = y ∧ cmpI x y = 0) := fun x y => by
    rw [cmp_eq]
    rcases Int.lt_trichotomy x y with h | h | h
    · exact .inl ⟨h, if_pos h⟩
    · exact .inr (.inr ⟨h, by rw [if_neg (by omega), if_neg (by omega)]⟩)
    · exact .inr (.inl ⟨h, by rw [if_neg (by omega), if_pos h]⟩)
  unfold ordI Lx
  rcases key a.i b.i with ⟨h1, e1⟩ | ⟨h1, e1⟩ | ⟨h1, e1⟩
  · exact .inl ⟨.inl h1, by rw [e1]; rfl⟩
  · exact .inr (.inl ⟨.inl h1, by rw [e1]; rfl⟩)
  · rcases key a.g b.g with ⟨h2, e2⟩ | ⟨h2, e2⟩ | ⟨h2, e2⟩
    · exact .inl ⟨.inr ⟨h1, .inl h2⟩, by rw [e1, e2]; rfl⟩
    · exact .inr (.inl ⟨.inr ⟨h1.symm, .inl h2⟩, by rw [e1, e2]; rfl⟩)
    · rcases key a.p b.p with ⟨h3, e3⟩ | ⟨h3, e3⟩ | ⟨h3, e3⟩
      · exact .inl ⟨.inr ⟨h1, .inr ⟨h2, h3⟩⟩, by rw [e1, e2, e3]; rfl⟩
      · exact .inr (.inl ⟨.inr ⟨h1.symm, .inr ⟨h2.symm, h3⟩⟩, by rw [e1, e2, e3]; rfl⟩)
      · exact .inr (.inr ⟨⟨h1, h2, h3⟩, by rw [e1, e2, e3]; rfl⟩)
theorem less_iff (a b : Bk) : lessB a b = true ↔ Lx a b := by
  unfold lessB Lx
  by_cases h1 : a.i = b.i
  · have e1 : (a.i != b.i) = false := by simp [h1]
    rw [e1]
    simp only [cond_false]
    by_cases h2 : a.g = b.g
    · have e2 : (a.g != b.g) = false := by simp [h2]
      rw [e2]
      simp only [cond_false, decide_eq_true_iff]
      omega
    · have e2 : (a.g != b.g) = true := by simp [h2]
      rw [e2]
      simp only [cond_true, decide_eq_true_iff]
      omega
  · have e1 : (a.i != b.i) = true := by simp [h1]
    rw [e1]
    simp only [cond_true, decide_eq_true_iff]
    omega
theorem eqK2_iff (a b : Bk) : eqK2 a b = true ↔ a.i = b.i ∧ a.g = b.g ∧ a.p = b.p := by
  unfold eqK2
  simp only [Bool.and_eq_true, beq_iff_eq, and_true, and_assoc]
theorem soL_true (a b c : Bk) : soL a b c = true := by
  have h1 := ord_spec a b
  have h2 := ord_spec b a
  have h3 := ord_spec b c
  have h4 := ord_spec a c
  have l1 := less_iff a b
  have q1 := eqK2_iff a b
  have neg : IntKind.i64.wrap (0 - ordI a b) = 0 - ordI a b := IntWalk.i64_in _ (by rcases h1 with ⟨_, h⟩ | ⟨_, h⟩ | ⟨_, h⟩ <;> omega)
  unfold soL
  rw [neg]
  simp only [Bool.and_eq_true, beq_iff_eq, Bool.or_eq_true, decide_eq_true_iff, and_true]
  unfold Lx at *
  refine ⟨⟨?_, ?_⟩, ?_⟩
  · rcases h1 with ⟨h, e⟩ | ⟨h, e⟩ | ⟨h, e⟩
    · rw [e, l1.2 h]; rfl
    · have n1 : lessB a b = false := by
        cases hb : lessB a b with
        | false => rfl
        | true => have := l1.1 hb; omega
      have n2 : eqK2 a b = false := by
        cases hb : eqK2 a b with
        | false => rfl
        | true => have := q1.1 hb; omega
      rw [e, n1, n2]; rfl
    · have n1 : lessB a b = false := by
        cases hb : lessB a b with
        | false => rfl
        | true => have := l1.1 hb; omega
      rw [e, n1, q1.2 h]; rfl
  · rcases h1 with ⟨h, e⟩ | ⟨h, e⟩ | ⟨h, e⟩ <;> rcases h2 with ⟨h', e'⟩ | ⟨h', e'⟩ | ⟨h', e'⟩ <;> rw [e, e'] <;> omega
  · rcases h1 with ⟨h, e⟩ | ⟨h, e⟩ | ⟨h, e⟩
    · rcases h3 with ⟨h', e'⟩ | ⟨h', e'⟩ | ⟨h', e'⟩
      · right
        rcases h4 with ⟨h4, e4⟩ | ⟨h4, e4⟩ | ⟨h4, e4⟩ <;> omega
      · left; right; omega
      · left; right; omega
    · left; left; omega
    · left; left; omega
def Bk.v (b : Bk) : Value := .agg #[.int .i64 b.i, .int .i64 b.g, .int .i64 b.p]
theorem slotOrders_calls (a b c : Bk) (W : World) (ha : True) (hb : True) (hc : True) : Calls Try.prog 12 #[a.v, b.v, c.v] W fun e w' => e = .returned (.bool true) ∧ Below W.heap.size W w' := by
  refine (lawO_c a.i a.g a.p b.i b.g b.p c.i c.g c.p W).mono fun e w' hh => ⟨?_, hh.2.below⟩
  rw [hh.1, soL_true]

end Go.Proofs.Ytophabekaicdeaa

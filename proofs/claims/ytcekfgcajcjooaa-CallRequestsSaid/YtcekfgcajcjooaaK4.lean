/- calls: the laws. -/
import Derived.Test.YtcekfgcajcjooaaK3

set_option linter.unusedVariables false
set_option linter.unusedSimpArgs false
namespace Go.Proofs.Ytcekfgcajcjooaa
open Go.RowKit

theorem r1short_c (s : ByteArray) (m : Int) (h0 : 0 ≤ m ∧ m ≤ 9223372036854775807) (w : World) : Calls Try.prog 31 #[.string s, .int .i64 m] w fun e w' => e = .returned (.string (shortS s m.toNat)) ∧ Ext w w' := by
  have := shorts_c s m.toNat (by omega) w
  rw [show ((m.toNat : Nat) : Int) = m by omega] at this
  exact this.mono fun x w' h => ⟨h.1, by rw [← h.2]; exact Ext.refl w⟩
def F_r1short : Nat × Fn2 Unit := (31, vfn fun us => match us with | [.string s, .int .i64 m] => some ([0 ≤ m ∧ m ≤ 9223372036854775807], .string (shortS s m.toNat)) | _ => none)
theorem F_r1short_ok : RowOk Try.prog noI hardK F_r1short.1 F_r1short.2 := by
  refine vfn_ok Try.call31 fun args ps r hs hp w => ?_
  split at hs
  · simp only [Option.some.injEq, Prod.mk.injEq] at hs
    obtain ⟨rfl, rfl⟩ := hs
    exact r1short_c _ _ (hp _ (by simp)) w
  · cases hs
theorem lives29_c (w : World) : Calls Try.prog 16 #[] w fun e w' => e = .returned (.bool true) ∧ Ext w w' := lives29x_c w
def F_lives29 : Nat × Fn2 Unit := (16, vfn fun us => match us with | [] => some ([], .bool true) | _ => none)
theorem F_lives29_ok : RowOk Try.prog noI hardK F_lives29.1 F_lives29.2 := by
  refine vfn_ok Try.call16 fun args ps r hs hp w => ?_
  split at hs
  · simp only [Option.some.injEq, Prod.mk.injEq] at hs
    obtain ⟨rfl, rfl⟩ := hs
    exact lives29_c   w
  · cases hs
def CC.short (c : CC) : CC := ⟨c.k, c.f1, c.f2, c.d1, c.d2, shortS c.n 20, shortS c.o 20, c.a, shortS c.t 70⟩
set_option maxRecDepth 100000 in
theorem short29_c (k f1 f2 d1 d2 : Int) (n o : ByteArray) (a : Int) (t : ByteArray) (w : World) : Calls Try.prog 11 #[.agg #[.int .i64 k, .int .i64 f1, .int .i64 f2, .int .i64 d1, .int .i64 d2, .string n, .string o, .int .i64 a, .string t]] w fun e w' => e = .returned (.agg #[.int .i64 (CC.short (⟨k, f1, f2, d1, d2, n, o, a, t⟩ : CC)).k, .int .i64 (CC.short (⟨k, f1, f2, d1, d2, n, o, a, t⟩ : CC)).f1, .int .i64 (CC.short (⟨k, f1, f2, d1, d2, n, o, a, t⟩ : CC)).f2, .int .i64 (CC.short (⟨k, f1, f2, d1, d2, n, o, a, t⟩ : CC)).d1, .int .i64 (CC.short (⟨k, f1, f2, d1, d2, n, o, a, t⟩ : CC)).d2, .string (CC.short (⟨k, f1, f2, d1, d2, n, o, a, t⟩ : CC)).n, .string (CC.short (⟨k, f1, f2, d1, d2, n, o, a, t⟩ : CC)).o, .int .i64 (CC.short (⟨k, f1, f2, d1, d2, n, o, a, t⟩ : CC)).a, .string (CC.short (⟨k, f1, f2, d1, d2, n, o, a, t⟩ : CC)).t]) ∧ Ext w w' :=
  (sym_v (S := (⟨Try.prog, [F_r1short], [], hoK, noI.one, 60⟩ : Sy Unit)) (I := noI) (L := []) (args := [.agg [.v (.int .i64 k), .v (.int .i64 f1), .v (.int .i64 f2), .v (.int .i64 d1), .v (.int .i64 d2), .v (.string n), .v (.string o), .v (.int .i64 a), .v (.string t)]]) (us := [.agg #[.int .i64 k, .int .i64 f1, .int .i64 f2, .int .i64 d1, .int .i64 d2, .string n, .string o, .int .i64 a, .string t]]) (e := []) (mem := []) (W0 := w) (G := fun _ => False) (SyOk.mk2 Try.mixed hoK_ok (FnsR.cons F_r1short_ok (FnsR.nil)) (EqsOk.nil)) Try.func11 (by kernel_rfl) (LpsOk.nil _) (⟨⟨[.int .i64 k, .int .i64 f1, .int .i64 f2, .int .i64 d1, .int .i64 d2, .string n, .string o, .int .i64 a, .string t], ⟨rfl, rfl, rfl, rfl, rfl, rfl, rfl, rfl, rfl, trivial⟩, rfl⟩, trivial⟩) (by kernel_rfl) (memOk_nil noI w) (v := .agg #[.int .i64 (CC.short (⟨k, f1, f2, d1, d2, n, o, a, t⟩ : CC)).k, .int .i64 (CC.short (⟨k, f1, f2, d1, d2, n, o, a, t⟩ : CC)).f1, .int .i64 (CC.short (⟨k, f1, f2, d1, d2, n, o, a, t⟩ : CC)).f2, .int .i64 (CC.short (⟨k, f1, f2, d1, d2, n, o, a, t⟩ : CC)).d1, .int .i64 (CC.short (⟨k, f1, f2, d1, d2, n, o, a, t⟩ : CC)).d2, .string (CC.short (⟨k, f1, f2, d1, d2, n, o, a, t⟩ : CC)).n, .string (CC.short (⟨k, f1, f2, d1, d2, n, o, a, t⟩ : CC)).o, .int .i64 (CC.short (⟨k, f1, f2, d1, d2, n, o, a, t⟩ : CC)).a, .string (CC.short (⟨k, f1, f2, d1, d2, n, o, a, t⟩ : CC)).t]) [(0 : Int) ≤ 70 ∧ (70 : Int) ≤ 9223372036854775807, (0 : Int) ≤ 20 ∧ (20 : Int) ≤ 9223372036854775807, (0 : Int) ≤ 20 ∧ (20 : Int) ≤ 9223372036854775807] (by kernel_rfl) (by kernel_rfl) ((mcons (by decide) (mcons (by decide) (mcons (by decide) mnil))))).mono fun x w' h => ⟨h.1, h.2⟩
def F_short29 : Nat × Fn2 Unit := (11, vfn fun us => match us with | [.agg ⟨[.int .i64 k, .int .i64 f1, .int .i64 f2, .int .i64 d1, .int .i64 d2, .string n, .string o, .int .i64 a, .string t]⟩] => some ([], .agg #[.int .i64 (CC.short (⟨k, f1, f2, d1, d2, n, o, a, t⟩ : CC)).k, .int .i64 (CC.short (⟨k, f1, f2, d1, d2, n, o, a, t⟩ : CC)).f1, .int .i64 (CC.short (⟨k, f1, f2, d1, d2, n, o, a, t⟩ : CC)).f2, .int .i64 (CC.short (⟨k, f1, f2, d1, d2, n, o, a, t⟩ : CC)).d1, .int .i64 (CC.short (⟨k, f1, f2, d1, d2, n, o, a, t⟩ : CC)).d2, .string (CC.short (⟨k, f1, f2, d1, d2, n, o, a, t⟩ : CC)).n, .string (CC.short (⟨k, f1, f2, d1, d2, n, o, a, t⟩ : CC)).o, .int .i64 (CC.short (⟨k, f1, f2, d1, d2, n, o, a, t⟩ : CC)).a, .string (CC.short (⟨k, f1, f2, d1, d2, n, o, a, t⟩ : CC)).t]) | _ => none)
theorem F_short29_ok : RowOk Try.prog noI hardK F_short29.1 F_short29.2 := by
  refine vfn_ok Try.call11 fun args ps r hs hp w => ?_
  split at hs
  · simp only [Option.some.injEq, Prod.mk.injEq] at hs
    obtain ⟨rfl, rfl⟩ := hs
    exact short29_c _ _ _ _ _ _ _ _ _  w
  · cases hs
def eqC (x y : CC) : Bool := x.k == y.k && ((x.f1 == y.f1 && (x.f2 == y.f2 && true)) && ((x.d1 == y.d1 && (x.d2 == y.d2 && true)) && (x.n == y.n && (x.o == y.o && (x.a == y.a && (x.t == y.t && true))))))
/-- The law CallChecks, in plain words. -/
def ccL (c : CC) : Bool := (((chkI c.plain == rchkI c) && eqC c.plain c.plain) && (chkI c.plain.plain == chkI c.plain)) && true
set_option maxRecDepth 100000 in
theorem lawCC_c (k f1 f2 d1 d2 : Int) (n o : ByteArray) (a : Int) (t : ByteArray) (h0 : (CC.short (⟨k, f1, f2, d1, d2, n, o, a, t⟩ : CC)).n.size ≤ 9223372036854775807) (h1 : (CC.short (⟨k, f1, f2, d1, d2, n, o, a, t⟩ : CC)).o.size ≤ 9223372036854775807) (w : World) : Calls Try.prog 3 #[.agg #[.int .i64 k, .int .i64 f1, .int .i64 f2, .int .i64 d1, .int .i64 d2, .string n, .string o, .int .i64 a, .string t]] w fun e w' => e = .returned (.bool (ccL (CC.short (⟨k, f1, f2, d1, d2, n, o, a, t⟩ : CC)))) ∧ Ext w w' :=
  (sym_b (S := (⟨Try.prog, [F_short29, F_check29, F_rcheckA, F_plainA, F_rplainA, F_lives29], [E_of Try.prog 25], hoK, noI.one, 60⟩ : Sy Unit)) (I := noI) (L := []) (args := [.agg [.v (.int .i64 k), .v (.int .i64 f1), .v (.int .i64 f2), .v (.int .i64 d1), .v (.int .i64 d2), .v (.string n), .v (.string o), .v (.int .i64 a), .v (.string t)]]) (us := [.agg #[.int .i64 k, .int .i64 f1, .int .i64 f2, .int .i64 d1, .int .i64 d2, .string n, .string o, .int .i64 a, .string t]]) (e := []) (mem := []) (W0 := w) (G := fun _ => False) (SyOk.mk2 Try.mixed hoK_ok (FnsR.cons F_short29_ok (FnsR.cons F_check29_ok (FnsR.cons F_rcheckA_ok (FnsR.cons F_plainA_ok (FnsR.cons F_rplainA_ok (FnsR.cons F_lives29_ok (FnsR.nil))))))) (E_of_ok (by kernel_rfl) (EqsOk.nil))) Try.func3 (by kernel_rfl) (LpsOk.nil _) (⟨⟨[.int .i64 k, .int .i64 f1, .int .i64 f2, .int .i64 d1, .int .i64 d2, .string n, .string o, .int .i64 a, .string t], ⟨rfl, rfl, rfl, rfl, rfl, rfl, rfl, rfl, rfl, trivial⟩, rfl⟩, trivial⟩) (by kernel_rfl) (memOk_nil noI w) (v := ccL (CC.short (⟨k, f1, f2, d1, d2, n, o, a, t⟩ : CC))) [(CC.short (⟨k, f1, f2, d1, d2, n, o, a, t⟩ : CC)).n.size ≤ 9223372036854775807, (CC.short (⟨k, f1, f2, d1, d2, n, o, a, t⟩ : CC)).o.size ≤ 9223372036854775807] (by kernel_rfl) (by kernel_rfl) ((mcons h0 (mcons h1 mnil)))).mono fun x w' h => ⟨h.1, h.2⟩
theorem ba_beq (a b : ByteArray) : (a == b) = (a.data == b.data) := by cases a; cases b; rfl
theorem ba_iff (a b : ByteArray) : (a == b) = true ↔ a = b := by
  rw [ba_beq, beq_iff_eq]
  exact ⟨fun h => by cases a; cases b; simp only at h; rw [h], fun h => by rw [h]⟩
theorem eqC_refl (x : CC) : eqC x x = true := by
  have h1 := (ba_iff x.n x.n).2 rfl
  have h2 := (ba_iff x.o x.o).2 rfl
  have h3 := (ba_iff x.t x.t).2 rfl
  simp [eqC, h1, h2, h3]
theorem may_eq (i g : Int) : mayB i g = rfilB i g := by
  unfold mayB rfilB
  rw [Bool.eq_iff_iff]
  simp only [Bool.and_eq_true, decide_eq_true_iff]
  omega
theorem nm_eq (b : Bool) : ((cond b (0 : Int) 9) != 0) = !b := by cases b <;> rfl
theorem at_eq (a : Int) : (decide (a < 0) || decide (a ≥ 8)) = (decide (a < 0) || decide (a > 7)) := by
  rw [Bool.eq_iff_iff]
  simp only [Bool.or_eq_true, decide_eq_true_iff]
  omega
theorem size_e : (⟨#[]⟩ : ByteArray).size = 0 := rfl
theorem plain_idem (c : CC) : c.plain.plain = c.plain := by
  unfold CC.plain
  simp only
  congr 1 <;> split <;> rfl
theorem chk_same (c : CC) : chkI c.plain = rchkI c := by
  obtain ⟨k, f1, f2, d1, d2, n, o, a, t⟩ := c
  by_cases h : k < 1 ∨ 11 < k
  · have e1 : rchkI ⟨k, f1, f2, d1, d2, n, o, a, t⟩ = 2 := by
      unfold rchkI
      rw [if_neg]
      simp only
      omega
    rw [e1]
    unfold chkI
    have : (decide (k < 1) || decide (k > 11)) = true := by
      simp only [Bool.or_eq_true, decide_eq_true_iff]; omega
    show cond (decide (k < 1) || decide (k > 11)) 2 _ = 2
    rw [this]; rfl
  · rcases (by omega : k = 1 ∨ k = 2 ∨ k = 3 ∨ k = 4 ∨ k = 5 ∨ k = 6 ∨ k = 7 ∨ k = 8 ∨ k = 9 ∨ k = 10 ∨ k = 11) with rfl | rfl | rfl | rfl | rfl | rfl | rfl | rfl | rfl | rfl | rfl
    all_goals
      unfold chkI rchkI rchk CC.plain
      simp only [nm_eq, may_eq, at_eq]
      simp [size_e]
theorem ccL_true (c : CC) : ccL c = true := by
  unfold ccL
  rw [plain_idem, chk_same, eqC_refl]
  simp
theorem short_size (s : ByteArray) (n : Nat) (h : s.size ≤ 9223372036854775807) : (shortS s n).size ≤ 9223372036854775807 := by
  unfold shortS
  split
  · rw [ByteArray.size_extract]; omega
  · exact h
def R64' (n : Int) : Prop := -9223372036854775808 ≤ n ∧ n ≤ 9223372036854775807
structure CC.ok (c : CC) : Prop where
  hk : R64' c.k
  hn : c.n.size ≤ 9223372036854775807
  ho : c.o.size ≤ 9223372036854775807
theorem callChecks_calls (c : CC) (W : World) (h : c.ok) : Calls Try.prog 3 #[c.agg] W fun r w' => r = .returned (.bool true) ∧ Below W.heap.size W w' := by
  refine (lawCC_c c.k c.f1 c.f2 c.d1 c.d2 c.n c.o c.a c.t (short_size _ _ h.hn) (short_size _ _ h.ho) W).mono fun r w' hh => ⟨?_, hh.2.below⟩
  rw [hh.1, ccL_true]

end Go.Proofs.Ytcekfgcajcjooaa

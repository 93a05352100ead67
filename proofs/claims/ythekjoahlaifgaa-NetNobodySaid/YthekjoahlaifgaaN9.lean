/- A net that is nil. -/
import Derived.Test.YthekjoahlaifgaaN7
import Derived.Test.YthekjoahlaifgaaE4


set_option linter.unusedVariables false
set_option linter.unusedSimpArgs false
namespace Go.Proofs.Ythekjoahlaifgaa
open Go.RowKit

theorem Try.mixed : Try.prog.follows .mixedOrders = true := by kernel_rfl
theorem mnil : ∀ p ∈ ([] : List Prop), p := fun p hp => by cases hp
theorem mcons {p : Prop} {ps : List Prop} (h : p) (hs : ∀ q ∈ ps, q) : ∀ q ∈ p :: ps, q := fun q hq => by
  rcases List.mem_cons.1 hq with rfl | hq
  · exact h
  · exact hs q hq
def hardK : Unit → Bool := fun _ => true
def hoK : Ho Unit := ⟨fun _ _ _ => none, fun _ _ _ => none, hardK, true, []⟩
theorem hoK_ok : HoOk Try.prog hoK noI := ⟨fun _ _ _ _ _ _ _ _ h => (by cases h), fun _ _ _ _ _ _ _ _ h => (by cases h), fun _ _ _ _ _ _ h => (by cases h), fun _ _ _ _ _ _ _ _ h => (by cases h)⟩
/-- A function of what is closed, run in place. -/
def closedP (p : PV) : Bool := match p with
  | .kI _ _ => true
  | .kB _ => true
  | .kS _ => true
  | .v (.pointer none) => true
  | _ => false
def closedC (c : CV) : Bool := match c with
  | .one p => closedP p
  | _ => false
theorem closedP_is {p : PV} (h : closedP p = true) {e e' : Env} {u : Value} (hu : p.is e u) : p.is e' u := by
  cases p <;> first | exact hu | cases h
theorem closedCs_is {e e' : Env} : ∀ {us : List CV} {vs : List Value}, allB closedC us = true → AllC e us vs → AllC e' us vs
  | [], [], _, _ => trivial
  | [], _ :: _, _, h => h.elim
  | _ :: _, [], _, h => h.elim
  | c :: us, v :: vs, h, ⟨h1, h2⟩ => by
    simp only [allB, Bool.and_eq_true] at h
    refine ⟨?_, closedCs_is h.2 h2⟩
    cases c with
    | one p => exact closedP_is h.1 h1
    | agg cs => cases h.1
def inlG (S : Sy Unit) (fn : Func) : Fn2 Unit := fun us mem => match allB closedC us && leb us.length fn.ntmps with
  | true => (match runFn S [] fn us [] with
    | .leaf (.c (.one p)) s => (match closedP p with | true => some ([], .c (.one p), none) | false => none)
    | _ => none)
  | false => none
theorem inlG_ok {S : Sy Unit} {f : FuncId} {fn : Func} (hS : ∀ W0 G, SyOk S noI W0 G) (hf : S.P.funcs[f]? = some fn) (hb : fn.body = some (bodyOf fn)) (he : ∀ us w, (callFunc f us).run S.P w = .ok (.enter f us) w) : RowOk S.P noI hardK f (inlG S fn) := by
  refine ⟨he, fun W0 G args mem ps r mo hr hp w e us hM ha => ?_, fun args m m' ps r hr hl => hr, fun args mem ps r m' hr => ?_⟩
  · unfold inlG at hr
    split at hr
    · rename_i hc
      rw [Bool.and_eq_true] at hc
      split at hr
      · rename_i p s hrun
        split at hr
        · rename_i hcl
          simp only [Option.some.injEq, Prod.mk.injEq] at hr
          obtain ⟨rfl, rfl, rfl⟩ := hr
          refine sym_calls (hS w fun _ => False) hf hb (LpsOk.nil _) (closedCs_is hc.1 ha) hc.2 (memOk_nil noI w) (K := fun x s' => x = .c (.one p)) (by rw [hrun]; exact rfl) ?_
          rintro y s' e' w' v hg rfl hy hM'
          exact ⟨v, rfl, closedP_is hcl hy, hM'.mod⟩
        · cases hr
      · cases hr
    · cases hr
  · unfold inlG at hr
    split at hr
    · split at hr
      · split at hr <;> simp at hr
      · cases hr
    · cases hr
def F_len0 (P : Program) (fn : Func) : Nat × Fn2 Unit := (23, inlG ⟨P, [], [], hoK, noI.one, 60⟩ fn)
theorem F_len0_ok : RowOk Try.prog noI hardK (F_len0 Try.prog Try.f23).1 (F_len0 Try.prog Try.f23).2 := inlG_ok (fun W0 G => SyOk.mk2 Try.mixed hoK_ok FnsR.nil EqsOk.nil) Try.func23 (by kernel_rfl) Try.call23
/-- One of values alone, whose answer is known. -/
def vfnS (g : List Value → Option (List Prop × SV)) : Fn2 Unit := fun us _ => match mapO valC us with
  | some vs => (match g vs with | some (ps, r) => some (ps, r, none) | none => none)
  | none => none
theorem vfnS_ok {P : Program} {f : FuncId} {g : List Value → Option (List Prop × SV)} (he : ∀ us w, (callFunc f us).run P w = .ok (.enter f us) w)
    (h : ∀ args ps r, g args = some (ps, r) → (∀ p ∈ ps, p) → ∀ w, Calls P f args.toArray w (fun x w' => ∃ v, x = .returned v ∧ (∀ e, r.is e v) ∧ Ext w w')) : RowOk P noI hardK f (vfnS g) := by
  refine ⟨he, fun W0 G args mem ps r mo hr hp w e us hM ha => ?_, fun args m m' ps r hr _ => hr, fun args mem ps r m' hr => ?_⟩
  · unfold vfnS at hr
    split at hr
    · rename_i vs hvs
      split at hr
      · rename_i ps' r' hg
        simp only [Option.some.injEq, Prod.mk.injEq] at hr
        obtain ⟨rfl, rfl, rfl⟩ := hr
        rw [mapO_valC hvs ha]
        exact (h vs ps' r' hg hp w).mono fun x w' ⟨v, h1, h2, h3⟩ => ⟨v, h1, h2 e, h3⟩
      · cases hr
    · cases hr
  · unfold vfnS at hr
    split at hr
    · split at hr <;> simp at hr
    · cases hr
set_option maxRecDepth 100000 in
theorem at0_c (i : Int) (w : World) : Calls Try.prog 17 #[.pointer none, .int .i64 i] w fun e w' => e = .returned (.tuple #[.agg #[.int .i64 0, .slice none 0 0], .int .i64 1]) ∧ Ext w w' :=
  (sym_v (S := (⟨Try.prog, [], [], hoK, noI.one, 60⟩ : Sy Unit)) (I := noI) (L := []) (args := [.one (.v (.pointer none)), .one (.v (.int .i64 i))]) (us := [.pointer none, .int .i64 i]) (e := []) (mem := []) (W0 := w) (G := fun _ => False) (SyOk.mk2 Try.mixed hoK_ok (FnsR.nil) (EqsOk.nil)) Try.func17 (by kernel_rfl) (LpsOk.nil _) (⟨rfl, rfl, trivial⟩) (by kernel_rfl) (memOk_nil noI w) (v := .tuple #[.agg #[.int .i64 0, .slice none 0 0], .int .i64 1]) [] (by kernel_rfl) (by kernel_rfl) (mnil)).mono fun x w' h => ⟨h.1, h.2⟩
def F_at0 : Nat × Fn2 Unit := (17, vfnS fun us => match us with | [.pointer none, .int .i64 i] => some ([], .tup [.agg [.v (.int .i64 0), .v (.slice none 0 0)], .one (.kI .i64 1)]) | _ => none)
theorem F_at0_ok : RowOk Try.prog noI hardK F_at0.1 F_at0.2 := by
  refine vfnS_ok Try.call17 fun args ps r hs hp w => ?_
  split at hs
  · simp only [Option.some.injEq, Prod.mk.injEq] at hs
    obtain ⟨rfl, rfl⟩ := hs
    exact (at0_c _ w).mono fun x w' h => ⟨_, h.1, fun e => ⟨[_, _], ⟨⟨[_, _], ⟨rfl, rfl, trivial⟩, rfl⟩, rfl, trivial⟩, rfl⟩, h.2⟩
  · cases hs
set_option maxRecDepth 100000 in
theorem take0_c (i : Int) (w : World) : Calls Try.prog 10 #[.pointer none, .int .i64 i] w fun e w' => e = .returned (.tuple #[.agg #[.int .i64 0, .slice none 0 0], .int .i64 1]) ∧ Ext w w' :=
  (sym_v (S := (⟨Try.prog, [F_at0], [], hoK, noI.one, 60⟩ : Sy Unit)) (I := noI) (L := []) (args := [.one (.v (.pointer none)), .one (.v (.int .i64 i))]) (us := [.pointer none, .int .i64 i]) (e := []) (mem := []) (W0 := w) (G := fun _ => False) (SyOk.mk2 Try.mixed hoK_ok (FnsR.cons F_at0_ok (FnsR.nil)) (EqsOk.nil)) Try.func10 (by kernel_rfl) (LpsOk.nil _) (⟨rfl, rfl, trivial⟩) (by kernel_rfl) (memOk_nil noI w) (v := .tuple #[.agg #[.int .i64 0, .slice none 0 0], .int .i64 1]) [] (by kernel_rfl) (by kernel_rfl) (mnil)).mono fun x w' h => ⟨h.1, h.2⟩
def F_take0 : Nat × Fn2 Unit := (10, vfnS fun us => match us with | [.pointer none, .int .i64 i] => some ([], .tup [.agg [.v (.int .i64 0), .v (.slice none 0 0)], .one (.kI .i64 1)]) | _ => none)
theorem F_take0_ok : RowOk Try.prog noI hardK F_take0.1 F_take0.2 := by
  refine vfnS_ok Try.call10 fun args ps r hs hp w => ?_
  split at hs
  · simp only [Option.some.injEq, Prod.mk.injEq] at hs
    obtain ⟨rfl, rfl⟩ := hs
    exact (take0_c _ w).mono fun x w' h => ⟨_, h.1, fun e => ⟨[_, _], ⟨⟨[_, _], ⟨rfl, rfl, trivial⟩, rfl⟩, rfl, trivial⟩, rfl⟩, h.2⟩
  · cases hs
set_option maxRecDepth 100000 in
theorem drop0_c (i : Int) (w : World) : Calls Try.prog 12 #[.pointer none, .int .i64 i] w fun e w' => e = .returned (.int .i64 (1)) ∧ Ext w w' :=
  (sym_i (S := (⟨Try.prog, [F_take0], [], hoK, noI.one, 60⟩ : Sy Unit)) (I := noI) (L := []) (args := [.one (.v (.pointer none)), .one (.v (.int .i64 i))]) (us := [.pointer none, .int .i64 i]) (e := []) (mem := []) (W0 := w) (G := fun _ => False) (SyOk.mk2 Try.mixed hoK_ok (FnsR.cons F_take0_ok (FnsR.nil)) (EqsOk.nil)) Try.func12 (by kernel_rfl) (LpsOk.nil _) (⟨rfl, rfl, trivial⟩) (by kernel_rfl) (memOk_nil noI w) (v := 1) [] (by kernel_rfl) (by kernel_rfl) (mnil)).mono fun x w' h => ⟨h.1, h.2⟩
def F_drop0 : Nat × Fn2 Unit := (12, vfn fun us => match us with | [.pointer none, .int .i64 i] => some ([], .int .i64 (1)) | _ => none)
theorem F_drop0_ok : RowOk Try.prog noI hardK F_drop0.1 F_drop0.2 := by
  refine vfn_ok Try.call12 fun args ps r hs hp w => ?_
  split at hs
  · simp only [Option.some.injEq, Prod.mk.injEq] at hs
    obtain ⟨rfl, rfl⟩ := hs
    exact drop0_c _  w
  · cases hs
set_option maxRecDepth 100000 in
theorem copy0_c (i : Int) (w : World) : Calls Try.prog 13 #[.pointer none, .int .i64 i] w fun e w' => e = .returned (.int .i64 (1)) ∧ Ext w w' :=
  (sym_i (S := (⟨Try.prog, [F_at0], [], hoK, noI.one, 60⟩ : Sy Unit)) (I := noI) (L := []) (args := [.one (.v (.pointer none)), .one (.v (.int .i64 i))]) (us := [.pointer none, .int .i64 i]) (e := []) (mem := []) (W0 := w) (G := fun _ => False) (SyOk.mk2 Try.mixed hoK_ok (FnsR.cons F_at0_ok (FnsR.nil)) (EqsOk.nil)) Try.func13 (by kernel_rfl) (LpsOk.nil _) (⟨rfl, rfl, trivial⟩) (by kernel_rfl) (memOk_nil noI w) (v := 1) [] (by kernel_rfl) (by kernel_rfl) (mnil)).mono fun x w' h => ⟨h.1, h.2⟩
def F_copy0 : Nat × Fn2 Unit := (13, vfn fun us => match us with | [.pointer none, .int .i64 i] => some ([], .int .i64 (1)) | _ => none)
theorem F_copy0_ok : RowOk Try.prog noI hardK F_copy0.1 F_copy0.2 := by
  refine vfn_ok Try.call13 fun args ps r hs hp w => ?_
  split at hs
  · simp only [Option.some.injEq, Prod.mk.injEq] at hs
    obtain ⟨rfl, rfl⟩ := hs
    exact copy0_c _  w
  · cases hs
set_option maxRecDepth 100000 in
theorem send0_c (t : Int) (w : World) : Calls Try.prog 8 #[.pointer none, .agg #[.int .i64 t, .slice none 0 0]] w fun e w' => e = .returned (.int .i64 (1)) ∧ Ext w w' :=
  (sym_i (S := (⟨Try.prog, [], [], hoK, noI.one, 60⟩ : Sy Unit)) (I := noI) (L := []) (args := [.one (.v (.pointer none)), .agg [.v (.int .i64 t), .v (.slice none 0 0)]]) (us := [.pointer none, .agg #[.int .i64 t, .slice none 0 0]]) (e := []) (mem := []) (W0 := w) (G := fun _ => False) (SyOk.mk2 Try.mixed hoK_ok (FnsR.nil) (EqsOk.nil)) Try.func8 (by kernel_rfl) (LpsOk.nil _) (⟨rfl, ⟨[.int .i64 t, .slice none 0 0], ⟨rfl, rfl, trivial⟩, rfl⟩, trivial⟩) (by kernel_rfl) (memOk_nil noI w) (v := 1) [] (by kernel_rfl) (by kernel_rfl) (mnil)).mono fun x w' h => ⟨h.1, h.2⟩
def F_send0 : Nat × Fn2 Unit := (8, vfn fun us => match us with | [.pointer none, .agg ⟨[.int .i64 t, .slice none 0 0]⟩] => some ([], .int .i64 (1)) | _ => none)
theorem F_send0_ok : RowOk Try.prog noI hardK F_send0.1 F_send0.2 := by
  refine vfn_ok Try.call8 fun args ps r hs hp w => ?_
  split at hs
  · simp only [Option.some.injEq, Prod.mk.injEq] at hs
    obtain ⟨rfl, rfl⟩ := hs
    exact send0_c _  w
  · cases hs
set_option maxRecDepth 100000 in
theorem to0_c (i : Int) (w : World) : Calls Try.prog 25 #[.pointer none, .int .i64 i] w fun e w' => e = .returned (.slice none 0 0) ∧ Ext w w' :=
  (sym_v (S := (⟨Try.prog, [(F_len0 Try.prog Try.f23)], [], hoK, noI.one, 60⟩ : Sy Unit)) (I := noI) (L := []) (args := [.one (.v (.pointer none)), .one (.v (.int .i64 i))]) (us := [.pointer none, .int .i64 i]) (e := []) (mem := []) (W0 := w) (G := fun _ => False) (SyOk.mk2 Try.mixed hoK_ok (FnsR.cons F_len0_ok (FnsR.nil)) (EqsOk.nil)) Try.func25 (by kernel_rfl) (LpsOk.nil _) (⟨rfl, rfl, trivial⟩) (by kernel_rfl) (memOk_nil noI w) (v := .slice none 0 0) [] (by kernel_rfl) (by kernel_rfl) (mnil)).mono fun x w' h => ⟨h.1, h.2⟩
def F_to0 : Nat × Fn2 Unit := (25, vfn fun us => match us with | [.pointer none, .int .i64 i] => some ([], .slice none 0 0) | _ => none)
theorem F_to0_ok : RowOk Try.prog noI hardK F_to0.1 F_to0.2 := by
  refine vfn_ok Try.call25 fun args ps r hs hp w => ?_
  split at hs
  · simp only [Option.some.injEq, Prod.mk.injEq] at hs
    obtain ⟨rfl, rfl⟩ := hs
    exact to0_c _  w
  · cases hs
set_option maxRecDepth 100000 in
theorem cut0_c (i : Int) (w : World) : Calls Try.prog 21 #[.pointer none, .int .i64 i] w fun e w' => e = .returned (.int .i64 (0)) ∧ Ext w w' :=
  (sym_i (S := (⟨Try.prog, [(F_len0 Try.prog Try.f23)], [], hoK, noI.one, 60⟩ : Sy Unit)) (I := noI) (L := []) (args := [.one (.v (.pointer none)), .one (.v (.int .i64 i))]) (us := [.pointer none, .int .i64 i]) (e := []) (mem := []) (W0 := w) (G := fun _ => False) (SyOk.mk2 Try.mixed hoK_ok (FnsR.cons F_len0_ok (FnsR.nil)) (EqsOk.nil)) Try.func21 (by kernel_rfl) (LpsOk.nil _) (⟨rfl, rfl, trivial⟩) (by kernel_rfl) (memOk_nil noI w) (v := 0) [] (by kernel_rfl) (by kernel_rfl) (mnil)).mono fun x w' h => ⟨h.1, h.2⟩
def F_cut0 : Nat × Fn2 Unit := (21, vfn fun us => match us with | [.pointer none, .int .i64 i] => some ([], .int .i64 (0)) | _ => none)
theorem F_cut0_ok : RowOk Try.prog noI hardK F_cut0.1 F_cut0.2 := by
  refine vfn_ok Try.call21 fun args ps r hs hp w => ?_
  split at hs
  · simp only [Option.some.injEq, Prod.mk.injEq] at hs
    obtain ⟨rfl, rfl⟩ := hs
    exact cut0_c _  w
  · cases hs
theorem nlives_c (w : World) : Calls Try.prog 14 #[] w fun e w' => e = .returned (.bool true) ∧ Ext w w' := lives_c w
def F_nlives : Nat × Fn2 Unit := (14, vfn fun us => match us with | [] => some ([], .bool true) | _ => none)
theorem F_nlives_ok : RowOk Try.prog noI hardK F_nlives.1 F_nlives.2 := by
  refine vfn_ok Try.call14 fun args ps r hs hp w => ?_
  split at hs
  · simp only [Option.some.injEq, Prod.mk.injEq] at hs
    obtain ⟨rfl, rfl⟩ := hs
    exact nlives_c   w
  · cases hs
set_option maxRecDepth 100000 in
theorem lawN_c (i : Int) (w : World) : Calls Try.prog 5 #[.int .i64 i] w fun e w' => e = .returned (.bool (true)) ∧ Ext w w' :=
  (sym_b (S := (⟨Try.prog, [F_at0, F_take0, F_send0, F_drop0, F_copy0, (F_len0 Try.prog Try.f23), F_cut0, F_to0, F_nlives], [], hoK, noI.one, 60⟩ : Sy Unit)) (I := noI) (L := []) (args := [.one (.v (.int .i64 i))]) (us := [.int .i64 i]) (e := []) (mem := []) (W0 := w) (G := fun _ => False) (SyOk.mk2 Try.mixed hoK_ok (FnsR.cons F_at0_ok (FnsR.cons F_take0_ok (FnsR.cons F_send0_ok (FnsR.cons F_drop0_ok (FnsR.cons F_copy0_ok (FnsR.cons F_len0_ok (FnsR.cons F_cut0_ok (FnsR.cons F_to0_ok (FnsR.cons F_nlives_ok (FnsR.nil)))))))))) (EqsOk.nil)) Try.func5 (by kernel_rfl) (LpsOk.nil _) (⟨rfl, trivial⟩) (by kernel_rfl) (memOk_nil noI w) (v := true) [] (by kernel_rfl) (by kernel_rfl) (mnil)).mono fun x w' h => ⟨h.1, h.2⟩
theorem netNobody_calls (i : Int) (W : World) (h : -9223372036854775808 ≤ i ∧ i ≤ 9223372036854775807) : Calls Try.prog 5 #[.int .i64 i] W fun e w' => e = .returned (.bool true) ∧ Below W.heap.size W w' :=
  (lawN_c i W).mono fun e w' hh => ⟨hh.1, hh.2.below⟩

end Go.Proofs.Ythekjoahlaifgaa

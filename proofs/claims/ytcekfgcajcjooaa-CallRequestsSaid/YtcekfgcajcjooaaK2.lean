/- calls: contracts. -/
import Derived.Test.YtcekfgcajcjooaaK1
import Derived.Test.YtcekfgcajcjooaaE4


set_option linter.unusedVariables false
set_option linter.unusedSimpArgs false
namespace Go.Proofs.Ytcekfgcajcjooaa
open Go.RowKit

def hardK : Unit → Bool := fun _ => true
def hoK : Ho Unit := ⟨fun _ _ _ => none, fun _ _ _ => none, hardK, true, []⟩
theorem hoK_ok : HoOk Try.prog hoK noI := ⟨fun _ _ _ _ _ _ _ _ h => (by cases h), fun _ _ _ _ _ _ _ _ h => (by cases h), fun _ _ _ _ _ _ h => (by cases h), fun _ _ _ _ _ _ _ _ h => (by cases h)⟩
theorem nmchk_c (s : ByteArray) (w : World) : Calls Try.prog 32 #[.string s] w fun e w' => e = .returned (.int .i64 (cond (nameB s) 0 9)) ∧ Ext w w' := check_c s w
def F_nmchk : Nat × Fn2 Unit := (32, vfn fun us => match us with | [.string s] => some ([], .int .i64 (cond (nameB s) 0 9)) | _ => none)
theorem F_nmchk_ok : RowOk Try.prog noI hardK F_nmchk.1 F_nmchk.2 := by
  refine vfn_ok Try.call32 fun args ps r hs hp w => ?_
  split at hs
  · simp only [Option.some.injEq, Prod.mk.injEq] at hs
    obtain ⟨rfl, rfl⟩ := hs
    exact nmchk_c _  w
  · cases hs
theorem nmis_c (s : ByteArray) (h0 : s.size ≤ 9223372036854775807) (w : World) : Calls Try.prog 36 #[.string s] w fun e w' => e = .returned (.bool (nameB s)) ∧ Ext w w' := is_c s w h0
def F_nmis : Nat × Fn2 Unit := (36, vfn fun us => match us with | [.string s] => some ([s.size ≤ 9223372036854775807], .bool (nameB s)) | _ => none)
theorem F_nmis_ok : RowOk Try.prog noI hardK F_nmis.1 F_nmis.2 := by
  refine vfn_ok Try.call36 fun args ps r hs hp w => ?_
  split at hs
  · simp only [Option.some.injEq, Prod.mk.injEq] at hs
    obtain ⟨rfl, rfl⟩ := hs
    exact nmis_c _ (hp _ (by simp)) w
  · cases hs
def mayB (i g : Int) : Bool := decide (1 ≤ i ∧ i ≤ 40 ∧ 0 ≤ g ∧ g ≤ 2147483647)
theorem may29_c (i g : Int) (w : World) : Calls Try.prog 33 #[.agg #[.int .i64 i, .int .i64 g]] w fun e w' => e = .returned (.bool (mayB i g)) ∧ Ext w w' := may_c i g w
def F_may29 : Nat × Fn2 Unit := (33, vfn fun us => match us with | [.agg ⟨[.int .i64 i, .int .i64 g]⟩] => some ([], .bool (mayB i g)) | _ => none)
theorem F_may29_ok : RowOk Try.prog noI hardK F_may29.1 F_may29.2 := by
  refine vfn_ok Try.call33 fun args ps r hs hp w => ?_
  split at hs
  · simp only [Option.some.injEq, Prod.mk.injEq] at hs
    obtain ⟨rfl, rfl⟩ := hs
    exact may29_c _ _  w
  · cases hs
set_option maxRecDepth 100000 in
theorem plain5_c (f1 f2 d1 d2 : Int) (n o : ByteArray) (a : Int) (t : ByteArray) (w : World) : Calls Try.prog 14 #[.agg #[.int .i64 5, .int .i64 f1, .int .i64 f2, .int .i64 d1, .int .i64 d2, .string n, .string o, .int .i64 a, .string t]] w fun e w' => e = .returned (.agg #[.int .i64 (CC.plain (⟨5, f1, f2, d1, d2, n, o, a, t⟩ : CC)).k, .int .i64 (CC.plain (⟨5, f1, f2, d1, d2, n, o, a, t⟩ : CC)).f1, .int .i64 (CC.plain (⟨5, f1, f2, d1, d2, n, o, a, t⟩ : CC)).f2, .int .i64 (CC.plain (⟨5, f1, f2, d1, d2, n, o, a, t⟩ : CC)).d1, .int .i64 (CC.plain (⟨5, f1, f2, d1, d2, n, o, a, t⟩ : CC)).d2, .string (CC.plain (⟨5, f1, f2, d1, d2, n, o, a, t⟩ : CC)).n, .string (CC.plain (⟨5, f1, f2, d1, d2, n, o, a, t⟩ : CC)).o, .int .i64 (CC.plain (⟨5, f1, f2, d1, d2, n, o, a, t⟩ : CC)).a, .string (CC.plain (⟨5, f1, f2, d1, d2, n, o, a, t⟩ : CC)).t]) ∧ Ext w w' :=
  (sym_v (S := (⟨Try.prog, [], [], hoK, noI.one, 60⟩ : Sy Unit)) (I := noI) (L := []) (args := [.agg [.v (.int .i64 5), .v (.int .i64 f1), .v (.int .i64 f2), .v (.int .i64 d1), .v (.int .i64 d2), .v (.string n), .v (.string o), .v (.int .i64 a), .v (.string t)]]) (us := [.agg #[.int .i64 5, .int .i64 f1, .int .i64 f2, .int .i64 d1, .int .i64 d2, .string n, .string o, .int .i64 a, .string t]]) (e := []) (mem := []) (W0 := w) (G := fun _ => False) (SyOk.mk2 Try.mixed hoK_ok (FnsR.nil) (EqsOk.nil)) Try.func14 (by kernel_rfl) (LpsOk.nil _) (⟨⟨[.int .i64 5, .int .i64 f1, .int .i64 f2, .int .i64 d1, .int .i64 d2, .string n, .string o, .int .i64 a, .string t], ⟨rfl, rfl, rfl, rfl, rfl, rfl, rfl, rfl, rfl, trivial⟩, rfl⟩, trivial⟩) (by kernel_rfl) (memOk_nil noI w) (v := .agg #[.int .i64 (CC.plain (⟨5, f1, f2, d1, d2, n, o, a, t⟩ : CC)).k, .int .i64 (CC.plain (⟨5, f1, f2, d1, d2, n, o, a, t⟩ : CC)).f1, .int .i64 (CC.plain (⟨5, f1, f2, d1, d2, n, o, a, t⟩ : CC)).f2, .int .i64 (CC.plain (⟨5, f1, f2, d1, d2, n, o, a, t⟩ : CC)).d1, .int .i64 (CC.plain (⟨5, f1, f2, d1, d2, n, o, a, t⟩ : CC)).d2, .string (CC.plain (⟨5, f1, f2, d1, d2, n, o, a, t⟩ : CC)).n, .string (CC.plain (⟨5, f1, f2, d1, d2, n, o, a, t⟩ : CC)).o, .int .i64 (CC.plain (⟨5, f1, f2, d1, d2, n, o, a, t⟩ : CC)).a, .string (CC.plain (⟨5, f1, f2, d1, d2, n, o, a, t⟩ : CC)).t]) [] (by kernel_rfl) (by kernel_rfl) (mnil)).mono fun x w' h => ⟨h.1, h.2⟩
theorem plainA_c (k f1 f2 d1 d2 : Int) (n o : ByteArray) (a : Int) (t : ByteArray) (w : World) : Calls Try.prog 14 #[.agg #[.int .i64 k, .int .i64 f1, .int .i64 f2, .int .i64 d1, .int .i64 d2, .string n, .string o, .int .i64 a, .string t]] w fun e w' => e = .returned (.agg #[.int .i64 (CC.plain (⟨k, f1, f2, d1, d2, n, o, a, t⟩ : CC)).k, .int .i64 (CC.plain (⟨k, f1, f2, d1, d2, n, o, a, t⟩ : CC)).f1, .int .i64 (CC.plain (⟨k, f1, f2, d1, d2, n, o, a, t⟩ : CC)).f2, .int .i64 (CC.plain (⟨k, f1, f2, d1, d2, n, o, a, t⟩ : CC)).d1, .int .i64 (CC.plain (⟨k, f1, f2, d1, d2, n, o, a, t⟩ : CC)).d2, .string (CC.plain (⟨k, f1, f2, d1, d2, n, o, a, t⟩ : CC)).n, .string (CC.plain (⟨k, f1, f2, d1, d2, n, o, a, t⟩ : CC)).o, .int .i64 (CC.plain (⟨k, f1, f2, d1, d2, n, o, a, t⟩ : CC)).a, .string (CC.plain (⟨k, f1, f2, d1, d2, n, o, a, t⟩ : CC)).t]) ∧ Ext w w' := by
  by_cases h : k = 5
  · subst h; exact plain5_c f1 f2 d1 d2 n o a t w
  · exact plain_c (⟨k, f1, f2, d1, d2, n, o, a, t⟩ : CC) w h
def F_plainA : Nat × Fn2 Unit := (14, vfn fun us => match us with | [.agg ⟨[.int .i64 k, .int .i64 f1, .int .i64 f2, .int .i64 d1, .int .i64 d2, .string n, .string o, .int .i64 a, .string t]⟩] => some ([], .agg #[.int .i64 (CC.plain (⟨k, f1, f2, d1, d2, n, o, a, t⟩ : CC)).k, .int .i64 (CC.plain (⟨k, f1, f2, d1, d2, n, o, a, t⟩ : CC)).f1, .int .i64 (CC.plain (⟨k, f1, f2, d1, d2, n, o, a, t⟩ : CC)).f2, .int .i64 (CC.plain (⟨k, f1, f2, d1, d2, n, o, a, t⟩ : CC)).d1, .int .i64 (CC.plain (⟨k, f1, f2, d1, d2, n, o, a, t⟩ : CC)).d2, .string (CC.plain (⟨k, f1, f2, d1, d2, n, o, a, t⟩ : CC)).n, .string (CC.plain (⟨k, f1, f2, d1, d2, n, o, a, t⟩ : CC)).o, .int .i64 (CC.plain (⟨k, f1, f2, d1, d2, n, o, a, t⟩ : CC)).a, .string (CC.plain (⟨k, f1, f2, d1, d2, n, o, a, t⟩ : CC)).t]) | _ => none)
theorem F_plainA_ok : RowOk Try.prog noI hardK F_plainA.1 F_plainA.2 := by
  refine vfn_ok Try.call14 fun args ps r hs hp w => ?_
  split at hs
  · simp only [Option.some.injEq, Prod.mk.injEq] at hs
    obtain ⟨rfl, rfl⟩ := hs
    exact plainA_c _ _ _ _ _ _ _ _ _  w
  · cases hs
def chkI (p : CC) : Int := cond (decide (p.k < 1) || decide (p.k > 11)) 2
  (cond (((decide (p.k ≥ 1) && decide (p.k ≤ 5)) && (cond (nameB p.n) (0 : Int) 9) != 0) || (p.k == 5 && (cond (nameB p.o) (0 : Int) 9) != 0)) 9
  (cond (((decide (p.k ≥ 1) && decide (p.k ≤ 6)) && !mayB p.d1 p.d2) || ((!(decide (p.k ≥ 1) && decide (p.k ≤ 6)) || p.k == 5) && !mayB p.f1 p.f2)) 14
  (cond (decide (p.a < 0) || decide (p.a ≥ 8)) 2 (cond (decide ((p.t.size : Int) > 64)) 5 0))))
set_option maxRecDepth 100000 in
theorem check29_c (k f1 f2 d1 d2 : Int) (n o : ByteArray) (a : Int) (t : ByteArray) (w : World) : Calls Try.prog 12 #[.agg #[.int .i64 k, .int .i64 f1, .int .i64 f2, .int .i64 d1, .int .i64 d2, .string n, .string o, .int .i64 a, .string t]] w fun e w' => e = .returned (.int .i64 (chkI (CC.plain (⟨k, f1, f2, d1, d2, n, o, a, t⟩ : CC)))) ∧ Ext w w' :=
  (sym_i (S := (⟨Try.prog, [F_plainA, F_nmchk, F_may29], [], hoK, noI.one, 60⟩ : Sy Unit)) (I := noI) (L := []) (args := [.agg [.v (.int .i64 k), .v (.int .i64 f1), .v (.int .i64 f2), .v (.int .i64 d1), .v (.int .i64 d2), .v (.string n), .v (.string o), .v (.int .i64 a), .v (.string t)]]) (us := [.agg #[.int .i64 k, .int .i64 f1, .int .i64 f2, .int .i64 d1, .int .i64 d2, .string n, .string o, .int .i64 a, .string t]]) (e := []) (mem := []) (W0 := w) (G := fun _ => False) (SyOk.mk2 Try.mixed hoK_ok (FnsR.cons F_plainA_ok (FnsR.cons F_nmchk_ok (FnsR.cons F_may29_ok (FnsR.nil)))) (EqsOk.nil)) Try.func12 (by kernel_rfl) (LpsOk.nil _) (⟨⟨[.int .i64 k, .int .i64 f1, .int .i64 f2, .int .i64 d1, .int .i64 d2, .string n, .string o, .int .i64 a, .string t], ⟨rfl, rfl, rfl, rfl, rfl, rfl, rfl, rfl, rfl, trivial⟩, rfl⟩, trivial⟩) (by kernel_rfl) (memOk_nil noI w) (v := chkI (CC.plain (⟨k, f1, f2, d1, d2, n, o, a, t⟩ : CC))) [] (by kernel_rfl) (by kernel_rfl) (mnil)).mono fun x w' h => ⟨h.1, h.2⟩
def F_check29 : Nat × Fn2 Unit := (12, vfn fun us => match us with | [.agg ⟨[.int .i64 k, .int .i64 f1, .int .i64 f2, .int .i64 d1, .int .i64 d2, .string n, .string o, .int .i64 a, .string t]⟩] => some ([], .int .i64 (chkI (CC.plain (⟨k, f1, f2, d1, d2, n, o, a, t⟩ : CC)))) | _ => none)
theorem F_check29_ok : RowOk Try.prog noI hardK F_check29.1 F_check29.2 := by
  refine vfn_ok Try.call12 fun args ps r hs hp w => ?_
  split at hs
  · simp only [Option.some.injEq, Prod.mk.injEq] at hs
    obtain ⟨rfl, rfl⟩ := hs
    exact check29_c _ _ _ _ _ _ _ _ _  w
  · cases hs
/-- A function of what is closed, run in place. -/
def closedP (p : PV) : Bool := match p with
  | .kI _ _ => true
  | .kB _ => true
  | .kS _ => true
  | _ => false
def closedC (c : CV) : Bool := match c with
  | .one p => closedP p
  | _ => false
theorem closedP_is {p : PV} (h : closedP p = true) {e e' : Env} {u : Value} (hu : p.is e u) : p.is e' u := by
  cases p <;> first | exact hu | cases h
theorem closedCs_is {e e' : Env} : ∀ {us : List CV} {vs : List Value}, allB closedC us = true → AllC e us vs → AllC e' us vs
  | [], [], _, _ => trivial
  | [], _ :: _, _, h => h.elim
  | _ :: _, [], _, h => h.elim
  | c :: us, v :: vs, h, ⟨h1, h2⟩ => by
    simp only [allB, Bool.and_eq_true] at h
    refine ⟨?_, closedCs_is h.2 h2⟩
    cases c with
    | one p => exact closedP_is h.1 h1
    | agg cs => cases h.1
def inlG (S : Sy Unit) (fn : Func) : Fn2 Unit := fun us mem => match allB closedC us && leb us.length fn.ntmps with
  | true => (match runFn S [] fn us [] with
    | .leaf (.c (.one p)) s => (match closedP p with | true => some ([], .c (.one p), none) | false => none)
    | _ => none)
  | false => none
theorem inlG_ok {S : Sy Unit} {f : FuncId} {fn : Func} (hS : ∀ W0 G, SyOk S noI W0 G) (hf : S.P.funcs[f]? = some fn) (hb : fn.body = some (bodyOf fn)) (he : ∀ us w, (callFunc f us).run S.P w = .ok (.enter f us) w) : RowOk S.P noI hardK f (inlG S fn) := by
  refine ⟨he, fun W0 G args mem ps r mo hr hp w e us hM ha => ?_, fun args m m' ps r hr hl => hr, fun args mem ps r m' hr => ?_⟩
  · unfold inlG at hr
    split at hr
    · rename_i hc
      rw [Bool.and_eq_true] at hc
      split at hr
      · rename_i p s hrun
        split at hr
        · rename_i hcl
          simp only [Option.some.injEq, Prod.mk.injEq] at hr
          obtain ⟨rfl, rfl, rfl⟩ := hr
          refine sym_calls (hS w fun _ => False) hf hb (LpsOk.nil _) (closedCs_is hc.1 ha) hc.2 (memOk_nil noI w) (K := fun x s' => x = .c (.one p)) (by rw [hrun]; exact rfl) ?_
          rintro y s' e' w' v hg rfl hy hM'
          exact ⟨v, rfl, closedP_is hcl hy, hM'.mod⟩
        · cases hr
      · cases hr
    · cases hr
  · unfold inlG at hr
    split at hr
    · split at hr
      · split at hr <;> simp at hr
      · cases hr
    · cases hr
def F_has29 (P : Program) (fn : Func) : Nat × Fn2 Unit := (35, inlG ⟨P, [], [], hoK, noI.one, 60⟩ fn)
theorem F_has29_ok : RowOk Try.prog noI hardK (F_has29 Try.prog Try.f35).1 (F_has29 Try.prog Try.f35).2 := inlG_ok (fun W0 G => SyOk.mk2 Try.mixed hoK_ok FnsR.nil EqsOk.nil) Try.func35 (by kernel_rfl) Try.call35
/-- The table, where the kind is known. -/
def F_fieldsK : Nat × Fn2 Unit := (34, fun us mem => match us with
  | [.one (.kI .i64 (.ofNat k))] => (match leb 1 k && leb k 11 with
    | true => some ([], .c (.one (.kS (field29 (k : Int)))), none)
    | false => none)
  | [.one (.v (.int .i64 k))] => some ([k < 1 ∨ 11 < k], .c (.one (.kS ⟨#[]⟩)), none)
  | _ => none)
theorem F_fieldsK_ok : RowOk Try.prog noI hardK F_fieldsK.1 F_fieldsK.2 := by
  refine ⟨Try.call34, fun W0 G args mem ps r mo hr hp w e us hM ha => ?_, fun args m m' ps r hr hl => hr, fun args mem ps r m' hr => ?_⟩
  · simp only [F_fieldsK] at hr
    split at hr
    · rename_i k
      split at hr
      · rename_i hk
        rw [Bool.and_eq_true] at hk
        have k1 := leb_le.1 hk.1
        have k2 := leb_le.1 hk.2
        simp only [Option.some.injEq, Prod.mk.injEq] at hr
        obtain ⟨rfl, rfl, rfl⟩ := hr
        obtain ⟨u, rfl, hu⟩ := allC1 ha
        have hu : u = .int .i64 ((k : Nat) : Int) := hu
        subst hu
        have key : ∀ j : Nat, 1 ≤ j → j ≤ 11 → Calls Try.prog 34 #[.int .i64 (j : Int)] w fun e w' => e = .returned (.string (field29 (j : Int))) ∧ Ext w w' := fun j h1 h2 => by
          rcases (by omega : j = 1 ∨ j = 2 ∨ j = 3 ∨ j = 4 ∨ j = 5 ∨ j = 6 ∨ j = 7 ∨ j = 8 ∨ j = 9 ∨ j = 10 ∨ j = 11) with rfl | rfl | rfl | rfl | rfl | rfl | rfl | rfl | rfl | rfl | rfl
          · exact fields29_1 w
          · exact fields29_2 w
          · exact fields29_3 w
          · exact fields29_4 w
          · exact fields29_5 w
          · exact fields29_6 w
          · exact fields29_7 w
          · exact fields29_8 w
          · exact fields29_9 w
          · exact fields29_10 w
          · exact fields29_11 w
        exact (key k k1 k2).mono fun x w' h => ⟨_, h.1, rfl, h.2⟩
      · cases hr
    · rename_i k
      simp only [Option.some.injEq, Prod.mk.injEq] at hr
      obtain ⟨rfl, rfl, rfl⟩ := hr
      obtain ⟨u, rfl, hu⟩ := allC1 ha
      have hu : u = .int .i64 k := hu
      subst hu
      rcases hp _ (List.mem_cons_self ..) with h | h
      · exact (fields29_lo k h w).mono fun x w' h => ⟨_, h.1, rfl, h.2⟩
      · exact (fields29_hi k h w).mono fun x w' h => ⟨_, h.1, rfl, h.2⟩
    · cases hr
  · simp only [F_fieldsK] at hr
    split at hr
    · split at hr <;> simp at hr
    · simp at hr
    · cases hr

end Go.Proofs.Ytcekfgcajcjooaa

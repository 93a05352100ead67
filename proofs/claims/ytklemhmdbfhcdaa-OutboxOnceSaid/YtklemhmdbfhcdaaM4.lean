/- The program's entry. -/
import Derived.Test.YtklemhmdbfhcdaaM3
import Derived.Laws.StructEq


set_option linter.unusedVariables false
set_option linter.unusedSimpArgs false
namespace Go.Proofs.Ytklemhmdbfhcdaa
open Go.RowKit

def E_file : TypeId × (List Value → List Value → Option Bool) := (30, fun u v => match u, v with
  | [.int .i64 a, .int .i64 b], [.int .i64 c, .int .i64 d] => some (a == c && b == d)
  | _, _ => none)
theorem E_file_ok {E : EqFns} (ht : ∀ ty g, eqGet ty E = some g → Try.prog.eqGuardType Try.prog.depth ty = false ∧ ∀ (u v : Array Value) b, g u.toList v.toList = some b → ∀ w, (Op.equal ty (.agg u) (.agg v)).run Try.prog w = .ok b w) :
    ∀ ty' g', eqGet ty' (E_file :: E) = some g' → Try.prog.eqGuardType Try.prog.depth ty' = false ∧ ∀ (u v : Array Value) b, g' u.toList v.toList = some b → ∀ w, (Op.equal ty' (.agg u) (.agg v)).run Try.prog w = .ok b w :=
  EqsOk.cons (by kernel_rfl) (fun u v r h w => by
    split at h
    · rename_i a b c d h1 h2
      simp only [Option.some.injEq] at h
      subst h
      obtain rfl : u = #[.int .i64 a, .int .i64 b] := Array.ext' h1
      obtain rfl : v = #[.int .i64 c, .int .i64 d] := Array.ext' h2
      show (Op.equalIn 10000 30 _ _).run Try.prog w = _
      by_cases ha : a = c
      · subst ha
        by_cases hb : b = d
        · subst hb; simp [go_sem]
        · simp [go_sem, hb]
      · simp [go_sem, ha]
    · cases h) ht
def andI (n f : Int) : Int := IntKind.u16.wrap ((BitVec.ofInt IntKind.u16.bits n &&& BitVec.ofInt IntKind.u16.bits f).toNat : Int)
def okB (n f : Int) (z r : Bool) : Bool := (andI n f == 0 && z) || (andI n f != 0 && r)
def namedB (s : ByteArray) : Bool := cond (nameB s) (0 : Int) 9 == 0
def entryB (nm : ByteArray) (ino gen kind : Int) : Bool := namedB nm && fileB ino gen && twoB kind
set_option maxRecDepth 100000 in
theorem named_c (s : ByteArray) (w : World) : Calls Try.prog 36 #[.string s] w fun e w' => e = .returned (.bool (namedB s)) ∧ Ext w w' :=
  sym_b (S := ⟨Try.prog, [F_check], [], noApp, labI.one, 40⟩) (I := labI) (L := []) (args := [.one (.v (.string s))]) (us := [.string s]) (e := []) (mem := []) (SyOk.mk' Try.mixed (F_check_ok (FnsOk.nil)) (EqsOk.nil)) Try.func36 (by kernel_rfl) (LpsOk.nil _) ⟨rfl, trivial⟩ (by kernel_rfl) (memOk_nil _ w) [] (by kernel_rfl) (by kernel_rfl) (by simp)
def F_named : Nat × Fn2 Lab := (36, fun us mem => match us with | [.one a0] => (match valP a0 with | some (.string s) => some ([], svV (.bool (namedB s)), none) | _ => none) | _ => none)
theorem F_named_ok {W0 : World} {G : Nat → Prop} {F : Fns Lab} (ht : FnsOk Try.prog labI W0 G F) : FnsOk Try.prog labI W0 G (F_named :: F) :=
  FnsOk.cons Try.call36 (fun args mem ps r mo h hp w e us hM ha => by
    repeat' split at h
    all_goals first
      | (cases h; done)
      | skip
    simp only [Option.some.injEq, Prod.mk.injEq] at h
    obtain ⟨rfl, rfl, rfl⟩ := h
    simp only [allC_cons, allC_nil] at ha
    obtain ⟨u0, t0, rfl, hc0, rfl⟩ := ha
    obtain rfl := valP_is (by assumption) (show PV.is e _ _ from hc0)
    refine (named_c _ w ).mono fun x w' ⟨h1, h2⟩ => ⟨_, h1, rfl, h2⟩
    all_goals skip) ht
set_option maxRecDepth 100000 in
theorem entry_c (nm : ByteArray) (ino gen kd : Int) (w : World) : Calls Try.prog 44 #[.agg #[.string nm, .int .i64 ino, .int .i64 gen, .int .i64 kd]] w fun e w' => e = .returned (.bool (entryB nm ino gen kd)) ∧ Ext w w' :=
  sym_b (S := ⟨Try.prog, [F_named, F_file, F_two], [], noApp, labI.one, 40⟩) (I := labI) (L := []) (args := [.agg [.v (.string nm), .v (.int .i64 ino), .v (.int .i64 gen), .v (.int .i64 kd)]]) (us := [.agg #[.string nm, .int .i64 ino, .int .i64 gen, .int .i64 kd]]) (e := []) (mem := []) (SyOk.mk' Try.mixed (F_named_ok (F_file_ok (F_two_ok (FnsOk.nil)))) (EqsOk.nil)) Try.func44 (by kernel_rfl) (LpsOk.nil _) ⟨⟨[.string nm, .int .i64 ino, .int .i64 gen, .int .i64 kd], ⟨rfl, rfl, rfl, rfl, trivial⟩, rfl⟩, trivial⟩ (by kernel_rfl) (memOk_nil _ w) [] (by kernel_rfl) (by kernel_rfl) (by simp)
def F_entry : Nat × Fn2 Lab := (44, fun us mem => match us with | [.agg a0] => (match a0 with | [b0_0, b0_1, b0_2, b0_3] => (match valP b0_0 with | some (.string nm) => (match valP b0_1 with | some (.int .i64 ino) => (match valP b0_2 with | some (.int .i64 gen) => (match valP b0_3 with | some (.int .i64 kd) => some ([], svV (.bool (entryB nm ino gen kd)), none) | _ => none) | _ => none) | _ => none) | _ => none) | _ => none) | _ => none)
theorem F_entry_ok {W0 : World} {G : Nat → Prop} {F : Fns Lab} (ht : FnsOk Try.prog labI W0 G F) : FnsOk Try.prog labI W0 G (F_entry :: F) :=
  FnsOk.cons Try.call44 (fun args mem ps r mo h hp w e us hM ha => by
    repeat' split at h
    all_goals first
      | (cases h; done)
      | skip
    simp only [Option.some.injEq, Prod.mk.injEq] at h
    obtain ⟨rfl, rfl, rfl⟩ := h
    simp only [allC_cons, allC_nil] at ha
    obtain ⟨u0, t0, rfl, hc0, rfl⟩ := ha
    obtain ⟨xs0, hxs0, rfl⟩ := hc0
    simp only [allIs_cons, allIs_nil] at hxs0
    obtain ⟨y0_0, s0_0, rfl, hb0_0, y0_1, s0_1, rfl, hb0_1, y0_2, s0_2, rfl, hb0_2, y0_3, s0_3, rfl, hb0_3, rfl⟩ := hxs0
    obtain rfl := valP_is (by assumption) hb0_0
    obtain rfl := valP_is (by assumption) hb0_1
    obtain rfl := valP_is (by assumption) hb0_2
    obtain rfl := valP_is (by assumption) hb0_3
    refine (entry_c _ _ _ _ w ).mono fun x w' ⟨h1, h2⟩ => ⟨_, h1, rfl, h2⟩
    all_goals skip) ht

end Go.Proofs.Ytklemhmdbfhcdaa

/- outbox: callees run in their place on one way. -/
import Derived.Test.YtklemhmdbfhcdaaO6

set_option linter.unusedVariables false
set_option linter.unusedSimpArgs false
namespace Go.Proofs.Ytklemhmdbfhcdaa
open Go.RowKit

/-- What a callee turns, run in its place on one way. -/
def inlC (S : Sy Lab) (fn : Func) (cs : List Bool) : Fn2 Lab := fun us mem => match leb us.length fn.ntmps with
  | true => (match (runFn S [] fn us mem).al cs with
    | some (ps, x, s) => some (ps, x, some s.mem)
    | none => none)
  | false => none
theorem FnsOk.consC {P : Program} {W0 : World} {G : Nat → Prop} {F : Fns Lab} {S' : Sy Lab} {f : FuncId} {fn : Func} {cs : List Bool} (he : ∀ us w, (callFunc f us).run P w = .ok (.enter f us) w) (hP : S'.P = P) (hf : P.funcs[f]? = some fn) (hb : fn.body = some (bodyOf fn))
    (hS' : ∀ W0 G, SyOk S' labI W0 G) (ht : FnsOk P labI W0 G F) : FnsOk P labI W0 G ((f, inlC S' fn cs) :: F) := by
  subst hP
  exact FnsOk.cons he (fun args mem ps r mo hr hp w e us hM ha => by
    unfold inlC at hr
    split at hr
    · rename_i hle
      split at hr
      · rename_i qs x s hal
        simp only [Option.some.injEq, Prod.mk.injEq] at hr
        obtain ⟨rfl, rfl, rfl⟩ := hr
        refine sym_calls (hS' W0 G) hf hb (LpsOk.nil _) ha hle hM (RT.al_holds hal hp) ?_
        rintro y s' e' w' v hg ⟨rfl, rfl⟩ hy hM'
        exact ⟨v, rfl, e', hg, hy, hM'⟩
      · cases hr
    · cases hr) ht

end Go.Proofs.Ytklemhmdbfhcdaa

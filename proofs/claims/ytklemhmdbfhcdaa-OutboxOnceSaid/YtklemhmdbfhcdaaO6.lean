/- outbox: callees on one way. -/
import Derived.Test.YtklemhmdbfhcdaaO5

set_option linter.unusedVariables false
set_option linter.unusedSimpArgs false
namespace Go.Proofs.Ytklemhmdbfhcdaa
open Go.RowKit

/-- A callee on one way, which a tape tells. -/
def inlT (j : Nat) (S : Sy Lab) (L : Lps Lab) (fn : Func) (hard : Lab → Bool) : Fn2 Lab := fun us mem => match mem[j]? with
  | some ⟨.us (.tape (cs :: t)), true⟩ => (match inlF labI S L fn cs hard us mem with
    | some (ps, r, some m') => (match m'[j]?, hard (.tape (cs :: t)) with
      | some ⟨.us (.tape _), true⟩, false => some (ps, r, some (m'.set j ⟨.us (.tape t), true⟩))
      | _, _ => none)
    | _ => none)
  | _ => none
theorem memTape {W0 : World} {G : Nat → Prop} {w : World} {e : Env} {mem : Mem Lab} (hM : MemOk W0 G labI w e mem) {j : Nat} {o : Ob Lab} (hj : mem[j]? = some ⟨o, true⟩) (t : List (List Bool)) : MemOk W0 G labI w e (mem.set j ⟨.us (.tape t), true⟩) := by
  obtain ⟨u, hu⟩ := hM.ev hj
  exact hM.upd hu hj (Mod.refl _ w) ⟨.us (.tape t), true⟩ (hM.holds j u _ hu hj).oneCell fun k hk => hk.elim
theorem inlT_ok (j : Nat) {S : Sy Lab} {P : Program} {L : Lps Lab} {hard : Lab → Bool} {f : FuncId} {fn : Func} (hP : S.P = P) (hS : ∀ W0 G, SyOk S labI W0 G) (hf : P.funcs[f]? = some fn) (hb : fn.body = some (bodyOf fn)) (hL : ∀ W0 G, LpsOk S labI W0 G L fn.ntmps (bodyOf fn)) (he : ∀ us w, (callFunc f us).run P w = .ok (.enter f us) w) :
    RowOk P labI hard f (inlT j S L fn hard) := by
  refine ⟨he, fun W0 G args mem ps r mo hr hp w E us hM ha => ?_, fun args m m' ps r hr => ?_, fun args mem ps r m' hr => ?_⟩
  · unfold inlT at hr
    split at hr
    · rename_i cs t hj
      split at hr
      · rename_i ps' r' m' hin
        split at hr
        · rename_i t' hj' _
          simp only [Option.some.injEq, Prod.mk.injEq] at hr
          obtain ⟨rfl, rfl, rfl⟩ := hr
          exact ((inlF_ok (cs := cs) (hard := hard) hP hS hf hb hL he).run W0 G args mem _ _ _ hin hp w E us hM ha).mono fun x w' ⟨v, h1, e', h2, h3, h4⟩ => ⟨v, h1, e', h2, h3, memTape h4 hj' t⟩
        · cases hr
      · cases hr
    · cases hr
  · unfold inlT at hr
    split at hr
    · split at hr
      · split at hr <;> simp at hr
      · cases hr
    · cases hr
  · unfold inlT at hr
    split at hr
    · rename_i cs t hj
      split at hr
      · rename_i ps' r' m1 hin
        split at hr
        · rename_i t' hj' hh
          simp only [Option.some.injEq, Prod.mk.injEq] at hr
          obtain ⟨_, _, rfl⟩ := hr
          have hl := (inlF_ok (cs := cs) (hard := hard) hP hS hf hb hL he).loc args mem _ _ _ hin
          intro i en hi hs
          have hne : j ≠ i := fun e => by
            subst e
            rw [hj] at hi
            cases hi
            simp [solid, hh] at hs
          rw [List.getElem?_set_ne hne]
          exact hl i en hi hs
        · cases hr
      · cases hr
    · cases hr

end Go.Proofs.Ytklemhmdbfhcdaa

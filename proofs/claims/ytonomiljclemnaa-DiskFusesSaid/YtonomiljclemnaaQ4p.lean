/- Q4. -/
import Derived.Test.YtonomiljclemnaaQ3p
import Derived.Test.YtonomiljclemnaaF2p
set_option linter.unusedVariables false
set_option linter.unusedSimpArgs false
namespace Go.Proofs.Ytonomiljclemnaa
open Go.RowKit
def opsR (id : Nat) : Code → List Oper
  | .region i ops _ => match eqb i id with | true => ops.toList | false => []
  | .seq x y => opsR id x ++ opsR id y
  | .cond _ x y => opsR id x ++ opsR id y
  | .block _ c => opsR id c
  | .loop c => opsR id c
  | _ => []
section
variable {W0 : World} {G : Nat → Prop} {sz : Nat}
def qG (S : Sy Td) (sz : Nat) (l : List Oper) : SSt Td → Option (Tr Td) := fun s => match runQ S s.base sz l 0 [] s.mem [] with
  | some (recs, mem, ps) => forceN (s.ver + 1) fun v => some (leafT s (some (recs, mem, v, ps)))
  | none => none
theorem qG_sound {Sq : Sy Td} (hS : SyOk Sq Id' W0 G) (hPq : Sq.P = Try.prog) {S : Sy Td} (hP : S.P = Try.prog) {id : Nat} {l : List Oper} (hB : Region.lexB .any l.toArray = true) : FragSound S Id' W0 G sz (.region id l.toArray true) (qG Sq sz l) := by
  intro s t hg
  unfold qG at hg
  split at hg
  · rename_i recs mem ps hr
    simp only [forceN_eq, Option.some.injEq] at hg
    subst hg
    refine ⟨leafT_after fun recs' mem' ver' ps' hx => ?_, fun K hK Q a w e hf hM hend => ?_⟩
    · simp only [Option.some.injEq, Prod.mk.injEq] at hx
      obtain ⟨rfl, rfl, rfl, rfl⟩ := hx
      refine ⟨fun r hr' => ?_, Nat.le_succ _, fun h => absurd h (by omega)⟩
      rcases runQ_dst l 0 [] _ _ hr r hr' with h | h
      · cases h
      · exact h
    · obtain ⟨recs', mem', ver', ps', hx, hps, hK⟩ := leafT_holds hK
      simp only [Option.some.injEq, Prod.mk.injEq] at hx
      obtain ⟨rfl, rfl, rfl, rfl⟩ := hx
      rw [hP, ← hPq]
      refine wp_region_quiet (C := fun w' => Ext w w') hS.mix hB (Ext.drew (Ext.refl w)) ?_
      exact runQ_seq (l := l) hS hPq (K := fun a' => ∀ w', Ext w w' → Q .normal a' w') l 0 [] s.mem [] hr (fun j o hj => by rw [Nat.zero_add]; exact hj) (RInv.nil l) hf hM hps (fun e' a' hg' hf' hM' w' hw' => hend .normal _ e' a' w' hg' hK (flush_ok hf') (hM'.ext hw'))
  · cases hg
end
end Go.Proofs.Ytonomiljclemnaa

/- O1. -/
import Derived.Test.YtonomiljclemnaaE4p
import Derived.Test.YtonomiljclemnaaE3p
set_option linter.unusedVariables false
set_option linter.unusedSimpArgs false
namespace Go.Proofs.Ytonomiljclemnaa
open Go.RowKit
def clP (p : PV) : PV := match p with
  | .v (.bool b) => .kB b
  | .v (.int k n) => .kI k n
  | .v (.string s) => .kS s
  | p => p
theorem clP_is {p : PV} {e : Env} {u : Value} (h : p.is e u) : (clP p).is e u := by
  unfold clP
  split <;> exact h
section
variable {β : Type} {I : ObI β} {P : Program}
def clE (n : En β) : En β := match n with
  | ⟨.blk cells, mu⟩ => ⟨.blk (cells.map clP), mu⟩
  | n => n
theorem clE_mu (n : En β) : (clE n).mu = n.mu := by
  unfold clE
  split <;> rfl
theorem clE_foot {w : World} {u : Value} {k : Nat} (n : En β) : Foot I w u (clE n).ob k ↔ Foot I w u n.ob k := by
  unfold clE
  split <;> exact Iff.rfl
theorem clE_own {w : World} {u : Value} {k : Nat} (n : En β) : Own I w u (clE n).ob k ↔ Own I w u n.ob k := by
  unfold clE
  split <;> exact Iff.rfl
theorem clE_holds {e : Env} {w : World} {u : Value} (n : En β) (h : Holds I e w u n.mu n.ob) : Holds I e w u (clE n).mu (clE n).ob := by
  unfold clE
  split
  · rename_i cells mu
    obtain ⟨b, o, rfl, hc⟩ := h
    refine ⟨b, o, rfl, fun j p hp => ?_⟩
    rw [List.getElem?_map] at hp
    cases hq : cells[j]? with
    | none => rw [hq] at hp; cases hp
    | some q =>
      rw [hq] at hp
      simp at hp
      subst hp
      obtain ⟨x, g1, g2, g3⟩ := hc j q hq
      exact ⟨x, g1, clP_is g2, g3⟩
  · exact h
theorem MemOk.cl {W0 : World} {G : Nat → Prop} {w : World} {e : Env} {mem : Mem β} (h : MemOk W0 G I w e mem) : MemOk W0 G I w e (mem.map clE) := by
  have hg : ∀ (i : Nat) (n : En β), (mem.map clE)[i]? = some n → ∃ m, mem[i]? = some m ∧ n = clE m := fun i n hn => by
    rw [List.getElem?_map] at hn
    cases hm : mem[i]? with
    | none => rw [hm] at hn; cases hn
    | some m => rw [hm] at hn; simp at hn; exact ⟨m, rfl, hn.symm⟩
  refine ⟨by simp [h.len], fun i u n hu hn => ?_, fun i u n hu hn k hk => ?_, fun i u n hu hn hmu k hk => ?_, fun i j u v n m hu hn hmu hv hm hij k hk hk' => ?_, h.mod, fun i u n hu hn k hk => ?_⟩
  · obtain ⟨m, hm, rfl⟩ := hg i n hn
    exact clE_holds m (h.holds i u m hu hm)
  · obtain ⟨m, hm, rfl⟩ := hg i n hn
    exact h.lt i u m hu hm k ((clE_foot m).1 hk)
  · obtain ⟨m, hm, rfl⟩ := hg i n hn
    exact h.own i u m hu hm (by rw [← clE_mu m]; exact hmu) k ((clE_own m).1 hk)
  · obtain ⟨n', hn', rfl⟩ := hg i n hn
    obtain ⟨m', hm', rfl⟩ := hg j m hm
    exact h.sep i j u v n' m' hu hn' (by rw [← clE_mu n']; exact hmu) hv hm' hij k ((clE_own n').1 hk) ((clE_foot m').1 hk')
  · obtain ⟨m, hm, rfl⟩ := hg i n hn
    exact h.rd i u m hu hm k ((clE_foot m).1 hk)
end
end Go.Proofs.Ytonomiljclemnaa

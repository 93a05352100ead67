/- The two graces side by side: the plain law. -/
import Derived.Test.YtdgcadjhggidfaaG12
set_option linter.unusedVariables false
set_option linter.unusedSimpArgs false
namespace Go.Proofs.Ytdgcadjhggidfaa
open Go.RowKit

theorem lft_nodup (R : GRec) (D : Nat → Bool) (k : Nat) : (lft R D k).Nodup := by
  unfold lft
  refine List.Pairwise.map _ (fun a b h => ?_) (List.nodup_range.filter _)
  exact fun e => h (by omega)
def updD (D : Nat → Bool) (k : Nat) : Nat → Bool := fun i => if i = k then true else D i
theorem lft_erase (R : GRec) (D : Nat → Bool) (k n : Nat) : (lft R D n).erase (k : Int) = lft R (updD D k) n := by
  rw [(lft_nodup R D n).erase_eq_filter]
  unfold lft
  rw [List.filter_map, List.filter_filter]
  congr 1
  refine List.filter_congr fun i _ => ?_
  unfold updD
  by_cases h : i = k
  · subst h; simp
  · have : ((i : Int) != (k : Int)) = true := by simp; omega
    simp [h, this]

theorem overB_eq {R : GRec} {D : Nat → Bool} {span spent : Int} (h : 0 < span) (h1 : spent ≤ span) : overB (lft R D 8) span spent = roverB R D span spent := by
  unfold overB roverB
  rw [Bool.eq_iff_iff, decide_eq_true_eq, decide_eq_true_eq]
  constructor
  · rintro (h' | h' | h')
    · omega
    · exact .inl h'
    · exact .inr (by omega)
  · rintro (h' | h')
    · exact .inr (.inl h')
    · exact .inr (.inr (by omega))
theorem mayB_eq {R : GRec} {D : Nat → Bool} {span spent c s : Int} (h : 0 < span) (h1 : spent ≤ span) : mayB R (lft R D 8) span spent c s = rmayB R D span spent c s := by
  unfold mayB rmayB waitsB
  rw [overB_eq h h1, Bool.and_comm (!_)]
theorem waits_eq {R : GRec} {D : Nat → Bool} {span c : Int} (h : 0 < span) : decide (0 < span ∧ c ∈ lft R D 8) = waitsB R D c := by
  unfold waitsB; simp [h]
theorem tick_eq {span spent : Int} (h : 0 < span) : tickN span spent = rtickN span spent := by
  unfold tickN rtickN; simp [h]

/-- Both graces, alike. -/
structure PlayInv (W w : World) (gb rb : Nat) (R : GRec) (D : Nat → Bool) (span spent : Int) : Prop where
  g : GraceIs w W.heap.size gb R (lft R D 8) span spent
  r : RefIs w W.heap.size rb R D span spent
  below : Below W.heap.size W w
  s0 : 0 ≤ spent
  s1 : spent ≤ span

theorem PlayInv.ext {W w w' : World} {gb rb : Nat} {R : GRec} {D : Nat → Bool} {span spent : Int} (h : PlayInv W w gb rb R D span spent) (hx : Ext w w') : PlayInv W w' gb rb R D span spent :=
  ⟨h.g.ext hx, h.r.ext hx, h.below.trans (hx.below.mono h.below.size), h.s0, h.s1⟩

theorem RefIs.tyF {w w' : World} {B rb : Nat} {R : GRec} {D : Nat → Bool} {span spent : Int} (h : RefIs w B rb R D span spent) (hm : Mod (TyF w B [53, 3]) w w') : RefIs w' B rb R D span spent :=
  ⟨(hm.block rb (Array.getElem?_eq_some_iff.1 h.1).1 (tyF_not h.1 (by decide))).trans h.1, h.2⟩
theorem GraceIs.refmod {w w' : World} {B gb rb : Nat} {R R' : GRec} {D : Nat → Bool} {left : List Int} {span spent span' spent' : Int} (h : GraceIs w B gb R left span spent) (hr : RefIs w B rb R' D span' spent') (hm : Mod (fun j => j = rb) w w') : GraceIs w' B gb R left span spent := by
  obtain ⟨ao, cap, h1, h2, h3⟩ := h
  refine ⟨ao, cap, (hm.block gb (Array.getElem?_eq_some_iff.1 h1).1 ?_).trans h1, h2, owns_mod h3 hm fun k hk e => ?_⟩
  · intro e
    subst e
    have := hr.1
    rw [h1] at this
    simp only [Option.some.injEq, Obj.cells.injEq] at this
    exact absurd this.2.1 (by decide)
  · subst e
    exact owns_ne_block h3 hr.1 (by decide) hk
theorem refmod_below {w w' : World} {B rb : Nat} {R : GRec} {D : Nat → Bool} {span spent : Int} (hr : RefIs w B rb R D span spent) (hm : Mod (fun j => j = rb) w w') (hB : B ≤ w.heap.size) : Below B w w' :=
  hm.below hB fun k e => by rw [e]; exact hr.2

end Go.Proofs.Ytdgcadjhggidfaa

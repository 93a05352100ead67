/- Rows of pieces; which pieces any record has: the plain law. -/
import Derived.Test.YtcedfpckjdobpaaL12
import Derived.Test.YtcedfpckjdobpaaLRd
set_option linter.unusedVariables false
set_option linter.unusedSimpArgs false
namespace Go.Proofs.Ytcedfpckjdobpaa
open Go.RowKit

/-- A row of pieces of its own, each one's bytes in memory of its own. -/
def PRow (w : World) (B : Nat) (e : TypeId) (v : Value) (ps : List Pc) : Prop :=
  ∃ vs : List (Pc × Value), vs.map (·.1) = ps ∧ (∃ ao cap, v = .slice ao ps.length cap) ∧ w.ownsRow B e 5 v ps.length (vs.flatMap fun d => d.1.cells d.2) ∧
    ∀ d ∈ vs, (∃ ao cap, d.2 = .slice ao d.1.d.length cap) ∧ w.ownsRow B 5 1 d.2 d.1.d.length (d.1.d.map bv)

theorem PRow.nil (w : World) (B : Nat) (e : TypeId) : PRow w B e (.slice none 0 0) [] := ⟨[], rfl, ⟨none, 0, rfl⟩, World.ownsRow_nil _ _ _ _, fun d h => by cases h⟩
theorem PRow.ext {w w' : World} {B : Nat} {e : TypeId} {v : Value} {ps : List Pc} (h : PRow w B e v ps) (hx : Ext w w') : PRow w' B e v ps := by
  obtain ⟨vs, h1, h2, h3, h4⟩ := h
  exact ⟨vs, h1, h2, owns_ext h3 hx, fun d hd => ⟨(h4 d hd).1, owns_ext (h4 d hd).2 hx⟩⟩
theorem PRow.base {w : World} {B B' : Nat} {e : TypeId} {v : Value} {ps : List Pc} (h : PRow w B e v ps) (hb : B' ≤ B) : PRow w B' e v ps := by
  obtain ⟨vs, h1, h2, h3, h4⟩ := h
  exact ⟨vs, h1, h2, owns_base h3 hb, fun d hd => ⟨(h4 d hd).1, owns_base (h4 d hd).2 hb⟩⟩
theorem PRow.shape {w : World} {B : Nat} {e : TypeId} {v : Value} {ps : List Pc} (h : PRow w B e v ps) : ∃ ao cap, v = .slice ao ps.length cap := by
  obtain ⟨vs, h1, h2, _⟩ := h; exact h2
theorem Pc.cells_length (p : Pc) (v : Value) : (p.cells v).length = 5 := rfl
theorem flat5_length (vs : List (Pc × Value)) : (vs.flatMap fun d => d.1.cells d.2).length = vs.length * 5 := by
  induction vs with
  | nil => rfl
  | cons d vs ih => rw [List.flatMap_cons, List.length_append, ih, Pc.cells_length, List.length_cons]; omega
theorem flat5_get : ∀ (vs : List (Pc × Value)) (i : Nat) (d : Pc × Value), vs[i]? = some d → ∀ j, j < 5 → (vs.flatMap fun d => d.1.cells d.2)[i * 5 + j]? = (d.1.cells d.2)[j]?
  | [], i, d, h, _, _ => by simp at h
  | x :: vs, 0, d, h, j, hj => by
    simp at h
    subst h
    rw [List.flatMap_cons, List.getElem?_append_left (by rw [Pc.cells_length]; omega)]
    simp
  | x :: vs, i + 1, d, h, j, hj => by
    rw [List.flatMap_cons, List.getElem?_append_right (by rw [Pc.cells_length]; omega), Pc.cells_length]
    rw [show (i + 1) * 5 + j - 5 = i * 5 + j by omega]
    exact flat5_get vs i d (by simpa using h) j hj
/-- The cells of the i-th. -/
theorem PRow.at {w : World} {B : Nat} {e : TypeId} {ao : Option Addr} {n cap : Nat} {ps : List Pc} (h : PRow w B e (.slice ao n cap) ps) {i : Nat} {p : Pc} (hp : ps[i]? = some p) :
    ∃ g dao dcap, ao = some ⟨g, 0, none⟩ ∧ B ≤ g ∧ g < w.heap.size ∧ Bs w (.slice dao p.d.length dcap) p.d ∧ w.ownsRow B 5 1 (.slice dao p.d.length dcap) p.d.length (p.d.map bv) ∧
      ∀ j, j < 5 → w.cell? ⟨g, i * 5 + j, none⟩ = (p.cells (.slice dao p.d.length dcap))[j]? := by
  obtain ⟨vs, h1, ⟨ao', cap', h2⟩, h3, h4⟩ := h
  simp only [Value.slice.injEq] at h2
  obtain ⟨rfl, rfl, rfl⟩ := h2
  have hi : i < ps.length := (List.getElem?_eq_some_iff.1 hp).1
  obtain ⟨g, cap', he, hg1, hg2⟩ := World.ownsRow.form h3 (by omega)
  simp only [Value.slice.injEq] at he
  obtain ⟨rfl, _, rfl⟩ := he
  rw [← h1] at hp
  rw [List.getElem?_map] at hp
  obtain ⟨d, hd, rfl⟩ := Option.map_eq_some_iff.1 hp
  obtain ⟨⟨dao, dcap, h5⟩, h6⟩ := h4 d (List.mem_of_getElem? hd)
  rw [h5] at h6
  refine ⟨g, dao, dcap, rfl, hg1, hg2, Rs.of_owns h6, h6, fun j hj => ?_⟩
  rw [World.ownsRow.cellAt h3 _ (by omega), flat5_get vs i d hd j hj, h5]
/-- One more. -/
theorem PRow.push {w w' : World} {B n n' : Nat} {e : TypeId} {v v' : Value} {ps : List Pc} {p : Pc} {dao : Option Addr} {dcap : Nat} {vs : List (Pc × Value)} (h1 : vs.map (·.1) = ps) (h3 : w.ownsRow B e 5 v n (vs.flatMap fun d => d.1.cells d.2))
    (h4 : ∀ d ∈ vs, (∃ ao cap, d.2 = .slice ao d.1.d.length cap) ∧ w.ownsRow B 5 1 d.2 d.1.d.length (d.1.d.map bv)) (he : e ≠ 5)
    (hd : w.ownsRow B 5 1 (.slice dao p.d.length dcap) p.d.length (p.d.map bv)) (hn : n' = ps.length + 1)
    (h5 : w'.ownsRow B e 5 v' n' ((vs.flatMap fun d => d.1.cells d.2) ++ p.cells (.slice dao p.d.length dcap))) (hg : w.grownBy w' v.ownBlock) : PRow w' B e v' (ps ++ [p]) := by
  have keep : ∀ {u : Value} {n : Nat} {xs : List Value}, w.ownsRow B 5 1 u n xs → w'.ownsRow B 5 1 u n xs := fun {u n xs} ho =>
    owns_mod ho (Mod.grown_row hg) fun k hk e' => owns_ne ho h3 (Ne.symm he) hk e'
  subst hn
  refine ⟨vs ++ [(p, .slice dao p.d.length dcap)], by simp [h1], ?_, ?_, ?_⟩
  · obtain ⟨ao, cap, hs⟩ := owns_shape h5
    exact ⟨ao, cap, by rw [hs]; simp⟩
  · rw [List.flatMap_append, List.length_append]
    simpa using h5
  · intro d hdm
    rcases List.mem_append.1 hdm with hm | hm
    · exact ⟨(h4 d hm).1, keep (h4 d hm).2⟩
    · simp at hm
      subst hm
      exact ⟨⟨_, _, rfl⟩, keep hd⟩
theorem oneCell_pc (p : Pc) (ao : Option Addr) (n cap : Nat) : ∀ u ∈ p.cells (.slice ao n cap), u.oneCell' = true := by
  intro u hu
  simp [Pc.cells] at hu
  rcases hu with rfl | rfl | rfl | rfl | rfl <;> rfl
theorem etPc : ElemT Try.prog 54 34 5 48 := ElemT.mk' Try.underlying54 (z := .agg #[.int .u64 0, .int .u64 0, .bool false, .bool false, .slice none 0 0]) (by kernel_rfl) rfl (by decide)
theorem etRPc : ElemT Try.prog 57 31 5 48 := ElemT.mk' Try.underlying57 (z := .agg #[.int .u64 0, .int .u64 0, .bool false, .bool false, .slice none 0 0]) (by kernel_rfl) rfl (by decide)

def cntN (m : Nat) : Nat := Nat.max ((m + 105) / 106) 1
def cutP (ep ct n : Nat) (b : List UInt8) (i : Nat) : Pc := ⟨ep, ct + i, decide (i = 0), decide (i = n - 1), (b.drop (106 * i)).take 106⟩
def cutN (ep ct m : Nat) : Nat := if 16777215 < ep ∨ 1099511627775 < ct ∨ 1099511627775 - ct < cntN m - 1 then 2 else if 8192 < m then 5 else 0
def cutL (ep ct : Nat) (b : List UInt8) : List Pc := if cutN ep ct b.length = 0 then (List.range (cntN b.length)).map (cutP ep ct (cntN b.length) b) else []

theorem cutP_cells (ep ct N j : Nat) (l : List UInt8) (v : Value) (hN : 1 ≤ N) :
    [Value.int .u64 (ep : Int), .int .u64 ((ct : Int) + (j : Int)), .bool ((j : Int) == 0), .bool ((j : Int) == (N : Int) - 1), v] = (cutP ep ct N l j).cells v := by
  have e1 : ((j : Int) == 0) = decide (j = 0) := by rw [Bool.eq_iff_iff]; simp
  have e2 : ((j : Int) == (N : Int) - 1) = decide (j = N - 1) := by rw [Bool.eq_iff_iff]; simp; omega
  rw [e1, e2]
  rfl

end Go.Proofs.Ytcedfpckjdobpaa

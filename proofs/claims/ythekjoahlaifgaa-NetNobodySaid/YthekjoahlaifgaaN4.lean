/- Contracts of net: At. -/
import Derived.Test.YthekjoahlaifgaaN3

set_option linter.unusedVariables false
set_option linter.unusedSimpArgs false
namespace Go.Proofs.Ythekjoahlaifgaa
open Go.RowKit

/-- What the walk wants of a net that is there. -/
theorem NetIs.open {w : World} {B bn : Nat} {F : Nat → Prop} {l : List (Int × List UInt8)} (h : NetIs w B F bn l) : ∃ ao cap bs, bn < w.heap.size ∧ w.cell? ⟨bn, 0, none⟩ = some (.slice ao l.length cap) ∧
    w.heap[bn]? = some (.cells #[.slice ao l.length cap] 60 (0, 0)) ∧ B ≤ bn ∧
    w.ownsRow B 34 2 (.slice ao l.length cap) l.length (pkCells l bs) ∧ BsOwn w B F l bs := by
  obtain ⟨ao, cap, bs, h1, h2⟩ := h
  exact ⟨ao, cap, bs, (Array.getElem?_eq_some_iff.1 h1).1, by rw [cell_of_block h1]; rfl, h1, h2⟩

set_option maxRecDepth 100000 in
set_option maxHeartbeats 400000 in
theorem at_no (bn B : Nat) (F : Nat → Prop) (l : List (Int × List UInt8)) (i : Int) (w : World) (h : NetIs w B F bn l) (hi : i < 0 ∨ (l.length : Int) ≤ i) :
    Calls Try.prog 17 #[.pointer (some ⟨bn, 0, none⟩), .int .i64 i] w
      fun e w' => e = .returned (.tuple #[.agg #[.int .i64 0, .slice none 0 0], .int .i64 11]) ∧ Ext w w' := by
  obtain ⟨no, ncap, bs, hbn, c0, _⟩ := h.open
  clear h
  obtain ⟨ln, hln⟩ : ∃ n, n = l.length := ⟨_, rfl⟩
  rw [← hln] at c0 hi
  have HL := Lib.hid hln; clear hln
  have c1 := ((Ext.refl w).alloc (.cells #[.int .i64 0, .slice none 0 0] 34)).cell c0
  rcases hi with hi | hi
  all_goals
    go_enter Try.func17, Try.ntmps17
    go_wp2
    refine bodyPost_ret (v := .tuple #[.agg #[.int .i64 0, .slice none 0 0], .int .i64 11]) (by simp [results, Try.results17, go_sem]) rfl ⟨rfl, ?_⟩
    exact (Ext.refl w).alloc _

set_option maxRecDepth 100000 in
set_option maxHeartbeats 400000 in
theorem at_yes (bn B : Nat) (F : Nat → Prop) (l : List (Int × List UInt8)) (k : Nat) (p : Int × List UInt8) (w : World) (h : NetIs w B F bn l) (hi : l[k]? = some p) (hp : p.2.length ≤ 140737488355328) (hl : l.length ≤ 140737488355328) :
    Calls Try.prog 17 #[.pointer (some ⟨bn, 0, none⟩), .int .i64 k] w
      fun e w' => ∃ ao cap, e = .returned (.tuple #[.agg #[.int .i64 p.1, .slice ao p.2.length cap], .int .i64 0]) ∧ Ext w w' ∧ w'.ownsRow w.heap.size 5 1 (.slice ao p.2.length cap) p.2.length (p.2.map bv) := by
  obtain ⟨no, ncap, bs, hbn, c0, n1, n2, n4, n6⟩ := h.open
  clear h
  have hk : k < l.length := (List.getElem?_eq_some_iff.1 hi).1
  obtain ⟨ln, hln⟩ : ∃ n, n = l.length := ⟨_, rfl⟩
  rw [← hln] at c0 hk hl n4
  obtain ⟨b, bo, bc, hb, rfl, hbo, hbu⟩ := n6.get hi
  obtain ⟨hc1, hc2⟩ := pkCells_get hi hb
  have HL := Lib.hid hln; clear hln
  have HI := Lib.hid hi; clear hi
  obtain ⟨g, rfl⟩ : ∃ g, no = some ⟨g, 0, none⟩ := by
    rcases n4.2 with ⟨hn, hn2⟩ | ⟨g, cap, cur, hn, _⟩
    · omega
    · simp only [Value.slice.injEq] at hn; exact ⟨_, hn.1⟩
  have hcells := World.ownsRow.cells n4 (g := g) rfl
  have hx := (Ext.refl w).alloc (.cells #[.int .i64 0, .slice none 0 0] 34)
  have d0 := hx.cell (hcells _ _ hc1)
  have d1 := hx.cell (hcells _ _ hc2)
  have c1 := hx.cell c0
  rw [add_head] at d0 d1
  have HX := Lib.hid hx; clear hx
  have HB := Lib.hid (Rs.of_owns hbo); 
  clear hcells hbo n4 n6 n1 hb hc1 hc2
  go_enter Try.func17, Try.ntmps17
  go_wp2_with (go_at_call 28; refine (copied_c _ _ _ _ (HB.out.ext HX.out) hp).mono ?_; rintro e w' ⟨co, cc, rfl, hx, hown⟩; have q0 := hx.cell (p := ⟨w.heap.size, 0, none⟩) (v := .int .i64 0) (by simp); have q1 := hx.cell (p := ⟨w.heap.size, 1, none⟩) (v := .slice none 0 0) (by simp); have q2 := hx.frozen (p := ⟨w.heap.size, 0, none⟩) (b := false) (by simp) (by simp); have q3 := hx.frozen (p := ⟨w.heap.size, 1, none⟩) (b := false) (by simp) (by simp))
  have hsz := hx.size
  simp at hsz
  have hnb : (Value.slice co p.2.length cc).ownBlock ≠ some w.heap.size := fun hb => by have := (owns_block hown hb).1; simp at this; omega
  refine bodyPost_ret (v := .tuple #[.agg #[.int .i64 p.1, .slice co p.2.length cc], .int .i64 0]) (by simp [results, Try.results17, go_sem, q0, q1]) rfl ⟨co, cc, rfl, ?_, ?_⟩
  · exact (((HX.out.trans hx).setCell (Nat.le_refl _) _).setCell (Nat.le_refl _) _)
  · exact owns_base (owns_setCell (owns_setCell hown hnb) hnb) (by simp)

end Go.Proofs.Ythekjoahlaifgaa

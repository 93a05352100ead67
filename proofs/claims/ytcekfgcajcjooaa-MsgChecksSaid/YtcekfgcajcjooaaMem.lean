/- Blocks, ranges of cells, whole structs. No program. -/
import Derived.Test.YtcekfgcajcjooaaBase
import Derived.Test.YtcekfgcajcjooaaRg
import Derived.Deep.MidRow
set_option linter.unusedVariables false
set_option linter.unusedSimpArgs false
namespace Go.Proofs.Ytcekfgcajcjooaa
open Go.RowKit

theorem cell_of_blk {w : World} {k : Nat} {c : Array Value} {t : TypeId} {fr : Nat × Nat} (h : w.heap[k]? = some (.cells c t fr)) (j : Nat) : w.cell? ⟨k, j, none⟩ = c[j]? := by
  simp [World.cell?, h]
theorem frozen_of_blk {w : World} {k : Nat} {c : Array Value} {t : TypeId} (h : w.heap[k]? = some (.cells c t (0, 0))) (j : Nat) : w.frozen? ⟨k, j, none⟩ = false := by
  simp [World.frozen?, h]
theorem setCell_blk {w : World} {k j : Nat} {c : Array Value} {v : Value} {t : TypeId} {fr : Nat × Nat} (h : w.heap[k]? = some (.cells c t fr)) : (w.setCell ⟨k, j, none⟩ v).heap[k]? = some (.cells (c.setIfInBounds j v) t fr) := by
  simp [World.setCell, Array.getElem?_modify, h]

theorem blk_new (w : World) (o : Obj) : (w.alloc o).heap[w.heap.size]? = some o := heap_alloc_new w _
theorem blk_new1 (w : World) (o : Obj) {n : Nat} (h : n = w.heap.size) : (w.alloc o).heap[n]? = some o := by rw [h]; exact blk_new w o
theorem blk_old {w : World} {o u : Obj} {n : Nat} (h : w.heap[n]? = some u) : (w.alloc o).heap[n]? = some u :=
  (((Ext.refl w).alloc o).block n (Array.getElem?_eq_some_iff.1 h).1 id).trans h
theorem setCell_other {w : World} {p : Addr} {v : Value} {k : Nat} {o : Obj} (h : w.heap[k]? = some o) (hk : p.block ≠ k) : (w.setCell p v).heap[k]? = some o := by
  simp [World.setCell, Array.getElem?_modify, hk, h]

theorem setCells_mod (b : Nat) : ∀ (vs : List Value) (o : Nat) (w : World), Mod (fun k => k = b) w (w.setCells b o vs)
  | [], _, w => Mod.refl _ w
  | v :: r, o, w => Mod.trans (F := fun k => k = b) (Mod.setCell (F := fun k => k = b) (Mod.refl _ w) (p := ⟨b, o, none⟩) (fun _ => rfl) v) (setCells_mod b r (o + 1) _) (fun _ h _ => h)
theorem range_of_blk {w : World} {b : Nat} {c : Array Value} {t : TypeId} {fr : Nat × Nat} (h : w.heap[b]? = some (.cells c t fr)) : w.rangeAt b 0 c.toList := fun j v hv => by
  rw [Nat.zero_add, cell_of_blk h]; simpa using hv
theorem there_of_blk {w : World} {b : Nat} {c : Array Value} {t : TypeId} (h : w.heap[b]? = some (.cells c t (0, 0))) : w.there b 0 c.size := fun j hj =>
  ⟨by rw [Nat.zero_add, cell_of_blk h]; simp [hj], frozen_of_blk h _⟩
theorem results_cell {P : Program} {fn : Func} {tmps : Array Value} {w : World} {k : Nat} {ty : TypeId} {a : Addr} {v : Value} (hr : fn.results = #[.cell k ty]) (ht : tmps.getD k undef = .pointer (some a))
    (hl : (loadVar ty a).run P w = .ok v w) : (results fn tmps).run P w = .ok v w := by
  have ha : (asAddr (.pointer (some a))).run P w = .ok a w := by simp [go_sem]
  unfold results
  rw [hr]
  rw [Array.getD_eq_getD_getElem?] at ht
  simp [ht, Sem.run_bind, ha, hl]
/-- A whole struct's load, at a range. -/
theorem gives_load_mid {P : Program} {o : Oper} {a : Act} {w : World} {Post : Value → World → Prop} (ty : TypeId) (x : Operand) (ho : o.op = .load ty x)
    (b k : Nat) (hx : a.eval x = .pointer (some ⟨b, k, none⟩)) (cs : List Value) (d : TypeDesc) (hc : w.rangeAt b k cs)
    (hu : P.underlying ty = some d) (hd : d.isRow = true) (hi : (P.info? ty).map (·.size) = some cs.length)
    (h : Post (.agg cs.toArray) w) : gives P o a w Post := by
  rw [gives_eq]
  unfold execOp
  simp only [ho, hx, Instr.loadAt, Instr.sureAddr, Sem.run_bind, Sem.run_pure, Result.andThen_ok, run_loadVar_mid w b k ty cs d hc hu hd hi]
  exact h
theorem range_ext {w w' : World} {b o : Nat} {cs : List Value} (h : w.rangeAt b o cs) (hx : Ext w w') : w'.rangeAt b o cs := fun j v hv => hx.cell (h j v hv)
theorem load_blk {P : Program} {ty : TypeId} {d : TypeDesc} {w : World} {b : Nat} {C : Array Value} {t : TypeId} {fr : Nat × Nat} (h : w.heap[b]? = some (.cells C t fr)) (hu : P.underlying ty = some d) (hd : d.isRow = true)
    (hi : (P.info? ty).map (·.size) = some C.size) : (loadVar ty ⟨b, 0, none⟩).run P w = .ok (.agg C) w := by
  have := run_loadVar_mid (P := P) w b 0 ty C.toList d (range_of_blk h) hu hd (by simpa using hi)
  simpa using this
theorem load_new {P : Program} {ty : TypeId} {d : TypeDesc} (w : World) (C : Array Value) (t : TypeId) (n : Nat) (hn : n = w.heap.size) (hu : P.underlying ty = some d) (hd : d.isRow = true)
    (hi : (P.info? ty).map (·.size) = some C.size) : (loadVar ty ⟨n, 0, none⟩).run P (w.alloc (.cells C t)) = .ok (.agg C) (w.alloc (.cells C t)) := by
  subst hn
  exact load_blk (heap_alloc_new w _) hu hd hi
theorem Below.cellw {W w : World} (hb : Below W.heap.size W w) {p : Addr} {v : Value} (h : W.cell? p = some v) : w.cell? p = some v := (Ext.of_below hb).cell h

end Go.Proofs.Ytcekfgcajcjooaa

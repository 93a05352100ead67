/- calls: seven ints laid. -/
import Derived.Test.YtcekfgcajcjooaaK4
import Derived.Test.YtcekfgcajcjooaaE4
import Derived.Test.YtcekfgcajcjooaaMRd



set_option linter.unusedVariables false
set_option linter.unusedSimpArgs false
namespace Go.Proofs.Ytcekfgcajcjooaa
open Go.RowKit

/-- Seven ints, laid: a known slice. -/
def opLit7 (us : List CV) (mem : Mem Unit) : Option (List Prop × SV × Option (Mem Unit)) := match us with
  | [.one p0, .one p1, .one p2, .one p3, .one p4, .one p5, .one p6] => (match valP p0, valP p1, valP p2, valP p3, valP p4, valP p5, valP p6 with
    | some (.int .i64 x0), some (.int .i64 x1), some (.int .i64 x2), some (.int .i64 x3), some (.int .i64 x4), some (.int .i64 x5), some (.int .i64 x6) => some ([], .c (.one (.obj mem.length)), some (mem ++ [⟨.sl ⟨1, 7, fun i => [.v (.int .i64 ([x0, x1, x2, x3, x4, x5, x6].getD i 0))]⟩ (), true⟩]))
    | _, _, _, _, _, _, _ => none)
  | _ => none
def opsQ (op : Op) (us : List CV) (mem : Mem Unit) : Option (List Prop × SV × Option (Mem Unit)) := match op with
  | .buildSlice t 7 ps => (match ps.toList with
    | [(0, _), (1, _), (2, _), (3, _), (4, _), (5, _), (6, _)] => (match eqb t 67 with | true => opLit7 us mem | false => none)
    | _ => none)
  | _ => none
theorem und_int (w : World) : (underlying 67).run Try.prog w = .ok (.slice 3) w := run_underlying Try.underlying67 w
theorem run_lit_int7 (x0 x1 x2 x3 x4 x5 x6 : Int) (w : World) : (Instr.buildSlice 67 7 #[(0, .int .i64 x0), (1, .int .i64 x1), (2, .int .i64 x2), (3, .int .i64 x3), (4, .int .i64 x4), (5, .int .i64 x5), (6, .int .i64 x6)]).run Try.prog w = .ok (.slice (some ⟨w.heap.size, 0, none⟩) 7 7) (w.alloc (.cells #[.int .i64 x0, .int .i64 x1, .int .i64 x2, .int .i64 x3, .int .i64 x4, .int .i64 x5, .int .i64 x6] 3)) := by
  have hs : ∀ w, (sizeOf 3).run Try.prog w = .ok 1 w := fun w => pureSem_run _ (show pureSem Try.prog (sizeOf 3) = some 1 by kernel_rfl) w
  have hz : ∀ w, (zeroValue 3).run Try.prog w = .ok (.int .i64 0) w := fun w => pureSem_run _ (show pureSem Try.prog (zeroValue 3) = some (.int .i64 0) by kernel_rfl) w
  have hA : ((((((((Array.map (fun x => [Value.int IntKind.i64 0][x % 1]?.getD default) (Array.range 7)).setIfInBounds 0 (Value.int IntKind.i64 x0)).setIfInBounds 1 (Value.int IntKind.i64 x1)).setIfInBounds 2 (Value.int IntKind.i64 x2)).setIfInBounds 3 (Value.int IntKind.i64 x3)).setIfInBounds 4 (Value.int IntKind.i64 x4)).setIfInBounds 5 (Value.int IntKind.i64 x5)).setIfInBounds 6 (Value.int IntKind.i64 x6)) = #[.int .i64 x0, .int .i64 x1, .int .i64 x2, .int .i64 x3, .int .i64 x4, .int .i64 x5, .int .i64 x6] := by kernel_rfl
  simp [Instr.buildSlice, Sem.run_bind, und_int, hs, hz, Instr.fill, newRow, newObj, Value.cells]
  rw [hA]
  rfl
def hoQ : Ho Unit := ⟨fun _ _ _ => none, opsQ, hardK, true, []⟩
theorem opsQ_some {op : Op} {us : List CV} {mem : Mem Unit} {ps : List Prop} {r : SV} {mo : Option (Mem Unit)} (h : opsQ op us mem = some (ps, r, mo)) :
    ∃ (o0 o1 o2 o3 o4 o5 o6 : Operand) (p0 p1 p2 p3 p4 p5 p6 : PV) (x0 x1 x2 x3 x4 x5 x6 : Int), op = .buildSlice 67 7 #[(0, o0), (1, o1), (2, o2), (3, o3), (4, o4), (5, o5), (6, o6)] ∧ us = [.one p0, .one p1, .one p2, .one p3, .one p4, .one p5, .one p6] ∧ (valP p0 = some (.int .i64 x0) ∧ valP p1 = some (.int .i64 x1) ∧ valP p2 = some (.int .i64 x2) ∧ valP p3 = some (.int .i64 x3) ∧ valP p4 = some (.int .i64 x4) ∧ valP p5 = some (.int .i64 x5) ∧ valP p6 = some (.int .i64 x6)) ∧ ps = [] ∧ r = .c (.one (.obj mem.length)) ∧ mo = some (mem ++ [⟨.sl ⟨1, 7, fun i => [.v (.int .i64 ([x0, x1, x2, x3, x4, x5, x6].getD i 0))]⟩ (), true⟩]) := by
  unfold opsQ at h
  split at h
  · rename_i t prts
    split at h
    · rename_i a0 a1 a2 a3 a4 a5 a6 hps
      split at h
      · rename_i ht
        unfold opLit7 at h
        split at h
        · split at h
          · rename_i h0 h1 h2 h3 h4 h5 h6
            simp only [Option.some.injEq, Prod.mk.injEq] at h
            obtain ⟨rfl, rfl, rfl⟩ := h
            have e1 : prts = #[(0, a0), (1, a1), (2, a2), (3, a3), (4, a4), (5, a5), (6, a6)] := by rw [← Array.toArray_toList (xs := prts), hps]
            exact ⟨_, _, _, _, _, _, _, _, _, _, _, _, _, _, _, _, _, _, _, _, _, by rw [e1, eqb_eq.1 ht], rfl, ⟨h0, h1, h2, h3, h4, h5, h6⟩, rfl, rfl, rfl⟩
          · cases h
        · cases h
      · cases h
    · cases h
  · cases h
theorem allC7 {e : Env} {p0 p1 p2 p3 p4 p5 p6 : CV} {us : List Value} (h : AllC e [p0, p1, p2, p3, p4, p5, p6] us) : ∃ u0 u1 u2 u3 u4 u5 u6, us = [u0, u1, u2, u3, u4, u5, u6] ∧ p0.is e u0 ∧ p1.is e u1 ∧ p2.is e u2 ∧ p3.is e u3 ∧ p4.is e u4 ∧ p5.is e u5 ∧ p6.is e u6 := by
  match us, h with
  | [u0, u1, u2, u3, u4, u5, u6], h => exact ⟨u0, u1, u2, u3, u4, u5, u6, rfl, h.1, h.2.1, h.2.2.1, h.2.2.2.1, h.2.2.2.2.1, h.2.2.2.2.2.1, h.2.2.2.2.2.2.1⟩
theorem hoQ_ok : HoOk Try.prog hoQ noI := ⟨fun _ _ _ _ _ _ _ _ h => (by cases h), fun W0 G op args mem ps r mo h hp o ρ w e ho hM ha => (by
    obtain ⟨o0, o1, o2, o3, o4, o5, o6, p0, p1, p2, p3, p4, p5, p6, x0, x1, x2, x3, x4, x5, x6, rfl, rfl, ⟨g0, g1, g2, g3, g4, g5, g6⟩, rfl, rfl, rfl⟩ := opsQ_some h
    obtain ⟨u0, u1, u2, u3, u4, u5, u6, he, b0, b1, b2, b3, b4, b5, b6⟩ := allC7 ha
    simp [Op.operands] at he
    obtain ⟨rfl, rfl, rfl, rfl, rfl, rfl, rfl⟩ := he
    have h0 := valP_is g0 (is_one b0)
    have h1 := valP_is g1 (is_one b1)
    have h2 := valP_is g2 (is_one b2)
    have h3 := valP_is g3 (is_one b3)
    have h4 := valP_is g4 (is_one b4)
    have h5 := valP_is g5 (is_one b5)
    have h6 := valP_is g6 (is_one b6)
    have hrun : (execOp ρ o).run Try.prog w = .ok (.value (.slice (some ⟨w.heap.size, 0, none⟩) 7 7)) (w.alloc (.cells #[.int .i64 x0, .int .i64 x1, .int .i64 x2, .int .i64 x3, .int .i64 x4, .int .i64 x5, .int .i64 x6] 3)) := by
      unfold execOp
      simp only [ho, List.map_toArray, List.map_cons, List.map_nil, h0, h1, h2, h3, h4, h5, h6]
      rw [Sem.run_bind, run_lit_int7]
      rfl
    rw [hrun]
    have hb := heap_alloc_new w (.cells #[.int .i64 x0, .int .i64 x1, .int .i64 x2, .int .i64 x3, .int .i64 x4, .int .i64 x5, .int .i64 x6] 3)
    refine ⟨e ++ [.slice (some ⟨w.heap.size, 0, none⟩) 7 7], Grows.push e _, ?_, hM.push ((Ext.refl w).alloc _) _ ⟨.sl ⟨1, 7, fun i => [.v (.int .i64 ([x0, x1, x2, x3, x4, x5, x6].getD i 0))]⟩ (), true⟩ ?_ ?_⟩
    · show (e ++ [_])[mem.length]? = _
      rw [← hM.len, List.getElem?_append_right (Nat.le_refl _)]; simp
    · refine ⟨some ⟨w.heap.size, 0, none⟩, 7, rfl, Nat.le_refl _, by decide, (fun h => by cases h), fun a ha => ?_⟩
      cases ha
      refine ⟨fun _ => rfl, fun i hi j p hp => ?_⟩
      match j, hp with
      | 0, hp =>
        simp only [List.getElem?_cons_zero, Option.some.injEq] at hp
        subst hp
        refine ⟨.int .i64 ([x0, x1, x2, x3, x4, x5, x6].getD i 0), ?_, rfl⟩
        match i, hi with
        | 0, _ => exact (cell_of_blk hb 0).trans rfl
        | 1, _ => exact (cell_of_blk hb 1).trans rfl
        | 2, _ => exact (cell_of_blk hb 2).trans rfl
        | 3, _ => exact (cell_of_blk hb 3).trans rfl
        | 4, _ => exact (cell_of_blk hb 4).trans rfl
        | 5, _ => exact (cell_of_blk hb 5).trans rfl
        | 6, _ => exact (cell_of_blk hb 6).trans rfl
        | i + 7, hi => exact absurd hi (by show ¬ (i + 7 < 7); omega)
      | j + 1, hp => simp at hp
    · rintro k ⟨_, hk⟩
      cases hk
      exact ⟨Nat.le_refl _, by simp⟩), fun op args m m' ps r h hl => (by
    obtain ⟨_, _, _, _, _, _, _, _, _, _, _, _, _, _, _, _, _, _, _, _, _, _, _, _, _, _, h⟩ := opsQ_some h
    cases h), fun t k qs args mem ps r m' h => (by
    obtain ⟨_, _, _, _, _, _, _, _, _, _, _, _, _, _, _, _, _, _, _, _, _, _, _, _, _, _, h⟩ := opsQ_some h
    cases h
    exact SLe.push _ _ _)⟩
theorem FnsR.of1 {f : FuncId} {g : Fn2 Unit} (h : RowOk Try.prog noI hardK f g) : RowOk Try.prog noI hoQ.hard f g := h

end Go.Proofs.Ytcekfgcajcjooaa

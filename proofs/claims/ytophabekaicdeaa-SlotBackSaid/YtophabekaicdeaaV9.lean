/- slot: reading; the laws' calls. -/
import Derived.Test.YtophabekaicdeaaV8
import Derived.Test.YtophabekaicdeaaOpen


set_option linter.unusedVariables false
set_option linter.unusedSimpArgs false
namespace Go.Proofs.Ytophabekaicdeaa
open Go.RowKit Go.ChangeShapes Go.WideShapes Go.ChangeAt

section
variable {H : Type} {enc : TypeId × Value → H} {W : World}
set_option maxRecDepth 100000 in
theorem rd_slot_1_0 {cs : List Value} {fuel : Nat} {x : DataW H × List MemPlace} (hl : cs.length = 2) (h : DataW.trod enc Try.prog W 0 (fun _ => true) true fuel 69 cs = some x) :
    ∃ (z0 : Int) (z1 : Int), cs = [.int .i64 z0, .int .i64 z1] ∧ R64 z0 ∧ R64 z1 := by
  obtain ⟨c0, c1, rfl⟩ : ∃ c0 c1, cs = [c0, c1] := by
    match cs, hl with
    | [c0, c1], _ => exact ⟨c0, c1, rfl⟩
  obtain ⟨xs, n, _, _, _, hx, hf⟩ := DataW.trod_struct Try.underlying69 h
  have hxn : xs.length = 2 := hx
  have y0 : Try.prog.cellsOf 3 = 1 := by kernel_rfl
  have f0 := hf 0 _ rfl
  have f1 := hf 1 _ rfl
  rw [List.getElem?_eq_getElem (by omega)] at f0 f1
  obtain ⟨v0, e0, _, w0⟩ := DataW.trod_int Try.underlying3 f0
  have g0 : c0 = .int .i64 v0 := by simpa [y0] using e0
  obtain ⟨v1, e1, _, w1⟩ := DataW.trod_int Try.underlying3 f1
  have g1 : c1 = .int .i64 v1 := by simpa [y0] using e1
  exact ⟨v0, v1, by rw [g0, g1], wf_i64 w0, wf_i64 w1⟩
set_option maxRecDepth 100000 in
theorem rd_slot_1 {cs : List Value} {fuel : Nat} {x : DataW H × List MemPlace} (hl : cs.length = 3) (h : DataW.trod enc Try.prog W 0 (fun _ => true) true fuel 71 cs = some x) :
    ∃ (z0 : Int) (z1 : Int) (z2 : Int), cs = [.int .i64 z0, .int .i64 z1, .int .i64 z2] ∧ R64 z0 ∧ R64 z1 ∧ R64 z2 := by
  obtain ⟨c0, c1, c2, rfl⟩ : ∃ c0 c1 c2, cs = [c0, c1, c2] := by
    match cs, hl with
    | [c0, c1, c2], _ => exact ⟨c0, c1, c2, rfl⟩
  obtain ⟨xs, n, _, _, _, hx, hf⟩ := DataW.trod_struct Try.underlying71 h
  have hxn : xs.length = 2 := hx
  have y0 : Try.prog.cellsOf 69 = 2 := by kernel_rfl
  have y1 : Try.prog.cellsOf 3 = 1 := by kernel_rfl
  have f0 := hf 0 _ rfl
  have f1 := hf 1 _ rfl
  rw [List.getElem?_eq_getElem (by omega)] at f0 f1
  obtain ⟨v0_0, v0_1, e0, k0_0, k0_1⟩ := rd_slot_1_0 (by simp [y0, y1]) f0
  have g0 : c0 = .int .i64 v0_0 ∧ c1 = .int .i64 v0_1 := by simpa [y0, y1] using e0
  obtain ⟨g0_0, g0_1⟩ := g0
  obtain ⟨v1, e1, _, w1⟩ := DataW.trod_int Try.underlying3 f1
  have g1 : c2 = .int .i64 v1 := by simpa [y0, y1] using e1
  exact ⟨v0_0, v0_1, v1, by rw [g0_0, g0_1, g1], k0_0, k0_1, wf_i64 w1⟩
set_option maxRecDepth 100000 in
theorem rd_slot {cs : List Value} {fuel : Nat} {x : DataW H × List MemPlace} (hl : cs.length = 7) (h : DataW.trod enc Try.prog W 0 (fun _ => true) true fuel 73 cs = some x) :
    ∃ (z0 : Bool) (z1 : Int) (z2 : Int) (z3 : Int) (z4 : Int) (z5 : Bool) (z6 : ByteArray), cs = [.bool z0, .int .i64 z1, .int .i64 z2, .int .i64 z3, .int .u64 z4, .bool z5, .string z6] ∧ True ∧ R64 z1 ∧ R64 z2 ∧ R64 z3 ∧ (0 ≤ z4 ∧ z4 < 18446744073709551616) ∧ True ∧ z6.size ≤ 9223372036854775807 := by
  obtain ⟨c0, c1, c2, c3, c4, c5, c6, rfl⟩ : ∃ c0 c1 c2 c3 c4 c5 c6, cs = [c0, c1, c2, c3, c4, c5, c6] := by
    match cs, hl with
    | [c0, c1, c2, c3, c4, c5, c6], _ => exact ⟨c0, c1, c2, c3, c4, c5, c6, rfl⟩
  obtain ⟨xs, n, _, _, _, hx, hf⟩ := DataW.trod_struct Try.underlying73 h
  have hxn : xs.length = 5 := hx
  have y0 : Try.prog.cellsOf 4 = 1 := by kernel_rfl
  have y1 : Try.prog.cellsOf 71 = 3 := by kernel_rfl
  have y2 : Try.prog.cellsOf 22 = 1 := by kernel_rfl
  have y3 : Try.prog.cellsOf 9 = 1 := by kernel_rfl
  have f0 := hf 0 _ rfl
  have f1 := hf 1 _ rfl
  have f2 := hf 2 _ rfl
  have f3 := hf 3 _ rfl
  have f4 := hf 4 _ rfl
  rw [List.getElem?_eq_getElem (by omega)] at f0 f1 f2 f3 f4
  obtain ⟨v0, e0, _⟩ := DataW.trod_bool Try.underlying4 f0
  have g0 : c0 = .bool v0 := by simpa [y0, y1, y2, y3] using e0
  obtain ⟨v1_0, v1_1, v1_2, e1, k1_0, k1_1, k1_2⟩ := rd_slot_1 (by simp [y0, y1, y2, y3]) f1
  have g1 : c1 = .int .i64 v1_0 ∧ c2 = .int .i64 v1_1 ∧ c3 = .int .i64 v1_2 := by simpa [y0, y1, y2, y3] using e1
  obtain ⟨g1_0, g1_1, g1_2⟩ := g1
  obtain ⟨v2, e2, _, w2⟩ := DataW.trod_int Try.underlying22 f2
  have g2 : c4 = .int .u64 v2 := by simpa [y0, y1, y2, y3] using e2
  obtain ⟨v3, e3, _⟩ := DataW.trod_bool Try.underlying4 f3
  have g3 : c5 = .bool v3 := by simpa [y0, y1, y2, y3] using e3
  obtain ⟨v4, e4, _, w4⟩ := DataW.trod_string Try.underlying9 f4
  have g4 : c6 = .string v4 := by simpa [y0, y1, y2, y3] using e4
  exact ⟨v0, v1_0, v1_1, v1_2, v2, v3, v4, by rw [g0, g1_0, g1_1, g1_2, g2, g3, g4], trivial, k1_0, k1_1, k1_2, ⟨(wf_u64 w2).1, by have := (wf_u64 w2).2; omega⟩, trivial, (by simpa [maxLen] using w4)⟩
set_option maxRecDepth 100000 in
theorem rd_slotW {base : Nat} {v : Value} {fuel : Nat} {x : DataW H × List MemPlace} (hv : Value.okWide Try.prog W .any base 73 v) (h : DataW.trod enc Try.prog W 0 (fun _ => true) true fuel 73 v.cells.toList = some x) :
    ∃ (z0 : Bool) (z1 : Int) (z2 : Int) (z3 : Int) (z4 : Int) (z5 : Bool) (z6 : ByteArray), v = .agg #[.bool z0, .int .i64 z1, .int .i64 z2, .int .i64 z3, .int .u64 z4, .bool z5, .string z6] ∧ True ∧ R64 z1 ∧ R64 z2 ∧ R64 z3 ∧ (0 ≤ z4 ∧ z4 < 18446744073709551616) ∧ True ∧ z6.size ≤ 9223372036854775807 := by
  obtain ⟨csA, rfl, hs⟩ := okWide_struct Try.underlying73 hv
  have hn : Try.prog.cellsOf 73 = 7 := by kernel_rfl
  obtain ⟨cs, rfl⟩ : ∃ cs : List Value, csA = cs.toArray := ⟨csA.toList, by simp⟩
  have hl : cs.length = 7 := by rw [hn] at hs; simpa using hs
  obtain ⟨z0, z1, z2, z3, z4, z5, z6, rfl, hq⟩ := rd_slot hl h
  exact ⟨z0, z1, z2, z3, z4, z5, z6, rfl, hq⟩
def Sl.v (x : Sl) : Value := .agg #[.bool x.us, .int .i64 x.io, .int .i64 x.gn, .int .i64 x.pl, .int .u64 x.ve, .bool x.di, .string x.da]
set_option maxRecDepth 100000 in
theorem read_slot {base : Nat} {v : Value} {fuel : Nat} {x : DataW H × List MemPlace} (hv : Value.okWide Try.prog W .any base 73 v) (h : DataW.trod enc Try.prog W 0 (fun _ => true) true fuel 73 v.cells.toList = some x) :
    ∃ d : Sl, v = d.v ∧ d.ok := by
  obtain ⟨z0, z1, z2, z3, z4, z5, z6, rfl, _, k1, k2, k3, k4, _, _⟩ := rd_slotW hv h
  exact ⟨⟨z0, z1, z2, z3, z4, z5, z6⟩, rfl, ⟨k1, k2, k3, k4⟩⟩
end
theorem slotEncodes_calls (x : Sl) (W : World) (h : x.ok) : Calls Try.prog 9 #[x.v] W fun e w' => e = .returned (.bool true) ∧ Below W.heap.size W w' := by
  refine (lawE_c x.us x.io x.gn x.pl x.ve x.di x.da h.hve W).mono fun e w' hh => ⟨?_, hh.2.below⟩
  rw [hh.1, encB_true (x := ⟨x.us, x.io, x.gn, x.pl, x.ve, x.di, shortT x.da 70⟩) ⟨h.hio, h.hgn, h.hpl, h.hve⟩]
theorem slotBack_calls (x : Sl) (ao : Option Addr) (cap : Nat) (l : List UInt8) (W : World) (h : x.ok) (hb : Bs W (.slice ao l.length cap) l) : Calls Try.prog 11 #[x.v, .slice ao l.length cap] W fun e w' => e = .returned (.bool true) ∧ Below W.heap.size W w' := by
  refine (lawB_c x.us x.io x.gn x.pl x.ve x.di x.da l h.hve (enc_long _) (fun m => (decS_ok m).hve) W _ hb).mono fun e w' hh => ⟨?_, hh.2.below⟩
  rw [hh.1, bakB_true (x := ⟨x.us, x.io, x.gn, x.pl, x.ve, x.di, shortT x.da 70⟩) ⟨h.hio, h.hgn, h.hpl, h.hve⟩]
end Go.Proofs.Ytophabekaicdeaa

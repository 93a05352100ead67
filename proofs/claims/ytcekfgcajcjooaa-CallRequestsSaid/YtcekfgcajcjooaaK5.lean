/- calls: reading. -/
import Derived.Test.YtcekfgcajcjooaaK4
import Derived.Test.YtcekfgcajcjooaaOpen


set_option linter.unusedVariables false
set_option linter.unusedSimpArgs false
namespace Go.Proofs.Ytcekfgcajcjooaa
open Go.RowKit Go.ChangeShapes Go.WideShapes Go.ChangeAt

def R64 (n : Int) : Prop := -9223372036854775808 ≤ n ∧ n ≤ 9223372036854775807
section
variable {H : Type} {enc : TypeId × Value → H} {W : World}
set_option maxRecDepth 100000 in
theorem rd_call_1 {cs : List Value} {fuel : Nat} {x : DataW H × List MemPlace} (hl : cs.length = 2) (h : DataW.trod enc Try.prog W 0 (fun _ => true) true fuel 23 cs = some x) :
    ∃ (z0 : Int) (z1 : Int), cs = [.int .i64 z0, .int .i64 z1] ∧ R64 z0 ∧ R64 z1 := by
  obtain ⟨c0, c1, rfl⟩ : ∃ c0 c1, cs = [c0, c1] := by
    match cs, hl with
    | [c0, c1], _ => exact ⟨c0, c1, rfl⟩
  obtain ⟨xs, n, _, _, _, hx, hf⟩ := DataW.trod_struct Try.underlying23 h
  have hxn : xs.length = 2 := hx
  have y0 : Try.prog.cellsOf 3 = 1 := by kernel_rfl
  have f0 := hf 0 _ rfl
  have f1 := hf 1 _ rfl
  rw [List.getElem?_eq_getElem (by omega)] at f0 f1
  obtain ⟨v0, e0, _, w0⟩ := DataW.trod_int Try.underlying3 f0
  have g0 : c0 = .int .i64 v0 := by simpa [y0] using e0
  obtain ⟨v1, e1, _, w1⟩ := DataW.trod_int Try.underlying3 f1
  have g1 : c1 = .int .i64 v1 := by simpa [y0] using e1
  exact ⟨v0, v1, by rw [g0, g1], wf_i64 w0, wf_i64 w1⟩
set_option maxRecDepth 100000 in
theorem rd_call {cs : List Value} {fuel : Nat} {x : DataW H × List MemPlace} (hl : cs.length = 9) (h : DataW.trod enc Try.prog W 0 (fun _ => true) true fuel 25 cs = some x) :
    ∃ (z0 : Int) (z1 : Int) (z2 : Int) (z3 : Int) (z4 : Int) (z5 : ByteArray) (z6 : ByteArray) (z7 : Int) (z8 : ByteArray), cs = [.int .i64 z0, .int .i64 z1, .int .i64 z2, .int .i64 z3, .int .i64 z4, .string z5, .string z6, .int .i64 z7, .string z8] ∧ R64 z0 ∧ R64 z1 ∧ R64 z2 ∧ R64 z3 ∧ R64 z4 ∧ z5.size ≤ 9223372036854775807 ∧ z6.size ≤ 9223372036854775807 ∧ R64 z7 ∧ z8.size ≤ 9223372036854775807 := by
  obtain ⟨c0, c1, c2, c3, c4, c5, c6, c7, c8, rfl⟩ : ∃ c0 c1 c2 c3 c4 c5 c6 c7 c8, cs = [c0, c1, c2, c3, c4, c5, c6, c7, c8] := by
    match cs, hl with
    | [c0, c1, c2, c3, c4, c5, c6, c7, c8], _ => exact ⟨c0, c1, c2, c3, c4, c5, c6, c7, c8, rfl⟩
  obtain ⟨xs, n, _, _, _, hx, hf⟩ := DataW.trod_struct Try.underlying25 h
  have hxn : xs.length = 7 := hx
  have y0 : Try.prog.cellsOf 3 = 1 := by kernel_rfl
  have y1 : Try.prog.cellsOf 23 = 2 := by kernel_rfl
  have y2 : Try.prog.cellsOf 9 = 1 := by kernel_rfl
  have f0 := hf 0 _ rfl
  have f1 := hf 1 _ rfl
  have f2 := hf 2 _ rfl
  have f3 := hf 3 _ rfl
  have f4 := hf 4 _ rfl
  have f5 := hf 5 _ rfl
  have f6 := hf 6 _ rfl
  rw [List.getElem?_eq_getElem (by omega)] at f0 f1 f2 f3 f4 f5 f6
  obtain ⟨v0, e0, _, w0⟩ := DataW.trod_int Try.underlying3 f0
  have g0 : c0 = .int .i64 v0 := by simpa [y0, y1, y2] using e0
  obtain ⟨v1_0, v1_1, e1, k1_0, k1_1⟩ := rd_call_1 (by simp [y0, y1, y2]) f1
  have g1 : c1 = .int .i64 v1_0 ∧ c2 = .int .i64 v1_1 := by simpa [y0, y1, y2] using e1
  obtain ⟨g1_0, g1_1⟩ := g1
  obtain ⟨v2_0, v2_1, e2, k2_0, k2_1⟩ := rd_call_1 (by simp [y0, y1, y2]) f2
  have g2 : c3 = .int .i64 v2_0 ∧ c4 = .int .i64 v2_1 := by simpa [y0, y1, y2] using e2
  obtain ⟨g2_0, g2_1⟩ := g2
  obtain ⟨v3, e3, _, w3⟩ := DataW.trod_string Try.underlying9 f3
  have g3 : c5 = .string v3 := by simpa [y0, y1, y2] using e3
  obtain ⟨v4, e4, _, w4⟩ := DataW.trod_string Try.underlying9 f4
  have g4 : c6 = .string v4 := by simpa [y0, y1, y2] using e4
  obtain ⟨v5, e5, _, w5⟩ := DataW.trod_int Try.underlying3 f5
  have g5 : c7 = .int .i64 v5 := by simpa [y0, y1, y2] using e5
  obtain ⟨v6, e6, _, w6⟩ := DataW.trod_string Try.underlying9 f6
  have g6 : c8 = .string v6 := by simpa [y0, y1, y2] using e6
  exact ⟨v0, v1_0, v1_1, v2_0, v2_1, v3, v4, v5, v6, by rw [g0, g1_0, g1_1, g2_0, g2_1, g3, g4, g5, g6], wf_i64 w0, k1_0, k1_1, k2_0, k2_1, (by simpa [maxLen] using w3), (by simpa [maxLen] using w4), wf_i64 w5, (by simpa [maxLen] using w6)⟩
set_option maxRecDepth 100000 in
theorem rd_callW {base : Nat} {v : Value} {fuel : Nat} {x : DataW H × List MemPlace} (hv : Value.okWide Try.prog W .any base 25 v) (h : DataW.trod enc Try.prog W 0 (fun _ => true) true fuel 25 v.cells.toList = some x) :
    ∃ (z0 : Int) (z1 : Int) (z2 : Int) (z3 : Int) (z4 : Int) (z5 : ByteArray) (z6 : ByteArray) (z7 : Int) (z8 : ByteArray), v = .agg #[.int .i64 z0, .int .i64 z1, .int .i64 z2, .int .i64 z3, .int .i64 z4, .string z5, .string z6, .int .i64 z7, .string z8] ∧ R64 z0 ∧ R64 z1 ∧ R64 z2 ∧ R64 z3 ∧ R64 z4 ∧ z5.size ≤ 9223372036854775807 ∧ z6.size ≤ 9223372036854775807 ∧ R64 z7 ∧ z8.size ≤ 9223372036854775807 := by
  obtain ⟨csA, rfl, hs⟩ := okWide_struct Try.underlying25 hv
  have hn : Try.prog.cellsOf 25 = 9 := by kernel_rfl
  obtain ⟨cs, rfl⟩ : ∃ cs : List Value, csA = cs.toArray := ⟨csA.toList, by simp⟩
  have hl : cs.length = 9 := by rw [hn] at hs; simpa using hs
  obtain ⟨z0, z1, z2, z3, z4, z5, z6, z7, z8, rfl, hq⟩ := rd_call hl h
  exact ⟨z0, z1, z2, z3, z4, z5, z6, z7, z8, rfl, hq⟩
set_option maxRecDepth 100000 in
theorem read_call {base : Nat} {v : Value} {fuel : Nat} {x : DataW H × List MemPlace} (hv : Value.okWide Try.prog W .any base 25 v) (h : DataW.trod enc Try.prog W 0 (fun _ => true) true fuel 25 v.cells.toList = some x) :
    ∃ d : CC, v = d.agg ∧ d.ok := by
  obtain ⟨z0, z1, z2, z3, z4, z5, z6, z7, z8, rfl, k0, _, _, _, _, k5, k6, _, _⟩ := rd_callW hv h
  exact ⟨⟨z0, z1, z2, z3, z4, z5, z6, z7, z8⟩, rfl, ⟨k0, k5, k6⟩⟩
end
end Go.Proofs.Ytcekfgcajcjooaa

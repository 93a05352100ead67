/- blocks: reading. -/
import Derived.Test.YtophabekaicdeaaV11
import Derived.Test.YtophabekaicdeaaOpen


set_option linter.unusedVariables false
set_option linter.unusedSimpArgs false
namespace Go.Proofs.Ytophabekaicdeaa
open Go.RowKit Go.ChangeShapes Go.WideShapes Go.ChangeAt

section
variable {H : Type} {enc : TypeId × Value → H} {W : World}
set_option maxRecDepth 100000 in
theorem rd_blk_0 {cs : List Value} {fuel : Nat} {x : DataW H × List MemPlace} (hl : cs.length = 2) (h : DataW.trod enc Try.prog W 0 (fun _ => true) true fuel 69 cs = some x) :
    ∃ (z0 : Int) (z1 : Int), cs = [.int .i64 z0, .int .i64 z1] ∧ R64 z0 ∧ R64 z1 := by
  obtain ⟨c0, c1, rfl⟩ : ∃ c0 c1, cs = [c0, c1] := by
    match cs, hl with
    | [c0, c1], _ => exact ⟨c0, c1, rfl⟩
  obtain ⟨xs, n, _, _, _, hx, hf⟩ := DataW.trod_struct Try.underlying69 h
  have hxn : xs.length = 2 := hx
  have y0 : Try.prog.cellsOf 3 = 1 := by kernel_rfl
  have f0 := hf 0 _ rfl
  have f1 := hf 1 _ rfl
  rw [List.getElem?_eq_getElem (by omega)] at f0 f1
  obtain ⟨v0, e0, _, w0⟩ := DataW.trod_int Try.underlying3 f0
  have g0 : c0 = .int .i64 v0 := by simpa [y0] using e0
  obtain ⟨v1, e1, _, w1⟩ := DataW.trod_int Try.underlying3 f1
  have g1 : c1 = .int .i64 v1 := by simpa [y0] using e1
  exact ⟨v0, v1, by rw [g0, g1], wf_i64 w0, wf_i64 w1⟩
set_option maxRecDepth 100000 in
theorem rd_blk {cs : List Value} {fuel : Nat} {x : DataW H × List MemPlace} (hl : cs.length = 3) (h : DataW.trod enc Try.prog W 0 (fun _ => true) true fuel 71 cs = some x) :
    ∃ (z0 : Int) (z1 : Int) (z2 : Int), cs = [.int .i64 z0, .int .i64 z1, .int .i64 z2] ∧ R64 z0 ∧ R64 z1 ∧ R64 z2 := by
  obtain ⟨c0, c1, c2, rfl⟩ : ∃ c0 c1 c2, cs = [c0, c1, c2] := by
    match cs, hl with
    | [c0, c1, c2], _ => exact ⟨c0, c1, c2, rfl⟩
  obtain ⟨xs, n, _, _, _, hx, hf⟩ := DataW.trod_struct Try.underlying71 h
  have hxn : xs.length = 2 := hx
  have y0 : Try.prog.cellsOf 69 = 2 := by kernel_rfl
  have y1 : Try.prog.cellsOf 3 = 1 := by kernel_rfl
  have f0 := hf 0 _ rfl
  have f1 := hf 1 _ rfl
  rw [List.getElem?_eq_getElem (by omega)] at f0 f1
  obtain ⟨v0_0, v0_1, e0, k0_0, k0_1⟩ := rd_blk_0 (by simp [y0, y1]) f0
  have g0 : c0 = .int .i64 v0_0 ∧ c1 = .int .i64 v0_1 := by simpa [y0, y1] using e0
  obtain ⟨g0_0, g0_1⟩ := g0
  obtain ⟨v1, e1, _, w1⟩ := DataW.trod_int Try.underlying3 f1
  have g1 : c2 = .int .i64 v1 := by simpa [y0, y1] using e1
  exact ⟨v0_0, v0_1, v1, by rw [g0_0, g0_1, g1], k0_0, k0_1, wf_i64 w1⟩
set_option maxRecDepth 100000 in
theorem rd_blkW {base : Nat} {v : Value} {fuel : Nat} {x : DataW H × List MemPlace} (hv : Value.okWide Try.prog W .any base 71 v) (h : DataW.trod enc Try.prog W 0 (fun _ => true) true fuel 71 v.cells.toList = some x) :
    ∃ (z0 : Int) (z1 : Int) (z2 : Int), v = .agg #[.int .i64 z0, .int .i64 z1, .int .i64 z2] ∧ R64 z0 ∧ R64 z1 ∧ R64 z2 := by
  obtain ⟨csA, rfl, hs⟩ := okWide_struct Try.underlying71 hv
  have hn : Try.prog.cellsOf 71 = 3 := by kernel_rfl
  obtain ⟨cs, rfl⟩ : ∃ cs : List Value, csA = cs.toArray := ⟨csA.toList, by simp⟩
  have hl : cs.length = 3 := by rw [hn] at hs; simpa using hs
  obtain ⟨z0, z1, z2, rfl, hq⟩ := rd_blk hl h
  exact ⟨z0, z1, z2, rfl, hq⟩
set_option maxRecDepth 100000 in
theorem read_blk {base : Nat} {v : Value} {fuel : Nat} {x : DataW H × List MemPlace} (hv : Value.okWide Try.prog W .any base 71 v) (h : DataW.trod enc Try.prog W 0 (fun _ => true) true fuel 71 v.cells.toList = some x) :
    ∃ d : Bk, v = d.v ∧ True := by
  obtain ⟨z0, z1, z2, rfl, _, _, _⟩ := rd_blkW hv h
  exact ⟨⟨z0, z1, z2⟩, rfl, trivial⟩
end
end Go.Proofs.Ytophabekaicdeaa

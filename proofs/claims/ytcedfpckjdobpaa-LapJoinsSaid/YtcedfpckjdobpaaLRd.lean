/- How a piece, a row of pieces are read. -/
import Derived.Test.YtcedfpckjdobpaaL5
import Derived.Test.YtcedfpckjdobpaaOpen
set_option linter.unusedVariables false
set_option linter.unusedSimpArgs false
namespace Go.Proofs.Ytcedfpckjdobpaa
open Go.RowKit Go.ChangeShapes Go.WideShapes Go.ChangeAt

def Pc.wf (p : Pc) : Prop := p.ep < 18446744073709551616 ∧ p.ct < 18446744073709551616
def Pc.cells (p : Pc) (v : Value) : List Value := [.int .u64 (p.ep : Int), .int .u64 (p.ct : Int), .bool p.fi, .bool p.la, v]
/-- A row of pieces that reads. -/
def Pcs (W : World) (v : Value) (ps : List (Pc × Value)) : Prop :=
  ∃ ao cap, v = .slice ao ps.length cap ∧ ps.length ≤ cap ∧ cap ≤ 9223372036854775807 ∧
    ∀ (k : Nat) d, ps[k]? = some d → d.1.wf ∧ Bs W d.2 d.1.d ∧ ∃ b o, ao = some ⟨b, o, none⟩ ∧ W.cell? ⟨b, o + k * 5, none⟩ = some (.int .u64 (d.1.ep : Int)) ∧ W.cell? ⟨b, o + k * 5 + 1, none⟩ = some (.int .u64 (d.1.ct : Int)) ∧
      W.cell? ⟨b, o + k * 5 + 2, none⟩ = some (.bool d.1.fi) ∧ W.cell? ⟨b, o + k * 5 + 3, none⟩ = some (.bool d.1.la) ∧ W.cell? ⟨b, o + k * 5 + 4, none⟩ = some d.2

section
variable {H : Type} {enc : TypeId × Value → H} {W : World}
theorem read_pc {cs : List Value} {fuel : Nat} {x : DataW H × List MemPlace} (hl : cs.length = 5) (h : DataW.trod enc Try.prog W 0 (fun _ => true) true fuel 31 cs = some x) :
    ∃ d : Pc × Value, cs = d.1.cells d.2 ∧ d.1.wf ∧ Bs W d.2 d.1.d := by
  obtain ⟨c0, c1, c2, c3, c4, rfl⟩ : ∃ a b c e f, cs = [a, b, c, e, f] := by
    match cs, hl with
    | [a, b, c, e, f], _ => exact ⟨a, b, c, e, f, rfl⟩
  obtain ⟨xs, n, _, _, _, hx, hf⟩ := DataW.trod_struct Try.underlying31 h
  have hx4 : xs.length = 5 := hx
  have f0 := hf 0 _ rfl
  have f1 := hf 1 _ rfl
  have f2 := hf 2 _ rfl
  have f3 := hf 3 _ rfl
  have f4 := hf 4 _ rfl
  rw [List.getElem?_eq_getElem (by omega)] at f0 f1 f2 f3 f4
  obtain ⟨k, e0, _, w0⟩ := DataW.trod_int Try.underlying22 f0
  obtain ⟨t, e1, _, w1⟩ := DataW.trod_int Try.underlying22 f1
  obtain ⟨i, e2, _⟩ := DataW.trod_bool Try.underlying4 f2
  obtain ⟨j, e3, _⟩ := DataW.trod_bool Try.underlying4 f3
  obtain ⟨ao, cap, l, e4, hb⟩ := read_bytes Try.underlying29 Try.underlying5 (by kernel_rfl) f4
  have cb : Try.prog.cellsOf 4 = 1 := by kernel_rfl
  have cu : Try.prog.cellsOf 22 = 1 := by kernel_rfl
  have cz : Try.prog.cellsOf 29 = 1 := by kernel_rfl
  have g0 : c0 = .int .u64 k := by simpa [cu] using e0
  have g1 : c1 = .int .u64 t := by simpa [cu] using e1
  have g2 : c2 = .bool i := by simpa [cb] using e2
  have g3 : c3 = .bool j := by simpa [cb] using e3
  have g4 : c4 = .slice ao l.length cap := by simpa [cz] using e4
  subst g0; subst g1; subst g2; subst g3; subst g4
  have r0 := wf_u64 w0
  have r1 := wf_u64 w1
  refine ⟨(⟨k.toNat, t.toNat, i, j, l⟩, .slice ao l.length cap), ?_, ⟨by simp only; omega, by simp only; omega⟩, hb⟩
  simp only [Pc.cells]
  rw [Int.toNat_of_nonneg r0.1, Int.toNat_of_nonneg r1.1]

theorem read_pcv {base : Nat} {v : Value} {fuel : Nat} {x : DataW H × List MemPlace} (hv : Value.okWide Try.prog W .any base 31 v) (h : DataW.trod enc Try.prog W 0 (fun _ => true) true fuel 31 v.cells.toList = some x) :
    ∃ d : Pc × Value, v = d.1.agg d.2 ∧ d.1.wf ∧ Bs W d.2 d.1.d := by
  obtain ⟨cs, rfl, hs⟩ := okWide_struct Try.underlying31 hv
  have h5 : Try.prog.cellsOf 31 = 5 := by kernel_rfl
  obtain ⟨d, hd, h1⟩ := read_pc (cs := cs.toList) (by rw [Array.length_toList, hs, h5]) h
  refine ⟨d, ?_, h1⟩
  unfold Pc.agg
  have : cs = (d.1.cells d.2).toArray := by rw [← hd]
  rw [this]
  rfl

theorem read_pcs {cs : List Value} {fuel : Nat} {x : DataW H × List MemPlace} (h : DataW.trod enc Try.prog W 0 (fun _ => true) true fuel 57 cs = some x) : ∃ v ds, cs = [v] ∧ Pcs W v ds := by
  obtain ⟨ao, len, cap, rfl, h1, h2, _, h4⟩ := read_slice (c := 5) Try.underlying57 (by kernel_rfl) (by decide) h
  obtain ⟨ds, hl, hd⟩ := list_of_lt (p := fun i (d : Pc × Value) => d.1.wf ∧ Bs W d.2 d.1.d ∧ ∃ b o, ao = some ⟨b, o, none⟩ ∧ W.cell? ⟨b, o + i * 5, none⟩ = some (.int .u64 (d.1.ep : Int)) ∧ W.cell? ⟨b, o + i * 5 + 1, none⟩ = some (.int .u64 (d.1.ct : Int)) ∧
      W.cell? ⟨b, o + i * 5 + 2, none⟩ = some (.bool d.1.fi) ∧ W.cell? ⟨b, o + i * 5 + 3, none⟩ = some (.bool d.1.la) ∧ W.cell? ⟨b, o + i * 5 + 4, none⟩ = some d.2) len fun i hi => by
    obtain ⟨b, o, cs', f, y, e1, e2, e3, e4⟩ := h4 i hi
    obtain ⟨d, rfl, hw, hb⟩ := read_pc e2 e4
    exact ⟨d, hw, hb, b, o, e1, e3 0 (by decide), e3 1 (by decide), e3 2 (by decide), e3 3 (by decide), e3 4 (by decide)⟩
  exact ⟨_, ds, rfl, ao, cap, by rw [hl], by omega, h2, hd⟩
end

end Go.Proofs.Ytcedfpckjdobpaa

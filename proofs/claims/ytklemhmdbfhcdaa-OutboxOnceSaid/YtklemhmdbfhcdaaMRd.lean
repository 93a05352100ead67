/- How a message is read. -/
import Derived.Test.YtklemhmdbfhcdaaM17
import Derived.Test.YtklemhmdbfhcdaaOpen


set_option linter.unusedVariables false
set_option linter.unusedSimpArgs false
namespace Go.Proofs.Ytklemhmdbfhcdaa
open Go.RowKit Go.ChangeShapes Go.WideShapes Go.ChangeAt

section
variable {H : Type} {enc : TypeId × Value → H} {W : World}
theorem read_file {cs : List Value} {fuel : Nat} {x : DataW H × List MemPlace} (hl : cs.length = 2) (h : DataW.trod enc Try.prog W 0 (fun _ => true) true fuel 30 cs = some x) :
    ∃ a b : Int, cs = [.int .i64 a, .int .i64 b] := by
  obtain ⟨c0, c1, rfl⟩ : ∃ a b, cs = [a, b] := by
    match cs, hl with
    | [a, b], _ => exact ⟨a, b, rfl⟩
  obtain ⟨xs, n, _, _, _, hx, hf⟩ := DataW.trod_struct Try.underlying30 h
  have hx4 : xs.length = 2 := hx
  have f0 := hf 0 _ rfl
  have f1 := hf 1 _ rfl
  rw [List.getElem?_eq_getElem (by omega)] at f0 f1
  obtain ⟨k, e0, _, _⟩ := DataW.trod_int Try.underlying3 f0
  obtain ⟨t, e1, _, _⟩ := DataW.trod_int Try.underlying3 f1
  have ci : Try.prog.cellsOf 3 = 1 := by kernel_rfl
  have g0 : c0 = .int .i64 k := by simpa [ci] using e0
  have g1 : c1 = .int .i64 t := by simpa [ci] using e1
  exact ⟨k, t, by rw [g0, g1]⟩
theorem read_ent {cs : List Value} {fuel : Nat} {x : DataW H × List MemPlace} (hl : cs.length = 4) (h : DataW.trod enc Try.prog W 0 (fun _ => true) true fuel 57 cs = some x) :
    ∃ d : Ent, cs = d.cells := by
  obtain ⟨c0, c1, c2, c3, rfl⟩ : ∃ a b c e, cs = [a, b, c, e] := by
    match cs, hl with
    | [a, b, c, e], _ => exact ⟨a, b, c, e, rfl⟩
  obtain ⟨xs, n, _, _, _, hx, hf⟩ := DataW.trod_struct Try.underlying57 h
  have hx4 : xs.length = 3 := hx
  have f0 := hf 0 _ rfl
  have f1 := hf 1 _ rfl
  have f2 := hf 2 _ rfl
  rw [List.getElem?_eq_getElem (by omega)] at f0 f1 f2
  have ci : Try.prog.cellsOf 3 = 1 := by kernel_rfl
  have cf : Try.prog.cellsOf 30 = 2 := by kernel_rfl
  have cz : Try.prog.cellsOf 9 = 1 := by kernel_rfl
  obtain ⟨s, e0, _⟩ := DataW.trod_string Try.underlying9 f0
  obtain ⟨a, b, e1⟩ := read_file (by simp [cf]) f1
  obtain ⟨k, e2, _, _⟩ := DataW.trod_int Try.underlying3 f2
  have g0 : c0 = .string s := by simpa [cz] using e0
  have g1 : c1 = .int .i64 a ∧ c2 = .int .i64 b := by simpa [cf] using e1
  have g2 : c3 = .int .i64 k := by simpa [ci] using e2
  exact ⟨⟨s, a, b, k⟩, by rw [g0, g1.1, g1.2, g2]; rfl⟩
theorem read_es {cs : List Value} {fuel : Nat} {x : DataW H × List MemPlace} (h : DataW.trod enc Try.prog W 0 (fun _ => true) true fuel 31 cs = some x) : ∃ v l, cs = [v] ∧ Es W v l := by
  obtain ⟨ao, len, cap, rfl, h1, h2, h3, h4⟩ := read_slice (c := 4) Try.underlying31 (by kernel_rfl) (by decide) h
  obtain ⟨ds, hl, hd⟩ := list_of_lt (p := fun i (d : Ent) => ∃ b o, ao = some ⟨b, o, none⟩ ∧ ∀ j, j < 4 → W.cell? ⟨b, o + i * 4 + j, none⟩ = d.cells[j]?) len fun i hi => by
    obtain ⟨b, o, cs', f, y, e1, e2, e3, e4⟩ := h4 i hi
    obtain ⟨d, rfl⟩ := read_ent e2 e4
    exact ⟨d, b, o, e1, e3⟩
  have at' : ∀ i, i < len → ∃ b o, ao = some ⟨b, o, none⟩ ∧ ∀ j, j < 4 → W.cell? ⟨b, o + i * 4 + j, none⟩ = (entAt ds i).cells[j]? := fun i hi => by
    refine hd i (entAt ds i) ?_
    rw [entAt, List.getD_eq_getElem?_getD, List.getElem?_eq_getElem (by omega)]; rfl
  refine ⟨_, ds, rfl, ao, cap, by rw [show (entKS ds).n = len from hl], by rw [show (entKS ds).n = len from hl]; exact h1, h2, h3, fun a ha => ⟨fun hn => ?_, fun i hi j p hp => ?_⟩⟩
  · obtain ⟨b, o, e, _⟩ := at' 0 (by have : (entKS ds).n = len := hl; omega)
    rw [ha] at e; cases e; rfl
  · obtain ⟨b, o, e, hc⟩ := at' i (by have : (entKS ds).n = len := hl; omega)
    rw [ha] at e; cases e
    simp only [entKS] at hp
    match j, hp with
    | 0, hp => simp at hp; subst hp; exact ⟨_, hc 0 (by decide), rfl⟩
    | 1, hp => simp at hp; subst hp; exact ⟨_, (by have := hc 1 (by decide); rwa [Nat.add_assoc] at this), rfl⟩
    | 2, hp => simp at hp; subst hp; exact ⟨_, (by have := hc 2 (by decide); rwa [Nat.add_assoc] at this), rfl⟩
    | 3, hp => simp at hp; subst hp; exact ⟨_, (by have := hc 3 (by decide); rwa [Nat.add_assoc] at this), rfl⟩
    | j + 4, hp => simp at hp
def Msg.vals (m : Msg) (v : Value) : List Value := [.int .i64 m.ty, .int .i64 m.cl, .int .u64 m.ss, .int .u64 m.sq, .int .u64 m.bo, .int .i64 m.kd, .int .i64 m.er, .int .i64 m.f1, .int .i64 m.f2, .int .i64 m.d1, .int .i64 m.d2, .string m.nm, .string m.ot, .int .i64 m.mo, .int .i64 m.pl, .string m.da, .int .u64 m.ve, v]
theorem read_msg {base : Nat} {v : Value} {fuel : Nat} {x : DataW H × List MemPlace} (hv : Value.okWide Try.prog W .any base 33 v) (h : DataW.trod enc Try.prog W 0 (fun _ => true) true fuel 33 v.cells.toList = some x) :
    ∃ d : Msg × Value, v = .agg (d.1.vals d.2).toArray ∧ Es W d.2 d.1.en := by
  obtain ⟨csA, rfl, hs⟩ := okWide_struct Try.underlying33 hv
  have h18 : Try.prog.cellsOf 33 = 18 := by kernel_rfl
  obtain ⟨cs, rfl⟩ : ∃ cs : List Value, csA = cs.toArray := ⟨csA.toList, by simp⟩
  have hl : cs.length = 18 := by rw [h18] at hs; simpa using hs
  replace h : DataW.trod enc Try.prog W 0 (fun _ => true) true fuel 33 cs = some x := h
  obtain ⟨c0, c1, c2, c3, c4, c5, c6, c7, c8, c9, c10, c11, c12, c13, c14, c15, c16, c17, rfl⟩ : ∃ c0 c1 c2 c3 c4 c5 c6 c7 c8 c9 c10 c11 c12 c13 c14 c15 c16 c17, cs = [c0, c1, c2, c3, c4, c5, c6, c7, c8, c9, c10, c11, c12, c13, c14, c15, c16, c17] := by
    match cs, hl with
    | [c0, c1, c2, c3, c4, c5, c6, c7, c8, c9, c10, c11, c12, c13, c14, c15, c16, c17], _ => exact ⟨c0, c1, c2, c3, c4, c5, c6, c7, c8, c9, c10, c11, c12, c13, c14, c15, c16, c17, rfl⟩
  obtain ⟨xs, n, _, _, _, hx, hf⟩ := DataW.trod_struct Try.underlying33 h
  have hx4 : xs.length = 16 := hx
  have z0 : Try.prog.cellsOf 31 = 1 := by kernel_rfl
  have z1 : Try.prog.cellsOf 24 = 1 := by kernel_rfl
  have z2 : Try.prog.cellsOf 30 = 2 := by kernel_rfl
  have z3 : Try.prog.cellsOf 3 = 1 := by kernel_rfl
  have z4 : Try.prog.cellsOf 9 = 1 := by kernel_rfl
  have z5 : Try.prog.cellsOf 28 = 1 := by kernel_rfl
  have f0 := hf 0 _ rfl
  have f1 := hf 1 _ rfl
  have f2 := hf 2 _ rfl
  have f3 := hf 3 _ rfl
  have f4 := hf 4 _ rfl
  have f5 := hf 5 _ rfl
  have f6 := hf 6 _ rfl
  have f7 := hf 7 _ rfl
  have f8 := hf 8 _ rfl
  have f9 := hf 9 _ rfl
  have f10 := hf 10 _ rfl
  have f11 := hf 11 _ rfl
  have f12 := hf 12 _ rfl
  have f13 := hf 13 _ rfl
  have f14 := hf 14 _ rfl
  have f15 := hf 15 _ rfl
  rw [List.getElem?_eq_getElem (by omega)] at f0 f1 f2 f3 f4 f5 f6 f7 f8 f9 f10 f11 f12 f13 f14 f15
  obtain ⟨x0, e0, _, _⟩ := DataW.trod_int Try.underlying3 f0
  have g0 : c0 = .int .i64 x0 := by simpa [z3] using e0
  obtain ⟨x1, e1, _, _⟩ := DataW.trod_int Try.underlying3 f1
  have g1 : c1 = .int .i64 x1 := by simpa [z3] using e1
  obtain ⟨x2, e2, _, _⟩ := DataW.trod_int Try.underlying28 f2
  have g2 : c2 = .int .u64 x2 := by simpa [z5] using e2
  obtain ⟨x3, e3, _, _⟩ := DataW.trod_int Try.underlying28 f3
  have g3 : c3 = .int .u64 x3 := by simpa [z5] using e3
  obtain ⟨x4, e4, _, _⟩ := DataW.trod_int Try.underlying28 f4
  have g4 : c4 = .int .u64 x4 := by simpa [z5] using e4
  obtain ⟨x5, e5, _, _⟩ := DataW.trod_int Try.underlying3 f5
  have g5 : c5 = .int .i64 x5 := by simpa [z3] using e5
  obtain ⟨x6, e6, _, _⟩ := DataW.trod_int Try.underlying24 f6
  have g6 : c6 = .int .i64 x6 := by simpa [z1] using e6
  obtain ⟨x7, y7, e7⟩ := read_file (by simp [z2]) f7
  have g7 : c7 = .int .i64 x7 ∧ c8 = .int .i64 y7 := by simpa [z2] using e7
  obtain ⟨x8, y8, e8⟩ := read_file (by simp [z2]) f8
  have g8 : c9 = .int .i64 x8 ∧ c10 = .int .i64 y8 := by simpa [z2] using e8
  obtain ⟨x9, e9, _⟩ := DataW.trod_string Try.underlying9 f9
  have g9 : c11 = .string x9 := by simpa [z4] using e9
  obtain ⟨x10, e10, _⟩ := DataW.trod_string Try.underlying9 f10
  have g10 : c12 = .string x10 := by simpa [z4] using e10
  obtain ⟨x11, e11, _, _⟩ := DataW.trod_int Try.underlying3 f11
  have g11 : c13 = .int .i64 x11 := by simpa [z3] using e11
  obtain ⟨x12, e12, _, _⟩ := DataW.trod_int Try.underlying3 f12
  have g12 : c14 = .int .i64 x12 := by simpa [z3] using e12
  obtain ⟨x13, e13, _⟩ := DataW.trod_string Try.underlying9 f13
  have g13 : c15 = .string x13 := by simpa [z4] using e13
  obtain ⟨x14, e14, _, _⟩ := DataW.trod_int Try.underlying28 f14
  have g14 : c16 = .int .u64 x14 := by simpa [z5] using e14
  obtain ⟨x15, l, e15, hE⟩ := read_es f15
  have g15 : c17 = x15 := by simpa [z0] using e15
  refine ⟨(⟨x0, x1, x2, x3, x4, x5, x6, x7, y7, x8, y8, x9, x10, x11, x12, x13, x14, l⟩, x15), ?_, hE⟩
  rw [g0, g1, g2, g3, g4, g5, g6, g7.1, g7.2, g8.1, g8.2, g9, g10, g11, g12, g13, g14, g15]
  rfl
end

end Go.Proofs.Ytklemhmdbfhcdaa

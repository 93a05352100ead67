/- inode: reading; the laws' calls. -/
import Derived.Test.YtophabekaicdeaaI8
import Derived.Test.YtophabekaicdeaaOpen


set_option linter.unusedVariables false
set_option linter.unusedSimpArgs false
namespace Go.Proofs.Ytophabekaicdeaa
open Go.RowKit Go.ChangeShapes Go.WideShapes Go.ChangeAt

section
variable {H : Type} {enc : TypeId × Value → H} {W : World}
set_option maxRecDepth 100000 in
theorem rd_ino_3 {cs : List Value} {fuel : Nat} {x : DataW H × List MemPlace} (hl : cs.length = 8) (h : DataW.trod enc Try.prog W 0 (fun _ => true) true fuel 23 cs = some x) :
    ∃ (z0 : Int) (z1 : Int) (z2 : Int) (z3 : Int) (z4 : Int) (z5 : Int) (z6 : Int) (z7 : Int), cs = [.int .i64 z0, .int .i64 z1, .int .i64 z2, .int .i64 z3, .int .i64 z4, .int .i64 z5, .int .i64 z6, .int .i64 z7] ∧ R64 z0 ∧ R64 z1 ∧ R64 z2 ∧ R64 z3 ∧ R64 z4 ∧ R64 z5 ∧ R64 z6 ∧ R64 z7 := by
  obtain ⟨c0, c1, c2, c3, c4, c5, c6, c7, rfl⟩ : ∃ c0 c1 c2 c3 c4 c5 c6 c7, cs = [c0, c1, c2, c3, c4, c5, c6, c7] := by
    match cs, hl with
    | [c0, c1, c2, c3, c4, c5, c6, c7], _ => exact ⟨c0, c1, c2, c3, c4, c5, c6, c7, rfl⟩
  obtain ⟨xs, n, _, _, _, hx, hf⟩ := DataW.trod_array Try.underlying23 h
  have hxn : xs.length = 8 := hx
  have y0 : Try.prog.cellsOf 3 = 1 := by kernel_rfl
  have f0 := hf 0 (by decide)
  have f1 := hf 1 (by decide)
  have f2 := hf 2 (by decide)
  have f3 := hf 3 (by decide)
  have f4 := hf 4 (by decide)
  have f5 := hf 5 (by decide)
  have f6 := hf 6 (by decide)
  have f7 := hf 7 (by decide)
  rw [List.getElem?_eq_getElem (by omega)] at f0 f1 f2 f3 f4 f5 f6 f7
  obtain ⟨v0, e0, _, w0⟩ := DataW.trod_int Try.underlying3 f0
  have g0 : c0 = .int .i64 v0 := by simpa [y0] using e0
  obtain ⟨v1, e1, _, w1⟩ := DataW.trod_int Try.underlying3 f1
  have g1 : c1 = .int .i64 v1 := by simpa [y0] using e1
  obtain ⟨v2, e2, _, w2⟩ := DataW.trod_int Try.underlying3 f2
  have g2 : c2 = .int .i64 v2 := by simpa [y0] using e2
  obtain ⟨v3, e3, _, w3⟩ := DataW.trod_int Try.underlying3 f3
  have g3 : c3 = .int .i64 v3 := by simpa [y0] using e3
  obtain ⟨v4, e4, _, w4⟩ := DataW.trod_int Try.underlying3 f4
  have g4 : c4 = .int .i64 v4 := by simpa [y0] using e4
  obtain ⟨v5, e5, _, w5⟩ := DataW.trod_int Try.underlying3 f5
  have g5 : c5 = .int .i64 v5 := by simpa [y0] using e5
  obtain ⟨v6, e6, _, w6⟩ := DataW.trod_int Try.underlying3 f6
  have g6 : c6 = .int .i64 v6 := by simpa [y0] using e6
  obtain ⟨v7, e7, _, w7⟩ := DataW.trod_int Try.underlying3 f7
  have g7 : c7 = .int .i64 v7 := by simpa [y0] using e7
  exact ⟨v0, v1, v2, v3, v4, v5, v6, v7, by rw [g0, g1, g2, g3, g4, g5, g6, g7], wf_i64 w0, wf_i64 w1, wf_i64 w2, wf_i64 w3, wf_i64 w4, wf_i64 w5, wf_i64 w6, wf_i64 w7⟩
set_option maxRecDepth 100000 in
theorem rd_ino {cs : List Value} {fuel : Nat} {x : DataW H × List MemPlace} (hl : cs.length = 11) (h : DataW.trod enc Try.prog W 0 (fun _ => true) true fuel 25 cs = some x) :
    ∃ (z0 : Int) (z1 : Int) (z2 : Int) (z3 : Int) (z4 : Int) (z5 : Int) (z6 : Int) (z7 : Int) (z8 : Int) (z9 : Int) (z10 : Int), cs = [.int .i64 z0, .int .i64 z1, .int .u64 z2, .int .i64 z3, .int .i64 z4, .int .i64 z5, .int .i64 z6, .int .i64 z7, .int .i64 z8, .int .i64 z9, .int .i64 z10] ∧ R64 z0 ∧ R64 z1 ∧ (0 ≤ z2 ∧ z2 < 18446744073709551616) ∧ R64 z3 ∧ R64 z4 ∧ R64 z5 ∧ R64 z6 ∧ R64 z7 ∧ R64 z8 ∧ R64 z9 ∧ R64 z10 := by
  obtain ⟨c0, c1, c2, c3, c4, c5, c6, c7, c8, c9, c10, rfl⟩ : ∃ c0 c1 c2 c3 c4 c5 c6 c7 c8 c9 c10, cs = [c0, c1, c2, c3, c4, c5, c6, c7, c8, c9, c10] := by
    match cs, hl with
    | [c0, c1, c2, c3, c4, c5, c6, c7, c8, c9, c10], _ => exact ⟨c0, c1, c2, c3, c4, c5, c6, c7, c8, c9, c10, rfl⟩
  obtain ⟨xs, n, _, _, _, hx, hf⟩ := DataW.trod_struct Try.underlying25 h
  have hxn : xs.length = 4 := hx
  have y0 : Try.prog.cellsOf 3 = 1 := by kernel_rfl
  have y1 : Try.prog.cellsOf 22 = 1 := by kernel_rfl
  have y2 : Try.prog.cellsOf 23 = 8 := by kernel_rfl
  have f0 := hf 0 _ rfl
  have f1 := hf 1 _ rfl
  have f2 := hf 2 _ rfl
  have f3 := hf 3 _ rfl
  rw [List.getElem?_eq_getElem (by omega)] at f0 f1 f2 f3
  obtain ⟨v0, e0, _, w0⟩ := DataW.trod_int Try.underlying3 f0
  have g0 : c0 = .int .i64 v0 := by simpa [y0, y1, y2] using e0
  obtain ⟨v1, e1, _, w1⟩ := DataW.trod_int Try.underlying3 f1
  have g1 : c1 = .int .i64 v1 := by simpa [y0, y1, y2] using e1
  obtain ⟨v2, e2, _, w2⟩ := DataW.trod_int Try.underlying22 f2
  have g2 : c2 = .int .u64 v2 := by simpa [y0, y1, y2] using e2
  obtain ⟨v3_0, v3_1, v3_2, v3_3, v3_4, v3_5, v3_6, v3_7, e3, k3_0, k3_1, k3_2, k3_3, k3_4, k3_5, k3_6, k3_7⟩ := rd_ino_3 (by simp [y0, y1, y2]) f3
  have g3 : c3 = .int .i64 v3_0 ∧ c4 = .int .i64 v3_1 ∧ c5 = .int .i64 v3_2 ∧ c6 = .int .i64 v3_3 ∧ c7 = .int .i64 v3_4 ∧ c8 = .int .i64 v3_5 ∧ c9 = .int .i64 v3_6 ∧ c10 = .int .i64 v3_7 := by simpa [y0, y1, y2] using e3
  obtain ⟨g3_0, g3_1, g3_2, g3_3, g3_4, g3_5, g3_6, g3_7⟩ := g3
  exact ⟨v0, v1, v2, v3_0, v3_1, v3_2, v3_3, v3_4, v3_5, v3_6, v3_7, by rw [g0, g1, g2, g3_0, g3_1, g3_2, g3_3, g3_4, g3_5, g3_6, g3_7], wf_i64 w0, wf_i64 w1, ⟨(wf_u64 w2).1, by have := (wf_u64 w2).2; omega⟩, k3_0, k3_1, k3_2, k3_3, k3_4, k3_5, k3_6, k3_7⟩
set_option maxRecDepth 100000 in
theorem rd_inoW {base : Nat} {v : Value} {fuel : Nat} {x : DataW H × List MemPlace} (hv : Value.okWide Try.prog W .any base 25 v) (h : DataW.trod enc Try.prog W 0 (fun _ => true) true fuel 25 v.cells.toList = some x) :
    ∃ (z0 : Int) (z1 : Int) (z2 : Int) (z3 : Int) (z4 : Int) (z5 : Int) (z6 : Int) (z7 : Int) (z8 : Int) (z9 : Int) (z10 : Int), v = .agg #[.int .i64 z0, .int .i64 z1, .int .u64 z2, .int .i64 z3, .int .i64 z4, .int .i64 z5, .int .i64 z6, .int .i64 z7, .int .i64 z8, .int .i64 z9, .int .i64 z10] ∧ R64 z0 ∧ R64 z1 ∧ (0 ≤ z2 ∧ z2 < 18446744073709551616) ∧ R64 z3 ∧ R64 z4 ∧ R64 z5 ∧ R64 z6 ∧ R64 z7 ∧ R64 z8 ∧ R64 z9 ∧ R64 z10 := by
  obtain ⟨csA, rfl, hs⟩ := okWide_struct Try.underlying25 hv
  have hn : Try.prog.cellsOf 25 = 11 := by kernel_rfl
  obtain ⟨cs, rfl⟩ : ∃ cs : List Value, csA = cs.toArray := ⟨csA.toList, by simp⟩
  have hl : cs.length = 11 := by rw [hn] at hs; simpa using hs
  obtain ⟨z0, z1, z2, z3, z4, z5, z6, z7, z8, z9, z10, rfl, hq⟩ := rd_ino hl h
  exact ⟨z0, z1, z2, z3, z4, z5, z6, z7, z8, z9, z10, rfl, hq⟩
def Ino.v (x : Ino) : Value := .agg #[.int .i64 x.kd, .int .i64 x.gn, .int .u64 x.ve, .int .i64 x.b0, .int .i64 x.b1, .int .i64 x.b2, .int .i64 x.b3, .int .i64 x.b4, .int .i64 x.b5, .int .i64 x.b6, .int .i64 x.b7]
set_option maxRecDepth 100000 in
theorem read_ino {base : Nat} {v : Value} {fuel : Nat} {x : DataW H × List MemPlace} (hv : Value.okWide Try.prog W .any base 25 v) (h : DataW.trod enc Try.prog W 0 (fun _ => true) true fuel 25 v.cells.toList = some x) :
    ∃ d : Ino, v = d.v ∧ d.ok := by
  obtain ⟨z0, z1, z2, z3, z4, z5, z6, z7, z8, z9, z10, rfl, k0, k1, k2, k3, k4, k5, k6, k7, k8, k9, k10⟩ := rd_inoW hv h
  exact ⟨⟨z0, z1, z2, z3, z4, z5, z6, z7, z8, z9, z10⟩, rfl, ⟨k0, k1, k2, k3, k4, k5, k6, k7, k8, k9, k10⟩⟩
end
theorem enc_long (x : Ino) : (encL x).length ≤ 100000 := by
  have h0 : ([] : List UInt8).length ≤ 100000 := by simp
  have h1 : (padS (encW x).out).length ≤ 100000 := by rw [pads_eq (encW_len x), padTo_len (encW_len x)]; omega
  unfold encL
  cases rightB x with
  | false => exact h0
  | true =>
    cases ((encW x).err != 0) with
    | true => exact h0
    | false => exact h1
theorem decI_ve (l : List UInt8) : 0 ≤ (decI l).ve ∧ (decI l).ve < 18446744073709551616 := by
  unfold decI
  cases badD l with
  | true => show (0 : Int) ≤ 0 ∧ (0 : Int) < 18446744073709551616; omega
  | false => exact (rawD_ok l).hve
theorem eqI_iff {x y : Ino} (h : x = y) : eqI x y = true := by subst h; exact eqI_refl x
theorem inodeEncodes_calls (x : Ino) (W : World) (h : x.ok) : Calls Try.prog 3 #[x.v] W fun e w' => e = .returned (.bool true) ∧ Below W.heap.size W w' := by
  refine (lawE_c x.kd x.gn x.ve x.b0 x.b1 x.b2 x.b3 x.b4 x.b5 x.b6 x.b7 h.hve W).mono fun e w' hh => ⟨?_, hh.2.below⟩
  have : encIB ⟨x.kd, x.gn, x.ve, x.b0, x.b1, x.b2, x.b3, x.b4, x.b5, x.b6, x.b7⟩ = true := by
    show encIB x = true
    obtain ⟨e1, e2⟩ := enc_same h
    unfold encIB encI1
    rw [e1, e2]
    simp
  rw [hh.1, this]
theorem inodeDecodes_calls (ao : Option Addr) (cap : Nat) (l : List UInt8) (W : World) (hb : Bs W (.slice ao l.length cap) l) : Calls Try.prog 4 #[.slice ao l.length cap] W fun e w' => e = .returned (.bool true) ∧ Below W.heap.size W w' := by
  refine (lawD_c l W _ hb).mono fun e w' hh => ⟨hh.1.trans ?_, hh.2.below⟩
  have : decB (l.take 140) = true := by
    obtain ⟨e1, e2⟩ := dec_same (l.take 140)
    unfold decB
    rw [e1, e2, eqI_refl]
    simp
  rw [this]
theorem bkB_true (m : List UInt8) : bkB m = true := by
  unfold bkB
  by_cases h : decIE m = 0
  · obtain ⟨e1, e2⟩ := back2 h
    rw [e1, e2]
    simp
  · have : (decIE m != 0) = true := by simp [h]
    rw [this]; rfl
theorem inodeBack_calls (x : Ino) (ao : Option Addr) (cap : Nat) (l : List UInt8) (W : World) (h : x.ok) (hb : Bs W (.slice ao l.length cap) l) : Calls Try.prog 5 #[x.v, .slice ao l.length cap] W fun e w' => e = .returned (.bool true) ∧ Below W.heap.size W w' := by
  refine (lawB_c x.kd x.gn x.ve x.b0 x.b1 x.b2 x.b3 x.b4 x.b5 x.b6 x.b7 l h.hve (decI_ve _) (enc_long _) W _ hb).mono fun e w' hh => ⟨?_, hh.2.below⟩
  have : bakB ⟨x.kd, x.gn, x.ve, x.b0, x.b1, x.b2, x.b3, x.b4, x.b5, x.b6, x.b7⟩ (l.take 140) = true := by
    show bakB x (l.take 140) = true
    unfold bakB
    rw [bkB_true]
    by_cases h0 : encE x = 0
    · obtain ⟨e1, e2⟩ := back h h0
      rw [h0, e1, e2, eqI_refl]
      rfl
    · have : (encE x == 0) = false := by simp [h0]
      rw [this]; rfl
  rw [hh.1, this]
end Go.Proofs.Ytophabekaicdeaa

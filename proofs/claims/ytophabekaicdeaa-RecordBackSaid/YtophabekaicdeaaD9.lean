/- record: reading; the laws' calls. -/
import Derived.Test.YtophabekaicdeaaD8
import Derived.Test.YtophabekaicdeaaOpen


set_option linter.unusedVariables false
set_option linter.unusedSimpArgs false
namespace Go.Proofs.Ytophabekaicdeaa
open Go.RowKit Go.ChangeShapes Go.WideShapes Go.ChangeAt

section
variable {H : Type} {enc : TypeId × Value → H} {W : World}
set_option maxRecDepth 100000 in
theorem rd_rec_1 {cs : List Value} {fuel : Nat} {x : DataW H × List MemPlace} (hl : cs.length = 8) (h : DataW.trod enc Try.prog W 0 (fun _ => true) true fuel 48 cs = some x) :
    ∃ (z0 : Int) (z1 : Int) (z2 : Int) (z3 : Int) (z4 : Int) (z5 : Int) (z6 : Int) (z7 : Int), cs = [.int .u64 z0, .int .u64 z1, .int .u64 z2, .int .u64 z3, .int .u64 z4, .int .u64 z5, .int .u64 z6, .int .u64 z7] ∧ (0 ≤ z0 ∧ z0 < 18446744073709551616) ∧ (0 ≤ z1 ∧ z1 < 18446744073709551616) ∧ (0 ≤ z2 ∧ z2 < 18446744073709551616) ∧ (0 ≤ z3 ∧ z3 < 18446744073709551616) ∧ (0 ≤ z4 ∧ z4 < 18446744073709551616) ∧ (0 ≤ z5 ∧ z5 < 18446744073709551616) ∧ (0 ≤ z6 ∧ z6 < 18446744073709551616) ∧ (0 ≤ z7 ∧ z7 < 18446744073709551616) := by
  obtain ⟨c0, c1, c2, c3, c4, c5, c6, c7, rfl⟩ : ∃ c0 c1 c2 c3 c4 c5 c6 c7, cs = [c0, c1, c2, c3, c4, c5, c6, c7] := by
    match cs, hl with
    | [c0, c1, c2, c3, c4, c5, c6, c7], _ => exact ⟨c0, c1, c2, c3, c4, c5, c6, c7, rfl⟩
  obtain ⟨xs, n, _, _, _, hx, hf⟩ := DataW.trod_array Try.underlying48 h
  have hxn : xs.length = 8 := hx
  have y0 : Try.prog.cellsOf 22 = 1 := by kernel_rfl
  have f0 := hf 0 (by decide)
  have f1 := hf 1 (by decide)
  have f2 := hf 2 (by decide)
  have f3 := hf 3 (by decide)
  have f4 := hf 4 (by decide)
  have f5 := hf 5 (by decide)
  have f6 := hf 6 (by decide)
  have f7 := hf 7 (by decide)
  rw [List.getElem?_eq_getElem (by omega)] at f0 f1 f2 f3 f4 f5 f6 f7
  obtain ⟨v0, e0, _, w0⟩ := DataW.trod_int Try.underlying22 f0
  have g0 : c0 = .int .u64 v0 := by simpa [y0] using e0
  obtain ⟨v1, e1, _, w1⟩ := DataW.trod_int Try.underlying22 f1
  have g1 : c1 = .int .u64 v1 := by simpa [y0] using e1
  obtain ⟨v2, e2, _, w2⟩ := DataW.trod_int Try.underlying22 f2
  have g2 : c2 = .int .u64 v2 := by simpa [y0] using e2
  obtain ⟨v3, e3, _, w3⟩ := DataW.trod_int Try.underlying22 f3
  have g3 : c3 = .int .u64 v3 := by simpa [y0] using e3
  obtain ⟨v4, e4, _, w4⟩ := DataW.trod_int Try.underlying22 f4
  have g4 : c4 = .int .u64 v4 := by simpa [y0] using e4
  obtain ⟨v5, e5, _, w5⟩ := DataW.trod_int Try.underlying22 f5
  have g5 : c5 = .int .u64 v5 := by simpa [y0] using e5
  obtain ⟨v6, e6, _, w6⟩ := DataW.trod_int Try.underlying22 f6
  have g6 : c6 = .int .u64 v6 := by simpa [y0] using e6
  obtain ⟨v7, e7, _, w7⟩ := DataW.trod_int Try.underlying22 f7
  have g7 : c7 = .int .u64 v7 := by simpa [y0] using e7
  exact ⟨v0, v1, v2, v3, v4, v5, v6, v7, by rw [g0, g1, g2, g3, g4, g5, g6, g7], ⟨(wf_u64 w0).1, by have := (wf_u64 w0).2; omega⟩, ⟨(wf_u64 w1).1, by have := (wf_u64 w1).2; omega⟩, ⟨(wf_u64 w2).1, by have := (wf_u64 w2).2; omega⟩, ⟨(wf_u64 w3).1, by have := (wf_u64 w3).2; omega⟩, ⟨(wf_u64 w4).1, by have := (wf_u64 w4).2; omega⟩, ⟨(wf_u64 w5).1, by have := (wf_u64 w5).2; omega⟩, ⟨(wf_u64 w6).1, by have := (wf_u64 w6).2; omega⟩, ⟨(wf_u64 w7).1, by have := (wf_u64 w7).2; omega⟩⟩
set_option maxRecDepth 100000 in
theorem rd_rec_2 {cs : List Value} {fuel : Nat} {x : DataW H × List MemPlace} (hl : cs.length = 8) (h : DataW.trod enc Try.prog W 0 (fun _ => true) true fuel 49 cs = some x) :
    ∃ (z0 : Bool) (z1 : Bool) (z2 : Bool) (z3 : Bool) (z4 : Bool) (z5 : Bool) (z6 : Bool) (z7 : Bool), cs = [.bool z0, .bool z1, .bool z2, .bool z3, .bool z4, .bool z5, .bool z6, .bool z7] ∧ True ∧ True ∧ True ∧ True ∧ True ∧ True ∧ True ∧ True := by
  obtain ⟨c0, c1, c2, c3, c4, c5, c6, c7, rfl⟩ : ∃ c0 c1 c2 c3 c4 c5 c6 c7, cs = [c0, c1, c2, c3, c4, c5, c6, c7] := by
    match cs, hl with
    | [c0, c1, c2, c3, c4, c5, c6, c7], _ => exact ⟨c0, c1, c2, c3, c4, c5, c6, c7, rfl⟩
  obtain ⟨xs, n, _, _, _, hx, hf⟩ := DataW.trod_array Try.underlying49 h
  have hxn : xs.length = 8 := hx
  have y0 : Try.prog.cellsOf 4 = 1 := by kernel_rfl
  have f0 := hf 0 (by decide)
  have f1 := hf 1 (by decide)
  have f2 := hf 2 (by decide)
  have f3 := hf 3 (by decide)
  have f4 := hf 4 (by decide)
  have f5 := hf 5 (by decide)
  have f6 := hf 6 (by decide)
  have f7 := hf 7 (by decide)
  rw [List.getElem?_eq_getElem (by omega)] at f0 f1 f2 f3 f4 f5 f6 f7
  obtain ⟨v0, e0, _⟩ := DataW.trod_bool Try.underlying4 f0
  have g0 : c0 = .bool v0 := by simpa [y0] using e0
  obtain ⟨v1, e1, _⟩ := DataW.trod_bool Try.underlying4 f1
  have g1 : c1 = .bool v1 := by simpa [y0] using e1
  obtain ⟨v2, e2, _⟩ := DataW.trod_bool Try.underlying4 f2
  have g2 : c2 = .bool v2 := by simpa [y0] using e2
  obtain ⟨v3, e3, _⟩ := DataW.trod_bool Try.underlying4 f3
  have g3 : c3 = .bool v3 := by simpa [y0] using e3
  obtain ⟨v4, e4, _⟩ := DataW.trod_bool Try.underlying4 f4
  have g4 : c4 = .bool v4 := by simpa [y0] using e4
  obtain ⟨v5, e5, _⟩ := DataW.trod_bool Try.underlying4 f5
  have g5 : c5 = .bool v5 := by simpa [y0] using e5
  obtain ⟨v6, e6, _⟩ := DataW.trod_bool Try.underlying4 f6
  have g6 : c6 = .bool v6 := by simpa [y0] using e6
  obtain ⟨v7, e7, _⟩ := DataW.trod_bool Try.underlying4 f7
  have g7 : c7 = .bool v7 := by simpa [y0] using e7
  exact ⟨v0, v1, v2, v3, v4, v5, v6, v7, by rw [g0, g1, g2, g3, g4, g5, g6, g7], trivial, trivial, trivial, trivial, trivial, trivial, trivial, trivial⟩
set_option maxRecDepth 100000 in
theorem rd_rec {cs : List Value} {fuel : Nat} {x : DataW H × List MemPlace} (hl : cs.length = 17) (h : DataW.trod enc Try.prog W 0 (fun _ => true) true fuel 51 cs = some x) :
    ∃ (z0 : Int) (z1 : Int) (z2 : Int) (z3 : Int) (z4 : Int) (z5 : Int) (z6 : Int) (z7 : Int) (z8 : Int) (z9 : Bool) (z10 : Bool) (z11 : Bool) (z12 : Bool) (z13 : Bool) (z14 : Bool) (z15 : Bool) (z16 : Bool), cs = [.int .u64 z0, .int .u64 z1, .int .u64 z2, .int .u64 z3, .int .u64 z4, .int .u64 z5, .int .u64 z6, .int .u64 z7, .int .u64 z8, .bool z9, .bool z10, .bool z11, .bool z12, .bool z13, .bool z14, .bool z15, .bool z16] ∧ (0 ≤ z0 ∧ z0 < 18446744073709551616) ∧ (0 ≤ z1 ∧ z1 < 18446744073709551616) ∧ (0 ≤ z2 ∧ z2 < 18446744073709551616) ∧ (0 ≤ z3 ∧ z3 < 18446744073709551616) ∧ (0 ≤ z4 ∧ z4 < 18446744073709551616) ∧ (0 ≤ z5 ∧ z5 < 18446744073709551616) ∧ (0 ≤ z6 ∧ z6 < 18446744073709551616) ∧ (0 ≤ z7 ∧ z7 < 18446744073709551616) ∧ (0 ≤ z8 ∧ z8 < 18446744073709551616) ∧ True ∧ True ∧ True ∧ True ∧ True ∧ True ∧ True ∧ True := by
  obtain ⟨c0, c1, c2, c3, c4, c5, c6, c7, c8, c9, c10, c11, c12, c13, c14, c15, c16, rfl⟩ : ∃ c0 c1 c2 c3 c4 c5 c6 c7 c8 c9 c10 c11 c12 c13 c14 c15 c16, cs = [c0, c1, c2, c3, c4, c5, c6, c7, c8, c9, c10, c11, c12, c13, c14, c15, c16] := by
    match cs, hl with
    | [c0, c1, c2, c3, c4, c5, c6, c7, c8, c9, c10, c11, c12, c13, c14, c15, c16], _ => exact ⟨c0, c1, c2, c3, c4, c5, c6, c7, c8, c9, c10, c11, c12, c13, c14, c15, c16, rfl⟩
  obtain ⟨xs, n, _, _, _, hx, hf⟩ := DataW.trod_struct Try.underlying51 h
  have hxn : xs.length = 3 := hx
  have y0 : Try.prog.cellsOf 22 = 1 := by kernel_rfl
  have y1 : Try.prog.cellsOf 48 = 8 := by kernel_rfl
  have y2 : Try.prog.cellsOf 49 = 8 := by kernel_rfl
  have f0 := hf 0 _ rfl
  have f1 := hf 1 _ rfl
  have f2 := hf 2 _ rfl
  rw [List.getElem?_eq_getElem (by omega)] at f0 f1 f2
  obtain ⟨v0, e0, _, w0⟩ := DataW.trod_int Try.underlying22 f0
  have g0 : c0 = .int .u64 v0 := by simpa [y0, y1, y2] using e0
  obtain ⟨v1_0, v1_1, v1_2, v1_3, v1_4, v1_5, v1_6, v1_7, e1, k1_0, k1_1, k1_2, k1_3, k1_4, k1_5, k1_6, k1_7⟩ := rd_rec_1 (by simp [y0, y1, y2]) f1
  have g1 : c1 = .int .u64 v1_0 ∧ c2 = .int .u64 v1_1 ∧ c3 = .int .u64 v1_2 ∧ c4 = .int .u64 v1_3 ∧ c5 = .int .u64 v1_4 ∧ c6 = .int .u64 v1_5 ∧ c7 = .int .u64 v1_6 ∧ c8 = .int .u64 v1_7 := by simpa [y0, y1, y2] using e1
  obtain ⟨g1_0, g1_1, g1_2, g1_3, g1_4, g1_5, g1_6, g1_7⟩ := g1
  obtain ⟨v2_0, v2_1, v2_2, v2_3, v2_4, v2_5, v2_6, v2_7, e2, k2_0, k2_1, k2_2, k2_3, k2_4, k2_5, k2_6, k2_7⟩ := rd_rec_2 (by simp [y0, y1, y2]) f2
  have g2 : c9 = .bool v2_0 ∧ c10 = .bool v2_1 ∧ c11 = .bool v2_2 ∧ c12 = .bool v2_3 ∧ c13 = .bool v2_4 ∧ c14 = .bool v2_5 ∧ c15 = .bool v2_6 ∧ c16 = .bool v2_7 := by simpa [y0, y1, y2] using e2
  obtain ⟨g2_0, g2_1, g2_2, g2_3, g2_4, g2_5, g2_6, g2_7⟩ := g2
  exact ⟨v0, v1_0, v1_1, v1_2, v1_3, v1_4, v1_5, v1_6, v1_7, v2_0, v2_1, v2_2, v2_3, v2_4, v2_5, v2_6, v2_7, by rw [g0, g1_0, g1_1, g1_2, g1_3, g1_4, g1_5, g1_6, g1_7, g2_0, g2_1, g2_2, g2_3, g2_4, g2_5, g2_6, g2_7], ⟨(wf_u64 w0).1, by have := (wf_u64 w0).2; omega⟩, k1_0, k1_1, k1_2, k1_3, k1_4, k1_5, k1_6, k1_7, k2_0, k2_1, k2_2, k2_3, k2_4, k2_5, k2_6, k2_7⟩
set_option maxRecDepth 100000 in
theorem rd_recW {base : Nat} {v : Value} {fuel : Nat} {x : DataW H × List MemPlace} (hv : Value.okWide Try.prog W .any base 51 v) (h : DataW.trod enc Try.prog W 0 (fun _ => true) true fuel 51 v.cells.toList = some x) :
    ∃ (z0 : Int) (z1 : Int) (z2 : Int) (z3 : Int) (z4 : Int) (z5 : Int) (z6 : Int) (z7 : Int) (z8 : Int) (z9 : Bool) (z10 : Bool) (z11 : Bool) (z12 : Bool) (z13 : Bool) (z14 : Bool) (z15 : Bool) (z16 : Bool), v = .agg #[.int .u64 z0, .int .u64 z1, .int .u64 z2, .int .u64 z3, .int .u64 z4, .int .u64 z5, .int .u64 z6, .int .u64 z7, .int .u64 z8, .bool z9, .bool z10, .bool z11, .bool z12, .bool z13, .bool z14, .bool z15, .bool z16] ∧ (0 ≤ z0 ∧ z0 < 18446744073709551616) ∧ (0 ≤ z1 ∧ z1 < 18446744073709551616) ∧ (0 ≤ z2 ∧ z2 < 18446744073709551616) ∧ (0 ≤ z3 ∧ z3 < 18446744073709551616) ∧ (0 ≤ z4 ∧ z4 < 18446744073709551616) ∧ (0 ≤ z5 ∧ z5 < 18446744073709551616) ∧ (0 ≤ z6 ∧ z6 < 18446744073709551616) ∧ (0 ≤ z7 ∧ z7 < 18446744073709551616) ∧ (0 ≤ z8 ∧ z8 < 18446744073709551616) ∧ True ∧ True ∧ True ∧ True ∧ True ∧ True ∧ True ∧ True := by
  obtain ⟨csA, rfl, hs⟩ := okWide_struct Try.underlying51 hv
  have hn : Try.prog.cellsOf 51 = 17 := by kernel_rfl
  obtain ⟨cs, rfl⟩ : ∃ cs : List Value, csA = cs.toArray := ⟨csA.toList, by simp⟩
  have hl : cs.length = 17 := by rw [hn] at hs; simpa using hs
  obtain ⟨z0, z1, z2, z3, z4, z5, z6, z7, z8, z9, z10, z11, z12, z13, z14, z15, z16, rfl, hq⟩ := rd_rec hl h
  exact ⟨z0, z1, z2, z3, z4, z5, z6, z7, z8, z9, z10, z11, z12, z13, z14, z15, z16, rfl, hq⟩
def Rr.v (x : Rr) : Value := .agg #[.int .u64 x.bo, .int .u64 x.s0, .int .u64 x.s1, .int .u64 x.s2, .int .u64 x.s3, .int .u64 x.s4, .int .u64 x.s5, .int .u64 x.s6, .int .u64 x.s7, .bool x.g0, .bool x.g1, .bool x.g2, .bool x.g3, .bool x.g4, .bool x.g5, .bool x.g6, .bool x.g7]
set_option maxRecDepth 100000 in
theorem read_rec {base : Nat} {v : Value} {fuel : Nat} {x : DataW H × List MemPlace} (hv : Value.okWide Try.prog W .any base 51 v) (h : DataW.trod enc Try.prog W 0 (fun _ => true) true fuel 51 v.cells.toList = some x) :
    ∃ d : Rr, v = d.v ∧ d.ok := by
  obtain ⟨z0, z1, z2, z3, z4, z5, z6, z7, z8, z9, z10, z11, z12, z13, z14, z15, z16, rfl, k0, k1, k2, k3, k4, k5, k6, k7, k8, _⟩ := rd_recW hv h
  exact ⟨⟨z0, z1, z2, z3, z4, z5, z6, z7, z8, z9, z10, z11, z12, z13, z14, z15, z16⟩, rfl, ⟨k0, k1, k2, k3, k4, k5, k6, k7, k8⟩⟩
end
theorem enc_long (x : Rr) : (encL x).length ≤ 100000 := by
  have h0 : ([] : List UInt8).length ≤ 100000 := by simp
  have h1 : (padS (encW x).out).length ≤ 100000 := by rw [pads_eq (encW_out x), padTo_len (encW_out x)]; omega
  have c1 : encL x = cond (badR x) [] (cond ((encW x).err != 0) [] (padS (encW x).out)) := cc8_eq x _ _
  rw [c1]
  cases badR x with
  | true => exact h0
  | false =>
    cases ((encW x).err != 0) with
    | true => exact h0
    | false => exact h1
theorem decR_ok (l : List UInt8) : (decR l).ok := by
  have h0 : (0 : Int) ≤ 0 ∧ (0 : Int) < 18446744073709551616 := by omega
  unfold decR
  cases badD l with
  | true => exact ⟨h0, h0, h0, h0, h0, h0, h0, h0, h0⟩
  | false => exact rawD_ok l
theorem recordEncodes_calls (x : Rr) (W : World) (h : x.ok) : Calls Try.prog 6 #[x.v] W fun e w' => e = .returned (.bool true) ∧ Below W.heap.size W w' := by
  refine (lawE_c x.bo x.s0 x.s1 x.s2 x.s3 x.s4 x.s5 x.s6 x.s7 x.g0 x.g1 x.g2 x.g3 x.g4 x.g5 x.g6 x.g7 h.hbo h.hs0 h.hs1 h.hs2 h.hs3 h.hs4 h.hs5 h.hs6 h.hs7 W).mono fun e w' hh => ⟨?_, hh.2.below⟩
  have : encIB ⟨x.bo, x.s0, x.s1, x.s2, x.s3, x.s4, x.s5, x.s6, x.s7, x.g0, x.g1, x.g2, x.g3, x.g4, x.g5, x.g6, x.g7⟩ = true := by
    show encIB x = true
    obtain ⟨e1, e2⟩ := enc_same h
    unfold encIB encI1
    rw [e1, e2]
    simp
  rw [hh.1, this]
theorem recordDecodes_calls (ao : Option Addr) (cap : Nat) (l : List UInt8) (W : World) (hb : Bs W (.slice ao l.length cap) l) : Calls Try.prog 7 #[.slice ao l.length cap] W fun e w' => e = .returned (.bool true) ∧ Below W.heap.size W w' := by
  refine (lawD_c l W _ hb).mono fun e w' hh => ⟨hh.1.trans ?_, hh.2.below⟩
  have : decB (l.take 140) = true := by
    obtain ⟨e1, e2⟩ := dec_same (l.take 140)
    unfold decB
    rw [e1, e2, eqR_refl]
    simp
  rw [this]
theorem recordBack_calls (x : Rr) (ao : Option Addr) (cap : Nat) (l : List UInt8) (cl se : Int) (ho : Bool) (W : World) (h : x.ok) (hb : Bs W (.slice ao l.length cap) l) (hcl : -9223372036854775808 ≤ cl ∧ cl ≤ 9223372036854775807) (hse : 0 ≤ se ∧ se ≤ 18446744073709551615) : Calls Try.prog 8 #[x.v, .slice ao l.length cap, .int .i64 cl, .int .u64 se, .bool ho] W fun e w' => e = .returned (.bool true) ∧ Below W.heap.size W w' := by
  refine (lawB_c x.bo x.s0 x.s1 x.s2 x.s3 x.s4 x.s5 x.s6 x.s7 x.g0 x.g1 x.g2 x.g3 x.g4 x.g5 x.g6 x.g7 cl se ho l h.hbo h.hs0 h.hs1 h.hs2 h.hs3 h.hs4 h.hs5 h.hs6 h.hs7 (enc_long _) (fun m => (decR_ok m).hbo) (fun m => (decR_ok m).hs0) (fun m => (decR_ok m).hs1) (fun m => (decR_ok m).hs2) (fun m => (decR_ok m).hs3) (fun m => (decR_ok m).hs4) (fun m => (decR_ok m).hs5) (fun m => (decR_ok m).hs6) (fun m => (decR_ok m).hs7) W _ hb).mono fun e w' hh => ⟨?_, hh.2.below⟩
  have : bakB ⟨x.bo, x.s0, x.s1, x.s2, x.s3, x.s4, x.s5, x.s6, x.s7, x.g0, x.g1, x.g2, x.g3, x.g4, x.g5, x.g6, x.g7⟩ (l.take 140) cl se ho = true := by
    show bakB x (l.take 140) cl se ho = true
    unfold bakB
    rw [bkB_false, tail_true]
    by_cases h0 : encE x = 0
    · obtain ⟨e1, e2⟩ := back h h0
      rw [h0, e1, e2, eqR_refl]
      rfl
    · have : (encE x == 0) = false := by simp [h0]
      rw [this]; rfl
  rw [hh.1, this]
end Go.Proofs.Ytophabekaicdeaa

/- Rows of calls: read, and cut short. -/
import Derived.Test.YtlfnpbpbgncbpaaB11
import Derived.Test.YtlfnpbpbgncbpaaOpen
set_option linter.unusedVariables false
set_option linter.unusedSimpArgs false
namespace Go.Proofs.Ytlfnpbpbgncbpaa
open Go.RowKit

/-- One call. -/
structure BDo where
  kind : Int
  x : Nat
  n : Int
  s : ByteArray
def BDo.cells (d : BDo) : List Value := [.int .i64 d.kind, .int .u64 (d.x : Int), .int .i64 d.n, .string d.s]
def BDo.ok (d : BDo) : Prop := d.x < 18446744073709551616 ∧ -9223372036854775808 ≤ d.n ∧ d.n ≤ 9223372036854775807
/-- A row of calls that reads. -/
def BDos (W : World) (v : Value) (ds : List BDo) : Prop :=
  ∃ ao cap, v = .slice ao ds.length cap ∧ ds.length ≤ cap ∧ cap ≤ 9223372036854775807 ∧
    ∀ (k : Nat) d, ds[k]? = some d → d.ok ∧ ∃ b o, ao = some ⟨b, o, none⟩ ∧ W.cell? ⟨b, o + k * 4, none⟩ = some (.int .i64 d.kind) ∧ W.cell? ⟨b, o + k * 4 + 1, none⟩ = some (.int .u64 (d.x : Int)) ∧ W.cell? ⟨b, o + k * 4 + 2, none⟩ = some (.int .i64 d.n) ∧ W.cell? ⟨b, o + k * 4 + 3, none⟩ = some (.string d.s)
/-- A row of short calls of its own. -/
def BRow (w : World) (B : Nat) (v : Value) (ds : List BDo) : Prop :=
  ds.length ≤ 40 ∧ (∀ d ∈ ds, d.ok ∧ d.s.size ≤ 40) ∧ (∃ ao cap, v = .slice ao ds.length cap) ∧ w.ownsRow B 29 4 v ds.length (ds.flatMap BDo.cells)

theorem etDo : ElemT Try.prog 22 29 4 40 := ElemT.mk' Try.underlying22 (z := .agg #[.int .i64 0, .int .u64 0, .int .i64 0, .string ⟨#[]⟩]) (by kernel_rfl) rfl (by decide)

section
variable {H : Type} {enc : TypeId × Value → H} {W : World}
theorem read_bdo {cs : List Value} {fuel : Nat} {x : DataW H × List MemPlace} (hl : cs.length = 4) (h : DataW.trod enc Try.prog W 0 (fun _ => true) true fuel 29 cs = some x) :
    ∃ d : BDo, d.ok ∧ cs = d.cells := by
  obtain ⟨c0, c1, c2, c3, rfl⟩ : ∃ a b c e, cs = [a, b, c, e] := by
    match cs, hl with
    | [a, b, c, e], _ => exact ⟨a, b, c, e, rfl⟩
  obtain ⟨xs, n, _, _, _, hx, hf⟩ := DataW.trod_struct Try.underlying29 h
  have hx4 : xs.length = 4 := hx
  have f0 := hf 0 _ rfl
  have f1 := hf 1 _ rfl
  have f2 := hf 2 _ rfl
  have f3 := hf 3 _ rfl
  rw [List.getElem?_eq_getElem (by omega)] at f0 f1 f2 f3
  obtain ⟨k, e0, _, w0⟩ := DataW.trod_int Try.underlying3 f0
  obtain ⟨t, e1, _, w1⟩ := DataW.trod_int Try.underlying27 f1
  obtain ⟨i, e2, _, w2⟩ := DataW.trod_int Try.underlying3 f2
  obtain ⟨s, e3, _⟩ := DataW.trod_string Try.underlying9 f3
  have ci : Try.prog.cellsOf 3 = 1 := by kernel_rfl
  have cu : Try.prog.cellsOf 27 = 1 := by kernel_rfl
  have cz : Try.prog.cellsOf 9 = 1 := by kernel_rfl
  have g0 : c0 = .int .i64 k := by simpa [ci] using e0
  have g1 : c1 = .int .u64 t := by simpa [cu] using e1
  have g2 : c2 = .int .i64 i := by simpa [ci] using e2
  have g3 : c3 = .string s := by simpa [cz] using e3
  subst g0; subst g1; subst g2; subst g3
  have r1 := wf_u64 w1
  have r2 := wf_i64 w2
  refine ⟨⟨k, t.toNat, i, s⟩, ⟨by simp only; omega, r2⟩, ?_⟩
  simp only [BDo.cells]
  rw [Int.toNat_of_nonneg r1.1]

theorem read_bdos {cs : List Value} {fuel : Nat} {x : DataW H × List MemPlace} (h : DataW.trod enc Try.prog W 0 (fun _ => true) true fuel 22 cs = some x) : ∃ v ds, cs = [v] ∧ BDos W v ds := by
  obtain ⟨ao, len, cap, rfl, h1, h2, _, h4⟩ := read_slice (c := 4) Try.underlying22 (by kernel_rfl) (by decide) h
  obtain ⟨ds, hl, hd⟩ := list_of_lt (p := fun i (d : BDo) => d.ok ∧ ∃ b o, ao = some ⟨b, o, none⟩ ∧ W.cell? ⟨b, o + i * 4, none⟩ = some (.int .i64 d.kind) ∧ W.cell? ⟨b, o + i * 4 + 1, none⟩ = some (.int .u64 (d.x : Int)) ∧ W.cell? ⟨b, o + i * 4 + 2, none⟩ = some (.int .i64 d.n) ∧ W.cell? ⟨b, o + i * 4 + 3, none⟩ = some (.string d.s)) len fun i hi => by
    obtain ⟨b, o, cs', f, y, e1, e2, e3, e4⟩ := h4 i hi
    obtain ⟨d, hok, rfl⟩ := read_bdo e2 e4
    exact ⟨d, hok, b, o, e1, e3 0 (by decide), e3 1 (by decide), e3 2 (by decide), e3 3 (by decide)⟩
  exact ⟨_, ds, rfl, ao, cap, by rw [hl], by omega, h2, hd⟩
end

set_option maxRecDepth 100000 in
set_option maxHeartbeats 4000000 in
theorem few_c (v : Value) (ds : List BDo) (w : World) (h : BDos w v ds) :
    Calls Try.prog 9 #[v, .int .i64 40] w fun e w' => ∃ v' ds', e = .returned v' ∧ Ext w w' ∧ BRow w' w.heap.size v' ds' := by
  obtain ⟨ao, cap, rfl, h1, h2, h3⟩ := h
  obtain ⟨n, hn⟩ : ∃ n, n = ds.length := ⟨_, rfl⟩
  rw [← hn] at h1 ⊢
  have HN := Lib.hid hn
  have HC := Lib.hid h3
  clear hn h3
  go_enter Try.func9, Try.ntmps9
  go_wp2_with fail
  go_loopw [5, 6] (fun v i wr => ∃ (k : Nat) (es : List BDo), k ≤ n ∧ k ≤ 40 ∧ i = .int .i64 k ∧ es.length = k ∧ Ext w wr ∧ BRow wr w.heap.size v es) (fun _ i _ => 40 - (intOf i).toNat)
  case atStart => exact ⟨0, [], Nat.zero_le _, by decide, rfl, rfl, Ext.refl w, by decide, by simp, ⟨none, 0, rfl⟩, World.ownsRow_nil _ _ _ _⟩
  case round =>
    obtain ⟨k, es, hk1, hk2, rfl, hes, hx, hrow⟩ := hrel
    obtain ⟨r1, r2, ⟨eo, ecap, rfl⟩, r4⟩ := hrow
    rw [hes] at r4 ⊢
    have HX := Lib.hid hx
    have HR2 := Lib.hid r2
    have HR4 := Lib.hid r4
    have HES := Lib.hid hes
    clear hx r2 r4 hes r1
    by_cases hlt : k < n ∧ k < 40
    · obtain ⟨hlt1, hlt2⟩ := hlt
      obtain ⟨d, hd⟩ : ∃ d, ds[k]? = some d := ⟨_, List.getElem?_eq_getElem (by rw [← HN.out]; exact hlt1)⟩
      obtain ⟨hok, b, o, rfl, c0, c1, c2, c3⟩ := HC.out k d hd
      have c0 := HX.out.cell c0
      have c1 := HX.out.cell c1
      have c2 := HX.out.cell c2
      have c3 := HX.out.cell c3
      have HOK := Lib.hid hok
      clear hd hok
      go_wp2_with fail
      refine (short_c d.s 40 (by decide) _).mono ?_
      rintro e w2 ⟨s', rfl, hs', rfl⟩
      obtain ⟨bb, hbb⟩ : ∃ bb, bb = wr.heap.size := ⟨_, rfl⟩
      obtain ⟨wA, hwA⟩ : ∃ wA, wA = wr.alloc (.cells #[.int .i64 d.kind, .int .u64 (d.x : Int), .int .i64 d.n, .string d.s] 29) := ⟨_, rfl⟩
      have hxA : Ext wr wA := by rw [hwA]; exact (Ext.refl wr).alloc _
      have hbA : wA.heap[bb]? = some (.cells #[.int .i64 d.kind, .int .u64 (d.x : Int), .int .i64 d.n, .string d.s] 29 (0, 0)) := by rw [hwA, hbb]; exact heap_alloc_new wr _
      rw [← hbb, ← hwA]
      have HXA := Lib.hid (HX.out.trans hxA)
      have HRA := Lib.hid (owns_ext HR4.out hxA)
      have HBA := Lib.hid hbA
      have HSS := Lib.hid hs'
      have HBB : Hid (w.heap.size ≤ bb ∧ wr.heap.size ≤ bb) := Lib.hid (by rw [hbb]; exact ⟨HX.out.size, Nat.le_refl _⟩)
      have fA := frozen_of_blk hbA 3
      have e3 : wA.cell? ⟨bb, 3, none⟩ = some (.string d.s) := by rw [cell_of_blk hbA]; rfl
      have hb2 := setCell_blk (j := 3) (v := .string s') hbA
      have hx2 : Ext wr (wA.setCell ⟨bb, 3, none⟩ (.string s')) := Ext.setCell hxA (by rw [hbb]; exact Nat.le_refl _) _
      have HB2 := Lib.hid hb2
      have HX2 := Lib.hid hx2
      clear hb2 hx2 hbA hxA hbb hwA hs' c0 c1 c2 c3
      go_upto_region 7 with fail
      generalize wA.setCell ⟨bb, 3, none⟩ (.string s') = wB at HB2 HX2 ⊢
      have g0 : wB.cell? ⟨bb, 0, none⟩ = some (.int .i64 d.kind) := by rw [cell_of_blk HB2.out]; rfl
      have g1 : wB.cell? ⟨bb, 1, none⟩ = some (.int .u64 (d.x : Int)) := by rw [cell_of_blk HB2.out]; rfl
      have g2 : wB.cell? ⟨bb, 2, none⟩ = some (.int .i64 d.n) := by rw [cell_of_blk HB2.out]; rfl
      have g3 : wB.cell? ⟨bb, 3, none⟩ = some (.string s') := by rw [cell_of_blk HB2.out]; rfl
      have HRB := Lib.hid (owns_ext HR4.out HX2.out)
      have HSZ : Hid (w.heap.size ≤ wB.heap.size) := Lib.hid (Nat.le_trans HX.out.size HX2.out.size)
      go_wp2_with (first | (at_builtin; go_loud (refine wpList_app rfl (.tmp 27) (.tmp 29) 22 rfl etDo w.heap.size rfl (owns_ext HRB.out ((Ext.refl wB).alloc _)) rfl (Rs.of_owns (owns_lit (n := 1) (size := 4) (cs := #[.int .i64 d.kind, .int .u64 (d.x : Int), .int .i64 d.n, .string s']) rfl (Nat.le_refl _) (by decide))) (by simp [Value.oneCell']) (by omega) (by omega) (by have := HSZ.out; simp; omega) ?_); intro v' w1 hown hgr _) | fail)
      have hgr' : Ext w w1 := ((HX.out.trans HX2.out).alloc _).grown hgr fun q hq => (owns_block HRB.out hq).1
      obtain ⟨no, ncap, rfl⟩ := owns_shape hown
      have HGR := Lib.hid hgr'
      have HOWN := Lib.hid hown
      clear hgr hown hgr'
      go_roundw
      case rel =>
        have hsz : s'.size ≤ 40 := by
          have h5 := congrArg List.length HSS.out
          rw [List.length_take] at h5
          have h6 : s'.data.toList.length = s'.size := rfl
          omega
        refine ⟨k + 1, es ++ [⟨d.kind, d.x, d.n, s'⟩], by omega, by omega, by go_num, by rw [List.length_append, HES.out]; rfl, HGR.out, by rw [List.length_append, HES.out]; simp; omega, ?_, ⟨no, ncap, by rw [List.length_append, HES.out]; rfl⟩, ?_⟩
        · intro d' hd'
          rcases List.mem_append.1 hd' with hd' | hd'
          · exact HR2.out d' hd'
          · rw [List.mem_singleton] at hd'
            subst hd'
            exact ⟨HOK.out, hsz⟩
        · have h5 := HOWN.out
          rw [List.length_append, HES.out, List.flatMap_append]
          exact h5
      case measure => simp [intOf]; omega
    · have hno : n ≤ k ∨ (k < n ∧ 40 ≤ k) := by omega
      rcases hno with hno | ⟨hno, hno'⟩
      all_goals
        go_wp2
        go_ret
        exact ⟨.slice eo k ecap, es, rfl, HX.out, by have := HES.out; omega, HR2.out, ⟨eo, ecap, by rw [HES.out]⟩, by rw [HES.out]; exact HR4.out⟩

end Go.Proofs.Ytlfnpbpbgncbpaa

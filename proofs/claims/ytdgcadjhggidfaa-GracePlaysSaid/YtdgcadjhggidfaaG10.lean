/- How the laws' arguments of layer 24 are read: a record, a row of calls. -/
import Derived.Test.YtdgcadjhggidfaaG9
import Derived.Test.YtdgcadjhggidfaaOpen
set_option linter.unusedVariables false
set_option linter.unusedSimpArgs false
namespace Go.Proofs.Ytdgcadjhggidfaa
open Go.RowKit Go.ChangeShapes Go.WideShapes Go.ChangeAt

section
variable {H : Type} {enc : TypeId × Value → H} {W : World}

theorem fun_of_lt {α : Type} (d : α) {p : Nat → α → Prop} (n : Nat) (h : ∀ i, i < n → ∃ x, p i x) : ∃ f : Nat → α, ∀ i, i < n → p i (f i) := by
  refine ⟨fun i => if hi : i < n then Classical.choose (h i hi) else d, fun i hi => ?_⟩
  simp only [dif_pos hi]
  exact Classical.choose_spec (h i hi)

theorem take_one {α : Type} {l : List α} {i : Nat} {x : α} (h : (l.drop i).take 1 = [x]) : l[i]? = some x := by
  have : ((l.drop i).take 1)[0]? = some x := by rw [h]; rfl
  rw [List.getElem?_take] at this
  simpa using this

theorem read_rec {cs : List Value} {fuel : Nat} {x : DataW H × List MemPlace} (h : DataW.trod enc Try.prog W 0 (fun _ => true) true fuel 26 cs = some x) :
    ∃ R : GRec, cs = (xcells R).toList := by
  obtain ⟨xs, n, _, _, hl, hx, hf⟩ := DataW.trod_struct Try.underlying26 h
  have hl17 : cs.length = 17 := by rw [hl]; kernel_rfl
  have hx3 : xs.length = 3 := hx
  have f0 := hf 0 _ rfl
  have f1 := hf 1 _ rfl
  have f2 := hf 2 _ rfl
  rw [List.getElem?_eq_getElem (by omega)] at f0 f1 f2
  obtain ⟨b, e0, _⟩ := DataW.trod_int Try.underlying22 f0
  obtain ⟨ys, m, _, _, _, hy, ha⟩ := DataW.trod_array Try.underlying23 f1
  obtain ⟨zs, m', _, _, _, hz, hb⟩ := DataW.trod_array Try.underlying24 f2
  have c64 : Try.prog.cellsOf 22 = 1 := by kernel_rfl
  have cb : Try.prog.cellsOf 4 = 1 := by kernel_rfl
  have c8 : Try.prog.cellsOf 23 = 8 := by kernel_rfl
  have cb8 : Try.prog.cellsOf 24 = 8 := by kernel_rfl
  have g0 : cs[0]? = some (.int .u64 b) := take_one (by simpa [c64] using e0)
  obtain ⟨s, hs⟩ := fun_of_lt (0 : Int) (p := fun i v => cs[1 + i]? = some (.int .u64 v)) 8 fun i hi => by
    have hai := ha i hi
    rw [List.getElem?_eq_getElem (by omega)] at hai
    obtain ⟨v, e, _⟩ := DataW.trod_int Try.underlying22 hai
    refine ⟨v, ?_⟩
    rw [c64] at e
    have e' : List.take 1 (List.drop (i * 1) (List.take (Try.prog.cellsOf 23) (List.drop 1 cs))) = [.int .u64 v] := e
    rw [c8] at e'
    have e1 := take_one e'
    rw [List.getElem?_take, if_pos (by omega), List.getElem?_drop] at e1
    simpa using e1
  obtain ⟨g, hg⟩ := fun_of_lt false (p := fun i v => cs[9 + i]? = some (.bool v)) 8 fun i hi => by
    have hai := hb i hi
    rw [List.getElem?_eq_getElem (by omega)] at hai
    obtain ⟨v, e, _⟩ := DataW.trod_bool Try.underlying4 hai
    refine ⟨v, ?_⟩
    rw [cb] at e
    have e' : List.take 1 (List.drop (i * 1) (List.take (Try.prog.cellsOf 24) (List.drop 9 cs))) = [.bool v] := e
    rw [cb8] at e'
    have e1 := take_one e'
    rw [List.getElem?_take, if_pos (by omega), List.getElem?_drop] at e1
    simpa using e1
  refine ⟨⟨b, s, g⟩, List.ext_getElem? fun i => ?_⟩
  rcases Nat.lt_or_ge i 17 with hi | hi
  · rcases (show i = 0 ∨ (1 ≤ i ∧ i < 9) ∨ (9 ≤ i ∧ i < 17) by omega) with rfl | ⟨h1, h2⟩ | ⟨h1, h2⟩
    · rw [g0]; rfl
    · obtain ⟨j, rfl⟩ : ∃ j, i = 1 + j := ⟨i - 1, by omega⟩
      rw [hs j (by omega), Array.getElem?_toList, xcells_s _ j (by omega)]
    · obtain ⟨j, rfl⟩ : ∃ j, i = 9 + j := ⟨i - 9, by omega⟩
      rw [hg j (by omega), Array.getElem?_toList, xcells_h _ j (by omega)]
  · rw [List.getElem?_eq_none (by omega), List.getElem?_eq_none (show (xcells ⟨b, s, g⟩).toList.length ≤ i from hi)]

theorem read_recv {base : Nat} {v : Value} {fuel : Nat} {x : DataW H × List MemPlace} (hv : Value.okWide Try.prog W .any base 26 v) (h : DataW.trod enc Try.prog W 0 (fun _ => true) true fuel 26 v.cells.toList = some x) :
    ∃ R : GRec, v = .agg (xcells R) ∧ True := by
  obtain ⟨cs, rfl, _⟩ := okWide_struct Try.underlying26 hv
  obtain ⟨R, hR⟩ := read_rec h
  refine ⟨R, ?_, trivial⟩
  rw [← Array.toList_inj.1 hR]
  rfl

/-- One call's cells. -/
theorem read_gdo {cs : List Value} {fuel : Nat} {x : DataW H × List MemPlace} (hl : cs.length = 3) (h : DataW.trod enc Try.prog W 0 (fun _ => true) true fuel 39 cs = some x) :
    ∃ d : GDo, cs = [.int .i64 d.kind, .int .i64 d.c, .int .u64 d.s] := by
  obtain ⟨c0, c1, c2, rfl⟩ : ∃ a b c, cs = [a, b, c] := by
    match cs, hl with
    | [a, b, c], _ => exact ⟨a, b, c, rfl⟩
  obtain ⟨xs, n, _, _, _, hx, hf⟩ := DataW.trod_struct Try.underlying39 h
  have hx4 : xs.length = 3 := hx
  have f0 := hf 0 _ rfl
  have f1 := hf 1 _ rfl
  have f2 := hf 2 _ rfl
  rw [List.getElem?_eq_getElem (by omega)] at f0 f1 f2
  obtain ⟨k, e0, _⟩ := DataW.trod_int Try.underlying3 f0
  obtain ⟨t, e1, _⟩ := DataW.trod_int Try.underlying3 f1
  obtain ⟨i, e2, _⟩ := DataW.trod_int Try.underlying22 f2
  have ci : Try.prog.cellsOf 3 = 1 := by kernel_rfl
  have cu : Try.prog.cellsOf 22 = 1 := by kernel_rfl
  have g0 : c0 = .int .i64 k := by simpa [ci] using e0
  have g1 : c1 = .int .i64 t := by simpa [ci] using e1
  have g2 : c2 = .int .u64 i := by simpa [cu] using e2
  subst g0; subst g1; subst g2
  exact ⟨⟨k, t, i⟩, rfl⟩

theorem read_gdos {cs : List Value} {fuel : Nat} {x : DataW H × List MemPlace} (h : DataW.trod enc Try.prog W 0 (fun _ => true) true fuel 27 cs = some x) : ∃ v ds, cs = [v] ∧ GDos W v ds := by
  obtain ⟨ao, len, cap, rfl, h1, h2, _, h4⟩ := read_slice (c := 3) Try.underlying27 (by kernel_rfl) (by decide) h
  obtain ⟨ds, hl, hd⟩ := list_of_lt (p := fun i (d : GDo) => ∃ b o, ao = some ⟨b, o, none⟩ ∧ W.cell? ⟨b, o + i * 3, none⟩ = some (.int .i64 d.kind) ∧ W.cell? ⟨b, o + i * 3 + 1, none⟩ = some (.int .i64 d.c) ∧ W.cell? ⟨b, o + i * 3 + 2, none⟩ = some (.int .u64 d.s)) len fun i hi => by
    obtain ⟨b, o, cs', f, y, e1, e2, e3, e4⟩ := h4 i hi
    obtain ⟨d, rfl⟩ := read_gdo e2 e4
    exact ⟨d, b, o, e1, e3 0 (by decide), e3 1 (by decide), e3 2 (by decide)⟩
  exact ⟨_, ds, rfl, ao, cap, by rw [hl], by omega, h2, hd⟩
end

end Go.Proofs.Ytdgcadjhggidfaa

/- For every row of calls (each a kind, a place to go, an index and bytes), the law NetSent returns true: what is taken from a net was sent; the arguments read behind the call as they read before. No condition beyond the row's own. -/
import Derived.Test.YthekjoahlaifgaaN8
import Derived.Test.YthekjoahlaifgaaOpen
set_option linter.unusedVariables false
set_option linter.unusedSimpArgs false
namespace Go.Proofs.Ythekjoahlaifgaa
open Go.RowKit Go.ChangeShapes Go.WideShapes Go.ChangeAt

section
variable {H : Type} {enc : TypeId × Value → H} {W : World}

theorem Try.own : ownKnob Try.prog.godebug = none := by kernel_rfl
theorem Try.laidOut : laidOutB Try.prog = true := by kernel_rfl

/-- One call's cells. -/
theorem read_do {cs : List Value} {fuel : Nat} {x : DataW H × List MemPlace} (hl : cs.length = 4) (h : DataW.trod enc Try.prog W 0 (fun _ => true) true fuel 28 cs = some x) :
    ∃ d : DoRec, cs = [.int .i64 d.kind, .int .i64 d.to, .int .i64 d.i, .slice d.ao d.b.length d.cap] ∧ Bs W (.slice d.ao d.b.length d.cap) d.b := by
  obtain ⟨c0, c1, c2, c3, rfl⟩ : ∃ a b c d, cs = [a, b, c, d] := by
    match cs, hl with
    | [a, b, c, d], _ => exact ⟨a, b, c, d, rfl⟩
  obtain ⟨xs, n, _, _, _, hx, hf⟩ := DataW.trod_struct Try.underlying28 h
  have hx4 : xs.length = 4 := hx
  have f0 := hf 0 _ rfl
  have f1 := hf 1 _ rfl
  have f2 := hf 2 _ rfl
  have f3 := hf 3 _ rfl
  rw [List.getElem?_eq_getElem (by omega)] at f0 f1 f2 f3
  obtain ⟨k, e0, _⟩ := DataW.trod_int Try.underlying3 f0
  obtain ⟨t, e1, _⟩ := DataW.trod_int Try.underlying3 f1
  obtain ⟨i, e2, _⟩ := DataW.trod_int Try.underlying3 f2
  obtain ⟨ao, cap, l, e3, hb⟩ := read_bytes Try.underlying26 Try.underlying5 (by kernel_rfl) f3
  have ci : Try.prog.cellsOf 3 = 1 := by kernel_rfl
  have cb : Try.prog.cellsOf 26 = 1 := by kernel_rfl
  have g0 : c0 = .int .i64 k := by simpa [ci] using e0
  have g1 : c1 = .int .i64 t := by simpa [ci] using e1
  have g2 : c2 = .int .i64 i := by simpa [ci] using e2
  have g3 : c3 = .slice ao l.length cap := by simpa [cb] using e3
  subst g0; subst g1; subst g2; subst g3
  exact ⟨⟨k, t, i, ao, cap, l⟩, rfl, hb⟩

theorem read_dos {cs : List Value} {fuel : Nat} {x : DataW H × List MemPlace} (h : DataW.trod enc Try.prog W 0 (fun _ => true) true fuel 22 cs = some x) : ∃ v ds, cs = [v] ∧ Dos W v ds := by
  obtain ⟨ao, len, cap, rfl, h1, h2, _, h4⟩ := read_slice (c := 4) Try.underlying22 (by kernel_rfl) (by decide) h
  obtain ⟨ds, hl, hd⟩ := list_of_lt (p := fun i (d : DoRec) => ∃ b o, ao = some ⟨b, o, none⟩ ∧ W.cell? ⟨b, o + i * 4, none⟩ = some (.int .i64 d.kind) ∧ W.cell? ⟨b, o + i * 4 + 1, none⟩ = some (.int .i64 d.to) ∧ W.cell? ⟨b, o + i * 4 + 2, none⟩ = some (.int .i64 d.i) ∧
      W.cell? ⟨b, o + i * 4 + 3, none⟩ = some (.slice d.ao d.b.length d.cap) ∧ Bs W (.slice d.ao d.b.length d.cap) d.b) len fun i hi => by
    obtain ⟨b, o, cs', f, y, e1, e2, e3, e4⟩ := h4 i hi
    obtain ⟨d, rfl, hb⟩ := read_do e2 e4
    exact ⟨d, b, o, e1, e3 0 (by decide), e3 1 (by decide), e3 2 (by decide), e3 3 (by decide), hb⟩
  exact ⟨_, ds, rfl, ao, cap, by rw [hl], by omega, h2, hd⟩
end

set_option maxRecDepth 100000 in
theorem netSent_lifted (os : Os) (started : os.Started) (H : Type) (enc : TypeId × Value → H) :
    ReturnsInHanded {} Try.checked os 3 .any (Rows.netSentSpec.pre6 enc Try.prog Try.f3 Rows.netSentRow.domain false) (Rows.netSentSpec.post enc Try.prog Try.f3 false true false false) := by
  refine returnsInHanded_of_change_sized (C := Try.checked) Try.own started (by kernel_rfl) Try.func3
    (ChangeSpec.witness6 (enc := enc) (C := Try.checked) false ⟨#[], #[.slice none 0 0], []⟩ 8 (by kernel_rfl) (by kernel_rfl) (by kernel_rfl) (by kernel_rfl)) ?_
  intro W base args ds gs before hval hW _ _ _
  have hW' := hW
  obtain ⟨p, q, hA0, hV, rfl, hfz, hnd⟩ := hW
  have hA : DataW.TrodAll enc Try.prog W 0 (fun _ => true) true Try.f3.params.toList args.toList ds p := hA0
  rw [Try.params3] at hA
  obtain ⟨v0, vs0, d0, ds0, p0, q0, hargs, rfl, rfl, h0, r0⟩ := trodAll_cons hA
  obtain ⟨rfl, rfl, rfl⟩ := trodAll_nil r0
  obtain rfl : args = #[v0] := by cases args; simp_all
  obtain ⟨rfl, rfl⟩ := trodVars_none hV
  obtain ⟨fuel, h0⟩ := h0
  obtain ⟨a0, len, cap, rfl⟩ := okWide_slice Try.underlying22 (hval 0 22 v0 rfl rfl)
  obtain ⟨v, dos, hv, hd⟩ := read_dos h0
  simp [Value.cells] at hv
  subst hv
  refine (netSent_calls _ dos W hd).mono fun e W' ⟨he, hb⟩ => ?_
  exact ⟨_, he, law_post Try.laidOut hW' rfl hb rfl Try.underlying4 rfl (by
    rw [show Try.checked.prog = Try.prog from rfl, Try.params3]
    intro t ht
    simp at ht
    subst ht
    exact ⟨by kernel_rfl, of_decide_eq_true (by kernel_rfl)⟩)⟩

theorem netSent_holds : Rows.NetSentSaid :=
  OpenClaim.holds_of_wide 3 Try.f3 rfl rfl rfl rfl rfl rfl rfl ⟨rfl, rfl, rfl, rfl, rfl⟩ rfl rfl rfl rfl rfl (by kernel_rfl) Try.func3 (by kernel_rfl)
    (of_decide_eq_true (by kernel_rfl)) (by unfold Func.isWrapper; first | (rw [if_pos (by decide +kernel)]; kernel_rfl) | (rw [if_neg (by decide +kernel)]; exact ⟨rfl, rfl⟩))
    (fun os started H enc _ => netSent_lifted os started H enc)

end Go.Proofs.Ythekjoahlaifgaa

/- HRd. -/
import Derived.Test.YtonomiljclemnaaH32p
import Derived.Test.YtonomiljclemnaaOpenp
set_option linter.unusedVariables false
set_option linter.unusedSimpArgs false
namespace Go.Proofs.Ytonomiljclemnaa
open Go.RowKit Go.ChangeShapes Go.WideShapes Go.ChangeAt
theorem args_us {w : World} {e : Env} {mem : Mem Td} (h : MemOk w (FootOf Id' w e mem) Id' w e mem) (hro : ∀ n ∈ mem, n.mu = false) {u : Value} {b : Td} (hb : Id'.holds b w u) (hlt : ∀ k, Id'.foot b w u k → k < w.heap.size) : MemOk w (FootOf Id' w (e ++ [u]) (mem ++ [⟨.us b, false⟩])) Id' w (e ++ [u]) (mem ++ [⟨.us b, false⟩]) := by
  have hget : ∀ (i : Nat) (v : Value) (n : En Td), (e ++ [u])[i]? = some v → (mem ++ [⟨.us b, false⟩])[i]? = some n → (e[i]? = some v ∧ mem[i]? = some n) ∨ (v = u ∧ n = ⟨.us b, false⟩) := fun i v n hv hn => by
    have hl := h.len
    rcases Nat.lt_or_ge i e.length with hi | hi
    · rw [List.getElem?_append_left hi] at hv
      rw [List.getElem?_append_left (by omega)] at hn
      exact .inl ⟨hv, hn⟩
    · rw [List.getElem?_append_right hi] at hv
      rw [List.getElem?_append_right (by omega)] at hn
      rw [hl] at hv
      cases hq : i - mem.length with
      | zero => rw [hq] at hv hn; simp at hv hn; exact .inr ⟨hv.symm, hn.symm⟩
      | succ q => rw [hq] at hv; simp at hv
  have hmu : ∀ (i : Nat) (v : Value) (n : En Td), (e ++ [u])[i]? = some v → (mem ++ [⟨.us b, false⟩])[i]? = some n → n.mu = false := fun i v n hv hn => by
    rcases hget i v n hv hn with ⟨_, h2⟩ | ⟨_, rfl⟩
    · exact hro n (List.mem_of_getElem? h2)
    · rfl
  refine ⟨by simp [h.len], fun i v n hv hn => ?_, fun i v n hv hn k hk => ?_, fun i v n hv hn hm => ?_, fun i j v x n m hv hn hm => ?_, Mod.refl _ w, fun i v n hv hn k hk => .inr (footO.2 ⟨i, v, n, hv, hn, hk⟩)⟩
  · rcases hget i v n hv hn with ⟨h1, h2⟩ | ⟨rfl, rfl⟩
    · exact (h.holds i v n h1 h2).mono (Grows.push e u)
    · exact hb
  · rcases hget i v n hv hn with ⟨h1, h2⟩ | ⟨rfl, rfl⟩
    · exact h.lt i v n h1 h2 k hk
    · exact hlt k hk
  · rw [hmu i v n hv hn] at hm; cases hm
  · rw [hmu i v n hv hn] at hm; cases hm
def DosIs (w : World) (u : Value) (l : List DoD) : Prop := dkHolds (.shr 6 l.length (doEl l)) w u ∧ DoOk l
theorem rs_lt {w : World} {sz n : Nat} {u : Value} {vals : List Value} (h : Rs w sz u n vals) (hn : n ≠ 0) (hs : 0 < sz) {k : Nat} (hk : u.ownBlock = some k) : k < w.heap.size := by
  obtain ⟨hl, ao, cap, rfl, h2, h3, h4, h5⟩ := h
  cases ao with
  | none => cases hk
  | some a =>
    have hlt : 0 < vals.length := by rw [hl]; exact Nat.mul_pos (by omega) hs
    have := h5 a rfl 0 _ (List.getElem?_eq_getElem hlt)
    have hb := World.block_lt_of_cell? w _ this
    rw [add_block] at hb
    cases hk
    exact hb
theorem shr_lt {w : World} {u : Value} {l : List DoD} (h : DosIs w u l) : ∀ k, Id'.foot (.ext (.shr 6 l.length (doEl l))) w u k → k < w.heap.size := by
  obtain ⟨⟨_, vals, hR, hc⟩, _⟩ := h
  intro k hk
  rcases hk with ⟨hn, hk⟩ | ⟨i, j, c, v, g1, g2, g3, g4, g5, g6⟩
  · exact rs_lt hR hn (by decide) hk
  · have hi : i * 6 + j < vals.length := by rw [hR.1]; exact slot_lt g1 g2
    have hv := List.getElem?_eq_getElem hi
    have : v = vals[i * 6 + j] := cdAt_eq g5 (cd_at hR hv)
    subst this
    have hcd := hc i j c _ g1 g2 g3 hv
    cases c with
    | v x => exact g4.elim
    | bs b =>
      have hb : Bs w _ b := hcd
      exact bs_lt hb g4 g6
    | ns b =>
      have hb : Is w _ b := hcd
      have hl : b.length ≠ 0 := fun e => g4 (List.eq_nil_of_length_eq_zero e)
      have hb' : Rs w 1 _ b.length (b.map (Value.int .i64)) := hb
      exact rs_lt hb' hl (by decide) g6
section
variable {H : Type} {enc : TypeId × Value → H} {W : World}
theorem read_dod {cs : List Value} {fuel : Nat} {x : DataW H × List MemPlace} (hl : cs.length = 6) (h : DataW.trod enc Try.prog W 0 (fun _ => true) true fuel 33 cs = some x) :
    ∃ (d : DoD) (vb vk : Value), cs = [.int .i64 d.kind, .int .i64 d.at', .int .i64 d.n, vb, .bool d.sh, vk] ∧ Bs W vb d.b ∧ Is W vk d.ks ∧ d.n ≤ 9223372036854775807 ∧ d.b.length ≤ 9223372036854775807 := by
  obtain ⟨c0, c1, c2, c3, c4, c5, rfl⟩ : ∃ c0 c1 c2 c3 c4 c5, cs = [c0, c1, c2, c3, c4, c5] := by
    match cs, hl with
    | [c0, c1, c2, c3, c4, c5], _ => exact ⟨c0, c1, c2, c3, c4, c5, rfl⟩
  obtain ⟨xs, n, _, _, _, hx, hf⟩ := DataW.trod_struct Try.underlying33 h
  have hxn : xs.length = 6 := hx
  have z1 : Try.prog.cellsOf 3 = 1 := by kernel_rfl
  have z2 : Try.prog.cellsOf 31 = 1 := by kernel_rfl
  have z3 : Try.prog.cellsOf 4 = 1 := by kernel_rfl
  have z4 : Try.prog.cellsOf 23 = 1 := by kernel_rfl
  have f0 := hf 0 _ rfl
  have f1 := hf 1 _ rfl
  have f2 := hf 2 _ rfl
  have f3 := hf 3 _ rfl
  have f4 := hf 4 _ rfl
  have f5 := hf 5 _ rfl
  rw [List.getElem?_eq_getElem (by omega)] at f0 f1 f2 f3 f4 f5
  obtain ⟨v0, e0, _, w0⟩ := DataW.trod_int Try.underlying3 f0
  have g0 : c0 = .int .i64 v0 := by simpa [z1, z2, z3, z4] using e0
  obtain ⟨v1, e1, _, w1⟩ := DataW.trod_int Try.underlying3 f1
  have g1 : c1 = .int .i64 v1 := by simpa [z1, z2, z3, z4] using e1
  obtain ⟨v2, e2, _, w2⟩ := DataW.trod_int Try.underlying3 f2
  have g2 : c2 = .int .i64 v2 := by simpa [z1, z2, z3, z4] using e2
  obtain ⟨a3, p3, b, e3, hb⟩ := read_bytes Try.underlying31 Try.underlying5 (by kernel_rfl) f3
  have g3 : c3 = .slice a3 b.length p3 := by simpa [z1, z2, z3, z4] using e3
  obtain ⟨v4, e4, _⟩ := DataW.trod_bool Try.underlying4 f4
  have g4 : c4 = .bool v4 := by simpa [z1, z2, z3, z4] using e4
  obtain ⟨a5, p5, ks, e5, hk, _⟩ := read_ints Try.underlying23 Try.underlying3 (by kernel_rfl) f5
  have g5 : c5 = .slice a5 ks.length p5 := by simpa [z1, z2, z3, z4] using e5
  have hbl : b.length ≤ 9223372036854775807 := by
    obtain ⟨_, ao, cap, he, h1, h2, _⟩ := id hb
    simp only [Value.slice.injEq] at he
    unfold maxLen at h2
    omega
  exact ⟨⟨v0, v1, v2, b, v4, ks⟩, _, _, by rw [g0, g1, g2, g3, g4, g5], hb, hk, (wf_i64 w2).2, hbl⟩
theorem read_dos {cs : List Value} {fuel : Nat} {x : DataW H × List MemPlace} (h : DataW.trod enc Try.prog W 0 (fun _ => true) true fuel 22 cs = some x) : ∃ v l, cs = [v] ∧ DosIs W v l := by
  obtain ⟨ao, len, cap, rfl, h1, h2, h3, h4⟩ := read_slice (c := 6) Try.underlying22 (by kernel_rfl) (by decide) h
  obtain ⟨ds, hl, hd⟩ := list_of_lt (p := fun i (d : DoD) => ∃ (vb vk : Value), (∃ b o, ao = some ⟨b, o, none⟩ ∧ ∀ j, j < 6 → W.cell? ⟨b, o + i * 6 + j, none⟩ = [.int .i64 d.kind, .int .i64 d.at', .int .i64 d.n, vb, .bool d.sh, vk][j]?) ∧ Bs W vb d.b ∧ Is W vk d.ks ∧ d.n ≤ 9223372036854775807 ∧ d.b.length ≤ 9223372036854775807) len fun i hi => by
    obtain ⟨b, o, cs', f, y, e1, e2, e3, e4⟩ := h4 i hi
    obtain ⟨d, vb, vk, rfl, q1, q2, q3⟩ := read_dod e2 e4
    exact ⟨d, vb, vk, ⟨b, o, e1, e3⟩, q1, q2, q3⟩
  refine ⟨_, ds, rfl, ⟨by decide, ?_⟩, fun d hd' => ?_⟩
  · cases ao with
    | none =>
      have h0 : len = 0 := by have := h3 rfl; omega
      subst h0
      have : ds = [] := List.eq_nil_of_length_eq_zero hl
      subst this
      exact ⟨[], ⟨rfl, none, cap, rfl, h1, h2, h3, fun a h => by cases h⟩, fun i j c v hi => absurd hi (by simp)⟩
    | some a =>
      let vals : List Value := (List.range (len * 6)).map fun p => (W.cell? (a.add p)).getD undef
      have hv : ∀ i j, i < len → j < 6 → ∀ d vb vk, ds[i]? = some d → (W.cell? (a.add (i * 6 + j)) = [.int .i64 d.kind, .int .i64 d.at', .int .i64 d.n, vb, .bool d.sh, vk][j]? → vals[i * 6 + j]? = [.int .i64 d.kind, .int .i64 d.at', .int .i64 d.n, vb, .bool d.sh, vk][j]?) := fun i j hi hj d vb vk hdi hc => by
        have hp : i * 6 + j < len * 6 := slot_lt hi hj
        have hjl : j < [Value.int .i64 d.kind, .int .i64 d.at', .int .i64 d.n, vb, .bool d.sh, vk].length := hj
        simp only [vals, List.getElem?_map, List.getElem?_range hp, Option.map_some, hc]
        rw [List.getElem?_eq_getElem hjl]
        rfl
      have cell : ∀ i, i < len → ∃ d vb vk, ds[i]? = some d ∧ (∀ j, j < 6 → W.cell? (a.add (i * 6 + j)) = [.int .i64 d.kind, .int .i64 d.at', .int .i64 d.n, vb, .bool d.sh, vk][j]?) ∧ Bs W vb d.b ∧ Is W vk d.ks := fun i hi => by
        have hds : ds[i]? = some ds[i] := List.getElem?_eq_getElem (by omega)
        obtain ⟨vb, vk, ⟨b, o, e1, e2⟩, q1, q2, _⟩ := hd i _ hds
        cases e1
        exact ⟨_, vb, vk, hds, fun j hj => by rw [Addr.add_mid, ← Nat.add_assoc]; exact e2 j hj, q1, q2⟩
      refine ⟨vals, ⟨by simp [vals, hl], some a, cap, by rw [hl], by rw [hl]; exact h1, h2, h3, fun a' ha' p u hu => ?_⟩, fun i j c v hi hj hc hvv => ?_⟩
      · cases ha'
        have hp : p < len * 6 := by have := (List.getElem?_eq_some_iff.1 hu).1; simpa [vals] using this
        have hi : p / 6 < len := by omega
        have hj : p % 6 < 6 := Nat.mod_lt _ (by decide)
        obtain ⟨d, vb, vk, g1, g2, _⟩ := cell (p / 6) hi
        have hpe : p / 6 * 6 + p % 6 = p := by omega
        have hc := g2 (p % 6) hj
        have hv2 := hv (p / 6) (p % 6) hi hj d vb vk g1 hc
        rw [hpe] at hc hv2
        rw [hc, ← hv2, hu]
      · rw [hl] at hi
        obtain ⟨d, vb, vk, g1, g2, g3, g4⟩ := cell i hi
        have hv2 := hv i j hi hj d vb vk g1 (g2 j hj)
        rw [hvv] at hv2
        have hdd : ds.getD i DoD.zero = d := by rw [List.getD_eq_getElem?_getD, g1]; rfl
        unfold doEl at hc
        rw [hdd] at hc
        match j, hj with
        | 0, _ => simp at hc hv2; subst hc; exact hv2
        | 1, _ => simp at hc hv2; subst hc; exact hv2
        | 2, _ => simp at hc hv2; subst hc; exact hv2
        | 3, _ => simp at hc hv2; subst hc; subst hv2; exact g3
        | 4, _ => simp at hc hv2; subst hc; exact hv2
        | 5, _ => simp at hc hv2; subst hc; subst hv2; exact g4
  · obtain ⟨i, hi, hi'⟩ := List.getElem_of_mem hd'
    obtain ⟨_, _, _, _, _, q⟩ := hd i d (by rw [List.getElem?_eq_getElem hi, hi'])
    exact q
end
end Go.Proofs.Ytonomiljclemnaa

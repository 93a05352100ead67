/- The document's reader in a block: what its calls leave. -/
import Derived.Test.YtophabekaicdeaaQ1
import Derived.Test.YtophabekaicdeaaF1


set_option linter.unusedVariables false
set_option linter.unusedSimpArgs false
namespace Go.Proofs.Ytophabekaicdeaa
open Go.RowKit

theorem rcgetS (s : RS) (xb o : Nat) (N : Nat → Prop) (n : Int) (w : World) (h : RRc w N o xb ((bitsAll s.l).drop s.at') s.err) (hl : s.l.length ≤ 100000) (ha : s.at' ≤ 8 * s.l.length) :
    Calls Try.prog 63 #[.pointer (some ⟨xb, o, none⟩), .int .i64 n] w fun e w' => e = .returned (.int .u64 (s.num n : Int)) ∧ RRc w' N o xb ((bitsAll (s.get n).l).drop (s.get n).at') (s.get n).err ∧ Mod (fun k => k = xb) w w' := by
  obtain ⟨g1, g2, g3⟩ := getV_eq s.l s.at' s.err n ha
  have := rcget_c xb o N _ s.err n w h (by rw [List.length_drop, bitsAll_length]; omega)
  rw [g1, g2, g3] at this
  exact this
theorem rctextS (s : RS) (xb o : Nat) (N : Nat → Prop) (w : World) (hN : ∀ k, N k → k < w.heap.size) (h : RRc w N o xb ((bitsAll s.l).drop s.at') s.err) (hl : s.l.length ≤ 100000) (ha : s.at' ≤ 8 * s.l.length) :
    Calls Try.prog 64 #[.pointer (some ⟨xb, o, none⟩)] w fun e w' => e = .returned (.string s.txt) ∧ RRc w' N o xb ((bitsAll s.aft.l).drop s.aft.at') s.aft.err ∧ Mod (fun k => k = xb) w w' := by
  obtain ⟨l, at', err⟩ := s
  simp only at h hl ha
  have hbl : ((bitsAll l).drop at').length = 8 * l.length - at' := by rw [List.length_drop, bitsAll_length]
  obtain ⟨g1, g2, g3⟩ := getV_eq l at' err 16 ha
  by_cases he : getE l at' err 16 = 0
  · have he' := he
    unfold getE at he'
    have h0 : err = 0 := by
      by_cases h : err = 0
      · exact h
      · rw [if_pos h] at he'; exact absurd he' h
    subst h0
    have h16 : at' + 16 ≤ 8 * l.length := by
      rw [if_neg (by simp), if_neg (by omega)] at he'
      by_cases h : 8 * (l.length : Int) < (at' : Int) + 16
      · rw [if_pos h] at he'; exact absurd he' (by decide)
      · omega
    have hv : val (((bitsAll l).drop at').take 16) = val (bitsFrom l at' 16) := rfl
    by_cases hf : at' + 16 + 8 * val (bitsFrom l at' 16) ≤ 8 * l.length
    · have hok : RS.okT ⟨l, at', 0⟩ = true := decide_eq_true ⟨he, hf⟩
      have e1 : RS.txt ⟨l, at', 0⟩ = ⟨(bytesFrom l (at' + 16) (val (bitsFrom l at' 16))).toArray⟩ := by unfold RS.txt; rw [if_pos hok]; rfl
      have e2 : RS.aft ⟨l, at', 0⟩ = ⟨l, at' + 16 + 8 * val (bitsFrom l at' 16), 0⟩ := by unfold RS.aft; rw [if_pos hok]; rfl
      rw [e1, e2]
      have := rctext_ok xb o N ((bitsAll l).drop at') (val (bitsFrom l at' 16)) w hN h (by omega) hv.symm (by omega)
      rw [List.drop_drop, List.drop_drop, bytesL_eq, show at' + (16 + 8 * val (bitsFrom l at' 16)) = at' + 16 + 8 * val (bitsFrom l at' 16) by omega] at this
      exact this
    · have hok : ¬ RS.okT ⟨l, at', 0⟩ = true := fun h => hf (of_decide_eq_true h).2
      have e1 : RS.txt ⟨l, at', 0⟩ = ⟨#[]⟩ := by unfold RS.txt; rw [if_neg hok]
      have e2 : RS.aft ⟨l, at', 0⟩ = ⟨l, at' + 16, 3⟩ := by unfold RS.aft; rw [if_neg hok, if_pos he]
      rw [e1, e2]
      have := rctext_short xb o N ((bitsAll l).drop at') (val (bitsFrom l at' 16)) w h (by omega) (by omega) hv.symm (by omega)
      rw [List.drop_drop] at this
      exact this
  · have hok : ¬ RS.okT ⟨l, at', err⟩ = true := fun h => he (of_decide_eq_true h).1
    have e1 : RS.txt ⟨l, at', err⟩ = ⟨#[]⟩ := by unfold RS.txt; rw [if_neg hok]
    have e2 : RS.aft ⟨l, at', err⟩ = ⟨l, getAt l at' err 16, getE l at' err 16⟩ := by unfold RS.aft; rw [if_neg hok, if_neg he]
    rw [e1, e2]
    have := rctext_err xb o N ((bitsAll l).drop at') err w h (by omega) (by rw [g3]; exact he)
    rw [g2, g3] at this
    exact this

section
variable {β : Type} {I : ObI β} {W0 : World} {G : Nat → Prop} {w w' : World} {E : Env} {mem : Mem β}
/-- One thing turns and takes the place of another one, which comes anew. -/
theorem MemOk.swap (h : MemOk W0 G I w E mem) {i j : Nat} {u uj x : Value} {o oj nb nx : Ob β} (hij : i ≠ j) (hu : E[i]? = some u) (hn : mem[i]? = some ⟨o, true⟩) (huj : E[j]? = some uj) (hnj : mem[j]? = some ⟨oj, true⟩)
    (hm : Mod (fun k => Foot I w u o k) w w') (hi : Holds I (E ++ [x]) w' u true nb) (fi : ∀ k, Foot I w' u nb k → Foot I w u o k) (hx : Holds I (E ++ [x]) w' x true nx) (fx : ∀ k, Foot I w' x nx k → Foot I w uj oj k) :
    MemOk W0 G I w' (E ++ [x]) ((mem.set i ⟨nb, true⟩).set j ⟨.dead, true⟩ ++ [⟨nx, true⟩]) := by
  have hlen := h.len
  have li := (List.getElem?_eq_some_iff.1 hn).1
  have lj := (List.getElem?_eq_some_iff.1 hnj).1
  have hM : ∀ (a : Nat) (n : En β), ((mem.set i ⟨nb, true⟩).set j ⟨.dead, true⟩ ++ [⟨nx, true⟩])[a]? = some n → (a = i ∧ n = ⟨nb, true⟩) ∨ (a = j ∧ n = ⟨.dead, true⟩) ∨ (a = mem.length ∧ n = ⟨nx, true⟩) ∨ (a ≠ i ∧ a ≠ j ∧ a < mem.length ∧ mem[a]? = some n) := fun a n ha => by
    rcases Nat.lt_or_ge a mem.length with hl | hl
    · rw [List.getElem?_append_left (by simpa using hl)] at ha
      by_cases e1 : a = j
      · subst e1
        rw [List.getElem?_set_self (by simpa using hl)] at ha
        cases ha; exact .inr (.inl ⟨rfl, rfl⟩)
      · rw [List.getElem?_set_ne (fun e => e1 e.symm)] at ha
        by_cases e2 : a = i
        · subst e2
          rw [List.getElem?_set_self hl] at ha
          cases ha; exact .inl ⟨rfl, rfl⟩
        · rw [List.getElem?_set_ne (fun e => e2 e.symm)] at ha
          exact .inr (.inr (.inr ⟨e2, e1, hl, ha⟩))
    · rw [List.getElem?_append_right (by simpa using hl)] at ha
      have h0 : a - ((mem.set i ⟨nb, true⟩).set j ⟨.dead, true⟩).length = 0 := by
        rcases Nat.eq_zero_or_pos (a - ((mem.set i ⟨nb, true⟩).set j ⟨.dead, true⟩).length) with h0 | h0
        · exact h0
        · rw [List.getElem?_eq_none (by simp at h0 ⊢; omega)] at ha; cases ha
      rw [h0] at ha
      simp at ha h0
      exact .inr (.inr (.inl ⟨by omega, ha.symm⟩))
  have hE : ∀ (a : Nat) (v : Value), (E ++ [x])[a]? = some v → (a < mem.length ∧ E[a]? = some v) ∨ (a = mem.length ∧ v = x) := fun a v ha => by
    rcases Nat.lt_or_ge a E.length with hl | hl
    · rw [List.getElem?_append_left hl] at ha; exact .inl ⟨by omega, ha⟩
    · rw [List.getElem?_append_right hl] at ha
      have h0 : a - E.length = 0 := by
        rcases Nat.eq_zero_or_pos (a - E.length) with h0 | h0
        · exact h0
        · rw [List.getElem?_eq_none (by simp at h0 ⊢; omega)] at ha; cases ha
      rw [h0] at ha
      simp at ha
      exact .inr ⟨by omega, ha.symm⟩
  -- what each was
  have key : ∀ (a : Nat) (v : Value) (n : En β), (E ++ [x])[a]? = some v → ((mem.set i ⟨nb, true⟩).set j ⟨.dead, true⟩ ++ [⟨nx, true⟩])[a]? = some n → Holds I (E ++ [x]) w' v n.mu n.ob ∧
      ((∀ k, ¬ Foot I w' v n.ob k) ∨ ∃ a0 v0 n0, ((a = mem.length ∧ a0 = j) ∨ (a < mem.length ∧ a ≠ j ∧ a0 = a)) ∧ E[a0]? = some v0 ∧ mem[a0]? = some n0 ∧ n0.mu = n.mu ∧ ∀ k, Foot I w' v n.ob k → Foot I w v0 n0.ob k) := fun a v n hv hna => by
    rcases hM a n hna with ⟨rfl, rfl⟩ | ⟨rfl, rfl⟩ | ⟨rfl, rfl⟩ | ⟨e1, e2, e3, e4⟩
    · rcases hE _ v hv with ⟨_, h1⟩ | ⟨h1, _⟩
      · rw [hu] at h1; cases h1
        exact ⟨hi, .inr ⟨_, u, _, .inr ⟨li, hij, rfl⟩, hu, hn, rfl, fi⟩⟩
      · omega
    · rcases hE _ v hv with ⟨_, h1⟩ | ⟨h1, _⟩
      · rw [huj] at h1; cases h1
        exact ⟨(h.holds _ _ _ huj hnj).oneCell, .inl fun k hk => hk⟩
      · omega
    · rcases hE _ v hv with ⟨h1, _⟩ | ⟨_, rfl⟩
      · omega
      · exact ⟨hx, .inr ⟨j, uj, _, .inl ⟨rfl, rfl⟩, huj, hnj, rfl, fx⟩⟩
    · rcases hE _ v hv with ⟨_, h1⟩ | ⟨h1, _⟩
      · have st := (h.holds a v n h1 e4).stay hm fun k hk hF => h.sep i a u v _ n hu hn rfl h1 e4 (fun e => e1 e.symm) k hF hk
        exact ⟨st.1.mono (Grows.push E x), .inr ⟨a, v, n, .inr ⟨e3, e2, rfl⟩, h1, e4, rfl, st.2⟩⟩
      · omega
  refine ⟨by simp [hlen], fun a v n hv hna => (key a v n hv hna).1, fun a v n hv hna k hk => ?_, fun a v n hv hna hmu k hk => ?_, fun a b v v' n m hv hna hmu hv' hnb hab k hk hk' => ?_, ?_⟩
  · rcases (key a v n hv hna).2 with h0 | ⟨a0, v0, n0, _, q1, q2, q3, q4⟩
    · exact absurd hk (h0 k)
    · exact Nat.lt_of_lt_of_le (h.lt a0 v0 n0 q1 q2 k (q4 k hk)) hm.size
  · rcases (key a v n hv hna).2 with h0 | ⟨a0, v0, n0, _, q1, q2, q3, q4⟩
    · exact absurd hk (h0 k)
    · exact h.own a0 v0 n0 q1 q2 (q3.trans hmu) k (q4 k hk)
  · rcases (key a v n hv hna).2 with h0 | ⟨a0, v0, n0, r1, q1, q2, q3, q4⟩
    · exact absurd hk (h0 k)
    · rcases (key b v' m hv' hnb).2 with h0 | ⟨b0, v1, n1, r2, p1, p2, p3, p4⟩
      · exact absurd hk' (h0 k)
      · refine h.sep a0 b0 v0 v1 n0 n1 q1 q2 (q3.trans hmu) p1 p2 (fun e => hab ?_) k (q4 k hk) (p4 k hk')
        rcases r1 with ⟨r1, r1'⟩ | ⟨r1, r1', r1''⟩ <;> rcases r2 with ⟨r2, r2'⟩ | ⟨r2, r2', r2''⟩ <;> omega
  · exact Mod.trans h.mod hm fun k hk hl => by
      rcases h.own i u _ hu hn rfl k hk with h1 | h1
      · omega
      · exact h1
end
end Go.Proofs.Ytophabekaicdeaa

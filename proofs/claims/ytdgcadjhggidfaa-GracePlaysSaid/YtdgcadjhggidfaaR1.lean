/- Contracts of the reference's small helpers (Within, Cut, Same, SameInts, Copy), for every argument that reads. -/
import Derived.Test.YtdgcadjhggidfaaBase
set_option linter.unusedVariables false
set_option linter.unusedSimpArgs false
namespace Go.Proofs.Ytdgcadjhggidfaa
open Go.RowKit

/-- A number, or the limit that it is beyond. -/
def clampI (x a b : Int) : Int := if x < a then a else if b < x then b else x


theorem take_succ_eq {α : Type} {xs ys : List α} {k : Nat} (hx : k < xs.length) (hy : k < ys.length) :
    xs.take (k + 1) = ys.take (k + 1) ↔ xs.take k = ys.take k ∧ xs[k] = ys[k] := by
  rw [List.take_succ_eq_append_getElem hx, List.take_succ_eq_append_getElem hy]
  constructor
  · intro h
    have := List.append_inj h (by simp; omega)
    exact ⟨this.1, by simpa using this.2⟩
  · rintro ⟨h1, h2⟩
    rw [h1, h2]


set_option maxHeartbeats 400000 in
theorem sameInts_c (va vb : Value) (xs ys : List Int) (w : World) (ha : Is w va xs) (hb : Is w vb ys) :
    Calls Try.prog 19 #[va, vb] w fun e w' => e = .returned (.bool (decide (xs = ys))) ∧ ∃ n, w' = w.drewN n := by
  obtain ⟨ao, ca, rfl, ca1, ca2, ca3, hca⟩ := ha.open
  obtain ⟨bo, cb, rfl, cb1, cb2, cb3, hcb⟩ := hb.open
  clear ha hb
  obtain ⟨na, hna⟩ : ∃ n, n = xs.length := ⟨_, rfl⟩
  obtain ⟨nb, hnb⟩ : ∃ n, n = ys.length := ⟨_, rfl⟩
  rw [← hna] at ca1 hca ⊢
  rw [← hnb] at cb1 hcb ⊢
  have Ha := Lib.hid hca; clear hca
  have Hb := Lib.hid hcb; clear hcb
  have Na := Lib.hid hna; clear hna
  have Nb := Lib.hid hnb; clear hnb
  have Ca := Lib.hid ca3; clear ca3
  have Cb := Lib.hid cb3; clear cb3
  by_cases hn : na = nb
  · subst hn
    go_enter Try.func19, Try.ntmps19
    go_wp2
    go_loopw [5] (fun i wr => ∃ k : Nat, k ≤ na ∧ i = .int .i64 k ∧ Hid (xs.take k = ys.take k) ∧ ∃ n, wr = w.drewN n) (fun i _ => na - (intOf i).toNat)
    case atStart => exact ⟨0, by omega, rfl, rfl, 0, rfl⟩
    case round =>
      obtain ⟨k, hk, rfl, Ht, nd, rfl⟩ := hrel
      by_cases hlt : k < na
      · obtain ⟨a, rfl⟩ : ∃ a, ao = some a := by cases ao with | none => have := Ca.out rfl; omega | some a => exact ⟨a, rfl⟩
        obtain ⟨b, rfl⟩ : ∃ a, bo = some a := by cases bo with | none => have := Cb.out rfl; omega | some a => exact ⟨a, rfl⟩
        have hax := Ha.out a rfl k hlt
        have hbx := Hb.out b rfl k hlt
        have hts := take_succ_eq (xs := xs) (ys := ys) (k := k) (by rw [← Na.out]; exact hlt) (by rw [← Nb.out]; exact hlt)
        have e1 : xs.getD k 0 = xs[k]'(by rw [← Na.out]; exact hlt) := by simp [List.getD, List.getElem?_eq_getElem (show k < xs.length by rw [← Na.out]; exact hlt)]
        have e2 : ys.getD k 0 = ys[k]'(by rw [← Nb.out]; exact hlt) := by simp [List.getD, List.getElem?_eq_getElem (show k < ys.length by rw [← Nb.out]; exact hlt)]
        generalize xs.getD k 0 = x at hax e1
        generalize ys.getD k 0 = y at hbx e2
        rw [← e1, ← e2] at hts
        have Hts := Lib.hid hts
        clear hts e1 e2
        by_cases hxy : x = y
        · subst hxy
          go_wp2
          go_quiet (fail)
          go_wp2
          go_roundw
          case rel => exact ⟨k + 1, by omega, by go_num, Lib.hid (Hts.out.2 (by simp [Ht.out])), _, rfl⟩
          case measure => simp [intOf]; omega
        · have hne : (x != y) = true := by
            rw [bne_iff_ne]; exact hxy
          go_wp2
          go_quiet (fail)
          go_wp2
          go_ret
          refine ⟨?_, _, World.drewN_drewN _ _ _⟩
          have : ¬ xs = ys := by
            intro h; have := Hts.out.1 (by rw [h]); exact hxy this.2
          simp [this]
      · go_wp2
        go_ret
        refine ⟨?_, _, rfl⟩
        have h1 : xs = ys := by
          have := Ht.out
          rwa [List.take_of_length_le (by rw [← Na.out]; omega), List.take_of_length_le (by rw [← Nb.out]; omega)] at this
        simp [h1]
  · have hnn : ((na : Int) != (nb : Int)) = true := by rw [bne_iff_ne]; omega
    have H : ¬ xs = ys := by intro h; apply hn; rw [Na.out, Nb.out, h]
    have H' := Lib.hid H
    clear H
    go_enter Try.func19, Try.ntmps19
    go_wp2
    go_ret
    exact ⟨by simp [H'.out], 0, rfl⟩





end Go.Proofs.Ytdgcadjhggidfaa

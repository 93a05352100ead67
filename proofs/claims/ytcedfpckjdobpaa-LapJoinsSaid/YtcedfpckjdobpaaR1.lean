/- Contracts of the reference's small helpers (Within, Cut, Same, SameInts, Copy), for every argument that reads. -/
import Derived.Test.YtcedfpckjdobpaaBase
set_option linter.unusedVariables false
set_option linter.unusedSimpArgs false
namespace Go.Proofs.Ytcedfpckjdobpaa
open Go.RowKit

/-- A number, or the limit that it is beyond. -/
def clampI (x a b : Int) : Int := if x < a then a else if b < x then b else x

set_option maxHeartbeats 400000 in
theorem within_c (x a b : Int) (w : World) :
    Calls Try.prog 15 #[.int .i64 x, .int .i64 a, .int .i64 b] w fun e w' => e = .returned (.int .i64 (clampI x a b)) ∧ w = w' := by
  go_enter Try.func15, Try.ntmps15
  go_wp2
  all_goals (go_ret; refine ⟨?_, rfl⟩; simp [clampI]; try omega)

theorem take_succ_eq {α : Type} {xs ys : List α} {k : Nat} (hx : k < xs.length) (hy : k < ys.length) :
    xs.take (k + 1) = ys.take (k + 1) ↔ xs.take k = ys.take k ∧ xs[k] = ys[k] := by
  rw [List.take_succ_eq_append_getElem hx, List.take_succ_eq_append_getElem hy]
  constructor
  · intro h
    have := List.append_inj h (by simp; omega)
    exact ⟨this.1, by simpa using this.2⟩
  · rintro ⟨h1, h2⟩
    rw [h1, h2]

set_option maxHeartbeats 400000 in
theorem same_c (va vb : Value) (xs ys : List UInt8) (w : World) (ha : Bs w va xs) (hb : Bs w vb ys) :
    Calls Try.prog 18 #[va, vb] w fun e w' => e = .returned (.bool (decide (xs = ys))) ∧ ∃ n, w' = w.drewN n := by
  obtain ⟨ao, ca, rfl, ca1, ca2, ca3, hca⟩ := ha.open
  obtain ⟨bo, cb, rfl, cb1, cb2, cb3, hcb⟩ := hb.open
  clear ha hb
  obtain ⟨na, hna⟩ : ∃ n, n = xs.length := ⟨_, rfl⟩
  obtain ⟨nb, hnb⟩ : ∃ n, n = ys.length := ⟨_, rfl⟩
  rw [← hna] at ca1 hca ⊢
  rw [← hnb] at cb1 hcb ⊢
  have Ha := Lib.hid hca; clear hca
  have Hb := Lib.hid hcb; clear hcb
  have Na := Lib.hid hna; clear hna
  have Nb := Lib.hid hnb; clear hnb
  have Ca := Lib.hid ca3; clear ca3
  have Cb := Lib.hid cb3; clear cb3
  by_cases hn : na = nb
  · subst hn
    go_enter Try.func18, Try.ntmps18
    go_wp2
    go_loopw [5] (fun i wr => ∃ k : Nat, k ≤ na ∧ i = .int .i64 k ∧ Hid (xs.take k = ys.take k) ∧ ∃ n, wr = w.drewN n) (fun i _ => na - (intOf i).toNat)
    case atStart => exact ⟨0, by omega, rfl, rfl, 0, rfl⟩
    case round =>
      obtain ⟨k, hk, rfl, Ht, nd, rfl⟩ := hrel
      by_cases hlt : k < na
      · obtain ⟨a, rfl⟩ : ∃ a, ao = some a := by cases ao with | none => have := Ca.out rfl; omega | some a => exact ⟨a, rfl⟩
        obtain ⟨b, rfl⟩ : ∃ a, bo = some a := by cases bo with | none => have := Cb.out rfl; omega | some a => exact ⟨a, rfl⟩
        have hax := Ha.out a rfl k hlt
        have hbx := Hb.out b rfl k hlt
        have hts := take_succ_eq (xs := xs) (ys := ys) (k := k) (by rw [← Na.out]; exact hlt) (by rw [← Nb.out]; exact hlt)
        have e1 : xs.getD k 0 = xs[k]'(by rw [← Na.out]; exact hlt) := by simp [List.getD, List.getElem?_eq_getElem (show k < xs.length by rw [← Na.out]; exact hlt)]
        have e2 : ys.getD k 0 = ys[k]'(by rw [← Nb.out]; exact hlt) := by simp [List.getD, List.getElem?_eq_getElem (show k < ys.length by rw [← Nb.out]; exact hlt)]
        generalize xs.getD k 0 = x at hax e1
        generalize ys.getD k 0 = y at hbx e2
        rw [← e1, ← e2] at hts
        have Hts := Lib.hid hts
        clear hts e1 e2
        by_cases hxy : x = y
        · subst hxy
          go_wp2
          go_quiet (fail)
          go_wp2
          go_roundw
          case rel => exact ⟨k + 1, by omega, by go_num, Lib.hid (Hts.out.2 (by simp [Ht.out])), _, rfl⟩
          case measure => simp [intOf]; omega
        · have hne : ((x.toNat : Int) != (y.toNat : Int)) = true := by
            rw [bne_iff_ne]; intro h; exact hxy (UInt8.toNat_inj.1 (by omega))
          go_wp2
          go_quiet (fail)
          go_wp2
          go_ret
          refine ⟨?_, _, World.drewN_drewN _ _ _⟩
          have : ¬ xs = ys := by
            intro h; have := Hts.out.1 (by rw [h]); exact hxy this.2
          simp [this]
      · go_wp2
        go_ret
        refine ⟨?_, _, rfl⟩
        have h1 : xs = ys := by
          have := Ht.out
          rwa [List.take_of_length_le (by rw [← Na.out]; omega), List.take_of_length_le (by rw [← Nb.out]; omega)] at this
        simp [h1]
  · have hnn : ((na : Int) != (nb : Int)) = true := by rw [bne_iff_ne]; omega
    have H : ¬ xs = ys := by intro h; apply hn; rw [Na.out, Nb.out, h]
    have H' := Lib.hid H
    clear H
    go_enter Try.func18, Try.ntmps18
    go_wp2
    go_ret
    exact ⟨by simp [H'.out], 0, rfl⟩


set_option maxHeartbeats 400000 in
theorem cut_c (v : Value) (l : List UInt8) (n : Int) (hn0 : 0 ≤ n) (hn1 : n ≤ 9223372036854775807) (w : World) (h : Bs w v l) :
    Calls Try.prog 23 #[v, .int .i64 n] w fun e w' => ∃ ao' cap', e = .returned (.slice ao' (l.take n.toNat).length cap') ∧ w = w' ∧ Bs w (.slice ao' (l.take n.toNat).length cap') (l.take n.toNat) ∧ (∀ k, (Value.slice ao' (l.take n.toNat).length cap').ownBlock = some k → v.ownBlock = some k) := by
  obtain ⟨k, rfl⟩ := Int.eq_ofNat_of_zero_le hn0
  have h0 := h
  obtain ⟨ao, ca, rfl, ca1, ca2, ca3, hca⟩ := h.open
  clear h hca
  have Ca := Lib.hid ca3; clear ca3
  have H0 := Lib.hid h0; clear h0
  obtain ⟨m, hm⟩ : ∃ m, m = l.length := ⟨_, rfl⟩
  rw [← hm] at ca1 H0 ⊢
  have Hm := Lib.hid hm; clear hm
  by_cases hlt : k < m
  · go_enter Try.func23, Try.ntmps23
    go_wp2
    go_ret
    have e1 : (l.take (k : Int).toNat).length = k := by rw [List.length_take, ← Hm.out]; omega
    rw [e1]
    refine ⟨ao, ca, rfl, rfl, ?_, fun _ h => by rw [ownBlock_slice] at h ⊢; exact h⟩
    rw [Int.toNat_natCast]
    exact H0.out.take (by omega)
  · go_enter Try.func23, Try.ntmps23
    go_wp2
    go_ret
    rw [Int.toNat_natCast, List.take_of_length_le (by rw [← Hm.out]; omega), ← Hm.out]
    refine ⟨ao, ca, rfl, rfl, ?_, fun _ h => h⟩
    exact H0.out

theorem etBytes : ElemT Try.prog 29 5 1 1 := ElemT.mk' Try.underlying29 (z := .int .u8 0) (by kernel_rfl) rfl (by decide)

set_option maxHeartbeats 400000 in
theorem copy_c (v : Value) (l : List UInt8) (w : World) (h : Bs w v l) (hl : l.length ≤ 140737488355328) :
    Calls Try.prog 16 #[v] w fun e w' => ∃ ao cap, e = .returned (.slice ao l.length cap) ∧ Ext w w' ∧ w'.ownsRow w.heap.size 5 1 (.slice ao l.length cap) l.length (l.map bv) := by
  have H := Lib.hid h; clear h
  go_enter Try.func16, Try.ntmps16
  go_wp2_with (first | (at_builtin; refine wpList_app rfl (.tmp 4) (.tmp 5) 29 rfl etBytes w.heap.size rfl (World.ownsRow_nil _ _ _ _) rfl H.out (oneCell_bv _) (by omega) (by omega) (Nat.le_refl _) ?_; intro v' w1 hown hgr _) | fail)
  rw [Nat.zero_add, List.nil_append] at hown
  obtain ⟨ao, cap, rfl⟩ := owns_shape hown
  go_ret
  exact ⟨ao, cap, rfl, (Ext.refl _).grown hgr (fun k hk => by cases hk), hown⟩

end Go.Proofs.Ytcedfpckjdobpaa

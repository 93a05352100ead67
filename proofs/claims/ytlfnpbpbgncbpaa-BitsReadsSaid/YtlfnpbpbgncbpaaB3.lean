/- The writer of bits: New, fail, Put. -/
import Derived.Test.YtlfnpbpbgncbpaaB2
set_option linter.unusedVariables false
set_option linter.unusedSimpArgs false
namespace Go.Proofs.Ytlfnpbpbgncbpaa
open Go.RowKit

set_option maxHeartbeats 1000000 in
theorem wnew_c (B : Nat) (w : World) (hB : B ≤ w.heap.size) :
    Calls Try.prog 10 #[] w fun e w' => ∃ wb, e = .returned (.pointer (some ⟨wb, 0, none⟩)) ∧ w.heap.size ≤ wb ∧ Ext w w' ∧ WrIs w' B wb [] 0 := by
  go_enter Try.func10, Try.ntmps10
  go_wp2
  go_ret
  refine ⟨_, rfl, Nat.le_refl _, (Ext.refl w).alloc _, none, 0, ?_, hB, World.ownsRow_nil _ _ _ _⟩
  exact heap_alloc_new w _

theorem WrIs.c0 {w : World} {B wb : Nat} {l : List Bool} {err : Int} (h : WrIs w B wb l err) : w.cell? ⟨wb, 0, none⟩ = some (.bool true) := by
  obtain ⟨ao, cap, h1, _⟩ := h
  rw [cell_of_blk h1]; rfl
theorem WrIs.c3 {w : World} {B wb : Nat} {l : List Bool} {err : Int} (h : WrIs w B wb l err) : w.cell? ⟨wb, 3, none⟩ = some (.int .i64 err) := by
  obtain ⟨ao, cap, h1, _⟩ := h
  rw [cell_of_blk h1]; rfl
theorem WrIs.f3 {w : World} {B wb : Nat} {l : List Bool} {err : Int} (h : WrIs w B wb l err) : w.frozen? ⟨wb, 3, none⟩ = false := by
  obtain ⟨ao, cap, h1, _⟩ := h
  exact frozen_of_blk h1 3
theorem WrIs.err {w : World} {B wb : Nat} {l : List Bool} {err : Int} (h : WrIs w B wb l err) (e : Int) :
    WrIs (w.setCell ⟨wb, 3, none⟩ (.int .i64 e)) B wb l e ∧ WrMod wb w (w.setCell ⟨wb, 3, none⟩ (.int .i64 e)) := by
  obtain ⟨ao, cap, h1, h2, h3⟩ := h
  have hblk := setCell_blk (j := 3) (v := .int .i64 e) h1
  refine ⟨⟨ao, cap, hblk, h2, owns_setCell h3 (owns_ne_block h3 h1 (by decide))⟩, Mod.setCell (Mod.refl _ w) (fun _ => .inl rfl) _, ?_⟩
  rintro i (rfl | ⟨v, q1, q2⟩) hi
  · exact .inl rfl
  · refine .inr ⟨v, ?_, q2⟩
    rw [cell_of_blk h1]
    rw [cell_of_blk hblk] at q1
    exact q1

/-- The first error stays. -/
def keepE (err e : Int) : Int := if err = 0 then e else err
theorem keepE_zero (e : Int) : keepE 0 e = e := rfl
theorem keepE_ne {err : Int} (h : err ≠ 0) (e : Int) : keepE err e = err := if_neg h

set_option maxHeartbeats 1000000 in
theorem wfail_c (wb B : Nat) (l : List Bool) (err e : Int) (w : World) (h : WrIs w B wb l err) :
    Calls Try.prog 36 #[.pointer (some ⟨wb, 0, none⟩), .int .i64 e] w fun r w' => r = .returned (.pointer (some ⟨wb, 0, none⟩)) ∧ WrIs w' B wb l (keepE err e) ∧ WrMod wb w w' := by
  have c3 := h.c3
  have f3 := h.f3
  have H := Lib.hid h; clear h
  by_cases h0 : err = 0
  · subst h0
    go_enter Try.func36, Try.ntmps36
    go_wp2
    go_ret
    exact ⟨rfl, (H.out.err e).1, (H.out.err e).2⟩
  · have hb : (err == 0) = false := by simpa using h0
    have H0 := Lib.hid h0; clear h0
    go_enter Try.func36, Try.ntmps36
    go_wp2
    go_ret
    exact ⟨rfl, by rw [keepE_ne H0.out]; exact H.out, WrMod.of_ext (Ext.refl w) H.out.lt⟩

/-- The number has so many bits at most. -/
def fitsN (x : Nat) (n : Int) : Prop := 0 ≤ n ∧ n ≤ 64 ∧ x < 2 ^ n.toNat
instance (x : Nat) (n : Int) : Decidable (fitsN x n) := by unfold fitsN; infer_instance

set_option maxHeartbeats 1000000 in
theorem put_err (wb B : Nat) (l : List Bool) (err : Int) (x : Nat) (n : Int) (w : World) (h : WrIs w B wb l err) (h0 : err ≠ 0) :
    Calls Try.prog 11 #[.pointer (some ⟨wb, 0, none⟩), .int .u64 x, .int .i64 n] w fun r w' => r = .returned (.pointer (some ⟨wb, 0, none⟩)) ∧ w = w' := by
  have c0 := h.c0
  have c3 := h.c3
  have hb : (err != 0) = true := by simpa using h0
  clear h0 h
  go_enter Try.func11, Try.ntmps11
  go_wp2
  go_ret
  exact ⟨rfl, rfl⟩

set_option maxHeartbeats 2000000 in
theorem put_bad (wb B : Nat) (l : List Bool) (x : Nat) (n : Int) (w : World) (h : WrIs w B wb l 0) (hx : x < 18446744073709551616) (hf : ¬ fitsN x n) (hi : -9223372036854775808 ≤ n ∧ n ≤ 9223372036854775807) :
    Calls Try.prog 11 #[.pointer (some ⟨wb, 0, none⟩), .int .u64 x, .int .i64 n] w fun r w' => r = .returned (.pointer (some ⟨wb, 0, none⟩)) ∧ WrIs w' B wb l 2 ∧ WrMod wb w w' := by
  have c0 := h.c0
  have c3 := h.c3
  have H := Lib.hid h; clear h
  have HF := Lib.hid hf
  have HX := Lib.hid hx
  rcases (show n < 0 ∨ 64 < n ∨ (0 ≤ n ∧ n < 64 ∧ ¬ x < 2 ^ n.toNat) by
    unfold fitsN at hf
    by_cases h1 : n < 0
    · exact .inl h1
    · by_cases h2 : 64 < n
      · exact .inr (.inl h2)
      · refine .inr (.inr ⟨by omega, ?_, fun h3 => hf ⟨by omega, by omega, h3⟩⟩)
        by_cases h4 : n = 64
        · subst h4; exact absurd ⟨by decide, by decide, hx⟩ hf
        · omega) with h1 | h1 | ⟨h1, h2, h3⟩
  · clear hf hx
    go_enter Try.func11, Try.ntmps11
    go_wp2_with fail
    refine (wfail_c wb B l 0 2 w H.out).mono ?_
    rintro e w1 ⟨rfl, h4, h5⟩
    go_wp2
    go_ret
    exact ⟨rfl, h4, h5⟩
  · clear hf hx
    go_enter Try.func11, Try.ntmps11
    go_wp2_with fail
    refine (wfail_c wb B l 0 2 w H.out).mono ?_
    rintro e w1 ⟨rfl, h4, h5⟩
    go_wp2
    go_ret
    exact ⟨rfl, h4, h5⟩
  · obtain ⟨m, rfl⟩ := Int.eq_ofNat_of_zero_le h1
    have hz : ((x : Int) / 2 ^ m != 0) = true := by
      rw [bne_iff_ne]
      rw [Int.toNat_natCast] at h3
      have : 0 < x / 2 ^ m := Nat.div_pos (by omega) (Nat.two_pow_pos _)
      intro h
      have h' : ((x / 2 ^ m : Nat) : Int) = 0 := by push_cast; exact h
      omega
    clear hf hx h3
    go_enter Try.func11, Try.ntmps11
    go_wp2_with fail
    refine (wfail_c wb B l 0 2 w H.out).mono ?_
    rintro e w1 ⟨rfl, h4, h5⟩
    go_wp2
    go_ret
    exact ⟨rfl, h4, h5⟩

set_option maxHeartbeats 2000000 in
theorem put_ok (wb B : Nat) (l : List Bool) (x n : Nat) (w : World) (h : WrIs w B wb l 0) (hn : n ≤ 64) (hx : x < 2 ^ n) (hl : l.length + n ≤ 1099511627776) :
    Calls Try.prog 11 #[.pointer (some ⟨wb, 0, none⟩), .int .u64 x, .int .i64 n] w fun r w' => r = .returned (.pointer (some ⟨wb, 0, none⟩)) ∧ WrIs w' B wb (l ++ bitsOf x n) 0 ∧ WrMod wb w w' := by
  have c0 := h.c0
  have c3 := h.c3
  have H := Lib.hid h; clear h
  have HL := Lib.hid hl; clear hl
  have hz : (x : Int) / 2 ^ n = 0 := by
    have : x / 2 ^ n = 0 := Nat.div_eq_of_lt hx
    have h' : ((x / 2 ^ n : Nat) : Int) = 0 := by rw [this]; rfl
    simpa using h'
  clear hx
  have hnn : (n : Int) < 64 ∨ ¬ (n : Int) < 64 := by omega
  rcases hnn with hnn | hnn
  all_goals
    go_enter Try.func11, Try.ntmps11
    go_wp2_with fail
    go_loopw [2] (fun i wr => ∃ m : Nat, m ≤ n ∧ i = .int .i64 m ∧ WrIs wr B wb (l ++ (bitsOf x n).take (n - m)) 0 ∧ WrMod wb w wr) (fun i _ => (intOf i).toNat)
    case atStart => exact ⟨n, Nat.le_refl _, rfl, by rw [Nat.sub_self, List.take_zero, List.append_nil]; exact H.out, WrMod.of_ext (Ext.refl w) H.out.lt⟩
    case round =>
      obtain ⟨m, hm, rfl, hw, hwm⟩ := hrel
      have HW := Lib.hid hw
      have HM := Lib.hid hwm
      clear hw hwm
      by_cases h0 : m = 0
      · subst h0
        go_wp2_with fail
        go_ret
        exact ⟨rfl, by have := HW.out; rwa [Nat.sub_zero, List.take_of_length_le (by rw [bitsOf_length]; exact Nat.le_refl _)] at this, HM.out⟩
      · have hpos : 0 < m := by omega
        go_wp2_with fail
        have hs := some_c wb B _ 0 x m _ HW.out hpos (by omega) (by have := HL.out; rw [List.length_append, List.length_take, bitsOf_length]; omega)
        have hr8 : 0 < 8 - (l ++ (bitsOf x n).take (n - m)).length % 8 := by omega
        generalize (8 - (l ++ (bitsOf x n).take (n - m)).length % 8) = r at hs hr8
        refine hs.mono ?_
        clear hs
        rintro e w1 ⟨rfl, h4, h5⟩
        have H4 := Lib.hid h4
        have H5 := Lib.hid h5
        clear h4 h5
        go_wp2_with fail
        go_roundw
        case rel =>
          refine ⟨_, ?_, rfl, ?_, HM.out.trans H5.out⟩
          · omega
          · have := H4.out
            rw [List.append_assoc, show bitsOf x m = (bitsOf x n).drop (n - m) by rw [bitsOf_drop _ (by omega), show n - (n - m) = m by omega], ← List.take_add] at this
            rwa [show n - (m - min m r) = n - m + min m r by omega]
        case measure =>
          simp only [intOf]
          omega

end Go.Proofs.Ytlfnpbpbgncbpaa

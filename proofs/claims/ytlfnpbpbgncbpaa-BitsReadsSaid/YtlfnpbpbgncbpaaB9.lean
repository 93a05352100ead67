/- A writer, a reader that no call made. -/
import Derived.Test.YtlfnpbpbgncbpaaB8
set_option linter.unusedVariables false
set_option linter.unusedSimpArgs false
namespace Go.Proofs.Ytlfnpbpbgncbpaa
open Go.RowKit

set_option maxHeartbeats 1000000 in
theorem short_c (s : ByteArray) (n : Nat) (hn : n ≤ 9223372036854775807) (w : World) :
    Calls Try.prog 35 #[.string s, .int .i64 n] w fun e w' => ∃ s', e = .returned (.string s') ∧ s'.data.toList = s.data.toList.take n ∧ w = w' := by
  by_cases h : n < s.size
  · have hi : ((n : Int) < (s.size : Int)) = True := eq_true (by omega)
    go_enter Try.func35, Try.ntmps35
    go_wp2
    go_ret
    exact ⟨s.extract 0 n, rfl, by simp [ByteArray.data_extract, Array.toList_extract, List.extract], rfl⟩
  · have hi : ((n : Int) < (s.size : Int)) = False := eq_false (by omega)
    have H := Lib.hid h; clear h
    go_enter Try.func35, Try.ntmps35
    go_wp2
    go_ret
    exact ⟨s, rfl, by rw [List.take_of_length_le (by have := H.out; exact Nat.le_of_not_lt this)], rfl⟩

set_option maxRecDepth 100000 in
set_option maxHeartbeats 4000000 in
theorem bitsNobody_calls (x n : Int) (s : ByteArray) (W : World) (hx : 0 ≤ x ∧ x ≤ 18446744073709551615) (hn : -9223372036854775808 ≤ n ∧ n ≤ 9223372036854775807) (hs : s.size ≤ 9223372036854775807) :
    Calls Try.prog 8 #[.int .u64 x, .int .i64 n, .string s] W fun e w' => e = .returned (.bool true) ∧ Below W.heap.size W w' := by
  clear hs
  go_enter Try.func8, Try.ntmps8
  go_wp2_with fail
  refine (short_c s 40 (by decide) W).mono ?_
  rintro e w1 ⟨s', rfl, _, rfl⟩
  go_wp2_with fail
  go_loopw [7] (fun i wr => ∃ k : Nat, k ≤ 2 ∧ i = .int .i64 k ∧ Ext W wr) (fun i _ => 2 - (intOf i).toNat)
  case atStart => exact ⟨0, by decide, rfl, Ext.refl W⟩
  case round =>
    obtain ⟨k, hk, rfl, hx⟩ := hrel
    have HX := Lib.hid hx
    clear hx
    rcases (show k = 0 ∨ k = 1 ∨ k = 2 by omega) with rfl | rfl | rfl
    · go_wp2
      go_roundw
      case rel => exact ⟨1, by decide, rfl, HX.out⟩
      case measure => simp [intOf]
    · go_wp2
      go_roundw
      case rel => exact ⟨2, by decide, rfl, (HX.out.alloc _).alloc _⟩
      case measure => simp [intOf]
    · go_wp2_with fail
      refine (lives_c _).mono ?_
      rintro e w2 ⟨rfl, hx2⟩
      go_wp2
      go_ret
      exact ⟨rfl, HX.out.below.trans (hx2.below.mono HX.out.size)⟩

end Go.Proofs.Ytlfnpbpbgncbpaa

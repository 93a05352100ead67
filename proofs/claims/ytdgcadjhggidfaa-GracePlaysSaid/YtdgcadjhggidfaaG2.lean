/- A record's values; contracts of record.Holders, record.With, grace.New. -/
import Derived.Test.YtdgcadjhggidfaaG1
set_option linter.unusedVariables false
set_option linter.unusedSimpArgs false
namespace Go.Proofs.Ytdgcadjhggidfaa
open Go.RowKit

/-- A record: a boot, eight sessions, eight flags. -/
structure GRec where
  boot : Int
  s : Nat → Int
  h : Nat → Bool

def hol (R : GRec) (k : Nat) : List Int := ((List.range k).filter R.h).map fun (i : Nat) => (i : Int)
theorem hol_succ (R : GRec) (k : Nat) : hol R (k + 1) = hol R k ++ if R.h k then [(k : Int)] else [] := by
  unfold hol
  rw [List.range_succ, List.filter_append, List.map_append]
  cases h : R.h k <;> simp [h]
theorem hol_le (R : GRec) (k : Nat) : (hol R k).length ≤ k := by
  unfold hol; rw [List.length_map]; have := List.length_filter_le R.h (List.range k); simpa using this
theorem mem_hol {R : GRec} {k : Nat} {x : Int} : x ∈ hol R k ↔ ∃ i : Nat, i < k ∧ R.h i = true ∧ x = i := by
  unfold hol
  simp only [List.mem_map, List.mem_filter, List.mem_range]
  constructor
  · rintro ⟨i, ⟨h1, h2⟩, rfl⟩; exact ⟨i, h1, h2, rfl⟩
  · rintro ⟨i, h1, h2, rfl⟩; exact ⟨i, ⟨h1, h2⟩, rfl⟩

theorem index_clients (R : GRec) (k : Nat) (hk : k < 8) (w : World) :
    (Instr.index 34 (.agg #[.int .u64 (R.s 0), .bool (R.h 0), .int .u64 (R.s 1), .bool (R.h 1), .int .u64 (R.s 2), .bool (R.h 2), .int .u64 (R.s 3), .bool (R.h 3), .int .u64 (R.s 4), .bool (R.h 4), .int .u64 (R.s 5), .bool (R.h 5), .int .u64 (R.s 6), .bool (R.h 6), .int .u64 (R.s 7), .bool (R.h 7)]) (.int .i64 k)).run Try.prog w = .ok (.agg #[.int .u64 (R.s k), .bool (R.h k)]) w := by
  rcases (show k = 0 ∨ k = 1 ∨ k = 2 ∨ k = 3 ∨ k = 4 ∨ k = 5 ∨ k = 6 ∨ k = 7 by omega) with rfl | rfl | rfl | rfl | rfl | rfl | rfl | rfl
  all_goals kernel_rfl

set_option maxRecDepth 100000 in
set_option maxHeartbeats 1000000 in
theorem holders_c (R : GRec) (w : World) :
    Calls Try.prog 22 #[.agg #[.int .u64 R.boot, .int .u64 (R.s 0), .bool (R.h 0), .int .u64 (R.s 1), .bool (R.h 1), .int .u64 (R.s 2), .bool (R.h 2), .int .u64 (R.s 3), .bool (R.h 3), .int .u64 (R.s 4), .bool (R.h 4), .int .u64 (R.s 5), .bool (R.h 5), .int .u64 (R.s 6), .bool (R.h 6), .int .u64 (R.s 7), .bool (R.h 7)]] w
      fun e w' => ∃ ao cap, e = .returned (.slice ao (hol R 8).length cap) ∧ Ext w w' ∧ w'.ownsRow w.heap.size 3 1 (.slice ao (hol R 8).length cap) (hol R 8).length ((hol R 8).map iv) := by
  go_enter Try.func22, Try.ntmps22
  go_wp2
  go_loopw [3, 8] (fun v i wr => ∃ k : Nat, k ≤ 8 ∧ i = .int .i64 k ∧ Ext w wr ∧ (∃ ao cap, v = .slice ao (hol R k).length cap) ∧ wr.ownsRow w.heap.size 3 1 v (hol R k).length ((hol R k).map iv)) (fun _ i _ => 8 - (intOf i).toNat)
  case atStart => exact ⟨0, by omega, rfl, (Ext.refl w).alloc _, ⟨none, 0, rfl⟩, World.ownsRow_nil _ _ _ _⟩
  case round =>
    obtain ⟨k, hk, rfl, hx, ⟨ao, cap, rfl⟩, hown⟩ := hrel
    have hle := hol_le R k
    have HS := Lib.hid (hol_succ R k)
    by_cases hlt : k < 8
    · have hix := fun w => index_clients R k hlt w
      have hxs := hx.size
      have hx2 := hx.alloc (.cells #[.int .u64 (R.s k), .bool (R.h k)] 33)
      have ho2 := owns_ext hown ((Ext.refl wr).alloc (.cells #[.int .u64 (R.s k), .bool (R.h k)] 33))
      have hx3 := hx2.alloc (.cells #[.int .i64 k] 3)
      have ho3 := owns_ext ho2 ((Ext.refl _).alloc (.cells #[.int .i64 k] 3))
      have hlit : ((wr.alloc (.cells #[.int .u64 (R.s k), .bool (R.h k)] 33)).alloc (.cells #[.int .i64 k] 3)).ownsRow 0 3 1 (.slice (some ⟨(wr.alloc (.cells #[.int .u64 (R.s k), .bool (R.h k)] 33)).heap.size, 0, none⟩) 1 1) 1 [.int .i64 k] := owns_lit (size := 1) rfl (Nat.zero_le _) (by decide)
      have HX := Lib.hid hx2; clear hx2
      have HX3 := Lib.hid hx3; clear hx3
      cases hh : R.h k with
      | false =>
        have HH := Lib.hid hh
        rw [hh] at hix ho2 HX
        clear ho3 hlit HX3 hh
        go_wp2
        go_roundw
        case rel =>
          have e : hol R (k + 1) = hol R k := by rw [HS.out, HH.out]; simp
          refine ⟨k + 1, by omega, by go_num, HX.out, ?_, ?_⟩
          · rw [e]; exact ⟨_, _, rfl⟩
          · rw [e]; exact ho2
        case measure => simp [intOf]; omega
      | true =>
        have HH := Lib.hid hh
        rw [hh] at hix HX HX3 ho3 hlit
        clear ho2 hh
        simp only [World.size_alloc] at hlit
        go_wp2_with (first
          | (at_builtin; refine wpList_app rfl (.tmp 14) (.tmp 16) 50 rfl etInts w.heap.size rfl ho3 rfl (Rs.of_owns hlit) (by simp [Value.oneCell']) (by omega) (by omega) (by simp; omega) ?_; intro v' w4 ho hg _)
          | fail)
        go_roundw
        case rel =>
          have e : hol R (k + 1) = hol R k ++ [(k : Int)] := by rw [HS.out, HH.out]; simp
          obtain ⟨vo, vc, rfl⟩ := owns_shape ho
          refine ⟨k + 1, by omega, by go_num, HX3.out.grown hg (fun j hj => (owns_block ho3 hj).1), ?_, ?_⟩
          · rw [e]; exact ⟨vo, vc, by simp⟩
          · rw [e]; simpa [iv] using ho
        case measure => simp [intOf]; omega
    · have : k = 8 := by omega
      subst this
      go_wp2
      go_ret
      exact ⟨ao, cap, rfl, hx, hown⟩

end Go.Proofs.Ytdgcadjhggidfaa

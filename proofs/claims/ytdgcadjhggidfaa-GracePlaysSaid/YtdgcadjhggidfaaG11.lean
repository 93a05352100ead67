/- The document's grace (tenancyref24): what it holds; contracts. -/
import Derived.Test.YtdgcadjhggidfaaG10
set_option linter.unusedVariables false
set_option linter.unusedSimpArgs false
namespace Go.Proofs.Ytdgcadjhggidfaa
open Go.RowKit

def rcells (R : GRec) (D : Nat → Bool) (span spent : Int) : Array Value := #[.int .u64 R.boot, .int .u64 (R.s 0), .int .u64 (R.s 1), .int .u64 (R.s 2), .int .u64 (R.s 3), .int .u64 (R.s 4), .int .u64 (R.s 5), .int .u64 (R.s 6), .int .u64 (R.s 7), .bool (R.h 0), .bool (R.h 1), .bool (R.h 2), .bool (R.h 3), .bool (R.h 4), .bool (R.h 5), .bool (R.h 6), .bool (R.h 7), .int .u64 span, .int .u64 spent, .bool (D 0), .bool (D 1), .bool (D 2), .bool (D 3), .bool (D 4), .bool (D 5), .bool (D 6), .bool (D 7)]
def RefIs (w : World) (B rb : Nat) (R : GRec) (D : Nat → Bool) (span spent : Int) : Prop :=
  w.heap[rb]? = some (.cells (rcells R D span spent) 46 (0, 0)) ∧ B ≤ rb

def lft (R : GRec) (D : Nat → Bool) (k : Nat) : List Int := ((List.range k).filter fun i => R.h i && !D i).map fun (i : Nat) => (i : Int)
theorem lft_succ (R : GRec) (D : Nat → Bool) (k : Nat) : lft R D (k + 1) = lft R D k ++ if (R.h k && !D k) = true then [(k : Int)] else [] := by
  unfold lft
  rw [List.range_succ, List.filter_append, List.map_append]
  cases h : (R.h k && !D k) <;> simp [h]
theorem lft_le (R : GRec) (D : Nat → Bool) (k : Nat) : (lft R D k).length ≤ k := by
  unfold lft; rw [List.length_map]; have := List.length_filter_le (fun i => R.h i && !D i) (List.range k); simpa using this
theorem mem_lft {R : GRec} {D : Nat → Bool} {k : Nat} {x : Int} : x ∈ lft R D k ↔ ∃ i : Nat, i < k ∧ (R.h i && !D i) = true ∧ x = i := by
  unfold lft
  simp only [List.mem_map, List.mem_filter, List.mem_range]
  constructor
  · rintro ⟨i, ⟨h1, h2⟩, rfl⟩; exact ⟨i, h1, h2, rfl⟩
  · rintro ⟨i, h1, h2, rfl⟩; exact ⟨i, ⟨h1, h2⟩, rfl⟩

theorem rcells_s (R : GRec) (D : Nat → Bool) (span spent : Int) (k : Nat) (hk : k < 8) : (rcells R D span spent)[1 + k]? = some (.int .u64 (R.s k)) := by
  rcases (show k = 0 ∨ k = 1 ∨ k = 2 ∨ k = 3 ∨ k = 4 ∨ k = 5 ∨ k = 6 ∨ k = 7 by omega) with rfl | rfl | rfl | rfl | rfl | rfl | rfl | rfl
  all_goals rfl
theorem rcells_h (R : GRec) (D : Nat → Bool) (span spent : Int) (k : Nat) (hk : k < 8) : (rcells R D span spent)[9 + k]? = some (.bool (R.h k)) := by
  rcases (show k = 0 ∨ k = 1 ∨ k = 2 ∨ k = 3 ∨ k = 4 ∨ k = 5 ∨ k = 6 ∨ k = 7 by omega) with rfl | rfl | rfl | rfl | rfl | rfl | rfl | rfl
  all_goals rfl
theorem rcells_d (R : GRec) (D : Nat → Bool) (span spent : Int) (k : Nat) (hk : k < 8) : (rcells R D span spent)[19 + k]? = some (.bool (D k)) := by
  rcases (show k = 0 ∨ k = 1 ∨ k = 2 ∨ k = 3 ∨ k = 4 ∨ k = 5 ∨ k = 6 ∨ k = 7 by omega) with rfl | rfl | rfl | rfl | rfl | rfl | rfl | rfl
  all_goals rfl
theorem RefIs.ext {w w' : World} {B rb : Nat} {R : GRec} {D : Nat → Bool} {span spent : Int} (h : RefIs w B rb R D span spent) (hx : Ext w w') : RefIs w' B rb R D span spent :=
  ⟨(hx.block rb (Array.getElem?_eq_some_iff.1 h.1).1 id).trans h.1, h.2⟩

def waitsB (R : GRec) (D : Nat → Bool) (c : Int) : Bool := decide (c ∈ lft R D 8)

set_option maxHeartbeats 1000000 in
theorem rwaits_c (rb B : Nat) (R : GRec) (D : Nat → Bool) (span spent c : Int) (w : World) (h : RefIs w B rb R D span spent) :
    Calls Try.prog 15 #[.pointer (some ⟨rb, 0, none⟩), .int .i64 c] w fun e w' => e = .returned (.bool (waitsB R D c)) ∧ w' = w := by
  have H := Lib.hid h; clear h
  rcases (show c < 0 ∨ (0 ≤ c ∧ ¬ c < 8) ∨ (0 ≤ c ∧ c < 8) by omega) with h | ⟨h0, h⟩ | ⟨h0, h8⟩
  · have e : waitsB R D c = false := by
      unfold waitsB; simp only [decide_eq_false_iff_not]; rintro hm; obtain ⟨i, h1, _, h2⟩ := mem_lft.1 hm; omega
    have E := Lib.hid e; clear e
    go_enter Try.func15, Try.ntmps15
    go_wp2
    go_ret
    exact ⟨by rw [E.out]; rfl, rfl⟩
  · have e : waitsB R D c = false := by
      unfold waitsB; simp only [decide_eq_false_iff_not]; rintro hm; obtain ⟨i, h1, _, h2⟩ := mem_lft.1 hm; omega
    have E := Lib.hid e; clear e
    go_enter Try.func15, Try.ntmps15
    go_wp2
    go_ret
    exact ⟨by rw [E.out]; rfl, rfl⟩
  · obtain ⟨k, rfl⟩ := Int.eq_ofNat_of_zero_le h0
    have hk : k < 8 := by omega
    have q1 : w.cell? ⟨rb, 9 + k, none⟩ = some (.bool (R.h k)) := by rw [cell_of_blk H.out.1]; exact rcells_h _ _ _ _ k hk
    have q2 : w.cell? ⟨rb, 19 + k, none⟩ = some (.bool (D k)) := by rw [cell_of_blk H.out.1]; exact rcells_d _ _ _ _ k hk
    have e : waitsB R D (k : Int) = (R.h k && !D k) := by
      unfold waitsB
      rw [Bool.eq_iff_iff, decide_eq_true_eq, mem_lft]
      constructor
      · rintro ⟨i, h1, h2, h3⟩
        have : i = k := by omega
        subst this; exact h2
      · intro h; exact ⟨k, hk, h, rfl⟩
    have E := Lib.hid e; clear e
    cases ha : R.h k with
    | false =>
      rw [ha] at q1
      have HA := Lib.hid ha; clear ha
      go_enter Try.func15, Try.ntmps15
      go_wp2
      go_ret
      exact ⟨by rw [E.out, HA.out]; rfl, rfl⟩
    | true =>
      rw [ha] at q1
      have HA := Lib.hid ha; clear ha
      cases hb : D k with
      | false =>
        rw [hb] at q2
        have HB := Lib.hid hb; clear hb
        go_enter Try.func15, Try.ntmps15
        go_wp2
        go_ret
        exact ⟨by rw [E.out, HA.out, HB.out]; rfl, rfl⟩
      | true =>
        rw [hb] at q2
        have HB := Lib.hid hb; clear hb
        go_enter Try.func15, Try.ntmps15
        go_wp2
        go_ret
        exact ⟨by rw [E.out, HA.out, HB.out]; rfl, rfl⟩

set_option maxHeartbeats 1000000 in
theorem rleft_c (rb B : Nat) (R : GRec) (D : Nat → Bool) (span spent : Int) (w : World) (h : RefIs w B rb R D span spent) :
    Calls Try.prog 21 #[.pointer (some ⟨rb, 0, none⟩)] w
      fun e w' => ∃ ao cap, e = .returned (.slice ao (lft R D 8).length cap) ∧ Ext w w' ∧ w'.ownsRow w.heap.size 3 1 (.slice ao (lft R D 8).length cap) (lft R D 8).length ((lft R D 8).map iv) := by
  have H := Lib.hid h; clear h
  go_enter Try.func21, Try.ntmps21
  go_wp2
  go_loopw [3, 4] (fun v i wr => ∃ k : Nat, k ≤ 8 ∧ i = .int .i64 k ∧ Ext w wr ∧ (∃ ao cap, v = .slice ao (lft R D k).length cap) ∧ wr.ownsRow w.heap.size 3 1 v (lft R D k).length ((lft R D k).map iv)) (fun _ i _ => 8 - (intOf i).toNat)
  case atStart => exact ⟨0, by omega, rfl, Ext.refl w, ⟨none, 0, rfl⟩, World.ownsRow_nil _ _ _ _⟩
  case round =>
    obtain ⟨k, hk, rfl, hx, ⟨ao, cap, rfl⟩, hown⟩ := hrel
    have hle := lft_le R D k
    have HS := Lib.hid (lft_succ R D k)
    by_cases hlt : k < 8
    · have hxs := hx.size
      have HX := Lib.hid hx
      have hx3 := hx.alloc (.cells #[.int .i64 k] 3)
      have ho3 := owns_ext hown ((Ext.refl wr).alloc (.cells #[.int .i64 k] 3))
      have hlit : (wr.alloc (.cells #[.int .i64 k] 3)).ownsRow 0 3 1 (.slice (some ⟨wr.heap.size, 0, none⟩) 1 1) 1 [.int .i64 k] := owns_lit (size := 1) rfl (Nat.zero_le _) (by decide)
      have HX3 := Lib.hid hx3; clear hx3 hx
      have HW : Hid (waitsB R D (k : Int) = (R.h k && !D k)) := Lib.hid (by
        unfold waitsB
        rw [Bool.eq_iff_iff, decide_eq_true_eq, mem_lft]
        constructor
        · rintro ⟨i, h1, h2, h3⟩
          have : i = k := by omega
          subst this; exact h2
        · intro h; exact ⟨k, hlt, h, rfl⟩)
      cases hh : (R.h k && !D k) with
      | false =>
        have HH := Lib.hid hh; clear hh
        clear ho3 hlit
        go_wp2_with fail
        refine (rwaits_c rb B R D span spent k wr (H.out.ext HX.out)).mono ?_
        rintro e w' ⟨he, rfl⟩
        rw [HW.out, HH.out] at he
        subst he
        go_wp2
        go_roundw
        case rel =>
          have e : lft R D (k + 1) = lft R D k := by rw [HS.out, HH.out]; simp
          refine ⟨k + 1, by omega, by go_num, HX.out, ?_, ?_⟩
          · rw [e]; exact ⟨_, _, rfl⟩
          · rw [e]; exact hown
        case measure => simp [intOf]; omega
      | true =>
        have HH := Lib.hid hh; clear hh
        go_wp2_with fail
        refine (rwaits_c rb B R D span spent k wr (H.out.ext HX.out)).mono ?_
        rintro e w' ⟨he, rfl⟩
        rw [HW.out, HH.out] at he
        subst he
        have hsz3 := HX3.out.size
        simp only [World.size_alloc] at hsz3
        go_wp2_with (first
          | (at_builtin; refine wpList_app rfl (.tmp 12) (.tmp 14) 50 rfl etInts w.heap.size rfl ho3 rfl (Rs.of_owns hlit) (by simp [Value.oneCell']) (by omega) (by omega) (by simp; omega) ?_; intro v' w4 ho hg _)
          | fail)
        go_roundw
        case rel =>
          have e : lft R D (k + 1) = lft R D k ++ [(k : Int)] := by rw [HS.out, HH.out]; simp
          obtain ⟨vo, vc, rfl⟩ := owns_shape ho
          refine ⟨k + 1, by omega, by go_num, HX3.out.grown hg (fun j hj => (owns_block ho3 hj).1), ?_, ?_⟩
          · rw [e]; exact ⟨vo, vc, by simp⟩
          · rw [e]; simpa [iv] using ho
        case measure => simp [intOf]; omega
    · have : k = 8 := by omega
      subst this
      go_wp2
      go_ret
      exact ⟨ao, cap, rfl, hx, hown⟩

end Go.Proofs.Ytdgcadjhggidfaa

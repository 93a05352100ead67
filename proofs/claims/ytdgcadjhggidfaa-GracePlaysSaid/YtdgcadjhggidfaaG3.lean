/- A grace's small calls, on. -/
import Derived.Test.YtdgcadjhggidfaaG3a
set_option linter.unusedVariables false
set_option linter.unusedSimpArgs false
namespace Go.Proofs.Ytdgcadjhggidfaa
open Go.RowKit

set_option maxRecDepth 100000 in
set_option maxHeartbeats 800000 in
theorem tick_in (gb B : Nat) (R : GRec) (left : List Int) (span spent : Int) (w : World) (h : GraceIs w B gb R left span spent) (h0 : 0 ≤ spent) (h1 : span ≤ 20000) (hs : 0 < span) (hl : spent < span) :
    Calls Try.prog 8 #[.pointer (some ⟨gb, 0, none⟩)] w fun e w' => e = .returned (.tuple #[]) ∧ Mod (TyF w B [53, 3]) w w' ∧ GraceIs w' B gb R left span (spent + 1) := by
  obtain ⟨ao, cap, g1, g2, g3, g4, g5, g6, g7⟩ := h.open
  have fz := frozen_of_blk g3 19
  have H := Lib.hid h
  have G3 := Lib.hid g3
  have G7 := Lib.hid g7
  clear h g3 g7
  have HX : ∀ n, GraceIs (w.drewN n) B gb R left span spent := fun n => H.out.ext ((Ext.refl w).drewN n)
  have HX' := Lib.hid HX; clear HX
  have hs' : decide (0 < span) = true := by simpa using hs
  have hl' : decide (spent < span) = true := by simpa using hl
  go_enter Try.func8, Try.ntmps8
  go_wp2_with fail
  go_quiet ((go_at_call 23; exact Calls.quiet_of_same (ok_c _ _ _ _ _ _ _ (HX'.out _))))
  go_wp2
  go_end0
  have key : ∀ w1 : World, Ext w w1 → Mod (TyF w B [53, 3]) w (w1.setCell ⟨gb, 19, none⟩ (.int .u64 (spent + 1))) ∧ GraceIs (w1.setCell ⟨gb, 19, none⟩ (.int .u64 (spent + 1))) B gb R left span (spent + 1) := by
    intro w1 hx
    have hb1 := (hx.block gb g1 id).trans G3.out
    have ho1 := owns_ext G7.out hx
    refine ⟨Mod.setCell hx.mod (fun _ => TyF.gr G3.out g2) _, ao, cap, ?_, g2, owns_setCell ho1 (owns_ne_block ho1 hb1 (by decide))⟩
    exact setCell_blk hb1
  have k1 := key _ ((Ext.refl w).drewN nq)
  exact ⟨rfl, k1.1, k1.2⟩

set_option maxRecDepth 100000 in
set_option maxHeartbeats 800000 in
theorem tick_full (gb B : Nat) (R : GRec) (left : List Int) (span spent : Int) (w : World) (h : GraceIs w B gb R left span spent) (h0 : 0 ≤ spent) (h1 : span ≤ 20000) (hs : 0 < span) (hl : span ≤ spent) :
    Calls Try.prog 8 #[.pointer (some ⟨gb, 0, none⟩)] w fun e w' => e = .returned (.tuple #[]) ∧ ∃ n, w' = w.drewN n := by
  obtain ⟨ao, cap, g1, g2, g3, g4, g5, g6, g7⟩ := h.open
  have fz := frozen_of_blk g3 19
  have H := Lib.hid h
  have G3 := Lib.hid g3
  have G7 := Lib.hid g7
  clear h g3 g7
  have HX : ∀ n, GraceIs (w.drewN n) B gb R left span spent := fun n => H.out.ext ((Ext.refl w).drewN n)
  have HX' := Lib.hid HX; clear HX
  have hs' : decide (0 < span) = true := by simpa using hs
  have hl' : decide (spent < span) = false := by simpa using hl
  clear hl hs
  go_enter Try.func8, Try.ntmps8
  go_wp2_with fail
  go_quiet ((go_at_call 23; exact Calls.quiet_of_same (ok_c _ _ _ _ _ _ _ (HX'.out _))))
  go_wp2
  go_end0
  exact ⟨rfl, _, rfl⟩

theorem ok_idle (gb B : Nat) (R : GRec) (left : List Int) (span spent : Int) (w : World) (h : GraceIs w B gb R left span spent) (hs : span ≤ 0) :
    Calls Try.prog 23 #[.pointer (some ⟨gb, 0, none⟩)] w fun e w' => e = .returned (.bool false) ∧ w' = w := by
  have e : decide (0 < span) = false := by simpa using hs
  have := ok_c gb B R left span spent w h
  rw [e] at this
  exact this

set_option maxRecDepth 100000 in
set_option maxHeartbeats 800000 in
theorem tick_idle (gb B : Nat) (R : GRec) (left : List Int) (span spent : Int) (w : World) (h : GraceIs w B gb R left span spent) (h0 : 0 ≤ spent) (h1 : span ≤ 20000) (hs : span ≤ 0) :
    Calls Try.prog 8 #[.pointer (some ⟨gb, 0, none⟩)] w fun e w' => e = .returned (.tuple #[]) ∧ ∃ n, w' = w.drewN n := by
  obtain ⟨ao, cap, g1, g2, g3, g4, g5, g6, g7⟩ := h.open
  have fz := frozen_of_blk g3 19
  have H := Lib.hid h
  have G3 := Lib.hid g3
  have G7 := Lib.hid g7
  clear h g3 g7
  have HX : ∀ n, GraceIs (w.drewN n) B gb R left span spent := fun n => H.out.ext ((Ext.refl w).drewN n)
  have HX' := Lib.hid HX; clear HX
  have hs' := Lib.hid hs
  clear hs h0 h1 g4 g5 g6 g1 g2
  go_enter Try.func8, Try.ntmps8
  go_wp2_with fail
  go_quiet ((go_at_call 23; exact Calls.quiet_of_same (ok_idle _ _ _ _ _ _ _ (HX'.out _) hs'.out)))
  go_wp2
  go_end0
  exact ⟨rfl, _, rfl⟩

theorem tick_c (gb B : Nat) (R : GRec) (left : List Int) (span spent : Int) (w : World) (h : GraceIs w B gb R left span spent) (h0 : 0 ≤ spent) (h1 : span ≤ 20000) :
    Calls Try.prog 8 #[.pointer (some ⟨gb, 0, none⟩)] w fun e w' => e = .returned (.tuple #[]) ∧ Mod (TyF w B [53, 3]) w w' ∧ GraceIs w' B gb R left span (tickN span spent) := by
  by_cases hs : 0 < span
  · by_cases hl : spent < span
    · have hT : tickN span spent = spent + 1 := by unfold tickN; rw [if_pos ⟨hs, hl⟩]
      rw [hT]
      exact tick_in gb B R left span spent w h h0 h1 hs hl
    · have hT : tickN span spent = spent := by unfold tickN; rw [if_neg (fun h => hl h.2)]
      rw [hT]
      refine (tick_full gb B R left span spent w h h0 h1 hs (by omega)).mono ?_
      rintro e w' ⟨rfl, n, rfl⟩
      exact ⟨rfl, ((Ext.refl w).drewN _).mod, h.ext ((Ext.refl w).drewN _)⟩
  · have hT : tickN span spent = spent := by unfold tickN; rw [if_neg (by omega)]
    rw [hT]
    refine (tick_idle gb B R left span spent w h h0 h1 (by omega)).mono ?_
    rintro e w' ⟨rfl, n, rfl⟩
    exact ⟨rfl, ((Ext.refl w).drewN _).mod, h.ext ((Ext.refl w).drewN _)⟩

set_option maxHeartbeats 400000 in
theorem tick_nil (w : World) : Calls Try.prog 8 #[.pointer none] w fun e w' => e = .returned (.tuple #[]) ∧ ∃ n, w' = w.drewN n := by
  go_enter Try.func8, Try.ntmps8
  go_wp2_with fail
  go_quiet ((go_at_call 23; exact Calls.quiet_of_same (ok_nil _)))
  go_wp2
  go_end0
  exact ⟨rfl, _, rfl⟩

set_option maxHeartbeats 400000 in
theorem waits_c (gb B : Nat) (R : GRec) (left : List Int) (span spent c : Int) (w : World) (h : GraceIs w B gb R left span spent) :
    Calls Try.prog 18 #[.pointer (some ⟨gb, 0, none⟩), .int .i64 c] w fun e w' => e = .returned (.bool (decide (0 < span ∧ c ∈ left))) ∧ w' = w := by
  obtain ⟨ao, cap, g1, g2, g3, g4, g5, g6, g7⟩ := h.open
  have H := Lib.hid h
  have G7 := Lib.hid (Is.of_ownsi g7)
  clear h g3 g7
  by_cases hs : 0 < span
  · have hs' : decide (0 < span) = true := by simpa using hs
    go_enter Try.func18, Try.ntmps18
    go_wp2_with fail
    refine (ok_c gb B R left span spent w H.out).mono ?_
    rintro e w' ⟨rfl, rfl⟩
    go_wp2_with fail
    refine (contains_c _ left c _ G7.out).mono ?_
    rintro e w' ⟨rfl, rfl⟩
    go_wp2
    go_ret
    exact ⟨by simp [hs], rfl⟩
  · have hs' : decide (0 < span) = false := by simpa using hs
    go_enter Try.func18, Try.ntmps18
    go_wp2_with fail
    refine (ok_c gb B R left span spent w H.out).mono ?_
    rintro e w' ⟨rfl, rfl⟩
    go_wp2
    go_ret
    have e : decide (0 < span ∧ c ∈ left) = false := decide_eq_false fun h => by omega
    exact ⟨by rw [e]; rfl, rfl⟩

set_option maxHeartbeats 400000 in
theorem waits_nil (c : Int) (w : World) : Calls Try.prog 18 #[.pointer none, .int .i64 c] w fun e w' => e = .returned (.bool false) ∧ w' = w := by
  go_enter Try.func18, Try.ntmps18
  go_wp2_with fail
  refine (ok_nil w).mono ?_
  rintro e w' ⟨rfl, rfl⟩
  go_wp2
  go_ret
  exact ⟨rfl, rfl⟩

def mayB (R : GRec) (left : List Int) (span spent c s : Int) : Bool := !overB left span spent && decide (c ∈ left) && decide (R.s c.toNat = s)

theorem gcells_session (R : GRec) (v : Value) (span spent : Int) (k : Nat) (hk : k < 8) : (gcells R v span spent)[1 + k * 2]? = some (.int .u64 (R.s k)) := by
  rcases (show k = 0 ∨ k = 1 ∨ k = 2 ∨ k = 3 ∨ k = 4 ∨ k = 5 ∨ k = 6 ∨ k = 7 by omega) with rfl | rfl | rfl | rfl | rfl | rfl | rfl | rfl
  all_goals rfl

set_option maxRecDepth 100000 in
set_option maxHeartbeats 1000000 in
theorem may_c (gb B : Nat) (R : GRec) (left : List Int) (span spent c s : Int) (w : World) (h : GraceIs w B gb R left span spent) (hl : ∀ x ∈ left, 0 ≤ x ∧ x < 8) :
    Calls Try.prog 11 #[.pointer (some ⟨gb, 0, none⟩), .int .i64 c, .int .u64 s] w fun e w' => e = .returned (.bool (mayB R left span spent c s)) ∧ ∃ n, w' = w.drewN n := by
  obtain ⟨ao, cap, g1, g2, g3, g4, g5, g6, g7⟩ := h.open
  have H := Lib.hid h
  have G3 := Lib.hid g3
  clear h g3 g7 g4 g5 g6
  cases ho : overB left span spent with
  | true =>
    have HO := Lib.hid ho; clear ho
    go_enter Try.func11, Try.ntmps11
    go_wp2_with fail
    refine (over_c gb B R left span spent w H.out).mono ?_
    rintro e w' ⟨he, n1, rfl⟩
    rw [HO.out] at he
    subst he
    go_wp2
    go_ret
    exact ⟨by simp [mayB, HO.out], n1, rfl⟩
  | false =>
    have HO := Lib.hid ho
    have hsp : 0 < span := by
      unfold overB at ho; simp at ho; omega
    clear ho
    by_cases hc : c ∈ left
    · obtain ⟨k, rfl⟩ := Int.eq_ofNat_of_zero_le (hl c hc).1
      have hk8 : (k : Int) < 8 := (hl _ hc).2
      have hk0 : (0 : Int) ≤ (k : Int) := by omega
      have hk : k < 8 := by omega
      have hcell : w.cell? ⟨gb, 1 + k * 2, none⟩ = some (.int .u64 (R.s k)) := by rw [cell_of_blk G3.out]; exact gcells_session _ _ _ _ k hk
      have hd : decide (0 < span ∧ (k : Int) ∈ left) = true := by simp [hsp, hc]
      have HD := Lib.hid hd
      have HC := Lib.hid hc
      clear hd hc hl
      go_enter Try.func11, Try.ntmps11
      go_wp2_with fail
      refine (over_c gb B R left span spent w H.out).mono ?_
      rintro e w' ⟨he, n1, rfl⟩
      rw [HO.out] at he
      subst he
      go_wp2_with fail
      refine (waits_c gb B R left span spent k _ (H.out.ext ((Ext.refl w).drewN n1))).mono ?_
      rintro e w' ⟨he, rfl⟩
      rw [HD.out] at he
      subst he
      go_wp2
      go_ret
      refine ⟨?_, n1, rfl⟩
      have hcc := HC.out
      simp only [mayB, HO.out, hcc, Int.toNat_natCast, decide_true, Bool.not_false, Bool.and_true, Bool.true_and]
      by_cases e : R.s k = s <;> simp [e]
    · have hd : decide (0 < span ∧ c ∈ left) = false := by simp [hc]
      have HD := Lib.hid hd
      have HC := Lib.hid hc
      clear hd hc hl
      go_enter Try.func11, Try.ntmps11
      go_wp2_with fail
      refine (over_c gb B R left span spent w H.out).mono ?_
      rintro e w' ⟨he, n1, rfl⟩
      rw [HO.out] at he
      subst he
      go_wp2_with fail
      refine (waits_c gb B R left span spent c _ (H.out.ext ((Ext.refl w).drewN n1))).mono ?_
      rintro e w' ⟨he, rfl⟩
      rw [HD.out] at he
      subst he
      go_wp2
      go_ret
      have hcc := HC.out
      exact ⟨by simp [mayB, hcc], n1, rfl⟩

set_option maxHeartbeats 400000 in
theorem may_nil (c s : Int) (w : World) : Calls Try.prog 11 #[.pointer none, .int .i64 c, .int .u64 s] w fun e w' => e = .returned (.bool false) ∧ ∃ n, w' = w.drewN n := by
  go_enter Try.func11, Try.ntmps11
  go_wp2_with fail
  refine (over_nil w).mono ?_
  rintro e w' ⟨rfl, n1, rfl⟩
  go_wp2
  go_ret
  exact ⟨rfl, n1, rfl⟩

end Go.Proofs.Ytdgcadjhggidfaa

/- The document's grace: Over, May, Tick. -/
import Derived.Test.YtdgcadjhggidfaaG11
set_option linter.unusedVariables false
set_option linter.unusedSimpArgs false
namespace Go.Proofs.Ytdgcadjhggidfaa
open Go.RowKit

def roverB (R : GRec) (D : Nat → Bool) (span spent : Int) : Bool := decide (lft R D 8 = [] ∨ span ≤ spent)

set_option maxRecDepth 100000 in
set_option maxHeartbeats 4000000 in
theorem rover_c (rb B : Nat) (R : GRec) (D : Nat → Bool) (span spent : Int) (w : World) (h : RefIs w B rb R D span spent) :
    Calls Try.prog 17 #[.pointer (some ⟨rb, 0, none⟩)] w fun e w' => e = .returned (.bool (roverB R D span spent)) ∧ Ext w w' := by
  have c17 : w.cell? ⟨rb, 17, none⟩ = some (.int .u64 span) := by rw [cell_of_blk h.1]; rfl
  have c18 : w.cell? ⟨rb, 18, none⟩ = some (.int .u64 spent) := by rw [cell_of_blk h.1]; rfl
  have H := Lib.hid h; clear h
  by_cases hl : lft R D 8 = []
  · have E : Hid (roverB R D span spent = true) := Lib.hid (by simp [roverB, hl])
    have hl0 : (lft R D 8).length = 0 := by rw [hl]; rfl
    clear hl
    go_enter Try.func17, Try.ntmps17
    go_wp2_with fail
    refine wp_region_rg 14 (fun w' => Ext w w') Ext
      (vlist [ex (.pointer (some ⟨rb, 0, none⟩)),
        (fun v w' => ∃ ao cap, v = .slice ao (lft R D 8).length cap),
        ex (.int .i64 (lft R D 8).length),
        ex (.bool true),
        ex (.bool true),
        ex undef,
        ex undef,
        ex undef,
        ex undef,
        ex undef,
        ex undef,
        ex undef,
        ex undef,
        ex undef])
      (by kernel_rfl) (by kernel_rfl) (Ext.refl _).drew (fun w' _ => Ext.refl w') (fun _ _ h hx => h.trans hx) ?_ ?_ ?_
    · refine fun i v w1 w2 _ _ hV hx => StL.vlist (R := Ext) ?_ i v w1 w2 hV hx
      exact ⟨ex_st, fun _ _ _ ⟨ao, cap, e1⟩ hx => ⟨ao, cap, e1⟩, ex_st, ex_st, ex_st, ex_st, ex_st, ex_st, ex_st, ex_st, ex_st, ex_st, ex_st, ex_st, trivial⟩
    · simp only [List.take_succ_cons, List.take_zero]
      refine RgOps.mk (RgOp.plain (by decide) rfl ?_) ?_
      rotate_left
      refine RgOps.mk (RgOp.plain (by decide) rfl ?_) ?_
      rotate_left
      refine RgOps.mk (RgOp.plain (by decide) rfl ?_) ?_
      rotate_left
      refine RgOps.mk (RgOp.plain (by decide) rfl ?_) ?_
      rotate_left
      refine RgOps.mk (RgOp.plain (by decide) rfl ?_) ?_
      rotate_left
      refine RgOps.mk (RgOp.off (by decide) ?_) ?_
      rotate_left
      refine RgOps.mk (RgOp.off (by decide) ?_) ?_
      rotate_left
      refine RgOps.mk (RgOp.off (by decide) ?_) ?_
      rotate_left
      refine RgOps.mk (RgOp.off (by decide) ?_) ?_
      rotate_left
      refine RgOps.mk (RgOp.off (by decide) ?_) ?_
      rotate_left
      refine RgOps.mk (RgOp.off (by decide) ?_) ?_
      rotate_left
      refine RgOps.mk (RgOp.off (by decide) ?_) ?_
      rotate_left
      refine RgOps.mk (RgOp.off (by decide) ?_) ?_
      rotate_left
      refine RgOps.mk (RgOp.off (by decide) ?_) ?_
      rotate_left
      exact RgOps.done
      · intro ph vals w' _ hC hd
        simp [Deps, vlist, ex, Region.binds] at hd
        clear hC
        go_simp
        exact Ext.refl _
      · intro ph vals w' _ hC hd
        simp [Deps, vlist, ex, Region.binds] at hd
        go_simp
        refine (rleft_c rb B R D span spent w' (H.out.ext hC)).mono ?_
        rintro e w'' ⟨ao, cap, rfl, hx, hown⟩
        exact ⟨_, rfl, hx, ao, cap, by first | rfl | rw [hl0]⟩
      · intro ph vals w' _ hC hd
        simp [Deps, vlist, ex, Region.binds] at hd
        obtain ⟨ao, cap, hd⟩ := hd
        clear hC
        go_simp
        exact Ext.refl _
      · intro ph vals w' _ hC hd
        simp [Deps, vlist, ex, Region.binds] at hd
        clear hC
        go_simp
        exact Ext.refl _
      · intro ph vals w' _ hC hd
        simp [Deps, vlist, ex, Region.binds] at hd
        clear hC
        go_simp
        exact Ext.refl _
      · intro ph vals w' hC hd
        simp [Deps, vlist, ex, Region.binds] at hd
        exact ⟨by simp [Region.wanted, yielded, full, fillL, Act.put, hd], rfl⟩
      · intro ph vals w' hC hd
        simp [Deps, vlist, ex, Region.binds] at hd
        exact ⟨by simp [Region.wanted, yielded, full, fillL, Act.put, hd], rfl⟩
      · intro ph vals w' hC hd
        simp [Deps, vlist, ex, Region.binds] at hd
        exact ⟨by simp [Region.wanted, yielded, full, fillL, Act.put, hd], rfl⟩
      · intro ph vals w' hC hd
        simp [Deps, vlist, ex, Region.binds] at hd
        exact ⟨by simp [Region.wanted, yielded, full, fillL, Act.put, hd], rfl⟩
      · intro ph vals w' hC hd
        simp [Deps, vlist, ex, Region.binds] at hd
        exact ⟨by simp [Region.wanted, yielded, full, fillL, Act.put, hd], rfl⟩
      · intro ph vals w' hC hd
        simp [Deps, vlist, ex, Region.binds] at hd
        exact ⟨by simp [Region.wanted, yielded, full, fillL, Act.put, hd], rfl⟩
      · intro ph vals w' hC hd
        simp [Deps, vlist, ex, Region.binds] at hd
        exact ⟨by simp [Region.wanted, yielded, full, fillL, Act.put, hd], rfl⟩
      · intro ph vals w' hC hd
        simp [Deps, vlist, ex, Region.binds] at hd
        exact ⟨by simp [Region.wanted, yielded, full, fillL, Act.put, hd], rfl⟩
      · intro ph vals w' hC hd
        simp [Deps, vlist, ex, Region.binds] at hd
        exact ⟨by simp [Region.wanted, yielded, full, fillL, Act.put, hd], rfl⟩
    · intro vals w' hC hV
      have e4 := hV 4 (by decide)
      have e13 := hV 13 (by decide)
      simp only [vlist, ex, List.getD_cons_zero, List.getD_cons_succ] at e4 e13
      have HC := Lib.hid hC; clear hC hV
      simp only [List.drop_succ_cons, List.drop_zero]
      go_wp2
      go_ret
      exact ⟨by rw [E.out]; rfl, HC.out⟩
  · have E : Hid (roverB R D span spent = decide (span ≤ spent)) := Lib.hid (by simp [roverB, hl])
    have hl0 : ((((lft R D 8).length : Nat) : Int) == 0) = false := by
      have := List.length_pos_iff.2 hl
      simp; exact hl
    clear hl
    go_enter Try.func17, Try.ntmps17
    go_wp2_with fail
    refine wp_region_rg 14 (fun w' => Ext w w') Ext
      (vlist [ex (.pointer (some ⟨rb, 0, none⟩)),
        (fun v w' => ∃ ao cap, v = .slice ao (lft R D 8).length cap),
        ex (.int .i64 (lft R D 8).length),
        ex (.bool false),
        ex (.bool false),
        ex (.pointer (some ⟨rb, 0, none⟩)),
        ex (.pointer (some ⟨rb, 0, none⟩)),
        ex (.pointer (some ⟨rb, 18, none⟩)),
        ex (.int .u64 spent),
        ex (.pointer (some ⟨rb, 0, none⟩)),
        ex (.pointer (some ⟨rb, 0, none⟩)),
        ex (.pointer (some ⟨rb, 17, none⟩)),
        ex (.int .u64 span),
        ex (.bool (decide (span ≤ spent)))])
      (by kernel_rfl) (by kernel_rfl) (Ext.refl _).drew (fun w' _ => Ext.refl w') (fun _ _ h hx => h.trans hx) ?_ ?_ ?_
    · refine fun i v w1 w2 _ _ hV hx => StL.vlist (R := Ext) ?_ i v w1 w2 hV hx
      exact ⟨ex_st, fun _ _ _ ⟨ao, cap, e1⟩ hx => ⟨ao, cap, e1⟩, ex_st, ex_st, ex_st, ex_st, ex_st, ex_st, ex_st, ex_st, ex_st, ex_st, ex_st, ex_st, trivial⟩
    · simp only [List.take_succ_cons, List.take_zero]
      refine RgOps.mk (RgOp.plain (by decide) rfl ?_) ?_
      rotate_left
      refine RgOps.mk (RgOp.plain (by decide) rfl ?_) ?_
      rotate_left
      refine RgOps.mk (RgOp.plain (by decide) rfl ?_) ?_
      rotate_left
      refine RgOps.mk (RgOp.plain (by decide) rfl ?_) ?_
      rotate_left
      refine RgOps.mk (RgOp.plain (by decide) rfl ?_) ?_
      rotate_left
      refine RgOps.mk (RgOp.on (by decide) ?_) ?_
      rotate_left
      refine RgOps.mk (RgOp.on (by decide) ?_) ?_
      rotate_left
      refine RgOps.mk (RgOp.on (by decide) ?_) ?_
      rotate_left
      refine RgOps.mk (RgOp.on (by decide) ?_) ?_
      rotate_left
      refine RgOps.mk (RgOp.on (by decide) ?_) ?_
      rotate_left
      refine RgOps.mk (RgOp.on (by decide) ?_) ?_
      rotate_left
      refine RgOps.mk (RgOp.on (by decide) ?_) ?_
      rotate_left
      refine RgOps.mk (RgOp.on (by decide) ?_) ?_
      rotate_left
      refine RgOps.mk (RgOp.on (by decide) ?_) ?_
      rotate_left
      exact RgOps.done
      · intro ph vals w' _ hC hd
        simp [Deps, vlist, ex, Region.binds] at hd
        clear hC
        go_simp
        exact Ext.refl _
      · intro ph vals w' _ hC hd
        simp [Deps, vlist, ex, Region.binds] at hd
        go_simp
        refine (rleft_c rb B R D span spent w' (H.out.ext hC)).mono ?_
        rintro e w'' ⟨ao, cap, rfl, hx, hown⟩
        exact ⟨_, rfl, hx, ao, cap, by first | rfl | rw [hl0]⟩
      · intro ph vals w' _ hC hd
        simp [Deps, vlist, ex, Region.binds] at hd
        obtain ⟨ao, cap, hd⟩ := hd
        clear hC
        go_simp
        exact Ext.refl _
      · intro ph vals w' _ hC hd
        simp [Deps, vlist, ex, Region.binds] at hd
        clear hC
        go_simp
        exact Ext.refl _
      · intro ph vals w' _ hC hd
        simp [Deps, vlist, ex, Region.binds] at hd
        clear hC
        go_simp
        exact Ext.refl _
      · intro ph vals w' hC hd
        simp [Deps, vlist, ex, Region.binds] at hd
        have q1 := hC.cell c17
        have q2 := hC.cell c18
        clear hC
        refine ⟨by simp [Region.wanted, yielded, full, fillL, Act.put, hd], ?_⟩
        go_simp
        exact Ext.refl _
      · intro ph vals w' hC hd
        simp [Deps, vlist, ex, Region.binds] at hd
        have q1 := hC.cell c17
        have q2 := hC.cell c18
        clear hC
        refine ⟨by simp [Region.wanted, yielded, full, fillL, Act.put, hd], ?_⟩
        go_simp
        exact Ext.refl _
      · intro ph vals w' hC hd
        simp [Deps, vlist, ex, Region.binds] at hd
        have q1 := hC.cell c17
        have q2 := hC.cell c18
        clear hC
        refine ⟨by simp [Region.wanted, yielded, full, fillL, Act.put, hd], ?_⟩
        go_simp
        exact Ext.refl _
      · intro ph vals w' hC hd
        simp [Deps, vlist, ex, Region.binds] at hd
        have q1 := hC.cell c17
        have q2 := hC.cell c18
        clear hC
        refine ⟨by simp [Region.wanted, yielded, full, fillL, Act.put, hd], ?_⟩
        go_simp
        exact Ext.refl _
      · intro ph vals w' hC hd
        simp [Deps, vlist, ex, Region.binds] at hd
        have q1 := hC.cell c17
        have q2 := hC.cell c18
        clear hC
        refine ⟨by simp [Region.wanted, yielded, full, fillL, Act.put, hd], ?_⟩
        go_simp
        exact Ext.refl _
      · intro ph vals w' hC hd
        simp [Deps, vlist, ex, Region.binds] at hd
        have q1 := hC.cell c17
        have q2 := hC.cell c18
        clear hC
        refine ⟨by simp [Region.wanted, yielded, full, fillL, Act.put, hd], ?_⟩
        go_simp
        exact Ext.refl _
      · intro ph vals w' hC hd
        simp [Deps, vlist, ex, Region.binds] at hd
        have q1 := hC.cell c17
        have q2 := hC.cell c18
        clear hC
        refine ⟨by simp [Region.wanted, yielded, full, fillL, Act.put, hd], ?_⟩
        go_simp
        exact Ext.refl _
      · intro ph vals w' hC hd
        simp [Deps, vlist, ex, Region.binds] at hd
        have q1 := hC.cell c17
        have q2 := hC.cell c18
        clear hC
        refine ⟨by simp [Region.wanted, yielded, full, fillL, Act.put, hd], ?_⟩
        go_simp
        exact Ext.refl _
      · intro ph vals w' hC hd
        simp [Deps, vlist, ex, Region.binds] at hd
        have q1 := hC.cell c17
        have q2 := hC.cell c18
        clear hC
        refine ⟨by simp [Region.wanted, yielded, full, fillL, Act.put, hd], ?_⟩
        go_simp
        exact Ext.refl _
    · intro vals w' hC hV
      have e4 := hV 4 (by decide)
      have e13 := hV 13 (by decide)
      simp only [vlist, ex, List.getD_cons_zero, List.getD_cons_succ] at e4 e13
      have HC := Lib.hid hC; clear hC hV
      simp only [List.drop_succ_cons, List.drop_zero]
      go_wp2
      go_ret
      exact ⟨by rw [E.out]; rfl, HC.out⟩

def rmayB (R : GRec) (D : Nat → Bool) (span spent c s : Int) : Bool := waitsB R D c && !roverB R D span spent && decide (R.s c.toNat = s)

set_option maxHeartbeats 1000000 in
theorem rmay_c (rb B : Nat) (R : GRec) (D : Nat → Bool) (span spent c s : Int) (w : World) (h : RefIs w B rb R D span spent) :
    Calls Try.prog 14 #[.pointer (some ⟨rb, 0, none⟩), .int .i64 c, .int .u64 s] w fun e w' => e = .returned (.bool (rmayB R D span spent c s)) ∧ Ext w w' := by
  have H := Lib.hid h; clear h
  cases hw : waitsB R D c with
  | false =>
    have HW := Lib.hid hw; clear hw
    go_enter Try.func14, Try.ntmps14
    go_wp2_with fail
    refine (rwaits_c rb B R D span spent c w H.out).mono ?_
    rintro e w' ⟨he, rfl⟩
    rw [HW.out] at he
    subst he
    go_wp2
    go_ret
    exact ⟨by simp [rmayB, HW.out], Ext.refl _⟩
  | true =>
    have hk := of_decide_eq_true hw
    obtain ⟨k, hk8, _, rfl⟩ := mem_lft.1 hk
    have q1 : w.cell? ⟨rb, 1 + k, none⟩ = some (.int .u64 (R.s k)) := by rw [cell_of_blk H.out.1]; exact rcells_s _ _ _ _ k hk8
    have hk0 : (0 : Int) ≤ (k : Int) := by omega
    have hk1 : (k : Int) < 8 := by omega
    have HW := Lib.hid hw; clear hw hk
    cases ho : roverB R D span spent with
    | true =>
      have HO := Lib.hid ho; clear ho
      go_enter Try.func14, Try.ntmps14
      go_wp2_with fail
      refine (rwaits_c rb B R D span spent k w H.out).mono ?_
      rintro e w' ⟨he, rfl⟩
      rw [HW.out] at he
      subst he
      go_wp2_with fail
      refine (rover_c rb B R D span spent _ H.out).mono ?_
      rintro e w1 ⟨he, hx⟩
      rw [HO.out] at he
      subst he
      have HX := Lib.hid hx; clear hx
      go_wp2
      go_ret
      exact ⟨by simp [rmayB, HO.out], HX.out⟩
    | false =>
      have HO := Lib.hid ho; clear ho
      go_enter Try.func14, Try.ntmps14
      go_wp2_with fail
      refine (rwaits_c rb B R D span spent k w H.out).mono ?_
      rintro e w' ⟨he, rfl⟩
      rw [HW.out] at he
      subst he
      go_wp2_with fail
      refine (rover_c rb B R D span spent _ H.out).mono ?_
      rintro e w1 ⟨he, hx⟩
      rw [HO.out] at he
      subst he
      have q2 := hx.cell q1
      have HX := Lib.hid hx; clear hx
      go_wp2
      go_ret
      refine ⟨?_, HX.out⟩
      simp only [rmayB, HO.out, HW.out, Int.toNat_natCast, Bool.not_false, Bool.and_true, Bool.true_and]
      by_cases e : R.s k = s <;> simp [e]

def rtickN (span spent : Int) : Int := if spent < span then spent + 1 else spent

theorem rcells_spent (R : GRec) (D : Nat → Bool) (span spent x : Int) : (rcells R D span spent).setIfInBounds 18 (.int .u64 x) = rcells R D span x := rfl
theorem rcells_done (R : GRec) (D : Nat → Bool) (span spent : Int) (k : Nat) (hk : k < 8) : (rcells R D span spent).setIfInBounds (19 + k) (.bool true) = rcells R (fun i => if i = k then true else D i) span spent := by
  rcases (show k = 0 ∨ k = 1 ∨ k = 2 ∨ k = 3 ∨ k = 4 ∨ k = 5 ∨ k = 6 ∨ k = 7 by omega) with rfl | rfl | rfl | rfl | rfl | rfl | rfl | rfl
  all_goals rfl

set_option maxHeartbeats 1000000 in
theorem rtick_c (rb B : Nat) (R : GRec) (D : Nat → Bool) (span spent : Int) (w : World) (h : RefIs w B rb R D span spent) (h0 : 0 ≤ spent) (h1 : span ≤ 20000) :
    Calls Try.prog 13 #[.pointer (some ⟨rb, 0, none⟩)] w fun e w' => e = .returned (.tuple #[]) ∧ Mod (fun j => j = rb) w w' ∧ RefIs w' B rb R D span (rtickN span spent) := by
  have c17 : w.cell? ⟨rb, 17, none⟩ = some (.int .u64 span) := by rw [cell_of_blk h.1]; rfl
  have c18 : w.cell? ⟨rb, 18, none⟩ = some (.int .u64 spent) := by rw [cell_of_blk h.1]; rfl
  have fz := frozen_of_blk h.1 18
  have H := Lib.hid h; clear h
  by_cases hl : spent < span
  · have hl' : decide (spent < span) = true := by simpa using hl
    go_enter Try.func13, Try.ntmps13
    go_wp2_with fail
    go_quiet (fail)
    go_wp2
    go_end0
    have hT : rtickN span spent = spent + 1 := by unfold rtickN; rw [if_pos hl]
    rw [hT]
    refine ⟨rfl, Mod.setCell (F := fun j => j = rb) (p := ⟨rb, 18, none⟩) ((Ext.refl w).drewN _).mod (fun _ => rfl) _, ?_, H.out.2⟩
    rw [← rcells_spent R D span spent]
    exact setCell_blk ((((Ext.refl w).drewN _).block rb (Array.getElem?_eq_some_iff.1 H.out.1).1 id).trans H.out.1)
  · have hl' : decide (spent < span) = false := by simpa using hl
    clear hl
    go_enter Try.func13, Try.ntmps13
    go_wp2_with fail
    go_quiet (fail)
    go_wp2
    go_end0
    have hT : rtickN span spent = spent := by unfold rtickN; rw [if_neg (by simpa using hl')]
    rw [hT]
    exact ⟨rfl, ((Ext.refl w).drewN _).mod, H.out.ext ((Ext.refl w).drewN _)⟩

end Go.Proofs.Ytdgcadjhggidfaa

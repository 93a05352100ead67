/- The law GracePlays, walked. -/
import Derived.Test.YtdgcadjhggidfaaG13
import Derived.Test.YtdgcadjhggidfaaRh
import Derived.RegionTactic
set_option linter.unusedVariables false
set_option linter.unusedSimpArgs false
namespace Go.Proofs.Ytdgcadjhggidfaa
open Go.RowKit

theorem isl_st {n : Nat} {xs : List Int} (v : Value) (w w' : World) (h : (∃ ao cap, v = Value.slice ao n cap) ∧ Is w v xs) (hx : Ext w w') : (∃ ao cap, v = Value.slice ao n cap) ∧ Is w' v xs := ⟨h.1, h.2.ext hx⟩

set_option maxRecDepth 100000 in
set_option maxHeartbeats 16000000 in
theorem gracePlays_calls (R : GRec) (sp : Int) (v : Value) (ds : List GDo) (W : World) (_ : True) (hspan : 0 ≤ sp ∧ sp ≤ 18446744073709551615) (h : GDos W v ds) :
    Calls Try.prog 4 #[.agg (xcells R), .int .u64 sp, v] W fun e w' => e = .returned (.bool true) ∧ Below W.heap.size W w' := by
  obtain ⟨ao, cap, rfl, h1, h2, hcells⟩ := h
  obtain ⟨n, hn⟩ : ∃ n, n = ds.length := ⟨_, rfl⟩
  rw [← hn] at h1 ⊢
  have HN := Lib.hid hn; clear hn
  have HC := Lib.hid hcells; clear hcells
  have hr := range_of_blk (heap_alloc_new W (.cells (xcells R) 26))
  have HR := Lib.hid hr; clear hr
  have hxa := (Ext.refl W).alloc (.cells (xcells R) 26)
  have HXA := Lib.hid hxa; clear hxa
  by_cases hbad : sp < 1 ∨ 16385 < sp
  · have HB := Lib.hid hbad
    rcases (show sp < 1 ∨ (¬ sp < 1 ∧ 16385 < sp) by omega) with hs | ⟨hs, hs'⟩
    all_goals
      clear hbad
      go_enter Try.func4, Try.ntmps4
      go_wp2_with (first
        | (refine wpList_load_mid rfl 26 (.tmp 3) rfl W.heap.size 0 rfl _ _ HR.out Try.underlying26 rfl (by kernel_rfl) ?_)
        | fail)
      refine (program_c R _).mono ?_
      rintro e w1 ⟨rfl, hx1⟩
      have HX1 := Lib.hid hx1; clear hx1
      go_wp2_with fail
      refine (new_bad R sp w1 HB.out).mono ?_
      rintro e w2 ⟨rfl, hx2⟩
      have HX2 := Lib.hid (HXA.out.trans (HX1.out.trans hx2)); clear hx2
      go_wp2_with fail
      refine (lives_c _).mono ?_
      rintro e w3 ⟨rfl, hb⟩
      go_wp2
      go_ret
      exact ⟨rfl, HX2.out.below.trans (hb.mono HX2.out.size)⟩
  · have hs1 : ¬ sp < 1 := by omega
    have hs2 : ¬ 16385 < sp := by omega
    have HSP : Hid (0 < sp) := Lib.hid (by omega)
    clear hbad
    go_enter Try.func4, Try.ntmps4
    go_wp2_with (first
      | (refine wpList_load_mid rfl 26 (.tmp 3) rfl W.heap.size 0 rfl _ _ HR.out Try.underlying26 rfl (by kernel_rfl) ?_)
      | fail)
    refine (program_c R _).mono ?_
    rintro e w1 ⟨rfl, hx1⟩
    have HX1 := Lib.hid hx1; clear hx1
    go_wp2_with fail
    refine (new_c R sp w1 (by omega) (by omega)).mono ?_
    rintro e w2 ⟨gb, rfl, hx2, hg2⟩
    have HR2 : Hid (w2.rangeAt W.heap.size 0 (#[.int .u64 R.boot, .int .u64 (R.s 0), .int .u64 (R.s 1), .int .u64 (R.s 2), .int .u64 (R.s 3), .int .u64 (R.s 4), .int .u64 (R.s 5), .int .u64 (R.s 6), .int .u64 (R.s 7), .bool (R.h 0), .bool (R.h 1), .bool (R.h 2), .bool (R.h 3), .bool (R.h 4), .bool (R.h 5), .bool (R.h 6), .bool (R.h 7)] : Array Value).toList) := Lib.hid (range_ext (range_ext HR.out HX1.out) hx2)
    have HX2 := Lib.hid (HXA.out.trans (HX1.out.trans hx2)); clear hx2
    have HG2 := Lib.hid (hg2.base (HXA.out.trans HX1.out).size); clear hg2
    go_wp2_with (first
      | (refine wpList_load_mid rfl 26 (.tmp 3) rfl W.heap.size 0 rfl _ _ HR2.out Try.underlying26 rfl (by kernel_rfl) ?_)
      | fail)
    obtain ⟨rb, hrb⟩ : ∃ rb, rb = w2.heap.size := ⟨_, rfl⟩
    rw [← hrb]
    have HRB := Lib.hid hrb; clear hrb
    go_loopw [10] (fun i wr => ∃ (k : Nat) (D : Nat → Bool) (spent : Int), k ≤ n ∧ k ≤ 50 ∧ i = .int .i64 k ∧ PlayInv W wr gb rb R D sp spent) (fun i _ => 50 - (intOf i).toNat)
    case atStart =>
      have hx3 := (Ext.refl w2).alloc (.cells (rcells R (fun _ => false) sp 0) 46)
      refine ⟨0, fun _ => false, 0, by omega, by omega, rfl, ?_, ⟨?_, by rw [HRB.out]; exact HX2.out.size⟩, (HX2.out.trans hx3).below, by omega, by omega⟩
      · have : lft R (fun _ => false) 8 = hol R 8 := by unfold lft hol; congr 1; exact List.filter_congr fun i _ => by simp
        rw [this]
        exact HG2.out.ext hx3
      · rw [HRB.out]; exact heap_alloc_new w2 _
    case round =>
      obtain ⟨k, D, spent, hk1, hk2, rfl, hI⟩ := hrel
      have HI := Lib.hid hI
      have hsz := hI.below.size
      clear hI
      by_cases hlt : k < n ∧ k < 50
      · obtain ⟨hlt1, hlt2⟩ := hlt
        obtain ⟨d, hd⟩ : ∃ d, ds[k]? = some d := ⟨_, List.getElem?_eq_getElem (by rw [← HN.out]; exact hlt1)⟩
        obtain ⟨b, o, rfl, c0, c1, c2⟩ := HC.out k d hd
        have c0 := Below.cellw HI.out.below c0
        have c1 := Below.cellw HI.out.below c1
        have c2 := Below.cellw HI.out.below c2
        clear hd
        obtain ⟨cb, hcb⟩ : ∃ cb, cb = wr.heap.size := ⟨_, rfl⟩
        go_upto_block 2 with fail
        have PI := Lib.hid (HI.out.ext ((Ext.refl wr).alloc (.cells #[.int .i64 d.kind, .int .i64 d.c, .int .u64 d.s] 39)))
        have HCB : Hid ((wr.alloc (.cells #[.int .i64 d.kind, .int .i64 d.c, .int .u64 d.s] 39)).heap[cb]? = some (.cells #[.int .i64 d.kind, .int .i64 d.c, .int .u64 d.s] 39 (0, 0))) := Lib.hid (by rw [hcb]; exact heap_alloc_new wr _)
        rw [← hcb]
        clear c0 c1 c2 hcb
        generalize hWX : wr.alloc (.cells #[.int .i64 d.kind, .int .i64 d.c, .int .u64 d.s] 39) = wx at PI HCB ⊢
        clear hWX
        have ck : wx.cell? ⟨cb, 0, none⟩ = some (.int .i64 d.kind) := by rw [cell_of_blk HCB.out]; rfl
        have cc : wx.cell? ⟨cb, 1, none⟩ = some (.int .i64 d.c) := by rw [cell_of_blk HCB.out]; rfl
        have cs : wx.cell? ⟨cb, 2, none⟩ = some (.int .u64 d.s) := by rw [cell_of_blk HCB.out]; rfl
        have hszx := PI.out.below.size
        go_cut [12] (fun s12 wc => s12 = .bool true ∧ ∃ (D' : Nat → Bool) (spent' : Int), PlayInv W wc gb rb R D' sp spent' ∧ wc.heap[cb]? = some (.cells #[.int .i64 d.kind, .int .i64 d.c, .int .u64 d.s] 39 (0, 0)))
        case first =>
          by_cases hk0 : d.kind = 0
          · have k0 : (d.kind == 0) = true := by simp [hk0]
            clear hk0
            go_wp2_with fail
            refine (tick_c gb W.heap.size R _ sp spent wx PI.out.g PI.out.s0 (by omega)).mono ?_
            rintro e w3 ⟨rfl, hm3, hg3⟩
            have HM3 := Lib.hid hm3; clear hm3
            have HG3 := Lib.hid hg3; clear hg3
            have HR3 := Lib.hid (PI.out.r.tyF HM3.out)
            go_wp2_with fail
            refine (rtick_c rb W.heap.size R D sp spent w3 HR3.out PI.out.s0 (by omega)).mono ?_
            rintro e w4 ⟨rfl, hm4, hr4⟩
            have HM4 := Lib.hid hm4; clear hm4
            have HR4 := Lib.hid hr4; clear hr4
            go_wp2
            go_meet
            case rel =>
              have hs0 := PI.out.s0
              have hs1 := PI.out.s1
              refine ⟨rfl, D, rtickN sp spent, ⟨?_, HR4.out, ?_, ?_, ?_⟩, ?_⟩
              · rw [← tick_eq HSP.out]; exact HG3.out.refmod HR3.out HM4.out
              · exact (PI.out.below.trans (tyF_below HM3.out hszx)).trans (refmod_below HR3.out HM4.out (by have := HM3.out.size; omega))
              · unfold rtickN; split <;> omega
              · unfold rtickN; split <;> omega
              · have h3 := (HM3.out.block cb (Array.getElem?_eq_some_iff.1 HCB.out).1 (tyF_not HCB.out (by decide))).trans HCB.out
                refine (HM4.out.block cb (Array.getElem?_eq_some_iff.1 h3).1 ?_).trans h3
                intro e
                subst e
                have := HR3.out.1
                rw [h3] at this
                simp at this
          · have k0 : (d.kind == 0) = false := by simp [hk0]
            clear hk0
            by_cases hk1' : d.kind = 1
            · have k1 : (d.kind == 1) = true := by simp [hk1']
              clear hk1'
              have EM : Hid (mayB R (lft R D 8) sp spent d.c d.s = rmayB R D sp spent d.c d.s) := Lib.hid (mayB_eq HSP.out PI.out.s1)
              go_wp2_with fail
              refine wp_region_rx 12 _
                [ex (.pointer (some ⟨gb, 0, none⟩)),
                  ex (.pointer (some ⟨cb, 1, none⟩)),
                  ex (.int .i64 d.c),
                  ex (.pointer (some ⟨cb, 2, none⟩)),
                  ex (.int .u64 d.s),
                  ex (.bool (rmayB R D sp spent d.c d.s)),
                  ex (.pointer (some ⟨rb, 0, none⟩)),
                  ex (.pointer (some ⟨cb, 1, none⟩)),
                  ex (.int .i64 d.c),
                  ex (.pointer (some ⟨cb, 2, none⟩)),
                  ex (.int .u64 d.s),
                  ex (.bool (rmayB R D sp spent d.c d.s))]
                (by kernel_rfl) (by kernel_rfl) (by kernel_rfl) rfl ⟨ex_st, ex_st, ex_st, ex_st, ex_st, ex_st, ex_st, ex_st, ex_st, ex_st, ex_st, ex_st, trivial⟩ ?_ ?_
              · simp only [List.take_succ_cons, List.take_zero]
                go_tidy
                refine RhOps.mk (RhOp.moveA (by decide) (.free rfl) 7 (fun _ w _ => Ext.refl w) rfl rfl (.pointer (some ⟨gb, 0, none⟩)) rfl (fun _ _ _ => rfl)) ?_
                refine RhOps.mk (RhOp.at (by decide) (.free rfl) ?_) ?_
                rotate_left
                refine RhOps.mk (RhOp.at (by decide) (.free rfl) ?_) ?_
                rotate_left
                refine RhOps.mk (RhOp.at (by decide) (.free rfl) ?_) ?_
                rotate_left
                refine RhOps.mk (RhOp.at (by decide) (.free rfl) ?_) ?_
                rotate_left
                refine RhOps.mk (RhOp.at (by decide) (.free rfl) ?_) ?_
                rotate_left
                refine RhOps.mk (RhOp.moveA (by decide) (.free rfl) 9 (fun _ w _ => Ext.refl w) rfl rfl (.pointer (some ⟨rb, 0, none⟩)) rfl (fun _ _ _ => rfl)) ?_
                refine RhOps.mk (RhOp.at (by decide) (.free rfl) ?_) ?_
                rotate_left
                refine RhOps.mk (RhOp.at (by decide) (.free rfl) ?_) ?_
                rotate_left
                refine RhOps.mk (RhOp.at (by decide) (.free rfl) ?_) ?_
                rotate_left
                refine RhOps.mk (RhOp.at (by decide) (.free rfl) ?_) ?_
                rotate_left
                refine RhOps.mk (RhOp.at (by decide) (.free rfl) ?_) ?_
                rotate_left
                exact RhOps.done
                · intro b vals ρ w' hC hd hS
                  have r11 : ρ (.tmp 11) = .pointer (some ⟨cb, 0, none⟩) := hS.tmp 11
                  refine (show givesR _ _ _ _ (fun v w'' => Ext w' w'' ∧ v = .pointer (some ⟨cb, 1, none⟩)) from ?_)
                  clear hC hd hS
                  go_simp
                  exact Ext.refl _
                · intro b vals ρ w' hC hd hS
                  have r78 : ρ (.tmp 78) = .pointer (some ⟨cb, 1, none⟩) := (hS.tmp 78).trans (hd.at 1 rfl)
                  have qc := hC.cell cc
                  refine (show givesR _ _ _ _ (fun v w'' => Ext w' w'' ∧ v = .int .i64 d.c) from ?_)
                  clear hC hd hS
                  go_simp
                  exact Ext.refl _
                · intro b vals ρ w' hC hd hS
                  have r11 : ρ (.tmp 11) = .pointer (some ⟨cb, 0, none⟩) := hS.tmp 11
                  refine (show givesR _ _ _ _ (fun v w'' => Ext w' w'' ∧ v = .pointer (some ⟨cb, 2, none⟩)) from ?_)
                  clear hC hd hS
                  go_simp
                  exact Ext.refl _
                · intro b vals ρ w' hC hd hS
                  have r80 : ρ (.tmp 80) = .pointer (some ⟨cb, 2, none⟩) := (hS.tmp 80).trans (hd.at 3 rfl)
                  have qc := hC.cell cs
                  refine (show givesR _ _ _ _ (fun v w'' => Ext w' w'' ∧ v = .int .u64 d.s) from ?_)
                  clear hC hd hS
                  go_simp
                  exact Ext.refl _
                · intro b vals ρ w' hC hd hS
                  have r77 : ρ (.tmp 77) = .pointer (some ⟨gb, 0, none⟩) := (hS.tmp 77).trans (hd.at 0 rfl)
                  have r79 : ρ (.tmp 79) = .int .i64 d.c := (hS.tmp 79).trans (hd.at 2 rfl)
                  have r81 : ρ (.tmp 81) = .int .u64 d.s := (hS.tmp 81).trans (hd.at 4 rfl)
                  have rf := hS.func
                  refine (show givesR _ _ _ _ (fun v w'' => Ext w' w'' ∧ v = .bool (rmayB R D sp spent d.c d.s)) from ?_)
                  have hP := PI.out.ext hC
                  clear hC hd hS
                  go_simp
                  refine (may_c gb _ R _ sp spent d.c d.s w' hP.g (fun x hx => by obtain ⟨i, h1, _, rfl⟩ := mem_lft.1 hx; omega)).mono ?_
                  rintro e w'' ⟨rfl, n, rfl⟩
                  exact ⟨by rw [EM.out], (Ext.refl _).drewN n⟩
                · intro b vals ρ w' hC hd hS
                  have r11 : ρ (.tmp 11) = .pointer (some ⟨cb, 0, none⟩) := hS.tmp 11
                  refine (show givesR _ _ _ _ (fun v w'' => Ext w' w'' ∧ v = .pointer (some ⟨cb, 1, none⟩)) from ?_)
                  clear hC hd hS
                  go_simp
                  exact Ext.refl _
                · intro b vals ρ w' hC hd hS
                  have r84 : ρ (.tmp 84) = .pointer (some ⟨cb, 1, none⟩) := (hS.tmp 84).trans (hd.at 7 rfl)
                  have qc := hC.cell cc
                  refine (show givesR _ _ _ _ (fun v w'' => Ext w' w'' ∧ v = .int .i64 d.c) from ?_)
                  clear hC hd hS
                  go_simp
                  exact Ext.refl _
                · intro b vals ρ w' hC hd hS
                  have r11 : ρ (.tmp 11) = .pointer (some ⟨cb, 0, none⟩) := hS.tmp 11
                  refine (show givesR _ _ _ _ (fun v w'' => Ext w' w'' ∧ v = .pointer (some ⟨cb, 2, none⟩)) from ?_)
                  clear hC hd hS
                  go_simp
                  exact Ext.refl _
                · intro b vals ρ w' hC hd hS
                  have r86 : ρ (.tmp 86) = .pointer (some ⟨cb, 2, none⟩) := (hS.tmp 86).trans (hd.at 9 rfl)
                  have qc := hC.cell cs
                  refine (show givesR _ _ _ _ (fun v w'' => Ext w' w'' ∧ v = .int .u64 d.s) from ?_)
                  clear hC hd hS
                  go_simp
                  exact Ext.refl _
                · intro b vals ρ w' hC hd hS
                  have r83 : ρ (.tmp 83) = .pointer (some ⟨rb, 0, none⟩) := (hS.tmp 83).trans (hd.at 6 rfl)
                  have r85 : ρ (.tmp 85) = .int .i64 d.c := (hS.tmp 85).trans (hd.at 8 rfl)
                  have r87 : ρ (.tmp 87) = .int .u64 d.s := (hS.tmp 87).trans (hd.at 10 rfl)
                  have rf := hS.func
                  refine (show givesR _ _ _ _ (fun v w'' => Ext w' w'' ∧ v = .bool (rmayB R D sp spent d.c d.s)) from ?_)
                  have hP := PI.out.ext hC
                  clear hC hd hS
                  go_simp
                  refine (rmay_c rb _ R D sp spent d.c d.s w' hP.r).mono ?_
                  rintro e w'' ⟨rfl, hx⟩
                  exact ⟨rfl, hx⟩
              · intro vals w' hC hV
                have e5 := hV 5 (by decide)
                have e11 := hV 11 (by decide)
                simp only [vlist, ex, List.getD_cons_zero, List.getD_cons_succ] at e5 e11
                have HC' := Lib.hid hC; clear hC hV
                simp only [List.drop_succ_cons, List.drop_zero]
                go_wp2
                go_meet
                case rel => exact ⟨by simp, D, spent, PI.out.ext HC'.out, (HC'.out.block _ (Array.getElem?_eq_some_iff.1 HCB.out).1 id).trans HCB.out⟩
            · have k1 : (d.kind == 1) = false := by simp [hk1']
              clear hk1'
              by_cases hk2' : d.kind = 2
              · have k2 : (d.kind == 2) = true := by simp [hk2']
                clear hk2'
                cases hw : waitsB R D d.c with
                | true =>
                  have hin := of_decide_eq_true hw
                  obtain ⟨j, hj8, _, hj⟩ := mem_lft.1 hin
                  have hj0 : (0 : Int) ≤ (j : Int) := by omega
                  have hj1 : (j : Int) < 8 := by omega
                  rw [hj] at cc hw
                  have HW := Lib.hid hw
                  have HJ := Lib.hid hj
                  have HIN := Lib.hid hin
                  clear hw hin hj
                  go_wp2_with fail
                  refine (rwaits_c rb W.heap.size R D sp spent (j : Int) wx PI.out.r).mono ?_
                  rintro e w3 ⟨he, rfl⟩
                  rw [HW.out] at he
                  subst he
                  go_wp2_with fail
                  refine wp_region_rx 6 _
                    [ex (.pointer (some ⟨rb, 0, none⟩)),
                      ex (.pointer (some ⟨cb, 1, none⟩)),
                      ex (.int .i64 (j : Int)),
                      ex (.pointer (some ⟨rb, 0, none⟩)),
                      ex (.pointer (some ⟨rb, 19, none⟩)),
                      ex (.pointer (some ⟨rb, 19 + j, none⟩))]
                    (by kernel_rfl) (by kernel_rfl) (by kernel_rfl) rfl ⟨ex_st, ex_st, ex_st, ex_st, ex_st, ex_st, trivial⟩ ?_ ?_
                  · simp only [List.take_succ_cons, List.take_zero]
                    go_tidy
                    refine RhOps.mk (RhOp.moveA (by decide) (.free rfl) 9 (fun _ w _ => Ext.refl w) rfl rfl (.pointer (some ⟨rb, 0, none⟩)) rfl (fun _ _ _ => rfl)) ?_
                    refine RhOps.mk (RhOp.at (by decide) (.free rfl) ?_) ?_
                    rotate_left
                    refine RhOps.mk (RhOp.at (by decide) (.free rfl) ?_) ?_
                    rotate_left
                    refine RhOps.mk (RhOp.at (by decide) (.free rfl) ?_) ?_
                    rotate_left
                    refine RhOps.mk (RhOp.at (by decide) (.free rfl) ?_) ?_
                    rotate_left
                    refine RhOps.mk (RhOp.at (by decide) (.free rfl) ?_) ?_
                    rotate_left
                    exact RhOps.done
                    · intro b vals ρ w' hC hd hS
                      have r11 : ρ (.tmp 11) = .pointer (some ⟨cb, 0, none⟩) := hS.tmp 11
                      refine (show givesR _ _ _ _ (fun v w'' => Ext w' w'' ∧ v = .pointer (some ⟨cb, 1, none⟩)) from ?_)
                      clear hC hd hS
                      go_simp
                      exact Ext.refl _
                    · intro b vals ρ w' hC hd hS
                      have r97 : ρ (.tmp 97) = .pointer (some ⟨cb, 1, none⟩) := (hS.tmp 97).trans (hd.at 1 rfl)
                      have qc := hC.cell cc
                      refine (show givesR _ _ _ _ (fun v w'' => Ext w' w'' ∧ v = .int .i64 (j : Int)) from ?_)
                      clear hC hd hS
                      go_simp
                      exact Ext.refl _
                    · intro b vals ρ w' hC hd hS
                      have r96 : ρ (.tmp 96) = .pointer (some ⟨rb, 0, none⟩) := (hS.tmp 96).trans (hd.at 0 rfl)
                      refine (show givesR _ _ _ _ (fun v w'' => Ext w' w'' ∧ v = .pointer (some ⟨rb, 0, none⟩)) from ?_)
                      clear hC hd hS
                      go_simp
                      exact Ext.refl _
                    · intro b vals ρ w' hC hd hS
                      have r99 : ρ (.tmp 99) = .pointer (some ⟨rb, 0, none⟩) := (hS.tmp 99).trans (hd.at 3 rfl)
                      refine (show givesR _ _ _ _ (fun v w'' => Ext w' w'' ∧ v = .pointer (some ⟨rb, 19, none⟩)) from ?_)
                      clear hC hd hS
                      go_simp
                      exact Ext.refl _
                    · intro b vals ρ w' hC hd hS
                      have r100 : ρ (.tmp 100) = .pointer (some ⟨rb, 19, none⟩) := (hS.tmp 100).trans (hd.at 4 rfl)
                      have r98 : ρ (.tmp 98) = .int .i64 (j : Int) := (hS.tmp 98).trans (hd.at 2 rfl)
                      refine (show givesR _ _ _ _ (fun v w'' => Ext w' w'' ∧ v = .pointer (some ⟨rb, 19 + j, none⟩)) from ?_)
                      clear hC hd hS
                      go_simp
                      exact Ext.refl _
                  intro vals w' hC hV
                  have e5 := hV 5 (by decide)
                  simp only [vlist, ex, List.getD_cons_zero, List.getD_cons_succ] at e5
                  have HC' := Lib.hid hC; clear hC hV
                  simp only [List.drop_succ_cons, List.drop_zero]
                  clear cc cs ck
                  have hP := PI.out.ext HC'.out
                  have hcb : w'.heap[cb]? = some (.cells #[.int .i64 d.kind, .int .i64 d.c, .int .u64 d.s] 39 (0, 0)) := (HC'.out.block _ (Array.getElem?_eq_some_iff.1 HCB.out).1 id).trans HCB.out
                  have hne : cb ≠ rb := fun e => by have := hP.r.1; rw [← e, hcb] at this; simp at this
                  have hm : Mod (fun i => i = rb) w' (w'.setCell ⟨rb, 19 + j, none⟩ (.bool true)) := Mod.setCell (F := fun i => i = rb) (p := ⟨rb, 19 + j, none⟩) (Ext.refl w').mod (fun _ => rfl) _
                  have hr4 : RefIs (w'.setCell ⟨rb, 19 + j, none⟩ (.bool true)) W.heap.size rb R (updD D j) sp spent := ⟨by rw [show rcells R (updD D j) sp spent = (rcells R D sp spent).setIfInBounds (19 + j) (.bool true) from (rcells_done R D sp spent j hj8).symm]; exact setCell_blk hP.r.1, hP.r.2⟩
                  have hg4 := hP.g.refmod hP.r hm
                  have hcb4 := (hm.block cb (Array.getElem?_eq_some_iff.1 hcb).1 hne).trans hcb
                  have hb4 := hP.below.trans (refmod_below hP.r hm hP.below.size)
                  have HG4 := Lib.hid hg4
                  have HR4 := Lib.hid hr4
                  have HCB4 := Lib.hid hcb4
                  have HB4 := Lib.hid hb4
                  have fz := frozen_of_blk hP.r.1 (19 + j)
                  have cd : w'.cell? ⟨rb, 19 + j, none⟩ = some (.bool (D j)) := by rw [cell_of_blk hP.r.1]; exact rcells_d _ _ _ _ j hj8
                  clear hP hcb hne hm hr4 hg4 hcb4 hb4
                  go_upto_region 24 with fail
                  generalize w'.setCell ⟨rb, 19 + j, none⟩ (.bool true) = w4 at *
                  have cc : w4.cell? ⟨cb, 1, none⟩ = some (.int .i64 (j : Int)) := by rw [cell_of_blk HCB4.out, ← HJ.out]; rfl
                  go_wp2_with fail
                  refine (done_yes gb W.heap.size R _ sp spent (j : Int) _ HG4.out HSP.out (HJ.out ▸ HIN.out) (lft_le R D 8)).mono ?_
                  rintro e w5 ⟨rfl, hm5, hg5⟩
                  have HM5 := Lib.hid hm5; clear hm5
                  have HG5 := Lib.hid hg5; clear hg5
                  go_wp2
                  go_meet
                  case rel =>
                    refine ⟨rfl, updD D j, spent, ⟨?_, HR4.out.tyF HM5.out, HB4.out.trans (tyF_below HM5.out HB4.out.size), PI.out.s0, PI.out.s1⟩, ?_⟩
                    · rw [← lft_erase]; exact HG5.out
                    · exact (HM5.out.block cb (Array.getElem?_eq_some_iff.1 HCB4.out).1 (tyF_not HCB4.out (by decide))).trans HCB4.out
                | false =>
                  have HW := Lib.hid hw
                  have hnin : d.c ∉ lft R D 8 := of_decide_eq_false hw
                  have HN := Lib.hid hnin
                  clear hw hnin
                  go_wp2_with fail
                  refine (rwaits_c rb W.heap.size R D sp spent d.c wx PI.out.r).mono ?_
                  rintro e w3 ⟨he, rfl⟩
                  rw [HW.out] at he
                  subst he
                  go_wp2_with fail
                  refine (done_no gb W.heap.size R _ sp spent d.c _ PI.out.g HSP.out HN.out).mono ?_
                  rintro e w4 ⟨rfl, rfl⟩
                  go_wp2
                  go_meet
                  case rel => exact ⟨rfl, D, spent, PI.out, HCB.out⟩
              · have k2 : (d.kind == 2) = false := by simp [hk2']
                clear hk2'
                have c18 : wx.cell? ⟨rb, 18, none⟩ = some (.int .u64 spent) := by rw [cell_of_blk PI.out.r.1]; rfl
                have hq := fun n => spent_c gb W.heap.size R _ sp spent _ (PI.out.g.ext ((Ext.refl wx).drewN n)) HSP.out
                have HQ := Lib.hid hq; clear hq
                go_wp2_with fail
                go_quiet ((go_at_call 16; exact Calls.quiet_of_same (HQ.out _)))
                go_wp2
                go_meet
                case rel => exact ⟨by simp, D, spent, PI.out.ext ((Ext.refl wx).drewN _), HCB.out⟩
        case rest =>
          clear ck cc cs
          obtain ⟨rfl, D', spent', hP, hcb⟩ := hcut
          have cc : wc.cell? ⟨cb, 1, none⟩ = some (.int .i64 d.c) := by rw [cell_of_blk hcb]; rfl
          have cs : wc.cell? ⟨cb, 2, none⟩ = some (.int .u64 d.s) := by rw [cell_of_blk hcb]; rfl
          have c18 : wc.cell? ⟨rb, 18, none⟩ = some (.int .u64 spent') := by rw [cell_of_blk hP.r.1]; rfl
          clear PI HI HCB
          have PI := Lib.hid hP
          have EO : Hid (overB (lft R D' 8) sp spent' = roverB R D' sp spent') := Lib.hid (overB_eq HSP.out hP.s1)
          have EW : Hid (decide (0 < sp ∧ d.c ∈ lft R D' 8) = waitsB R D' d.c) := Lib.hid (waits_eq HSP.out)
          clear hP hcb
          go_wp2_with fail
          refine wp_region_rx 36 _
            [ex (.bool true),
              ex (.bool false),
              ex (.bool false),
              ex (.pointer (some ⟨gb, 0, none⟩)),
              ex (.bool (roverB R D' sp spent')),
              ex (.pointer (some ⟨rb, 0, none⟩)),
              ex (.bool (roverB R D' sp spent')),
              ex (.bool false),
              ex (.bool false),
              ex (.bool false),
              ex (.pointer (some ⟨gb, 0, none⟩)),
              ex (.pointer (some ⟨cb, 1, none⟩)),
              ex (.int .i64 d.c),
              ex (.bool (waitsB R D' d.c)),
              ex (.pointer (some ⟨rb, 0, none⟩)),
              ex (.pointer (some ⟨cb, 1, none⟩)),
              ex (.int .i64 d.c),
              ex (.bool (waitsB R D' d.c)),
              ex (.bool false),
              ex (.bool false),
              ex (.bool false),
              ex (.pointer (some ⟨gb, 0, none⟩)),
              (fun v w' => (∃ ao cap, v = .slice ao (lft R D' 8).length cap) ∧ Is w' v (lft R D' 8)),
              ex (.pointer (some ⟨rb, 0, none⟩)),
              (fun v w' => (∃ ao cap, v = .slice ao (lft R D' 8).length cap) ∧ Is w' v (lft R D' 8)),
              ex (.bool true),
              ex (.bool false),
              ex (.bool false),
              ex (.bool false),
              ex (.pointer (some ⟨gb, 0, none⟩)),
              ex (.int .u64 spent'),
              ex (.pointer (some ⟨rb, 0, none⟩)),
              ex (.pointer (some ⟨rb, 0, none⟩)),
              ex (.pointer (some ⟨rb, 18, none⟩)),
              ex (.int .u64 spent'),
              ex (.bool false)]
            (by kernel_rfl) (by kernel_rfl) (by kernel_rfl) rfl ⟨ex_st, ex_st, ex_st, ex_st, ex_st, ex_st, ex_st, ex_st, ex_st, ex_st, ex_st, ex_st, ex_st, ex_st, ex_st, ex_st, ex_st, ex_st, ex_st, ex_st, ex_st, ex_st, (fun v w w' h hx => isl_st v w w' h hx), ex_st, (fun v w w' h hx => isl_st v w w' h hx), ex_st, ex_st, ex_st, ex_st, ex_st, ex_st, ex_st, ex_st, ex_st, ex_st, ex_st, trivial⟩ ?_ ?_
          · simp only [List.take_succ_cons, List.take_zero]
            go_tidy
            refine RhOps.mk (RhOp.moveA (by decide) (.free rfl) 12 (fun _ w _ => Ext.refl w) rfl rfl (.bool true) rfl (fun _ _ _ => rfl)) ?_
            refine RhOps.mk (RhOp.at (by decide) (.free rfl) ?_) ?_
            rotate_left
            refine RhOps.mk (RhOp.move (by decide) (.free rfl) 109 1 (fun _ w _ => Ext.refl w) rfl rfl rfl (fun _ _ h => h)) ?_
            refine RhOps.mk (RhOp.moveA (by decide) (.on 2 false rfl (fun _ _ h => h)) 7 (fun _ w _ => Ext.refl w) rfl rfl (.pointer (some ⟨gb, 0, none⟩)) rfl (fun _ _ _ => rfl)) ?_
            refine RhOps.mk (RhOp.at (by decide) (.on 2 false rfl (fun _ _ h => h)) ?_) ?_
            rotate_left
            refine RhOps.mk (RhOp.moveA (by decide) (.on 2 false rfl (fun _ _ h => h)) 9 (fun _ w _ => Ext.refl w) rfl rfl (.pointer (some ⟨rb, 0, none⟩)) rfl (fun _ _ _ => rfl)) ?_
            refine RhOps.mk (RhOp.at (by decide) (.on 2 false rfl (fun _ _ h => h)) ?_) ?_
            rotate_left
            refine RhOps.mk (RhOp.at (by decide) (.on 2 false rfl (fun _ _ h => h)) ?_) ?_
            rotate_left
            refine RhOps.mk (RhOp.at (by decide) (.free rfl) ?_) ?_
            rotate_left
            refine RhOps.mk (RhOp.move (by decide) (.free rfl) 116 8 (fun _ w _ => Ext.refl w) rfl rfl rfl (fun _ _ h => h)) ?_
            refine RhOps.mk (RhOp.moveA (by decide) (.on 9 false rfl (fun _ _ h => h)) 7 (fun _ w _ => Ext.refl w) rfl rfl (.pointer (some ⟨gb, 0, none⟩)) rfl (fun _ _ _ => rfl)) ?_
            refine RhOps.mk (RhOp.at (by decide) (.on 9 false rfl (fun _ _ h => h)) ?_) ?_
            rotate_left
            refine RhOps.mk (RhOp.at (by decide) (.on 9 false rfl (fun _ _ h => h)) ?_) ?_
            rotate_left
            refine RhOps.mk (RhOp.at (by decide) (.on 9 false rfl (fun _ _ h => h)) ?_) ?_
            rotate_left
            refine RhOps.mk (RhOp.moveA (by decide) (.on 9 false rfl (fun _ _ h => h)) 9 (fun _ w _ => Ext.refl w) rfl rfl (.pointer (some ⟨rb, 0, none⟩)) rfl (fun _ _ _ => rfl)) ?_
            refine RhOps.mk (RhOp.at (by decide) (.on 9 false rfl (fun _ _ h => h)) ?_) ?_
            rotate_left
            refine RhOps.mk (RhOp.at (by decide) (.on 9 false rfl (fun _ _ h => h)) ?_) ?_
            rotate_left
            refine RhOps.mk (RhOp.at (by decide) (.on 9 false rfl (fun _ _ h => h)) ?_) ?_
            rotate_left
            refine RhOps.mk (RhOp.at (by decide) (.on 9 false rfl (fun _ _ h => h)) ?_) ?_
            rotate_left
            refine RhOps.mk (RhOp.at (by decide) (.free rfl) ?_) ?_
            rotate_left
            refine RhOps.mk (RhOp.move (by decide) (.free rfl) 127 19 (fun _ w _ => Ext.refl w) rfl rfl rfl (fun _ _ h => h)) ?_
            refine RhOps.mk (RhOp.moveA (by decide) (.on 20 false rfl (fun _ _ h => h)) 7 (fun _ w _ => Ext.refl w) rfl rfl (.pointer (some ⟨gb, 0, none⟩)) rfl (fun _ _ _ => rfl)) ?_
            refine RhOps.mk (RhOp.at (by decide) (.on 20 false rfl (fun _ _ h => h)) ?_) ?_
            rotate_left
            refine RhOps.mk (RhOp.moveA (by decide) (.on 20 false rfl (fun _ _ h => h)) 9 (fun _ w _ => Ext.refl w) rfl rfl (.pointer (some ⟨rb, 0, none⟩)) rfl (fun _ _ _ => rfl)) ?_
            refine RhOps.mk (RhOp.at (by decide) (.on 20 false rfl (fun _ _ h => h)) ?_) ?_
            rotate_left
            refine RhOps.mk (RhOp.at (by decide) (.on 20 false rfl (fun _ _ h => h)) ?_) ?_
            rotate_left
            refine RhOps.mk (RhOp.at (by decide) (.on 20 false rfl (fun _ _ h => h)) ?_) ?_
            rotate_left
            refine RhOps.mk (RhOp.at (by decide) (.free rfl) ?_) ?_
            rotate_left
            refine RhOps.mk (RhOp.move (by decide) (.free rfl) 135 27 (fun _ w _ => Ext.refl w) rfl rfl rfl (fun _ _ h => h)) ?_
            refine RhOps.mk (RhOp.moveA (by decide) (.on 28 false rfl (fun _ _ h => h)) 7 (fun _ w _ => Ext.refl w) rfl rfl (.pointer (some ⟨gb, 0, none⟩)) rfl (fun _ _ _ => rfl)) ?_
            refine RhOps.mk (RhOp.at (by decide) (.on 28 false rfl (fun _ _ h => h)) ?_) ?_
            rotate_left
            refine RhOps.mk (RhOp.moveA (by decide) (.on 28 false rfl (fun _ _ h => h)) 9 (fun _ w _ => Ext.refl w) rfl rfl (.pointer (some ⟨rb, 0, none⟩)) rfl (fun _ _ _ => rfl)) ?_
            refine RhOps.mk (RhOp.at (by decide) (.on 28 false rfl (fun _ _ h => h)) ?_) ?_
            rotate_left
            refine RhOps.mk (RhOp.at (by decide) (.on 28 false rfl (fun _ _ h => h)) ?_) ?_
            rotate_left
            refine RhOps.mk (RhOp.at (by decide) (.on 28 false rfl (fun _ _ h => h)) ?_) ?_
            rotate_left
            refine RhOps.mk (RhOp.at (by decide) (.on 28 false rfl (fun _ _ h => h)) ?_) ?_
            rotate_left
            exact RhOps.done
            · intro b vals ρ w' hC hd hS
              have r108 : ρ (.tmp 108) = .bool true := (hS.tmp 108).trans (hd.at 0 rfl)
              refine (show givesR _ _ _ _ (fun v w'' => Ext w' w'' ∧ v = .bool false) from ?_)
              clear hC hd hS
              go_simp
              exact Ext.refl _
            · intro b vals ρ w' hC hd hS
              have r111 : ρ (.tmp 111) = .pointer (some ⟨gb, 0, none⟩) := (hS.tmp 111).trans (hd.at 3 rfl)
              have rf := hS.func
              refine (show givesR _ _ _ _ (fun v w'' => Ext w' w'' ∧ v = .bool (roverB R D' sp spent')) from ?_)
              have hP := PI.out.ext hC
              clear hC hd hS
              go_simp
              refine (over_c gb _ R _ sp spent' w' hP.g).mono ?_
              rintro e w'' ⟨rfl, n, rfl⟩
              exact ⟨by rw [EO.out], (Ext.refl _).drewN n⟩
            · intro b vals ρ w' hC hd hS
              have r113 : ρ (.tmp 113) = .pointer (some ⟨rb, 0, none⟩) := (hS.tmp 113).trans (hd.at 5 rfl)
              have rf := hS.func
              refine (show givesR _ _ _ _ (fun v w'' => Ext w' w'' ∧ v = .bool (roverB R D' sp spent')) from ?_)
              have hP := PI.out.ext hC
              clear hC hd hS
              go_simp
              refine (rover_c rb _ R D' sp spent' w' hP.r).mono ?_
              rintro e w'' ⟨rfl, hx⟩
              exact ⟨rfl, hx⟩
            · intro b vals ρ w' hC hd hS
              have r112 : ρ (.tmp 112) = .bool (roverB R D' sp spent') := (hS.tmp 112).trans (hd.at 4 rfl)
              have r114 : ρ (.tmp 114) = .bool (roverB R D' sp spent') := (hS.tmp 114).trans (hd.at 6 rfl)
              refine (show givesR _ _ _ _ (fun v w'' => Ext w' w'' ∧ v = .bool false) from ?_)
              clear hC hd hS
              go_simp
              exact Ext.refl _
            · intro b vals ρ w' hC hd hS
              have r110 : ρ (.tmp 110) = .bool false := (hS.tmp 110).trans (hd.at 2 rfl)
              have r115 : ρ (.tmp 115) = .bool false := (hS.tmp 115).trans (hd.at 7 rfl)
              have rc := hS.const
              refine (show givesR _ _ _ _ (fun v w'' => Ext w' w'' ∧ v = .bool false) from ?_)
              clear hC hd hS
              go_simp
              exact Ext.refl _
            · intro b vals ρ w' hC hd hS
              have r11 : ρ (.tmp 11) = .pointer (some ⟨cb, 0, none⟩) := hS.tmp 11
              refine (show givesR _ _ _ _ (fun v w'' => Ext w' w'' ∧ v = .pointer (some ⟨cb, 1, none⟩)) from ?_)
              clear hC hd hS
              go_simp
              exact Ext.refl _
            · intro b vals ρ w' hC hd hS
              have r119 : ρ (.tmp 119) = .pointer (some ⟨cb, 1, none⟩) := (hS.tmp 119).trans (hd.at 11 rfl)
              have qc := hC.cell cc
              refine (show givesR _ _ _ _ (fun v w'' => Ext w' w'' ∧ v = .int .i64 d.c) from ?_)
              clear hC hd hS
              go_simp
              exact Ext.refl _
            · intro b vals ρ w' hC hd hS
              have r118 : ρ (.tmp 118) = .pointer (some ⟨gb, 0, none⟩) := (hS.tmp 118).trans (hd.at 10 rfl)
              have r120 : ρ (.tmp 120) = .int .i64 d.c := (hS.tmp 120).trans (hd.at 12 rfl)
              have rf := hS.func
              refine (show givesR _ _ _ _ (fun v w'' => Ext w' w'' ∧ v = .bool (waitsB R D' d.c)) from ?_)
              have hP := PI.out.ext hC
              clear hC hd hS
              go_simp
              refine (waits_c gb _ R _ sp spent' d.c w' hP.g).mono ?_
              rintro e w'' ⟨rfl, rfl⟩
              exact ⟨by rw [EW.out], Ext.refl _⟩
            · intro b vals ρ w' hC hd hS
              have r11 : ρ (.tmp 11) = .pointer (some ⟨cb, 0, none⟩) := hS.tmp 11
              refine (show givesR _ _ _ _ (fun v w'' => Ext w' w'' ∧ v = .pointer (some ⟨cb, 1, none⟩)) from ?_)
              clear hC hd hS
              go_simp
              exact Ext.refl _
            · intro b vals ρ w' hC hd hS
              have r123 : ρ (.tmp 123) = .pointer (some ⟨cb, 1, none⟩) := (hS.tmp 123).trans (hd.at 15 rfl)
              have qc := hC.cell cc
              refine (show givesR _ _ _ _ (fun v w'' => Ext w' w'' ∧ v = .int .i64 d.c) from ?_)
              clear hC hd hS
              go_simp
              exact Ext.refl _
            · intro b vals ρ w' hC hd hS
              have r122 : ρ (.tmp 122) = .pointer (some ⟨rb, 0, none⟩) := (hS.tmp 122).trans (hd.at 14 rfl)
              have r124 : ρ (.tmp 124) = .int .i64 d.c := (hS.tmp 124).trans (hd.at 16 rfl)
              have rf := hS.func
              refine (show givesR _ _ _ _ (fun v w'' => Ext w' w'' ∧ v = .bool (waitsB R D' d.c)) from ?_)
              have hP := PI.out.ext hC
              clear hC hd hS
              go_simp
              refine (rwaits_c rb _ R D' sp spent' d.c w' hP.r).mono ?_
              rintro e w'' ⟨rfl, rfl⟩
              exact ⟨rfl, Ext.refl _⟩
            · intro b vals ρ w' hC hd hS
              have r121 : ρ (.tmp 121) = .bool (waitsB R D' d.c) := (hS.tmp 121).trans (hd.at 13 rfl)
              have r125 : ρ (.tmp 125) = .bool (waitsB R D' d.c) := (hS.tmp 125).trans (hd.at 17 rfl)
              refine (show givesR _ _ _ _ (fun v w'' => Ext w' w'' ∧ v = .bool false) from ?_)
              clear hC hd hS
              go_simp
              exact Ext.refl _
            · intro b vals ρ w' hC hd hS
              have r117 : ρ (.tmp 117) = .bool false := (hS.tmp 117).trans (hd.at 9 rfl)
              have r126 : ρ (.tmp 126) = .bool false := (hS.tmp 126).trans (hd.at 18 rfl)
              have rc := hS.const
              refine (show givesR _ _ _ _ (fun v w'' => Ext w' w'' ∧ v = .bool false) from ?_)
              clear hC hd hS
              go_simp
              exact Ext.refl _
            · intro b vals ρ w' hC hd hS
              have r129 : ρ (.tmp 129) = .pointer (some ⟨gb, 0, none⟩) := (hS.tmp 129).trans (hd.at 21 rfl)
              have rf := hS.func
              refine (show givesR _ _ _ _ (fun v w'' => Ext w' w'' ∧ (fun v w' => (∃ ao cap, v = .slice ao (lft R D' 8).length cap) ∧ Is w' v (lft R D' 8)) v w'') from ?_)
              have hP := PI.out.ext hC
              clear hC hd hS
              go_simp
              refine (left_c gb _ R _ sp spent' w' hP.g HSP.out (lft_le R D' 8)).mono ?_
              rintro e w'' ⟨ao, cap, rfl, hx, ho⟩
              exact ⟨_, rfl, hx, ⟨ao, cap, rfl⟩, Is.of_ownsi ho⟩
            · intro b vals ρ w' hC hd hS
              have r131 : ρ (.tmp 131) = .pointer (some ⟨rb, 0, none⟩) := (hS.tmp 131).trans (hd.at 23 rfl)
              have rf := hS.func
              refine (show givesR _ _ _ _ (fun v w'' => Ext w' w'' ∧ (fun v w' => (∃ ao cap, v = .slice ao (lft R D' 8).length cap) ∧ Is w' v (lft R D' 8)) v w'') from ?_)
              have hP := PI.out.ext hC
              clear hC hd hS
              go_simp
              refine (rleft_c rb _ R D' sp spent' w' hP.r).mono ?_
              rintro e w'' ⟨ao, cap, rfl, hx, ho⟩
              exact ⟨_, rfl, hx, ⟨ao, cap, rfl⟩, Is.of_ownsi ho⟩
            · intro b vals ρ w' hC hd hS
              have d22 := hd.at 22 rfl
              have r130 := hS.tmp 130
              have d24 := hd.at 24 rfl
              have r132 := hS.tmp 132
              have rf := hS.func
              refine (show givesR _ _ _ _ (fun v w'' => Ext w' w'' ∧ v = .bool true) from ?_)
              obtain ⟨⟨ao, cap, e1⟩, i1⟩ := d22
              obtain ⟨⟨ao', cap', e2⟩, i2⟩ := d24
              rw [show look _ vals _ 130 = vals 22 from rfl, e1] at r130
              rw [show look _ vals _ 132 = vals 24 from rfl, e2] at r132
              rw [e1] at i1
              rw [e2] at i2
              have H1 := Lib.hid i1
              have H2 := Lib.hid i2
              clear hC hd hS e1 e2 i1 i2
              go_simp
              refine (sameInts_c _ _ (lft R D' 8) (lft R D' 8) w' H1.out H2.out).mono ?_
              rintro e w'' ⟨rfl, n, rfl⟩
              exact ⟨by simp, (Ext.refl _).drewN n⟩
            · intro b vals ρ w' hC hd hS
              have r133 : ρ (.tmp 133) = .bool true := (hS.tmp 133).trans (hd.at 25 rfl)
              refine (show givesR _ _ _ _ (fun v w'' => Ext w' w'' ∧ v = .bool false) from ?_)
              clear hC hd hS
              go_simp
              exact Ext.refl _
            · intro b vals ρ w' hC hd hS
              have r128 : ρ (.tmp 128) = .bool false := (hS.tmp 128).trans (hd.at 20 rfl)
              have r134 : ρ (.tmp 134) = .bool false := (hS.tmp 134).trans (hd.at 26 rfl)
              have rc := hS.const
              refine (show givesR _ _ _ _ (fun v w'' => Ext w' w'' ∧ v = .bool false) from ?_)
              clear hC hd hS
              go_simp
              exact Ext.refl _
            · intro b vals ρ w' hC hd hS
              have r137 : ρ (.tmp 137) = .pointer (some ⟨gb, 0, none⟩) := (hS.tmp 137).trans (hd.at 29 rfl)
              have rf := hS.func
              refine (show givesR _ _ _ _ (fun v w'' => Ext w' w'' ∧ v = .int .u64 spent') from ?_)
              have hP := PI.out.ext hC
              clear hC hd hS
              go_simp
              refine (spent_c gb _ R _ sp spent' w' hP.g HSP.out).mono ?_
              rintro e w'' ⟨rfl, rfl⟩
              exact ⟨rfl, Ext.refl _⟩
            · intro b vals ρ w' hC hd hS
              have r139 : ρ (.tmp 139) = .pointer (some ⟨rb, 0, none⟩) := (hS.tmp 139).trans (hd.at 31 rfl)
              refine (show givesR _ _ _ _ (fun v w'' => Ext w' w'' ∧ v = .pointer (some ⟨rb, 0, none⟩)) from ?_)
              clear hC hd hS
              go_simp
              exact Ext.refl _
            · intro b vals ρ w' hC hd hS
              have r140 : ρ (.tmp 140) = .pointer (some ⟨rb, 0, none⟩) := (hS.tmp 140).trans (hd.at 32 rfl)
              refine (show givesR _ _ _ _ (fun v w'' => Ext w' w'' ∧ v = .pointer (some ⟨rb, 18, none⟩)) from ?_)
              clear hC hd hS
              go_simp
              exact Ext.refl _
            · intro b vals ρ w' hC hd hS
              have r141 : ρ (.tmp 141) = .pointer (some ⟨rb, 18, none⟩) := (hS.tmp 141).trans (hd.at 33 rfl)
              have qc := hC.cell c18
              refine (show givesR _ _ _ _ (fun v w'' => Ext w' w'' ∧ v = .int .u64 spent') from ?_)
              clear hC hd hS
              go_simp
              exact Ext.refl _
            · intro b vals ρ w' hC hd hS
              have r138 : ρ (.tmp 138) = .int .u64 spent' := (hS.tmp 138).trans (hd.at 30 rfl)
              have r142 : ρ (.tmp 142) = .int .u64 spent' := (hS.tmp 142).trans (hd.at 34 rfl)
              refine (show givesR _ _ _ _ (fun v w'' => Ext w' w'' ∧ v = .bool false) from ?_)
              clear hC hd hS
              go_simp
              exact Ext.refl _
          · intro vals w' hC hV
            have e27 := hV 27 (by decide)
            have e28 := hV 28 (by decide)
            have e35 := hV 35 (by decide)
            simp only [vlist, ex, List.getD_cons_zero, List.getD_cons_succ] at e27 e28 e35
            have HC' := Lib.hid hC; clear hC hV
            simp only [List.drop_succ_cons, List.drop_zero]
            go_wp2
            go_roundw
            case rel => exact ⟨k + 1, D', spent', by omega, by omega, by go_num, PI.out.ext HC'.out⟩
            case measure => simp [intOf]; omega
      · have hno : n ≤ k ∨ (k < n ∧ 50 ≤ k) := by omega
        rcases hno with hno | ⟨hno, hno'⟩
        all_goals
          go_wp2_with fail
          refine (lives_c _).mono ?_
          rintro e w2 ⟨rfl, hx⟩
          go_wp2
          go_ret
          exact ⟨rfl, HI.out.below.trans (hx.mono hsz)⟩

end Go.Proofs.Ytdgcadjhggidfaa

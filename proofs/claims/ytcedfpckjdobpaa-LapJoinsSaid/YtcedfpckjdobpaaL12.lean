/- Which sector any piece is: the law's walk. -/
import Derived.Test.YtcedfpckjdobpaaL11
set_option linter.unusedVariables false
set_option linter.unusedSimpArgs false
namespace Go.Proofs.Ytcedfpckjdobpaa
open Go.RowKit

theorem mine_x (ep ct : Nat) (fi la : Bool) (d dl : List UInt8) (m : Nat) (v : Value) (w : World) (hdl : dl = d.take 120) (hm : m = dl.length) (hv : Bs w v d) :
    Calls Try.prog 14 #[.agg #[.int .u64 (ep : Int), .int .u64 (ct : Int), .bool fi, .bool la, v]] w fun r w' => ∃ ao cap, r = .returned (.agg #[.int .u64 (ep : Int), .int .u64 (ct : Int), .bool fi, .bool la, .slice ao m cap]) ∧ Ext w w' ∧ Bs w' (.slice ao m cap) dl := by
  refine (mine_c ⟨ep, ct, fi, la, d⟩ v w hv).mono ?_
  rintro r w' ⟨ao, cap, rfl, hx, ho⟩
  subst hdl hm
  exact ⟨ao, cap, rfl, hx, Rs.of_owns ho⟩

def okN (p : Pc) : Nat := if p.ok then 0 else 2
def okL (p : Pc) : List UInt8 := if p.ok then p.sec else []
theorem seal_x (p : Pc) (v : Value) (w : World) (hv : Bs w v p.d) :
    Calls Try.prog 13 #[p.agg v] w fun r w' => ∃ vb, r = .returned (.tuple #[vb, .int .i64 (okN p : Int)]) ∧ Ext w w' ∧ Bs w' vb (okL p) := by
  unfold okN okL
  by_cases hp : p.ok
  · refine (seal_ok p v w hp hv).mono ?_
    rintro r w' ⟨g, h1, h2, _, h3⟩
    rw [if_pos hp, if_pos hp]
    exact ⟨_, h1, h2, h3.bs⟩
  · refine (seal_bad p v w hp hv).mono ?_
    rintro r w' ⟨h1, h2⟩
    rw [if_neg hp, if_neg hp]
    exact ⟨_, h1, h2, Bs.nil _⟩
theorem rseal_x (p : Pc) (v : Value) (w : World) (hv : Bs w v p.d) :
    Calls Try.prog 19 #[p.agg v] w fun r w' => ∃ vb, r = .returned (.tuple #[vb, .int .i64 (okN p : Int)]) ∧ Ext w w' ∧ Bs w' vb (okL p) := by
  unfold okN okL
  by_cases hp : p.ok
  · refine (rseal_ok p v w hp hv).mono ?_
    rintro r w' ⟨ao, cap, h1, h2, h3⟩
    rw [if_pos hp, if_pos hp]
    exact ⟨_, h1, h2, by have h := Rs.of_owns h3; unfold Bs; rw [Pc.sec_length hp.2.2]; exact h⟩
  · refine (rseal_bad p v w hp hv).mono ?_
    rintro r w' ⟨h1, h2⟩
    rw [if_neg hp, if_neg hp]
    exact ⟨_, h1, h2, Bs.nil _⟩
def endA (l : List UInt8) : Nat := if l.length = 128 then valB (l.take 8) / 1099511627776 else 0
def endB (l : List UInt8) : Nat := if l.length = 128 then valB (l.drop 120) / 1099511627776 else 0
theorem ends_x (v : Value) (l : List UInt8) (w : World) (hv : Bs w v l) :
    Calls Try.prog 21 #[v] w fun r w' => r = .returned (.tuple #[.int .u64 (endA l : Int), .int .u64 (endB l : Int)]) ∧ Ext w w' := by
  unfold endA endB
  by_cases hl : l.length = 128
  · rw [if_pos hl, if_pos hl]; exact ends_ok v l w hv hl
  · rw [if_neg hl, if_neg hl]; exact ends_bad v l w hv hl
theorem ends_sec {p : Pc} (hp : p.ok) : endA p.sec = p.ep ∧ endB p.sec = p.ep := by
  have h1 := Pc.sec_length hp.2.2
  have h2 := Pc.st_lt hp
  unfold endA endB
  rw [if_pos h1, if_pos h1, Pc.sec_take, Pc.sec_drop hp.2.2, valB_numL, Nat.mod_eq_of_lt (by simpa using h2)]
  obtain ⟨q1, q2, _⟩ := hp
  unfold Pc.st
  omega

set_option maxRecDepth 100000 in
set_option maxHeartbeats 8000000 in
theorem lapSeals_walk (ep ct : Nat) (fi la : Bool) (d : List UInt8) (v : Value) (W : World) (hv : Bs W v d) :
    Calls Try.prog 5 #[.agg #[.int .u64 (ep : Int), .int .u64 (ct : Int), .bool fi, .bool la, v]] W fun e w' => e = .returned (.bool true) ∧ Below W.heap.size W w' := by
  obtain ⟨ao, cap, hve, _⟩ := hv.open
  obtain ⟨n, hn⟩ : ∃ n, n = d.length := ⟨_, rfl⟩
  rw [← hn] at hve
  subst hve
  obtain ⟨dl, hdl⟩ : ∃ x, x = d.take 120 := ⟨_, rfl⟩
  obtain ⟨m, hm⟩ : ∃ x, x = dl.length := ⟨_, rfl⟩
  have HDL := Lib.hid (And.intro hdl hm)
  have HV0 := Lib.hid hv
  have HLV := fun w => lives_c w
  have HL := Lib.hid HLV
  clear HLV hn hdl hm hv
  go_enter Try.func5, Try.ntmps5
  go_wp2_with fail
  obtain ⟨w1, hw1⟩ : ∃ x, x = W.alloc (.cells #[.int .u64 (ep : Int), .int .u64 (ct : Int), .bool fi, .bool la, .slice ao n cap] 31) := ⟨_, rfl⟩
  obtain ⟨pb, hpb⟩ : ∃ x, x = W.heap.size := ⟨_, rfl⟩
  have HB0 : Hid (w1.heap[pb]? = some (.cells #[.int .u64 (ep : Int), .int .u64 (ct : Int), .bool fi, .bool la, .slice ao n cap] 31 (0, 0))) := Lib.hid (by rw [hw1, hpb]; exact heap_alloc_new W _)
  have HW1 : Hid (Ext W w1) := Lib.hid (by rw [hw1]; exact (Ext.refl W).alloc _)
  rw [← hw1, ← hpb]
  clear hw1 hpb
  refine (mine_x ep ct fi la d dl m _ w1 HDL.out.1 HDL.out.2 (HV0.out.ext HW1.out)).mono ?_
  rintro e w2 ⟨ao2, cap2, rfl, hx2, hb2⟩
  have HW2 := Lib.hid hx2
  have HQ2 := Lib.hid hb2
  clear hx2 hb2
  go_wp2_with fail
  obtain ⟨w3, hw3⟩ : ∃ x, x = w2.alloc (.cells #[.int .u64 (ep : Int), .int .u64 (ct : Int), .bool fi, .bool la, .slice ao2 m cap2] 34) := ⟨_, rfl⟩
  obtain ⟨qb, hqb⟩ : ∃ x, x = w2.heap.size := ⟨_, rfl⟩
  have HB3 : Hid (w3.heap[qb]? = some (.cells #[.int .u64 (ep : Int), .int .u64 (ct : Int), .bool fi, .bool la, .slice ao2 m cap2] 34 (0, 0))) := Lib.hid (by rw [hw3, hqb]; exact heap_alloc_new w2 _)
  have hx3 : Ext w2 w3 := by rw [hw3]; exact (Ext.refl _).alloc _
  have HW3 : Hid (Ext w1 w3) := Lib.hid (HW2.out.trans hx3)
  have HQ3 := Lib.hid (HQ2.out.ext hx3)
  rw [← hw3, ← hqb]
  clear hw3 hqb hx3 HQ2 HW2
  obtain ⟨x, hx⟩ : ∃ x : Pc, x = ⟨ep, ct, fi, la, dl⟩ := ⟨_, rfl⟩
  obtain ⟨k, hk⟩ : ∃ k, k = okN x := ⟨_, rfl⟩
  obtain ⟨lb, hlb⟩ : ∃ k, k = okL x := ⟨_, rfl⟩
  obtain ⟨a, ha⟩ : ∃ k, k = endA lb := ⟨_, rfl⟩
  obtain ⟨b, hb⟩ : ∃ k, k = endB lb := ⟨_, rfl⟩
  have hor : (((k : Int) == 0) = true ∧ a = ep ∧ b = ep) ∨ ((k : Int) == 0) = false := by
    rw [hk, ha, hb, hlb]
    unfold okN okL
    by_cases ho : x.ok
    · left
      rw [if_pos ho, if_pos ho, (ends_sec ho).1, (ends_sec ho).2, hx]
      exact ⟨rfl, rfl, rfl⟩
    · right
      rw [if_neg ho]
      rfl
  have HOR := Lib.hid hor
  have HX := Lib.hid hx
  have HK := Lib.hid hk
  have HLB := Lib.hid hlb
  have HAB := Lib.hid (And.intro ha hb)
  clear hor hx hk hlb ha hb
  have hs := seal_x x (.slice ao2 m cap2) w3 (by rw [HX.out]; exact HQ3.out)
  rw [← HK.out, ← HLB.out, HX.out] at hs
  refine hs.mono ?_
  rintro e w4 ⟨vb, rfl, hx4, hb4⟩
  have HW4 : Hid (Ext w1 w4) := Lib.hid (HW3.out.trans hx4)
  have HVB4 := Lib.hid hb4
  have hb0 := (HW4.out.block pb (Array.getElem?_eq_some_iff.1 HB0.out).1 id).trans HB0.out
  have p0 : w4.cell? ⟨pb, 0, none⟩ = some (.int .u64 (ep : Int)) := by rw [cell_of_blk hb0]; rfl
  have p1 : w4.cell? ⟨pb, 1, none⟩ = some (.int .u64 (ct : Int)) := by rw [cell_of_blk hb0]; rfl
  have p2 : w4.cell? ⟨pb, 2, none⟩ = some (.bool fi) := by rw [cell_of_blk hb0]; rfl
  have p3 : w4.cell? ⟨pb, 3, none⟩ = some (.bool la) := by rw [cell_of_blk hb0]; rfl
  have p4 : w4.cell? ⟨pb, 4, none⟩ = some (.slice ao n cap) := by rw [cell_of_blk hb0]; rfl
  have HX34 := Lib.hid hx4
  clear hs hx4 hb4 hb0
  go_wp2_with fail
  refine (mine_x ep ct fi la d dl m _ w4 HDL.out.1 HDL.out.2 (HV0.out.ext (HW1.out.trans HW4.out))).mono ?_
  rintro e w5 ⟨ao5, cap5, rfl, hx5, hb5⟩
  have HX5 := Lib.hid hx5
  have HB5 := Lib.hid hb5
  clear hx5 hb5 p0 p1 p2 p3 p4
  go_wp2_with fail
  refine (plain_c _ _ _ _ _ _ _ w5).mono ?_
  rintro e w6 ⟨rfl, hx6⟩
  have HX6 := Lib.hid hx6
  have HB6 := Lib.hid (HB5.out.ext hx6)
  clear hx6 HB5
  go_wp2_with fail
  have hs := rseal_x x (.slice ao5 m cap5) w6 (by rw [HX.out]; exact HB6.out)
  rw [← HK.out, ← HLB.out, HX.out] at hs
  refine hs.mono ?_
  rintro e w7 ⟨vc, rfl, hx7, hb7⟩
  have HX7 := Lib.hid (HX5.out.trans (HX6.out.trans hx7))
  have HVC7 := Lib.hid hb7
  clear hs hx7 hb7 HX5 HX6
  go_wp2_with fail
  have hs := ends_x vb lb w7 (HVB4.out.ext HX7.out)
  rw [← HAB.out.1, ← HAB.out.2] at hs
  refine hs.mono ?_
  rintro e w8 ⟨rfl, hx8⟩
  have HVB : Hid (Bs w8 vb lb) := Lib.hid (HVB4.out.ext (HX7.out.trans hx8))
  have HVC : Hid (Bs w8 vc lb) := Lib.hid (HVC7.out.ext hx8)
  have HX18 : Hid (Ext w1 w8) := Lib.hid (HW4.out.trans (HX7.out.trans hx8))
  have HX38 : Hid (Ext w3 w8) := Lib.hid (HX34.out.trans (HX7.out.trans hx8))
  have HV : Hid (Bs w8 (.slice ao n cap) d) := Lib.hid (HV0.out.ext (HW1.out.trans HX18.out))
  have HQS : Hid (Bs w8 (.slice ao2 m cap2) dl) := Lib.hid (HQ3.out.ext HX38.out)
  have hb0 := (HX18.out.block pb (Array.getElem?_eq_some_iff.1 HB0.out).1 id).trans HB0.out
  have hb3 := (HX38.out.block qb (Array.getElem?_eq_some_iff.1 HB3.out).1 id).trans HB3.out
  have p0 : w8.cell? ⟨pb, 0, none⟩ = some (.int .u64 (ep : Int)) := by rw [cell_of_blk hb0]; rfl
  have p1 : w8.cell? ⟨pb, 1, none⟩ = some (.int .u64 (ct : Int)) := by rw [cell_of_blk hb0]; rfl
  have p2 : w8.cell? ⟨pb, 2, none⟩ = some (.bool fi) := by rw [cell_of_blk hb0]; rfl
  have p3 : w8.cell? ⟨pb, 3, none⟩ = some (.bool la) := by rw [cell_of_blk hb0]; rfl
  have p4 : w8.cell? ⟨pb, 4, none⟩ = some (.slice ao n cap) := by rw [cell_of_blk hb0]; rfl
  have q0 : w8.cell? ⟨qb, 0, none⟩ = some (.int .u64 (ep : Int)) := by rw [cell_of_blk hb3]; rfl
  have q1 : w8.cell? ⟨qb, 1, none⟩ = some (.int .u64 (ct : Int)) := by rw [cell_of_blk hb3]; rfl
  have q2 : w8.cell? ⟨qb, 2, none⟩ = some (.bool fi) := by rw [cell_of_blk hb3]; rfl
  have q3 : w8.cell? ⟨qb, 3, none⟩ = some (.bool la) := by rw [cell_of_blk hb3]; rfl
  have q4 : w8.cell? ⟨qb, 4, none⟩ = some (.slice ao2 m cap2) := by rw [cell_of_blk hb3]; rfl
  have hor := HOR.out
  clear hs hx8 hb0 hb3
  have hcond : (((k : Int) == 0) = true ∧ ((a : Int) != (ep : Int)) = false ∧ ((b : Int) != (ep : Int)) = false) ∨ ((k : Int) == 0) = false := by
    rcases hor with ⟨hk0, ha, hb⟩ | hk0
    · exact .inl ⟨hk0, by rw [ha]; simp, by rw [hb]; simp⟩
    · exact .inr hk0
  clear hor
  rcases hcond with ⟨hk0, hae, hbe⟩ | hk0
  all_goals
    go_wp2_with fail
    refine wp_region_rx 20 _
      [ex vb,
        ex vc,
        ex (.bool true),
        ex (.bool true),
        ex (.int .i64 (k : Int)),
        ex (.int .i64 (k : Int)),
        ex (.bool true),
        ex (.bool true),
        ex (.bool true),
        ex (.agg #[.int .u64 (ep : Int), .int .u64 (ct : Int), .bool fi, .bool la, .slice ao2 m cap2]),
        ex (.agg #[.int .u64 (ep : Int), .int .u64 (ct : Int), .bool fi, .bool la, .slice ao2 m cap2]),
        ex (.agg #[.int .u64 (ep : Int), .int .u64 (ct : Int), .bool fi, .bool la, .slice ao n cap]),
        (fun v w' => ∃ ao' cap', v = .agg #[.int .u64 (ep : Int), .int .u64 (ct : Int), .bool fi, .bool la, .slice ao' m cap'] ∧ Bs w' (.slice ao' m cap') dl),
        (fun v w' => ∃ ao' cap', v = .agg #[.int .u64 (ep : Int), .int .u64 (ct : Int), .bool fi, .bool la, .slice ao' m cap'] ∧ Bs w' (.slice ao' m cap') dl),
        ex (.bool true),
        ex (.bool true),
        ex (.bool true),
        ex (.bool true),
        ex (.bool true),
        ex (.bool true)]
      (by kernel_rfl) (by kernel_rfl) (by kernel_rfl) rfl ⟨ex_st, ex_st, ex_st, ex_st, ex_st, ex_st, ex_st, ex_st, ex_st, ex_st, ex_st, ex_st, (fun v w1 w2 h hx => by obtain ⟨x, y, h1, h2⟩ := h; exact ⟨x, y, h1, h2.ext hx⟩), (fun v w1 w2 h hx => by obtain ⟨x, y, h1, h2⟩ := h; exact ⟨x, y, h1, h2.ext hx⟩), ex_st, ex_st, ex_st, ex_st, ex_st, ex_st, trivial⟩ ?_ ?_
    · simp only [List.take_succ_cons, List.take_zero]
      go_tidy
      refine RhOps.mk (RhOp.moveA (by decide) (.free rfl) 4 (fun _ w _ => Ext.refl w) rfl rfl vb rfl (fun _ _ _ => rfl)) ?_
      refine RhOps.mk (RhOp.moveA (by decide) (.free rfl) 6 (fun _ w _ => Ext.refl w) rfl rfl vc rfl (fun _ _ _ => rfl)) ?_
      refine RhOps.mk (RhOp.at (by decide) (.free rfl) ?_) ?_
      rotate_left
      refine RhOps.mk (RhOp.move (by decide) (.free rfl) 45 2 (fun _ w _ => Ext.refl w) rfl rfl rfl (fun _ _ h => h)) ?_
      refine RhOps.mk (RhOp.moveA (by decide) (.on 3 true rfl (fun _ _ h => h)) 5 (fun _ w _ => Ext.refl w) rfl rfl (.int .i64 (k : Int)) rfl (fun _ _ _ => rfl)) ?_
      refine RhOps.mk (RhOp.moveA (by decide) (.on 3 true rfl (fun _ _ h => h)) 7 (fun _ w _ => Ext.refl w) rfl rfl (.int .i64 (k : Int)) rfl (fun _ _ _ => rfl)) ?_
      refine RhOps.mk (RhOp.at (by decide) (.on 3 true rfl (fun _ _ h => h)) ?_) ?_
      rotate_left
      refine RhOps.mk (RhOp.at (by decide) (.free rfl) ?_) ?_
      rotate_left
      refine RhOps.mk (RhOp.move (by decide) (.free rfl) 50 7 (fun _ w _ => Ext.refl w) rfl rfl rfl (fun _ _ h => h)) ?_
      refine RhOps.mk (RhOp.at (by decide) (.on 8 true rfl (fun _ _ h => h)) ?_) ?_
      rotate_left
      refine RhOps.mk (RhOp.at (by decide) (.on 8 true rfl (fun _ _ h => h)) ?_) ?_
      rotate_left
      refine RhOps.mk (RhOp.at (by decide) (.on 8 true rfl (fun _ _ h => h)) ?_) ?_
      rotate_left
      refine RhOps.mk (RhOp.at (by decide) (.on 8 true rfl (fun _ _ h => h)) ?_) ?_
      rotate_left
      refine RhOps.mk (RhOp.at (by decide) (.on 8 true rfl (fun _ _ h => h)) ?_) ?_
      rotate_left
      refine RhOps.mk (RhOp.at (by decide) (.on 8 true rfl (fun _ _ h => h)) ?_) ?_
      rotate_left
      refine RhOps.mk (RhOp.at (by decide) (.free rfl) ?_) ?_
      rotate_left
      refine RhOps.mk (RhOp.move (by decide) (.free rfl) 58 15 (fun _ w _ => Ext.refl w) rfl rfl rfl (fun _ _ h => h)) ?_
      refine RhOps.mk (RhOp.at (by decide) (.on 16 true rfl (fun _ _ h => h)) ?_) ?_
      rotate_left
      refine RhOps.mk (RhOp.at (by decide) (.free rfl) ?_) ?_
      rotate_left
      refine RhOps.mk (RhOp.move (by decide) (.free rfl) 61 18 (fun _ w _ => Ext.refl w) rfl rfl rfl (fun _ _ h => h)) ?_
      exact RhOps.done
      · intro bb vals ρ w' hC hd hS
        have r43 : ρ (.tmp 43) = vb := (hS.tmp 43).trans (hd.at 0 rfl)
        have r44 : ρ (.tmp 44) = vc := (hS.tmp 44).trans (hd.at 1 rfl)
        have rf := hS.func
        refine (show givesR _ _ _ _ (fun v w'' => Ext w' w'' ∧ v = .bool true) from ?_)
        have h1 := HVB.out.ext hC
        have h2 := HVC.out.ext hC
        have H1' := Lib.hid h1
        have H2' := Lib.hid h2
        clear hC hd hS h1 h2
        go_simp
        refine (same_c _ _ _ _ w' H1'.out H2'.out).mono ?_
        rintro e w'' ⟨rfl, nd, rfl⟩
        exact ⟨by simp, (Ext.refl _).drewN _⟩
      · intro bb vals ρ w' hC hd hS
        have r47 : ρ (.tmp 47) = .int .i64 (k : Int) := (hS.tmp 47).trans (hd.at 4 rfl)
        have r48 : ρ (.tmp 48) = .int .i64 (k : Int) := (hS.tmp 48).trans (hd.at 5 rfl)
        refine (show givesR _ _ _ _ (fun v w'' => Ext w' w'' ∧ v = .bool true) from ?_)
        clear hC hd hS
        go_simp
        exact Ext.refl _
      · intro bb vals ρ w' hC hd hS
        have r46 : ρ (.tmp 46) = .bool true := (hS.tmp 46).trans (hd.at 3 rfl)
        have r49 : ρ (.tmp 49) = .bool true := (hS.tmp 49).trans (hd.at 6 rfl)
        have rc := hS.const
        refine (show givesR _ _ _ _ (fun v w'' => Ext w' w'' ∧ v = .bool true) from ?_)
        clear hC hd hS
        go_simp
        exact Ext.refl _
      · intro bb vals ρ w' hC hd hS
        have r3 : ρ (.tmp 3) = .pointer (some ⟨qb, 0, none⟩) := hS.tmp 3
        refine (show givesR _ _ _ _ (fun v w'' => Ext w' w'' ∧ v = .agg #[.int .u64 (ep : Int), .int .u64 (ct : Int), .bool fi, .bool la, .slice ao2 m cap2]) from ?_)
        have q0 := hC.cell q0
        have q1 := hC.cell q1
        have q2 := hC.cell q2
        have q3 := hC.cell q3
        have q4 := hC.cell q4
        clear hC hd hS
        go_simp
        exact Ext.refl _
      · intro bb vals ρ w' hC hd hS
        have r52 : ρ (.tmp 52) = .agg #[.int .u64 (ep : Int), .int .u64 (ct : Int), .bool fi, .bool la, .slice ao2 m cap2] := (hS.tmp 52).trans (hd.at 9 rfl)
        have rf := hS.func
        refine (show givesR _ _ _ _ (fun v w'' => Ext w' w'' ∧ v = .agg #[.int .u64 (ep : Int), .int .u64 (ct : Int), .bool fi, .bool la, .slice ao2 m cap2]) from ?_)
        clear hC hd hS
        go_simp
        refine (plain_c _ _ _ _ _ _ _ w').mono ?_
        rintro e w'' ⟨rfl, hx⟩
        exact ⟨rfl, hx⟩
      · intro bb vals ρ w' hC hd hS
        have r1 : ρ (.tmp 1) = .pointer (some ⟨pb, 0, none⟩) := hS.tmp 1
        refine (show givesR _ _ _ _ (fun v w'' => Ext w' w'' ∧ v = .agg #[.int .u64 (ep : Int), .int .u64 (ct : Int), .bool fi, .bool la, .slice ao n cap]) from ?_)
        have q0 := hC.cell p0
        have q1 := hC.cell p1
        have q2 := hC.cell p2
        have q3 := hC.cell p3
        have q4 := hC.cell p4
        clear hC hd hS
        go_simp
        exact Ext.refl _
      · intro bb vals ρ w' hC hd hS
        have r54 : ρ (.tmp 54) = .agg #[.int .u64 (ep : Int), .int .u64 (ct : Int), .bool fi, .bool la, .slice ao n cap] := (hS.tmp 54).trans (hd.at 11 rfl)
        have rf := hS.func
        refine (show givesR _ _ _ _ (fun v w'' => Ext w' w'' ∧ (fun v w' => ∃ ao' cap', v = .agg #[.int .u64 (ep : Int), .int .u64 (ct : Int), .bool fi, .bool la, .slice ao' m cap'] ∧ Bs w' (.slice ao' m cap') dl) v w'') from ?_)
        have h1 := HV.out.ext hC
        have H1' := Lib.hid h1
        clear hC hd hS h1
        go_simp
        refine (mine_x ep ct fi la d dl m _ w' HDL.out.1 HDL.out.2 H1'.out).mono ?_
        rintro e w'' ⟨ao', cap', rfl, hx, hb⟩
        exact ⟨_, rfl, hx, ao', cap', rfl, hb⟩
      · intro bb vals ρ w' hC hd hS
        have d12 := hd.at 12 rfl
        have r55 : ρ (.tmp 55) = vals 12 := hS.tmp 55
        have rf := hS.func
        refine (show givesR _ _ _ _ (fun v w'' => Ext w' w'' ∧ (fun v w' => ∃ ao' cap', v = .agg #[.int .u64 (ep : Int), .int .u64 (ct : Int), .bool fi, .bool la, .slice ao' m cap'] ∧ Bs w' (.slice ao' m cap') dl) v w'') from ?_)
        obtain ⟨ao', cap', e12, b12⟩ := d12
        rw [e12] at r55
        have H1' := Lib.hid b12
        clear hC hd hS e12 b12
        go_simp
        refine (plain_c _ _ _ _ _ _ _ w').mono ?_
        rintro e w'' ⟨rfl, hx⟩
        exact ⟨_, rfl, hx, ao', cap', rfl, H1'.out.ext hx⟩
      · intro bb vals ρ w' hC hd hS
        have r53 : ρ (.tmp 53) = .agg #[.int .u64 (ep : Int), .int .u64 (ct : Int), .bool fi, .bool la, .slice ao2 m cap2] := (hS.tmp 53).trans (hd.at 10 rfl)
        have d13 := hd.at 13 rfl
        have r56 : ρ (.tmp 56) = vals 13 := hS.tmp 56
        have rf := hS.func
        refine (show givesR _ _ _ _ (fun v w'' => Ext w' w'' ∧ v = .bool true) from ?_)
        obtain ⟨ao', cap', e13, b13⟩ := d13
        rw [e13] at r56
        have H1' := Lib.hid b13
        have h2 := HQS.out.ext hC
        have H2' := Lib.hid h2
        clear hC hd hS e13 b13 h2
        go_simp
        refine (psame_c _ _ _ _ _ _ dl w' H2'.out H1'.out).mono ?_
        rintro e w'' ⟨rfl, hx⟩
        exact ⟨rfl, hx⟩
      · intro bb vals ρ w' hC hd hS
        have r51 : ρ (.tmp 51) = .bool true := (hS.tmp 51).trans (hd.at 8 rfl)
        have r57 : ρ (.tmp 57) = .bool true := (hS.tmp 57).trans (hd.at 14 rfl)
        have rc := hS.const
        refine (show givesR _ _ _ _ (fun v w'' => Ext w' w'' ∧ v = .bool true) from ?_)
        clear hC hd hS
        go_simp
        exact Ext.refl _
      · intro bb vals ρ w' hC hd hS
        have rf := hS.func
        refine (show givesR _ _ _ _ (fun v w'' => Ext w' w'' ∧ v = .bool true) from ?_)
        clear hC hd hS
        go_simp
        refine (HL.out w').mono ?_
        rintro e w'' ⟨rfl, hx⟩
        exact ⟨rfl, hx⟩
      · intro bb vals ρ w' hC hd hS
        have r59 : ρ (.tmp 59) = .bool true := (hS.tmp 59).trans (hd.at 16 rfl)
        have r60 : ρ (.tmp 60) = .bool true := (hS.tmp 60).trans (hd.at 17 rfl)
        have rc := hS.const
        refine (show givesR _ _ _ _ (fun v w'' => Ext w' w'' ∧ v = .bool true) from ?_)
        clear hC hd hS
        go_simp
        exact Ext.refl _
    intro vals w' hC hV
    have e19 := hV 19 (by decide)
    simp only [vlist, ex, List.getD_cons_zero, List.getD_cons_succ] at e19
    have HC' := Lib.hid hC; clear hC hV
    simp only [List.drop_succ_cons, List.drop_zero]
    go_simp -- the frame
    go_wp2_with fail
    go_ret
    exact ⟨rfl, (HW1.out.trans (HX18.out.trans HC'.out)).below⟩

end Go.Proofs.Ytcedfpckjdobpaa

/- The law's own pieces; Ends. -/
import Derived.Test.YtcedfpckjdobpaaL7
set_option linter.unusedVariables false
set_option linter.unusedSimpArgs false
namespace Go.Proofs.Ytcedfpckjdobpaa
open Go.RowKit

/-- A piece whose data is cut. -/
def Pc.cut (p : Pc) : Pc := { p with d := p.d.take 120 }

set_option maxRecDepth 100000 in
set_option maxHeartbeats 2000000 in
theorem mine_c (p : Pc) (v : Value) (w : World) (hv : Bs w v p.d) :
    Calls Try.prog 14 #[p.agg v] w fun r w' => ∃ ao cap, r = .returned (p.cut.agg (.slice ao p.cut.d.length cap)) ∧ Ext w w' ∧ w'.ownsRow w.heap.size 5 1 (.slice ao p.cut.d.length cap) p.cut.d.length (p.cut.d.map bv) := by
  obtain ⟨ep, ct, fi, la, d⟩ := p
  have hv0 := hv
  obtain ⟨ao, cap, rfl, r1, r2, r3, r4⟩ := hv.open
  clear r4 hv
  show Calls _ _ #[.agg #[.int .u64 (ep : Int), .int .u64 (ct : Int), .bool fi, .bool la, .slice ao d.length cap]] w _
  obtain ⟨n, hn⟩ : ∃ n, n = d.length := ⟨_, rfl⟩
  obtain ⟨dl, hdl⟩ : ∃ x, x = d.take 120 := ⟨_, rfl⟩
  obtain ⟨m, hm⟩ : ∃ x, x = dl.length := ⟨_, rfl⟩
  have hm120 : m ≤ 120 := by rw [hm, hdl, List.length_take]; omega
  have hcut : (Pc.cut ⟨ep, ct, fi, la, d⟩) = ⟨ep, ct, fi, la, dl⟩ := by rw [hdl]; rfl
  rw [hcut]
  show Calls _ _ _ w fun r w' => ∃ ao cap, r = .returned (.agg #[.int .u64 (ep : Int), .int .u64 (ct : Int), .bool fi, .bool la, .slice ao dl.length cap]) ∧ Ext w w' ∧ w'.ownsRow w.heap.size 5 1 (.slice ao dl.length cap) dl.length (dl.map bv)
  have hb : Bs w (.slice ao n cap) d := by rw [hn]; exact hv0
  rw [← hn, ← hm]
  rw [← hn] at r1
  have HDL := Lib.hid (And.intro hdl hm.symm)
  have HM := Lib.hid hm120
  clear hn hdl hm hm120 hcut hv0 r3
  go_enter Try.func14, Try.ntmps14
  go_wp2_with fail
  obtain ⟨pb, hpb⟩ : ∃ x, x = w.heap.size := ⟨_, rfl⟩
  obtain ⟨w1, hw1⟩ : ∃ x, x = (w.alloc (.cells #[.int .u64 (ep : Int), .int .u64 (ct : Int), .bool fi, .bool la, .slice ao n cap] 31)).alloc (.cells #[.int .u64 0, .int .u64 0, .bool false, .bool false, .slice none 0 0] 34) := ⟨_, rfl⟩
  have hx1 : Ext w w1 := by rw [hw1]; exact ((Ext.refl w).alloc _).alloc _
  have hs1 : w1.heap.size = pb + 2 := by rw [hw1, hpb]; simp
  have hb0 : w1.heap[pb]? = some (.cells #[.int .u64 (ep : Int), .int .u64 (ct : Int), .bool fi, .bool la, .slice ao n cap] 31 (0, 0)) := by rw [hw1, hpb]; exact blk_old (heap_alloc_new w _)
  have hb1 : w1.heap[pb + 1]? = some (.cells #[.int .u64 0, .int .u64 0, .bool false, .bool false, .slice none 0 0] 34 (0, 0)) := by rw [hw1, hpb]; exact blk_new1 _ _ (by simp)
  rw [← hw1, ← hpb]
  have c0 : w1.cell? ⟨pb, 0, none⟩ = some (.int .u64 (ep : Int)) := by rw [cell_of_blk hb0]; rfl
  have c1 : w1.cell? ⟨pb, 1, none⟩ = some (.int .u64 (ct : Int)) := by rw [cell_of_blk hb0]; rfl
  have c2 : w1.cell? ⟨pb, 2, none⟩ = some (.bool fi) := by rw [cell_of_blk hb0]; rfl
  have c3 : w1.cell? ⟨pb, 3, none⟩ = some (.bool la) := by rw [cell_of_blk hb0]; rfl
  have c4 : w1.cell? ⟨pb, 4, none⟩ = some (.slice ao n cap) := by rw [cell_of_blk hb0]; rfl
  have HSZ := Lib.hid hs1
  have HX1 := Lib.hid hx1
  have HV := Lib.hid (hb.ext hx1)
  have HPB := Lib.hid hpb
  have HB1 := Lib.hid hb1
  obtain ⟨rb, hrb⟩ : ∃ x, x = pb + 1 := ⟨_, rfl⟩
  rw [← hrb] at HB1 ⊢
  have HRB := Lib.hid hrb
  clear hw1 hx1 hs1 hb0 hb1 hb hpb hrb
  refine wp_region_rx 13 _
    [ex (.pointer (some ⟨pb, 0, none⟩)),
      ex (.int .u64 (ep : Int)),
      ex (.pointer (some ⟨pb, 1, none⟩)),
      ex (.int .u64 (ct : Int)),
      ex (.pointer (some ⟨pb, 2, none⟩)),
      ex (.bool fi),
      ex (.pointer (some ⟨pb, 3, none⟩)),
      ex (.bool la),
      ex (.pointer (some ⟨pb, 4, none⟩)),
      ex (.slice ao n cap),
      (fun v w' => ∃ ao' cap', v = .slice ao' m cap' ∧ Bs w' (.slice ao' m cap') dl),
      (fun v w' => ∃ ao' cap', v = .slice ao' m cap' ∧ w'.ownsRow pb 5 1 (.slice ao' m cap') m (dl.map bv)),
      (fun v w' => ∃ ao' cap', v = .agg #[.int .u64 (ep : Int), .int .u64 (ct : Int), .bool fi, .bool la, .slice ao' m cap'] ∧ w'.ownsRow pb 5 1 (.slice ao' m cap') m (dl.map bv))]
    (by kernel_rfl) (by kernel_rfl) (by kernel_rfl) rfl ⟨ex_st, ex_st, ex_st, ex_st, ex_st, ex_st, ex_st, ex_st, ex_st, ex_st, (fun v w1 w2 h hx => by obtain ⟨x, y, h1, h2⟩ := h; exact ⟨x, y, h1, h2.ext hx⟩), (fun v w1 w2 h hx => by obtain ⟨x, y, h1, h2⟩ := h; exact ⟨x, y, h1, owns_ext h2 hx⟩), (fun v w1 w2 h hx => by obtain ⟨x, y, h1, h2⟩ := h; exact ⟨x, y, h1, owns_ext h2 hx⟩), trivial⟩ ?_ ?_
  · simp only [List.take_succ_cons, List.take_zero]
    go_tidy
    refine RhOps.mk (RhOp.at (by decide) (.free rfl) ?_) ?_
    rotate_left
    refine RhOps.mk (RhOp.at (by decide) (.free rfl) ?_) ?_
    rotate_left
    refine RhOps.mk (RhOp.at (by decide) (.free rfl) ?_) ?_
    rotate_left
    refine RhOps.mk (RhOp.at (by decide) (.free rfl) ?_) ?_
    rotate_left
    refine RhOps.mk (RhOp.at (by decide) (.free rfl) ?_) ?_
    rotate_left
    refine RhOps.mk (RhOp.at (by decide) (.free rfl) ?_) ?_
    rotate_left
    refine RhOps.mk (RhOp.at (by decide) (.free rfl) ?_) ?_
    rotate_left
    refine RhOps.mk (RhOp.at (by decide) (.free rfl) ?_) ?_
    rotate_left
    refine RhOps.mk (RhOp.at (by decide) (.free rfl) ?_) ?_
    rotate_left
    refine RhOps.mk (RhOp.at (by decide) (.free rfl) ?_) ?_
    rotate_left
    refine RhOps.mk (RhOp.at (by decide) (.free rfl) ?_) ?_
    rotate_left
    refine RhOps.mk (RhOp.at (by decide) (.free rfl) ?_) ?_
    rotate_left
    refine RhOps.mk (RhOp.at (by decide) (.free rfl) ?_) ?_
    rotate_left
    exact RhOps.done
    · intro bb vals ρ w' hC hd hS
      have r1 : ρ (.tmp 1) = .pointer (some ⟨pb, 0, none⟩) := hS.tmp 1
      refine (show givesR _ _ _ _ (fun v w'' => Ext w' w'' ∧ v = .pointer (some ⟨pb, 0, none⟩)) from ?_)
      clear hC hd hS
      go_simp
      exact Ext.refl _
    · intro bb vals ρ w' hC hd hS
      have r3 : ρ (.tmp 3) = .pointer (some ⟨pb, 0, none⟩) := (hS.tmp 3).trans (hd.at 0 rfl)
      have qc := hC.cell c0
      refine (show givesR _ _ _ _ (fun v w'' => Ext w' w'' ∧ v = .int .u64 (ep : Int)) from ?_)
      clear hC hd hS
      go_simp
      exact Ext.refl _
    · intro bb vals ρ w' hC hd hS
      have r1 : ρ (.tmp 1) = .pointer (some ⟨pb, 0, none⟩) := hS.tmp 1
      refine (show givesR _ _ _ _ (fun v w'' => Ext w' w'' ∧ v = .pointer (some ⟨pb, 1, none⟩)) from ?_)
      clear hC hd hS
      go_simp
      exact Ext.refl _
    · intro bb vals ρ w' hC hd hS
      have r5 : ρ (.tmp 5) = .pointer (some ⟨pb, 1, none⟩) := (hS.tmp 5).trans (hd.at 2 rfl)
      have qc := hC.cell c1
      refine (show givesR _ _ _ _ (fun v w'' => Ext w' w'' ∧ v = .int .u64 (ct : Int)) from ?_)
      clear hC hd hS
      go_simp
      exact Ext.refl _
    · intro bb vals ρ w' hC hd hS
      have r1 : ρ (.tmp 1) = .pointer (some ⟨pb, 0, none⟩) := hS.tmp 1
      refine (show givesR _ _ _ _ (fun v w'' => Ext w' w'' ∧ v = .pointer (some ⟨pb, 2, none⟩)) from ?_)
      clear hC hd hS
      go_simp
      exact Ext.refl _
    · intro bb vals ρ w' hC hd hS
      have r7 : ρ (.tmp 7) = .pointer (some ⟨pb, 2, none⟩) := (hS.tmp 7).trans (hd.at 4 rfl)
      have qc := hC.cell c2
      refine (show givesR _ _ _ _ (fun v w'' => Ext w' w'' ∧ v = .bool fi) from ?_)
      clear hC hd hS
      go_simp
      exact Ext.refl _
    · intro bb vals ρ w' hC hd hS
      have r1 : ρ (.tmp 1) = .pointer (some ⟨pb, 0, none⟩) := hS.tmp 1
      refine (show givesR _ _ _ _ (fun v w'' => Ext w' w'' ∧ v = .pointer (some ⟨pb, 3, none⟩)) from ?_)
      clear hC hd hS
      go_simp
      exact Ext.refl _
    · intro bb vals ρ w' hC hd hS
      have r9 : ρ (.tmp 9) = .pointer (some ⟨pb, 3, none⟩) := (hS.tmp 9).trans (hd.at 6 rfl)
      have qc := hC.cell c3
      refine (show givesR _ _ _ _ (fun v w'' => Ext w' w'' ∧ v = .bool la) from ?_)
      clear hC hd hS
      go_simp
      exact Ext.refl _
    · intro bb vals ρ w' hC hd hS
      have r1 : ρ (.tmp 1) = .pointer (some ⟨pb, 0, none⟩) := hS.tmp 1
      refine (show givesR _ _ _ _ (fun v w'' => Ext w' w'' ∧ v = .pointer (some ⟨pb, 4, none⟩)) from ?_)
      clear hC hd hS
      go_simp
      exact Ext.refl _
    · intro bb vals ρ w' hC hd hS
      have r11 : ρ (.tmp 11) = .pointer (some ⟨pb, 4, none⟩) := (hS.tmp 11).trans (hd.at 8 rfl)
      have qc := hC.cell c4
      refine (show givesR _ _ _ _ (fun v w'' => Ext w' w'' ∧ v = .slice ao n cap) from ?_)
      clear hC hd hS
      go_simp
      exact Ext.refl _
    · intro bb vals ρ w' hC hd hS
      have r12 : ρ (.tmp 12) = .slice ao n cap := (hS.tmp 12).trans (hd.at 9 rfl)
      have rc := hS.const
      have rf := hS.func
      refine (show givesR _ _ _ _ (fun v w'' => Ext w' w'' ∧ (fun v w' => ∃ ao' cap', v = .slice ao' m cap' ∧ Bs w' (.slice ao' m cap') dl) v w'') from ?_)
      have hb := HV.out.ext hC
      have HBB := Lib.hid hb
      clear hC hd hS hb
      go_simp
      refine (cut_c _ d 120 (by decide) (by decide) w' HBB.out).mono ?_
      rintro e w'' ⟨ao', cap', rfl, rfl, hb, _⟩
      rw [show (120 : Int).toNat = 120 from rfl, ← HDL.out.1, HDL.out.2] at hb ⊢
      exact ⟨_, rfl, Ext.refl _, ao', cap', rfl, hb⟩
    · intro bb vals ρ w' hC hd hS
      have d10 := hd.at 10 rfl
      have r13 : ρ (.tmp 13) = vals 10 := hS.tmp 13
      have rf := hS.func
      refine (show givesR _ _ _ _ (fun v w'' => Ext w' w'' ∧ (fun v w' => ∃ ao' cap', v = .slice ao' m cap' ∧ w'.ownsRow pb 5 1 (.slice ao' m cap') m (dl.map bv)) v w'') from ?_)
      obtain ⟨ao', cap', e10, b10⟩ := d10
      rw [e10] at r13
      have HBB := Lib.hid b10
      have hz := hC.size
      have HZ := Lib.hid hz
      clear hC hd hS e10 b10 hz
      go_simp
      refine (copy_c _ dl w' HBB.out (by have := HDL.out.2; have := HM.out; omega)).mono ?_
      rintro e w'' ⟨ao2, cap2, rfl, hx, ho⟩
      rw [HDL.out.2] at ho ⊢
      exact ⟨_, rfl, hx, ao2, cap2, rfl, owns_base ho (by have := HZ.out; have := HSZ.out; omega)⟩
    · intro bb vals ρ w' hC hd hS
      have r4 : ρ (.tmp 4) = .int .u64 (ep : Int) := (hS.tmp 4).trans (hd.at 1 rfl)
      have r6 : ρ (.tmp 6) = .int .u64 (ct : Int) := (hS.tmp 6).trans (hd.at 3 rfl)
      have r8 : ρ (.tmp 8) = .bool fi := (hS.tmp 8).trans (hd.at 5 rfl)
      have r10 : ρ (.tmp 10) = .bool la := (hS.tmp 10).trans (hd.at 7 rfl)
      have d11 := hd.at 11 rfl
      have r14 : ρ (.tmp 14) = vals 11 := hS.tmp 14
      refine (show givesR _ _ _ _ (fun v w'' => Ext w' w'' ∧ (fun v w' => ∃ ao' cap', v = .agg #[.int .u64 (ep : Int), .int .u64 (ct : Int), .bool fi, .bool la, .slice ao' m cap'] ∧ w'.ownsRow pb 5 1 (.slice ao' m cap') m (dl.map bv)) v w'') from ?_)
      obtain ⟨ao', cap', e11, o11⟩ := d11
      rw [e11] at r14
      have HO' := Lib.hid o11
      clear hC hd hS e11 o11
      go_simp
      exact ⟨Ext.refl _, ao', cap', ⟨rfl, rfl⟩, HO'.out⟩
  intro vals w' hC hV
  have e12 := hV 12 (by decide)
  simp only [vlist, ex, List.getD_cons_zero, List.getD_cons_succ] at e12
  have HC' := Lib.hid hC; clear hC hV
  simp only [List.drop_succ_cons, List.drop_zero]
  obtain ⟨ao', cap', e12, o12⟩ := e12
  rename World => w2
  have hb2 := (HC'.out.block rb (Array.getElem?_eq_some_iff.1 HB1.out).1 id).trans HB1.out
  have r0 : w2.cell? ⟨rb, 0, none⟩ = some (.int .u64 0) := by rw [cell_of_blk hb2]; rfl
  have r1' : w2.cell? ⟨rb, 1, none⟩ = some (.int .u64 0) := by rw [cell_of_blk hb2]; rfl
  have r2' : w2.cell? ⟨rb, 2, none⟩ = some (.bool false) := by rw [cell_of_blk hb2]; rfl
  have r3 : w2.cell? ⟨rb, 3, none⟩ = some (.bool false) := by rw [cell_of_blk hb2]; rfl
  have r4 : w2.cell? ⟨rb, 4, none⟩ = some (.slice none 0 0) := by rw [cell_of_blk hb2]; rfl
  have z0 := frozen_of_blk hb2 0
  have z1 := frozen_of_blk hb2 1
  have z2 := frozen_of_blk hb2 2
  have z3 := frozen_of_blk hb2 3
  have z4 := frozen_of_blk hb2 4
  have HO2 := Lib.hid o12
  have HB2 := Lib.hid hb2
  clear o12 hb2 c0 c1 c2 c3 c4
  go_wp2_with fail
  have HX2 : Ext w w2 := HX1.out.trans HC'.out
  have hle : w.heap.size ≤ rb := by rw [HRB.out, HPB.out]; omega
  refine bodyPost_ret (v := .agg #[.int .u64 (ep : Int), .int .u64 (ct : Int), .bool fi, .bool la, .slice ao' m cap']) (results_cell Try.results14 rfl (a := ⟨rb, 0, none⟩) ?_) rfl ⟨ao', cap', rfl, ?_, ?_⟩
  · exact load_blk (setCell_blk (setCell_blk (setCell_blk (setCell_blk (setCell_blk HB2.out))))) Try.underlying34 rfl (by kernel_rfl)
  · exact Ext.setCell (Ext.setCell (Ext.setCell (Ext.setCell (Ext.setCell HX2 hle _) hle _) hle _) hle _) hle _
  · have hne := owns_ne_block HO2.out HB2.out (by decide)
    have h := owns_setCell (owns_setCell (owns_setCell (owns_setCell (owns_setCell HO2.out hne (u := .int .u64 ep) (p := ⟨rb, 0, none⟩)) hne (u := .int .u64 ct) (p := ⟨rb, 1, none⟩)) hne (u := .bool fi) (p := ⟨rb, 2, none⟩)) hne (u := .bool la) (p := ⟨rb, 3, none⟩)) hne (u := .slice ao' m cap') (p := ⟨rb, 4, none⟩)
    exact owns_base h (by rw [HPB.out]; exact Nat.le_refl _)

set_option maxRecDepth 100000 in
set_option maxHeartbeats 2000000 in
theorem plain_c (ep ct : Int) (fi la : Bool) (ao : Option Addr) (n cap : Nat) (w : World) :
    Calls Try.prog 20 #[.agg #[.int .u64 ep, .int .u64 ct, .bool fi, .bool la, .slice ao n cap]] w fun r w' => r = .returned (.agg #[.int .u64 ep, .int .u64 ct, .bool fi, .bool la, .slice ao n cap]) ∧ Ext w w' := by
  go_enter Try.func20, Try.ntmps20
  go_wp2_with fail
  refine bodyPost_ret (v := .agg #[.int .u64 ep, .int .u64 ct, .bool fi, .bool la, .slice ao n cap]) (results_cell Try.results20 rfl (a := ⟨w.heap.size + 1, 0, none⟩) ?_) rfl ⟨rfl, ((Ext.refl w).alloc _).alloc _⟩
  exact load_new _ _ _ _ (World.size_alloc _ _).symm Try.underlying31 rfl (by kernel_rfl)

set_option maxRecDepth 100000 in
set_option maxHeartbeats 2000000 in
theorem psame_c (ep ct : Int) (fi la : Bool) (va vb : Value) (l : List UInt8) (w : World) (ha : Bs w va l) (hb : Bs w vb l) :
    Calls Try.prog 22 #[.agg #[.int .u64 ep, .int .u64 ct, .bool fi, .bool la, va], .agg #[.int .u64 ep, .int .u64 ct, .bool fi, .bool la, vb]] w fun r w' => r = .returned (.bool true) ∧ Ext w w' := by
  have ha0 := ha
  have hb0 := hb
  obtain ⟨ao, ca, rfl, _⟩ := ha.open
  obtain ⟨bo, cb, rfl, _⟩ := hb.open
  have HA := Lib.hid ha0
  have HB := Lib.hid hb0
  clear ha hb ha0 hb0
  go_enter Try.func22, Try.ntmps22
  go_wp2_with fail
  refine (same_c _ _ l l _ (HA.out.ext (((Ext.refl w).alloc _).alloc _)) (HB.out.ext (((Ext.refl w).alloc _).alloc _))).mono ?_
  rintro e w1 ⟨rfl, nd, rfl⟩
  rw [show decide (l = l) = true by simp]
  go_wp2_with fail
  go_ret
  exact ⟨rfl, (((Ext.refl w).alloc _).alloc _).drewN nd⟩

set_option maxRecDepth 100000 in
set_option maxHeartbeats 2000000 in
theorem ends_ok (v : Value) (l : List UInt8) (w : World) (hv : Bs w v l) (hl : l.length = 128) :
    Calls Try.prog 21 #[v] w fun r w' => r = .returned (.tuple #[.int .u64 ((valB (l.take 8) / 1099511627776 : Nat) : Int), .int .u64 ((valB (l.drop 120) / 1099511627776 : Nat) : Int)]) ∧ Ext w w' := by
  have hv0 := hv
  obtain ⟨ao, cap, rfl, r1, r2, r3, r4⟩ := hv.open
  rw [hl] at r1 hv0 ⊢
  obtain ⟨a, rfl⟩ : ∃ a, ao = some a := by cases ao with | none => have := r3 rfl; omega | some a => exact ⟨a, rfl⟩
  have h0 := Bs.take hv0 (k := 8) (by decide)
  have h1 := Bs.sub hv0 (k := 120) (m := 128) (by decide) (by decide) (ao' := some ⟨a.block, a.off + 120, none⟩) (cap' := cap - 120) (by omega) (by omega) (fun h => by cases h) (fun a' ha _ => by cases ha; exact ⟨a, rfl, rfl⟩)
  rw [List.take_of_length_le (by rw [List.length_drop, hl]; decide)] at h1
  obtain ⟨s, hs⟩ : ∃ x, x = valB (l.take 8) := ⟨_, rfl⟩
  obtain ⟨t, ht⟩ : ∃ x, x = valB (l.drop 120) := ⟨_, rfl⟩
  obtain ⟨q, hq⟩ : ∃ x, x = s / 1099511627776 := ⟨_, rfl⟩
  obtain ⟨r, hr⟩ : ∃ x, x = t / 1099511627776 := ⟨_, rfl⟩
  rw [← hs, ← ht, ← hq, ← hr]
  have HB0 := Lib.hid h0
  have HB1 := Lib.hid h1
  have HST : Hid (valB (l.take 8) = s ∧ valB (l.drop 120) = t ∧ s / 1099511627776 = q ∧ t / 1099511627776 = r) := Lib.hid ⟨hs.symm, ht.symm, hq.symm, hr.symm⟩
  have HLE : Hid ((l.take 8).length ≤ 8 ∧ (l.drop 120).length ≤ 8) := Lib.hid ⟨by rw [List.length_take]; omega, by rw [List.length_drop, hl]; decide⟩
  have hc : (cap = 120) = False := eq_false (by omega)
  have hc8 : (8 : Int) ≤ (cap : Int) := by omega
  clear hv hv0 r3 r4 hl h0 h1 hs ht hq hr
  go_enter Try.func21, Try.ntmps21
  go_wp2_with fail
  refine wp_region_rx 8 _
    [ex (.slice (some a) 128 cap),
      ex (.slice (some a) 8 cap),
      ex (.int .u64 (s : Int)),
      ex (.int .u64 (q : Int)),
      ex (.slice (some a) 128 cap),
      ex (.slice (some ⟨a.block, a.off + 120, none⟩) 8 (cap - 120)),
      ex (.int .u64 (t : Int)),
      ex (.int .u64 (r : Int))]
    (by kernel_rfl) (by kernel_rfl) (by kernel_rfl) rfl ⟨ex_st, ex_st, ex_st, ex_st, ex_st, ex_st, ex_st, ex_st, trivial⟩ ?_ ?_
  · simp only [List.take_succ_cons, List.take_zero]
    go_tidy
    refine RhOps.mk (RhOp.moveA (by decide) (.free rfl) 0 (fun _ w _ => Ext.refl w) rfl rfl (.slice (some a) 128 cap) rfl (fun _ _ _ => rfl)) ?_
    refine RhOps.mk (RhOp.at (by decide) (.free rfl) ?_) ?_
    rotate_left
    refine RhOps.mk (RhOp.at (by decide) (.free rfl) ?_) ?_
    rotate_left
    refine RhOps.mk (RhOp.at (by decide) (.free rfl) ?_) ?_
    rotate_left
    refine RhOps.mk (RhOp.moveA (by decide) (.free rfl) 0 (fun _ w _ => Ext.refl w) rfl rfl (.slice (some a) 128 cap) rfl (fun _ _ _ => rfl)) ?_
    refine RhOps.mk (RhOp.at (by decide) (.free rfl) ?_) ?_
    rotate_left
    refine RhOps.mk (RhOp.at (by decide) (.free rfl) ?_) ?_
    rotate_left
    refine RhOps.mk (RhOp.at (by decide) (.free rfl) ?_) ?_
    rotate_left
    exact RhOps.done
    · intro bb vals ρ w' hC hd hS
      have r7 : ρ (.tmp 7) = .slice (some a) 128 cap := (hS.tmp 7).trans (hd.at 0 rfl)
      have rc := hS.const
      refine (show givesR _ _ _ _ (fun v w'' => Ext w' w'' ∧ v = .slice (some a) 8 cap) from ?_)
      clear hC hd hS
      go_simp
      exact Ext.refl _
    · intro bb vals ρ w' hC hd hS
      have r8 : ρ (.tmp 8) = .slice (some a) 8 cap := (hS.tmp 8).trans (hd.at 1 rfl)
      have rf := hS.func
      refine (show givesR _ _ _ _ (fun v w'' => Ext w' w'' ∧ v = .int .u64 (s : Int)) from ?_)
      have hb := HB0.out.ext hC
      have HBB := Lib.hid hb
      clear hC hd hS hb
      go_simp
      refine (read_c _ _ w' HBB.out HLE.out.1).mono ?_
      rintro e w'' ⟨rfl, rfl⟩
      exact ⟨by rw [HST.out.1], Ext.refl _⟩
    · intro bb vals ρ w' hC hd hS
      have r9 : ρ (.tmp 9) = .int .u64 (s : Int) := (hS.tmp 9).trans (hd.at 2 rfl)
      have rf := hS.func
      refine (show givesR _ _ _ _ (fun v w'' => Ext w' w'' ∧ v = .int .u64 (q : Int)) from ?_)
      clear hC hd hS
      go_simp
      refine (epoch_c s w').mono ?_
      rintro e w'' ⟨rfl, rfl⟩
      exact ⟨by rw [HST.out.2.2.1], Ext.refl _⟩
    · intro bb vals ρ w' hC hd hS
      have r11 : ρ (.tmp 11) = .slice (some a) 128 cap := (hS.tmp 11).trans (hd.at 4 rfl)
      have rc := hS.const
      refine (show givesR _ _ _ _ (fun v w'' => Ext w' w'' ∧ v = .slice (some ⟨a.block, a.off + 120, none⟩) 8 (cap - 120)) from ?_)
      clear hC hd hS
      go_simp
      exact Ext.refl _
    · intro bb vals ρ w' hC hd hS
      have r12 : ρ (.tmp 12) = .slice (some ⟨a.block, a.off + 120, none⟩) 8 (cap - 120) := (hS.tmp 12).trans (hd.at 5 rfl)
      have rf := hS.func
      refine (show givesR _ _ _ _ (fun v w'' => Ext w' w'' ∧ v = .int .u64 (t : Int)) from ?_)
      have hb := HB1.out.ext hC
      have HBB := Lib.hid hb
      clear hC hd hS hb
      go_simp
      refine (read_c _ _ w' HBB.out HLE.out.2).mono ?_
      rintro e w'' ⟨rfl, rfl⟩
      exact ⟨by rw [HST.out.2.1], Ext.refl _⟩
    · intro bb vals ρ w' hC hd hS
      have r13 : ρ (.tmp 13) = .int .u64 (t : Int) := (hS.tmp 13).trans (hd.at 6 rfl)
      have rf := hS.func
      refine (show givesR _ _ _ _ (fun v w'' => Ext w' w'' ∧ v = .int .u64 (r : Int)) from ?_)
      clear hC hd hS
      go_simp
      refine (epoch_c t w').mono ?_
      rintro e w'' ⟨rfl, rfl⟩
      exact ⟨by rw [HST.out.2.2.2], Ext.refl _⟩
  intro vals w' hC hV
  have e3 := hV 3 (by decide)
  have e7 := hV 7 (by decide)
  simp only [vlist, ex, List.getD_cons_zero, List.getD_cons_succ] at e3 e7
  have HC' := Lib.hid hC; clear hC hV
  simp only [List.drop_succ_cons, List.drop_zero]
  go_wp2_with fail
  refine bodyPost_ret (v := .tuple #[.int .u64 (q : Int), .int .u64 (r : Int)]) (by simp [results, Try.results21, go_sem]) rfl ⟨rfl, HC'.out⟩

set_option maxRecDepth 100000 in
set_option maxHeartbeats 2000000 in
theorem ends_bad (v : Value) (l : List UInt8) (w : World) (hv : Bs w v l) (hl : l.length ≠ 128) :
    Calls Try.prog 21 #[v] w fun r w' => r = .returned (.tuple #[.int .u64 0, .int .u64 0]) ∧ Ext w w' := by
  obtain ⟨ao, cap, rfl, r1, r2, r3, r4⟩ := hv.open
  obtain ⟨n, hn⟩ : ∃ n, n = l.length := ⟨_, rfl⟩
  rw [← hn] at r1 hl ⊢
  have h1 : ((n : Int) != 128) = true := by rw [bne_iff_ne]; omega
  clear hn hl r3 r4 hv
  go_enter Try.func21, Try.ntmps21
  go_wp2_with fail
  refine bodyPost_ret (v := .tuple #[.int .u64 0, .int .u64 0]) (by simp [results, Try.results21, go_sem]) rfl ⟨rfl, Ext.refl w⟩

end Go.Proofs.Ytcedfpckjdobpaa

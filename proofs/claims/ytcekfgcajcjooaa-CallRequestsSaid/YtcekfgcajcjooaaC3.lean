/- The request of a listing; lives. -/
import Derived.Test.YtcekfgcajcjooaaC2

set_option linter.unusedVariables false
set_option linter.unusedSimpArgs false
namespace Go.Proofs.Ytcekfgcajcjooaa
open Go.RowKit

def MY : Value := .agg #[.int .i64 0, .int .i64 0, .int .u64 0, .int .u64 0, .int .u64 0, .int .i64 7, .int .i64 0, .int .i64 0, .int .i64 0, .int .i64 0, .int .i64 0, .string ⟨#[]⟩, .string ⟨#[]⟩, .int .i64 0, .int .i64 0, .string ⟨#[]⟩, .int .u64 0, .slice none 0 0]
set_option maxRecDepth 100000 in
set_option maxHeartbeats 8000000 in
theorem request_y (w : World) : Calls Try.prog 29 #[CY.agg] w fun r w' => r = .returned MY ∧ Ext w w' := by
  have hp := fun w => plain_c CY w (by decide)
  rw [show CY.plain = CY from rfl] at hp
  unfold CY at hp ⊢
  unfold MY
  rw [CC.agg_mk] at hp ⊢
  have HP := Lib.hid hp
  clear hp
  go_enter Try.func29, Try.ntmps29
  go_wp2_with fail
  refine (HP.out _).mono ?_
  rintro r w1 ⟨rfl, hx1⟩
  have hb1 : w1.heap[w.heap.size]? = some (.cells #[.int .i64 6, .int .i64 0, .int .i64 0, .int .i64 0, .int .i64 0, .string ⟨#[]⟩, .string ⟨#[]⟩, .int .i64 0, .string ⟨#[]⟩] 25 (0, 0)) := (hx1.block _ (by simp; omega) id).trans (blk_old (heap_alloc_new w _))
  have hr1 : w1.heap[w.heap.size + 1]? = some (.cells #[.int .i64 0, .int .i64 0, .int .u64 0, .int .u64 0, .int .u64 0, .int .i64 0, .int .i64 0, .int .i64 0, .int .i64 0, .int .i64 0, .int .i64 0, .string ⟨#[]⟩, .string ⟨#[]⟩, .int .i64 0, .int .i64 0, .string ⟨#[]⟩, .int .u64 0, .slice none 0 0] 40 (0, 0)) := (hx1.block _ (by simp) id).trans (blk_new1 _ _ (by simp))
  obtain ⟨pb, hpb⟩ : ∃ x, x = w.heap.size := ⟨_, rfl⟩
  rw [← hpb] at hb1 hr1 ⊢
  have hx0 : Ext w w1 := (((Ext.refl w).alloc _).alloc _).trans hx1
  have c0 : w1.cell? ⟨pb, 0, none⟩ = some (.int .i64 6) := by rw [cell_of_blk hb1]; rfl
  have z0 := frozen_of_blk hb1 0
  have c1 : w1.cell? ⟨pb, 1, none⟩ = some (.int .i64 0) := by rw [cell_of_blk hb1]; rfl
  have z1 := frozen_of_blk hb1 1
  have c2 : w1.cell? ⟨pb, 2, none⟩ = some (.int .i64 0) := by rw [cell_of_blk hb1]; rfl
  have z2 := frozen_of_blk hb1 2
  have c3 : w1.cell? ⟨pb, 3, none⟩ = some (.int .i64 0) := by rw [cell_of_blk hb1]; rfl
  have z3 := frozen_of_blk hb1 3
  have c4 : w1.cell? ⟨pb, 4, none⟩ = some (.int .i64 0) := by rw [cell_of_blk hb1]; rfl
  have z4 := frozen_of_blk hb1 4
  have c5 : w1.cell? ⟨pb, 5, none⟩ = some (.string ⟨#[]⟩) := by rw [cell_of_blk hb1]; rfl
  have z5 := frozen_of_blk hb1 5
  have c6 : w1.cell? ⟨pb, 6, none⟩ = some (.string ⟨#[]⟩) := by rw [cell_of_blk hb1]; rfl
  have z6 := frozen_of_blk hb1 6
  have c7 : w1.cell? ⟨pb, 7, none⟩ = some (.int .i64 0) := by rw [cell_of_blk hb1]; rfl
  have z7 := frozen_of_blk hb1 7
  have c8 : w1.cell? ⟨pb, 8, none⟩ = some (.string ⟨#[]⟩) := by rw [cell_of_blk hb1]; rfl
  have z8 := frozen_of_blk hb1 8
  have hle : w.heap.size ≤ pb := by rw [hpb]; exact Nat.le_refl _
  obtain ⟨w2, hw2⟩ : ∃ x, x = (((((((((w1.setCell ⟨pb, 0, none⟩ (.int .i64 6)).setCell ⟨pb, 1, none⟩ (.int .i64 0)).setCell ⟨pb, 2, none⟩ (.int .i64 0)).setCell ⟨pb, 3, none⟩ (.int .i64 0)).setCell ⟨pb, 4, none⟩ (.int .i64 0)).setCell ⟨pb, 5, none⟩ (.string ⟨#[]⟩)).setCell ⟨pb, 6, none⟩ (.string ⟨#[]⟩)).setCell ⟨pb, 7, none⟩ (.int .i64 0)).setCell ⟨pb, 8, none⟩ (.string ⟨#[]⟩)) := ⟨_, rfl⟩
  have hb2 : w2.heap[pb]? = some (.cells #[.int .i64 6, .int .i64 0, .int .i64 0, .int .i64 0, .int .i64 0, .string ⟨#[]⟩, .string ⟨#[]⟩, .int .i64 0, .string ⟨#[]⟩] 25 (0, 0)) := by rw [hw2]; exact (setCell_blk (setCell_blk (setCell_blk (setCell_blk (setCell_blk (setCell_blk (setCell_blk (setCell_blk (setCell_blk hb1)))))))))
  have hr2 : w2.heap[pb + 1]? = some (.cells #[.int .i64 0, .int .i64 0, .int .u64 0, .int .u64 0, .int .u64 0, .int .i64 0, .int .i64 0, .int .i64 0, .int .i64 0, .int .i64 0, .int .i64 0, .string ⟨#[]⟩, .string ⟨#[]⟩, .int .i64 0, .int .i64 0, .string ⟨#[]⟩, .int .u64 0, .slice none 0 0] 40 (0, 0)) := by rw [hw2]; exact (setCell_other (setCell_other (setCell_other (setCell_other (setCell_other (setCell_other (setCell_other (setCell_other (setCell_other hr1 (by simp)) (by simp)) (by simp)) (by simp)) (by simp)) (by simp)) (by simp)) (by simp)) (by simp))
  have hx2 : Ext w w2 := by rw [hw2]; exact (Ext.setCell (Ext.setCell (Ext.setCell (Ext.setCell (Ext.setCell (Ext.setCell (Ext.setCell (Ext.setCell (Ext.setCell hx0 hle _) hle _) hle _) hle _) hle _) hle _) hle _) hle _) hle _)
  have HB2 := Lib.hid hb2
  have HR2 := Lib.hid hr2
  have HX2 := Lib.hid hx2
  have HPB := Lib.hid hpb
  clear hb1 hr1 hpb hx0 hx1 hle hb2 hr2 hx2
  go_upto_region 2 with fail
  rw [← hw2]
  clear hw2 c0 z0 c1 z1 c2 z2 c3 z3 c4 z4 c5 z5 c6 z6 c7 z7 c8 z8
  have c0 : w2.cell? ⟨pb, 0, none⟩ = some (.int .i64 6) := by rw [cell_of_blk HB2.out]; rfl
  have c1 : w2.cell? ⟨pb, 1, none⟩ = some (.int .i64 0) := by rw [cell_of_blk HB2.out]; rfl
  have c2 : w2.cell? ⟨pb, 2, none⟩ = some (.int .i64 0) := by rw [cell_of_blk HB2.out]; rfl
  have c3 : w2.cell? ⟨pb, 3, none⟩ = some (.int .i64 0) := by rw [cell_of_blk HB2.out]; rfl
  have c4 : w2.cell? ⟨pb, 4, none⟩ = some (.int .i64 0) := by rw [cell_of_blk HB2.out]; rfl
  have c5 : w2.cell? ⟨pb, 5, none⟩ = some (.string ⟨#[]⟩) := by rw [cell_of_blk HB2.out]; rfl
  have c6 : w2.cell? ⟨pb, 6, none⟩ = some (.string ⟨#[]⟩) := by rw [cell_of_blk HB2.out]; rfl
  have c7 : w2.cell? ⟨pb, 7, none⟩ = some (.int .i64 0) := by rw [cell_of_blk HB2.out]; rfl
  have c8 : w2.cell? ⟨pb, 8, none⟩ = some (.string ⟨#[]⟩) := by rw [cell_of_blk HB2.out]; rfl
  have e0 : (w2.alloc (.cells #[.int .i64 0, .int .i64 0, .int .u64 0, .int .u64 0, .int .u64 0, .int .i64 0, .int .i64 0, .int .i64 0, .int .i64 0, .int .i64 0, .int .i64 0, .string ⟨#[]⟩, .string ⟨#[]⟩, .int .i64 0, .int .i64 0, .string ⟨#[]⟩, .int .u64 0, .slice none 0 0] 40)).cell? ⟨pb, 0, none⟩ = some (.int .i64 6) := Ext.cell ((Ext.refl w2).alloc _) c0
  have hr7 : (w2.alloc (.cells #[.int .i64 0, .int .i64 0, .int .u64 0, .int .u64 0, .int .u64 0, .int .i64 7, .int .i64 0, .int .i64 0, .int .i64 0, .int .i64 0, .int .i64 0, .string ⟨#[]⟩, .string ⟨#[]⟩, .int .i64 0, .int .i64 0, .string ⟨#[]⟩, .int .u64 0, .slice none 0 0] 40)).heap[pb + 1]? = some (.cells #[.int .i64 0, .int .i64 0, .int .u64 0, .int .u64 0, .int .u64 0, .int .i64 0, .int .i64 0, .int .i64 0, .int .i64 0, .int .i64 0, .int .i64 0, .string ⟨#[]⟩, .string ⟨#[]⟩, .int .i64 0, .int .i64 0, .string ⟨#[]⟩, .int .u64 0, .slice none 0 0] 40 (0, 0)) := blk_old HR2.out
  have HTH : Hid ((w2.alloc (.cells #[.int .i64 0, .int .i64 0, .int .u64 0, .int .u64 0, .int .u64 0, .int .i64 7, .int .i64 0, .int .i64 0, .int .i64 0, .int .i64 0, .int .i64 0, .string ⟨#[]⟩, .string ⟨#[]⟩, .int .i64 0, .int .i64 0, .string ⟨#[]⟩, .int .u64 0, .slice none 0 0] 40)).there (pb + 1) 0 18) := Lib.hid (there_of_blk hr7)
  have HRG : Hid ((w2.alloc (.cells #[.int .i64 0, .int .i64 0, .int .u64 0, .int .u64 0, .int .u64 0, .int .i64 7, .int .i64 0, .int .i64 0, .int .i64 0, .int .i64 0, .int .i64 0, .string ⟨#[]⟩, .string ⟨#[]⟩, .int .i64 0, .int .i64 0, .string ⟨#[]⟩, .int .u64 0, .slice none 0 0] 40)).rangeAt w2.heap.size 0 [Value.int .i64 0, .int .i64 0, .int .u64 0, .int .u64 0, .int .u64 0, .int .i64 7, .int .i64 0, .int .i64 0, .int .i64 0, .int .i64 0, .int .i64 0, .string ⟨#[]⟩, .string ⟨#[]⟩, .int .i64 0, .int .i64 0, .string ⟨#[]⟩, .int .u64 0, .slice none 0 0]) := Lib.hid (range_of_blk (heap_alloc_new w2 _))
  have HLE : Hid (w.heap.size ≤ pb) := Lib.hid (by rw [HPB.out]; exact Nat.le_refl _)
  clear hr7
  go_upto_region 17 with fail
  go_wp2_with (first
    | (refine wpList_load_mid rfl 40 (.tmp 3) rfl w2.heap.size 0 rfl _ _ HRG.out Try.underlying40 rfl (by kernel_rfl) ?_)
    | (refine wpList_store_mid rfl 40 (.tmp 2) (.tmp 38) rfl (pb + 1) 0 #[.int .i64 0, .int .i64 0, .int .u64 0, .int .u64 0, .int .u64 0, .int .i64 7, .int .i64 0, .int .i64 0, .int .i64 0, .int .i64 0, .int .i64 0, .string ⟨#[]⟩, .string ⟨#[]⟩, .int .i64 0, .int .i64 0, .string ⟨#[]⟩, .int .u64 0, .slice none 0 0] rfl rfl HTH.out (by kernel_rfl) (by simp [Value.oneCell']) ?_)
    | fail)
  refine bodyPost_ret (v := .agg #[.int .i64 0, .int .i64 0, .int .u64 0, .int .u64 0, .int .u64 0, .int .i64 7, .int .i64 0, .int .i64 0, .int .i64 0, .int .i64 0, .int .i64 0, .string ⟨#[]⟩, .string ⟨#[]⟩, .int .i64 0, .int .i64 0, .string ⟨#[]⟩, .int .u64 0, .slice none 0 0]) (results_cell Try.results29 rfl (a := ⟨pb + 1, 0, none⟩) (run_loadVar_mid _ _ _ _ [Value.int .i64 0, .int .i64 0, .int .u64 0, .int .u64 0, .int .u64 0, .int .i64 7, .int .i64 0, .int .i64 0, .int .i64 0, .int .i64 0, .int .i64 0, .string ⟨#[]⟩, .string ⟨#[]⟩, .int .i64 0, .int .i64 0, .string ⟨#[]⟩, .int .u64 0, .slice none 0 0] _ (World.rangeAt_setCells_same _ _ _ _ HTH.out) Try.underlying40 rfl (by kernel_rfl))) rfl ⟨rfl, Mod.trans (F := fun _ => False) (HX2.out.alloc _) (setCells_mod _ _ _ _) (fun i hi hl => by have := HLE.out; omega)⟩

end Go.Proofs.Ytcekfgcajcjooaa

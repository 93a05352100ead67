/- What of a call plays a part. -/
import Derived.Test.YtcekfgcajcjooaaC1
import Derived.Deep.CutBlock
import Derived.Deep.DeepCutAuto



set_option linter.unusedVariables false
set_option linter.unusedSimpArgs false
namespace Go.Proofs.Ytcekfgcajcjooaa
open Go.RowKit

/-- A call. -/
structure CC where
  k : Int
  f1 : Int
  f2 : Int
  d1 : Int
  d2 : Int
  n : ByteArray
  o : ByteArray
  a : Int
  t : ByteArray
def CC.agg (c : CC) : Value := .agg #[.int .i64 c.k, .int .i64 c.f1, .int .i64 c.f2, .int .i64 c.d1, .int .i64 c.d2, .string c.n, .string c.o, .int .i64 c.a, .string c.t]
def CC.plain (c : CC) : CC :=
  ⟨c.k, if 5 ≤ c.k ∧ c.k ≤ 11 ∧ c.k ≠ 6 then c.f1 else 0, if 5 ≤ c.k ∧ c.k ≤ 11 ∧ c.k ≠ 6 then c.f2 else 0,
    if 1 ≤ c.k ∧ c.k ≤ 6 then c.d1 else 0, if 1 ≤ c.k ∧ c.k ≤ 6 then c.d2 else 0, if 1 ≤ c.k ∧ c.k ≤ 5 then c.n else ⟨#[]⟩, if c.k = 5 then c.o else ⟨#[]⟩,
    if 7 ≤ c.k ∧ c.k ≤ 8 then c.a else 0, if c.k = 8 then c.t else ⟨#[]⟩⟩

set_option maxRecDepth 100000 in
set_option maxHeartbeats 8000000 in
theorem plain_c (c : CC) (w : World) (h5 : c.k ≠ 5) :
    Calls Try.prog 14 #[c.agg] w fun r w' => r = .returned c.plain.agg ∧ Ext w w' := by
  obtain ⟨k, f1, f2, d1, d2, n, o, a, t⟩ := c
  simp only at h5
  have h5' : (k == 5) = false := by simp [h5]
  obtain ⟨R, hR⟩ : ∃ R, R = (CC.plain ⟨k, f1, f2, d1, d2, n, o, a, t⟩).agg := ⟨_, rfl⟩
  rw [← hR]
  have HR := Lib.hid hR
  clear hR
  unfold CC.agg
  simp only
  go_enter Try.func14, Try.ntmps14
  go_wp2_with fail
  all_goals
    refine bodyPost_ret (results_cell Try.results14 rfl (a := ⟨w.heap.size + 1, 0, none⟩) (load_blk (blk_old (blk_new1 _ _ (by simp))) Try.underlying25 rfl (by kernel_rfl))) rfl ⟨?_, (((Ext.refl w).alloc _).alloc _).alloc _⟩
    rw [HR.out]
    refine congrArg Ending.returned ?_
    unfold CC.agg CC.plain
    simp_all
    try (refine ⟨?_, ?_, ?_, ?_, ?_, ?_⟩ <;> (intros; exfalso; omega))

theorem CC.agg_mk (k f1 f2 d1 d2 : Int) (n o : ByteArray) (a : Int) (t : ByteArray) : (CC.mk k f1 f2 d1 d2 n o a t).agg = .agg #[.int .i64 k, .int .i64 f1, .int .i64 f2, .int .i64 d1, .int .i64 d2, .string n, .string o, .int .i64 a, .string t] := rfl

set_option maxHeartbeats 1000000 in
theorem may_c (i g : Int) (w : World) :
    Calls Try.prog 33 #[.agg #[.int .i64 i, .int .i64 g]] w fun r w' => r = .returned (.bool (decide (1 ≤ i ∧ i ≤ 40 ∧ 0 ≤ g ∧ g ≤ 2147483647))) ∧ Ext w w' := by
  go_enter Try.func33, Try.ntmps33
  go_wp2_with fail
  all_goals
    go_ret
    refine ⟨congrArg (fun x => Ending.returned (Value.bool x)) ?_, (Ext.refl w).alloc _⟩
    rw [Bool.eq_iff_iff]
    simp_all
    try omega

def CX : CC := ⟨7, 2, 1, 0, 0, ⟨#[]⟩, ⟨#[]⟩, 0, ⟨#[]⟩⟩
def CY : CC := ⟨6, 0, 0, 0, 0, ⟨#[]⟩, ⟨#[]⟩, 0, ⟨#[]⟩⟩
set_option maxRecDepth 100000 in
set_option maxHeartbeats 4000000 in
theorem check_x (w : World) : Calls Try.prog 12 #[CX.agg] w fun r w' => r = .returned (.int .i64 0) ∧ Ext w w' := by
  have hp := fun w => plain_c CX w (by decide)
  rw [show CX.plain = CX from rfl] at hp
  unfold CX at hp ⊢
  rw [CC.agg_mk] at hp ⊢
  have HP := Lib.hid hp
  clear hp
  go_enter Try.func12, Try.ntmps12
  go_wp2_with fail
  refine (HP.out _).mono ?_
  rintro r w1 ⟨rfl, hx1⟩
  have hb1 : w1.heap[w.heap.size]? = some (.cells #[.int .i64 7, .int .i64 2, .int .i64 1, .int .i64 0, .int .i64 0, .string ⟨#[]⟩, .string ⟨#[]⟩, .int .i64 0, .string ⟨#[]⟩] 25 (0, 0)) := (hx1.block _ (by simp) id).trans (heap_alloc_new w _)
  obtain ⟨pb, hpb⟩ : ∃ x, x = w.heap.size := ⟨_, rfl⟩
  rw [← hpb] at hb1 ⊢
  have c0 : w1.cell? ⟨pb, 0, none⟩ = some (.int .i64 7) := by rw [cell_of_blk hb1]; rfl
  have z0 := frozen_of_blk hb1 0
  have c1 : w1.cell? ⟨pb, 1, none⟩ = some (.int .i64 2) := by rw [cell_of_blk hb1]; rfl
  have z1 := frozen_of_blk hb1 1
  have c2 : w1.cell? ⟨pb, 2, none⟩ = some (.int .i64 1) := by rw [cell_of_blk hb1]; rfl
  have z2 := frozen_of_blk hb1 2
  have c3 : w1.cell? ⟨pb, 3, none⟩ = some (.int .i64 0) := by rw [cell_of_blk hb1]; rfl
  have z3 := frozen_of_blk hb1 3
  have c4 : w1.cell? ⟨pb, 4, none⟩ = some (.int .i64 0) := by rw [cell_of_blk hb1]; rfl
  have z4 := frozen_of_blk hb1 4
  have c5 : w1.cell? ⟨pb, 5, none⟩ = some (.string ⟨#[]⟩) := by rw [cell_of_blk hb1]; rfl
  have z5 := frozen_of_blk hb1 5
  have c6 : w1.cell? ⟨pb, 6, none⟩ = some (.string ⟨#[]⟩) := by rw [cell_of_blk hb1]; rfl
  have z6 := frozen_of_blk hb1 6
  have c7 : w1.cell? ⟨pb, 7, none⟩ = some (.int .i64 0) := by rw [cell_of_blk hb1]; rfl
  have z7 := frozen_of_blk hb1 7
  have c8 : w1.cell? ⟨pb, 8, none⟩ = some (.string ⟨#[]⟩) := by rw [cell_of_blk hb1]; rfl
  have z8 := frozen_of_blk hb1 8
  have HX1 := Lib.hid (((Ext.refl w).alloc _).trans hx1)
  have HPB := Lib.hid hpb
  have hle : w.heap.size ≤ pb := by rw [hpb]; exact Nat.le_refl _
  obtain ⟨w2, hw2⟩ : ∃ x, x = (((((((((w1.setCell ⟨pb, 0, none⟩ (.int .i64 7)).setCell ⟨pb, 1, none⟩ (.int .i64 2)).setCell ⟨pb, 2, none⟩ (.int .i64 1)).setCell ⟨pb, 3, none⟩ (.int .i64 0)).setCell ⟨pb, 4, none⟩ (.int .i64 0)).setCell ⟨pb, 5, none⟩ (.string ⟨#[]⟩)).setCell ⟨pb, 6, none⟩ (.string ⟨#[]⟩)).setCell ⟨pb, 7, none⟩ (.int .i64 0)).setCell ⟨pb, 8, none⟩ (.string ⟨#[]⟩)) := ⟨_, rfl⟩
  have hb2 : w2.heap[pb]? = some (.cells #[.int .i64 7, .int .i64 2, .int .i64 1, .int .i64 0, .int .i64 0, .string ⟨#[]⟩, .string ⟨#[]⟩, .int .i64 0, .string ⟨#[]⟩] 25 (0, 0)) := by rw [hw2]; exact (setCell_blk (setCell_blk (setCell_blk (setCell_blk (setCell_blk (setCell_blk (setCell_blk (setCell_blk (setCell_blk hb1)))))))))
  have hx2 : Ext w w2 := by rw [hw2]; exact (Ext.setCell (Ext.setCell (Ext.setCell (Ext.setCell (Ext.setCell (Ext.setCell (Ext.setCell (Ext.setCell (Ext.setCell HX1.out hle _) hle _) hle _) hle _) hle _) hle _) hle _) hle _) hle _)
  have HB2 := Lib.hid hb2
  have HX2 := Lib.hid hx2
  clear hb1 hpb hx1 hle hb2 hx2
  go_upto_region 6 with fail
  rw [← hw2]
  clear hw2 c0 z0 c1 z1 c2 z2 c3 z3 c4 z4 c5 z5 c6 z6 c7 z7 c8 z8
  have c0 : w2.cell? ⟨pb, 0, none⟩ = some (.int .i64 7) := by rw [cell_of_blk HB2.out]; rfl
  have c1 : w2.cell? ⟨pb, 1, none⟩ = some (.int .i64 2) := by rw [cell_of_blk HB2.out]; rfl
  have c2 : w2.cell? ⟨pb, 2, none⟩ = some (.int .i64 1) := by rw [cell_of_blk HB2.out]; rfl
  have c3 : w2.cell? ⟨pb, 3, none⟩ = some (.int .i64 0) := by rw [cell_of_blk HB2.out]; rfl
  have c4 : w2.cell? ⟨pb, 4, none⟩ = some (.int .i64 0) := by rw [cell_of_blk HB2.out]; rfl
  have c5 : w2.cell? ⟨pb, 5, none⟩ = some (.string ⟨#[]⟩) := by rw [cell_of_blk HB2.out]; rfl
  have c6 : w2.cell? ⟨pb, 6, none⟩ = some (.string ⟨#[]⟩) := by rw [cell_of_blk HB2.out]; rfl
  have c7 : w2.cell? ⟨pb, 7, none⟩ = some (.int .i64 0) := by rw [cell_of_blk HB2.out]; rfl
  have c8 : w2.cell? ⟨pb, 8, none⟩ = some (.string ⟨#[]⟩) := by rw [cell_of_blk HB2.out]; rfl
  go_wp2_with fail
  refine (may_c 2 1 w2).mono ?_
  rintro r w3 ⟨rfl, hx3⟩
  rw [show decide ((1 : Int) ≤ 2 ∧ (2 : Int) ≤ 40 ∧ (0 : Int) ≤ 1 ∧ (1 : Int) ≤ 2147483647) = true from rfl]
  have hb3 := (hx3.block pb (Array.getElem?_eq_some_iff.1 HB2.out).1 id).trans HB2.out
  clear c0 c1 c2 c3 c4 c5 c6 c7 c8
  have c0 : w3.cell? ⟨pb, 0, none⟩ = some (.int .i64 7) := by rw [cell_of_blk hb3]; rfl
  have c1 : w3.cell? ⟨pb, 1, none⟩ = some (.int .i64 2) := by rw [cell_of_blk hb3]; rfl
  have c2 : w3.cell? ⟨pb, 2, none⟩ = some (.int .i64 1) := by rw [cell_of_blk hb3]; rfl
  have c3 : w3.cell? ⟨pb, 3, none⟩ = some (.int .i64 0) := by rw [cell_of_blk hb3]; rfl
  have c4 : w3.cell? ⟨pb, 4, none⟩ = some (.int .i64 0) := by rw [cell_of_blk hb3]; rfl
  have c5 : w3.cell? ⟨pb, 5, none⟩ = some (.string ⟨#[]⟩) := by rw [cell_of_blk hb3]; rfl
  have c6 : w3.cell? ⟨pb, 6, none⟩ = some (.string ⟨#[]⟩) := by rw [cell_of_blk hb3]; rfl
  have c7 : w3.cell? ⟨pb, 7, none⟩ = some (.int .i64 0) := by rw [cell_of_blk hb3]; rfl
  have c8 : w3.cell? ⟨pb, 8, none⟩ = some (.string ⟨#[]⟩) := by rw [cell_of_blk hb3]; rfl
  have HX3 := Lib.hid (HX2.out.trans hx3)
  clear hb3 hx3
  go_wp2_with fail
  go_ret
  exact ⟨rfl, HX3.out⟩

end Go.Proofs.Ytcekfgcajcjooaa

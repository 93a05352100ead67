/- lives; what is to be done next: the law's walks. -/
import Derived.Test.YtcekfgcajcjooaaC3

set_option linter.unusedVariables false
set_option linter.unusedSimpArgs false
namespace Go.Proofs.Ytcekfgcajcjooaa
open Go.RowKit

set_option maxRecDepth 100000 in
set_option maxHeartbeats 4000000 in
theorem lives29x_c (w : World) : Calls Try.prog 16 #[] w fun e w' => e = .returned (.bool true) ∧ Ext w w' := by
  have h1 := fun w => check_x w
  have h2 := fun w => request_y w
  unfold CX at h1
  unfold CY MY at h2
  rw [CC.agg_mk] at h1 h2
  have hfd : ∀ w, (Instr.field 40 (.agg #[.int .i64 0, .int .i64 0, .int .u64 0, .int .u64 0, .int .u64 0, .int .i64 7, .int .i64 0, .int .i64 0, .int .i64 0, .int .i64 0, .int .i64 0, .string ⟨#[]⟩, .string ⟨#[]⟩, .int .i64 0, .int .i64 0, .string ⟨#[]⟩, .int .u64 0, .slice none 0 0]) 5).run Try.prog w = .ok (.int .i64 7) w := fun _ => by kernel_rfl
  have H1 := Lib.hid h1
  have H2 := Lib.hid h2
  clear h1 h2
  go_enter Try.func16, Try.ntmps16
  go_wp2_with fail
  refine (H1.out _).mono ?_
  rintro e w1 ⟨rfl, hx1⟩
  have hb1 : w1.heap[w.heap.size]? = some (.cells #[.int .i64 7, .int .i64 2, .int .i64 1, .int .i64 0, .int .i64 0, .string ⟨#[]⟩, .string ⟨#[]⟩, .int .i64 0, .string ⟨#[]⟩] 25 (0, 0)) := (hx1.block _ (by simp) id).trans (heap_alloc_new w _)
  have c0 : w1.cell? ⟨w.heap.size, 0, none⟩ = some (.int .i64 7) := by rw [cell_of_blk hb1]; rfl
  have c1 : w1.cell? ⟨w.heap.size, 1, none⟩ = some (.int .i64 2) := by rw [cell_of_blk hb1]; rfl
  have c2 : w1.cell? ⟨w.heap.size, 2, none⟩ = some (.int .i64 1) := by rw [cell_of_blk hb1]; rfl
  have c3 : w1.cell? ⟨w.heap.size, 3, none⟩ = some (.int .i64 0) := by rw [cell_of_blk hb1]; rfl
  have c4 : w1.cell? ⟨w.heap.size, 4, none⟩ = some (.int .i64 0) := by rw [cell_of_blk hb1]; rfl
  have c5 : w1.cell? ⟨w.heap.size, 5, none⟩ = some (.string ⟨#[]⟩) := by rw [cell_of_blk hb1]; rfl
  have c6 : w1.cell? ⟨w.heap.size, 6, none⟩ = some (.string ⟨#[]⟩) := by rw [cell_of_blk hb1]; rfl
  have c7 : w1.cell? ⟨w.heap.size, 7, none⟩ = some (.int .i64 0) := by rw [cell_of_blk hb1]; rfl
  have c8 : w1.cell? ⟨w.heap.size, 8, none⟩ = some (.string ⟨#[]⟩) := by rw [cell_of_blk hb1]; rfl
  have HX1 := Lib.hid (((Ext.refl w).alloc _).trans hx1)
  clear hb1 hx1
  go_wp2_with fail
  refine (next_c 7 0 2 1 0 0 0 ⟨#[]⟩ ⟨#[]⟩ ⟨#[]⟩ false false false false false _).mono ?_
  rintro e w2 ⟨rfl, hx2⟩
  rw [show nextI 7 0 false false false false false = 2 from rfl]
  have HX2 := Lib.hid (HX1.out.trans hx2)
  clear hx2
  go_wp2_with fail
  refine (H2.out _).mono ?_
  rintro e w3 ⟨rfl, hx3⟩
  have HX3 := Lib.hid (HX2.out.trans hx3)
  clear hx3
  go_wp2_with fail
  go_ret
  exact ⟨rfl, HX3.out⟩

set_option maxRecDepth 100000 in
set_option maxHeartbeats 4000000 in
theorem callNext_calls (k m : Int) (live kept room dirty lost : Bool) (W : World) (hk : -9223372036854775808 ≤ k ∧ k ≤ 9223372036854775807) (hm : -9223372036854775808 ≤ m ∧ m ≤ 9223372036854775807) :
    Calls Try.prog 4 #[.int .i64 k, .int .i64 m, .bool live, .bool kept, .bool room, .bool dirty, .bool lost] W fun e w' => e = .returned (.bool true) ∧ Below W.heap.size W w' := by
  clear hk hm
  go_enter Try.func4, Try.ntmps4
  go_wp2_with fail
  refine (next_c k m 0 0 0 0 0 ⟨#[]⟩ ⟨#[]⟩ ⟨#[]⟩ live kept room dirty lost _).mono ?_
  rintro e w1 ⟨rfl, hx1⟩
  have HX1 := Lib.hid (((Ext.refl W).alloc _).trans hx1)
  clear hx1
  go_wp2_with fail
  refine (rnext_c k m live kept room dirty lost w1).mono ?_
  rintro e w2 ⟨rfl, rfl⟩
  go_wp2_with fail
  refine (lives29x_c _).mono ?_
  rintro e w3 ⟨rfl, hx3⟩
  have HX3 := Lib.hid (HX1.out.trans hx3)
  clear hx3
  go_wp2_with fail
  go_ret
  exact ⟨rfl, HX3.out.below⟩

end Go.Proofs.Ytcekfgcajcjooaa

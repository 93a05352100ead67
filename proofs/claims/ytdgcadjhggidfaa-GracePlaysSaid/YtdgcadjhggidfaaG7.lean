/- record.With at the law's own values; lives. -/
import Derived.Test.YtdgcadjhggidfaaG6
set_option linter.unusedVariables false
set_option linter.unusedSimpArgs false
namespace Go.Proofs.Ytdgcadjhggidfaa
open Go.RowKit

set_option maxRecDepth 100000 in
set_option maxHeartbeats 1000000 in
theorem with_c (w : World) :
    Calls Try.prog 26 #[.agg #[.int .u64 0, .int .u64 0, .bool false, .int .u64 0, .bool false, .int .u64 0, .bool false, .int .u64 0, .bool false, .int .u64 0, .bool false, .int .u64 0, .bool false, .int .u64 0, .bool false, .int .u64 0, .bool false], .int .i64 2, .int .u64 5, .bool true] w
      fun e w' => e = .returned (.agg #[.int .u64 0, .int .u64 0, .bool false, .int .u64 0, .bool false, .int .u64 5, .bool true, .int .u64 0, .bool false, .int .u64 0, .bool false, .int .u64 0, .bool false, .int .u64 0, .bool false, .int .u64 0, .bool false]) ∧ Ext w w' := by
  go_enter Try.func26, Try.ntmps26
  go_wp2_with fail
  refine bodyPost_ret (v := .agg #[.int .u64 0, .int .u64 0, .bool false, .int .u64 0, .bool false, .int .u64 5, .bool true, .int .u64 0, .bool false, .int .u64 0, .bool false, .int .u64 0, .bool false, .int .u64 0, .bool false, .int .u64 0, .bool false]) (results_cell Try.results26 rfl (a := ⟨w.heap.size + 1, 0, none⟩) ?_) rfl ⟨rfl, ((Ext.refl w).alloc _).alloc _⟩
  exact load_new _ _ _ _ (World.size_alloc _ _).symm Try.underlying36 rfl (by kernel_rfl)

def R5 : GRec := ⟨0, fun i => if i = 2 then 5 else 0, fun i => i == 2⟩

set_option maxRecDepth 100000 in
set_option maxHeartbeats 1000000 in
theorem lives_c (w : World) :
    Calls Try.prog 12 #[] w fun e w' => e = .returned (.bool true) ∧ Below w.heap.size w w' := by
  go_enter Try.func12, Try.ntmps12
  go_wp2_with fail
  refine (with_c w).mono ?_
  rintro e w1 ⟨rfl, hx1⟩
  have HX1 := Lib.hid hx1; clear hx1
  go_wp2_with fail
  refine (new_c R5 3 w1 (by decide) (by decide)).mono ?_
  rintro e w2 ⟨gb, rfl, hx2, hg2⟩
  rw [show hol R5 8 = [2] from rfl] at hg2
  have HX2 := Lib.hid hx2; clear hx2
  have HG2 := Lib.hid hg2; clear hg2
  go_wp2_with fail
  refine (over_c gb _ R5 [2] 3 0 w2 HG2.out).mono ?_
  rintro e w3 ⟨rfl, n3, rfl⟩
  rw [show overB [2] 3 0 = false by decide]
  have HX3 := Lib.hid ((Ext.refl w2).drewN n3)
  go_wp2_with fail
  refine (may_c gb _ R5 [2] 3 0 2 5 _ (HG2.out.ext HX3.out) (by simp)).mono ?_
  rintro e w4 ⟨rfl, n4, rfl⟩
  rw [show mayB R5 [2] 3 0 2 5 = true by decide]
  have HX4 := Lib.hid ((Ext.refl w2).drewN (n3 + n4))
  go_wp2_with fail
  refine (may_c gb _ R5 [2] 3 0 2 6 _ (HG2.out.ext HX4.out) (by simp)).mono ?_
  rintro e w5 ⟨rfl, n5, rfl⟩
  rw [show mayB R5 [2] 3 0 2 6 = false by decide]
  have HX5 := Lib.hid ((Ext.refl w2).drewN (n3 + n4 + n5))
  go_wp2_with fail
  refine (done_yes gb _ R5 [2] 3 0 2 _ (HG2.out.ext HX5.out) (by decide) (by simp) (by simp)).mono ?_
  rintro e w6 ⟨rfl, hm6, hg6⟩
  rw [show ([2] : List Int).erase 2 = [] by rfl] at hg6
  have HM6 := Lib.hid hm6; clear hm6
  have HG6 := Lib.hid hg6; clear hg6
  go_wp2_with fail
  refine (over_c gb _ R5 [] 3 0 w6 HG6.out).mono ?_
  rintro e w7 ⟨rfl, n7, rfl⟩
  rw [show overB [] 3 0 = true by decide]
  go_wp2
  go_ret
  refine ⟨rfl, ?_⟩
  have h := tyF_below (HM6.out.drewN n7) (by have := HX2.out.size; have := HX5.out.size; omega)
  have hs := HX1.out.size
  have hx := HX1.out.trans (HX2.out.trans HX5.out)
  exact hx.below.trans (h.mono hs)

end Go.Proofs.Ytdgcadjhggidfaa

/- The table of fields of calls. -/
import Derived.Test.YtcekfgcajcjooaaM17
import Derived.Test.YtcekfgcajcjooaaC4


set_option linter.unusedVariables false
set_option linter.unusedSimpArgs false
namespace Go.Proofs.Ytcekfgcajcjooaa
open Go.RowKit

def fieldT : List (List UInt8) := [[], [100, 110], [100, 110], [100, 110], [100, 110], [100, 110, 102, 111], [100], [102, 97], [102, 97, 116], [102], [102], [102]]
def field29 (k : Int) : ByteArray := ⟨(fieldT.getD k.toNat []).toArray⟩
set_option maxHeartbeats 400000 in
theorem fields29_1 (w : World) : Calls Try.prog 34 #[.int .i64 1] w fun e w' => e = .returned (.string (field29 1)) ∧ Ext w w' := by
  go_enter Try.func34, Try.ntmps34
  go_wp2
  go_ret
  exact ⟨rfl, (Ext.refl w).alloc _⟩
set_option maxHeartbeats 400000 in
theorem fields29_2 (w : World) : Calls Try.prog 34 #[.int .i64 2] w fun e w' => e = .returned (.string (field29 2)) ∧ Ext w w' := by
  go_enter Try.func34, Try.ntmps34
  go_wp2
  go_ret
  exact ⟨rfl, (Ext.refl w).alloc _⟩
set_option maxHeartbeats 400000 in
theorem fields29_3 (w : World) : Calls Try.prog 34 #[.int .i64 3] w fun e w' => e = .returned (.string (field29 3)) ∧ Ext w w' := by
  go_enter Try.func34, Try.ntmps34
  go_wp2
  go_ret
  exact ⟨rfl, (Ext.refl w).alloc _⟩
set_option maxHeartbeats 400000 in
theorem fields29_4 (w : World) : Calls Try.prog 34 #[.int .i64 4] w fun e w' => e = .returned (.string (field29 4)) ∧ Ext w w' := by
  go_enter Try.func34, Try.ntmps34
  go_wp2
  go_ret
  exact ⟨rfl, (Ext.refl w).alloc _⟩
set_option maxHeartbeats 400000 in
theorem fields29_5 (w : World) : Calls Try.prog 34 #[.int .i64 5] w fun e w' => e = .returned (.string (field29 5)) ∧ Ext w w' := by
  go_enter Try.func34, Try.ntmps34
  go_wp2
  go_ret
  exact ⟨rfl, (Ext.refl w).alloc _⟩
set_option maxHeartbeats 400000 in
theorem fields29_6 (w : World) : Calls Try.prog 34 #[.int .i64 6] w fun e w' => e = .returned (.string (field29 6)) ∧ Ext w w' := by
  go_enter Try.func34, Try.ntmps34
  go_wp2
  go_ret
  exact ⟨rfl, (Ext.refl w).alloc _⟩
set_option maxHeartbeats 400000 in
theorem fields29_7 (w : World) : Calls Try.prog 34 #[.int .i64 7] w fun e w' => e = .returned (.string (field29 7)) ∧ Ext w w' := by
  go_enter Try.func34, Try.ntmps34
  go_wp2
  go_ret
  exact ⟨rfl, (Ext.refl w).alloc _⟩
set_option maxHeartbeats 400000 in
theorem fields29_8 (w : World) : Calls Try.prog 34 #[.int .i64 8] w fun e w' => e = .returned (.string (field29 8)) ∧ Ext w w' := by
  go_enter Try.func34, Try.ntmps34
  go_wp2
  go_ret
  exact ⟨rfl, (Ext.refl w).alloc _⟩
set_option maxHeartbeats 400000 in
theorem fields29_9 (w : World) : Calls Try.prog 34 #[.int .i64 9] w fun e w' => e = .returned (.string (field29 9)) ∧ Ext w w' := by
  go_enter Try.func34, Try.ntmps34
  go_wp2
  go_ret
  exact ⟨rfl, (Ext.refl w).alloc _⟩
set_option maxHeartbeats 400000 in
theorem fields29_10 (w : World) : Calls Try.prog 34 #[.int .i64 10] w fun e w' => e = .returned (.string (field29 10)) ∧ Ext w w' := by
  go_enter Try.func34, Try.ntmps34
  go_wp2
  go_ret
  exact ⟨rfl, (Ext.refl w).alloc _⟩
set_option maxHeartbeats 400000 in
theorem fields29_11 (w : World) : Calls Try.prog 34 #[.int .i64 11] w fun e w' => e = .returned (.string (field29 11)) ∧ Ext w w' := by
  go_enter Try.func34, Try.ntmps34
  go_wp2
  go_ret
  exact ⟨rfl, (Ext.refl w).alloc _⟩
set_option maxHeartbeats 400000 in
theorem fields29_lo (k : Int) (h : k < 1) (w : World) : Calls Try.prog 34 #[.int .i64 k] w fun e w' => e = .returned (.string ⟨#[]⟩) ∧ Ext w w' := by
  go_enter Try.func34, Try.ntmps34
  go_wp2
  go_ret
  exact ⟨rfl, (Ext.refl w).alloc _⟩
set_option maxHeartbeats 400000 in
theorem fields29_hi (k : Int) (h : 11 < k) (w : World) : Calls Try.prog 34 #[.int .i64 k] w fun e w' => e = .returned (.string ⟨#[]⟩) ∧ Ext w w' := by
  go_enter Try.func34, Try.ntmps34
  go_wp2
  go_ret
  exact ⟨rfl, (Ext.refl w).alloc _⟩

end Go.Proofs.Ytcekfgcajcjooaa

/- What the cache is trusted for: the law CallTrusts walked. -/
import Derived.Test.YtcekfgcajcjooaaC4
set_option linter.unusedVariables false
set_option linter.unusedSimpArgs false
namespace Go.Proofs.Ytcekfgcajcjooaa
open Go.RowKit

theorem nextI_5 {k m : Int} {live kept room dirty lost : Bool} (h : nextI k m live kept room dirty lost = 5) : (k = 7 ∧ m ≠ 0 ∧ kept = true ∨ k = 8 ∧ m = 2 ∧ room = true) ∧ live = true := by
  unfold nextI at h
  repeat' split at h
  all_goals first
    | omega
    | (simp_all; try omega)
theorem nextI_12 {k m : Int} {live kept room dirty lost : Bool} (h : nextI k m live kept room dirty lost = 12) : dirty = false ∧ lost = false ∧ (k = 10 ∨ k = 11 ∧ m = 0) := by
  unfold nextI at h
  repeat' split at h
  all_goals first
    | omega
    | (simp_all; try omega)
theorem nextI_9 {k m : Int} {live kept room dirty lost : Bool} (h : nextI k m live kept room dirty lost = 9) : dirty = false ∧ m = 2 ∧ k = 9 := by
  unfold nextI at h
  repeat' split at h
  all_goals first
    | omega
    | (simp_all; try omega)
theorem nextI_10 {k m : Int} {live kept room dirty lost : Bool} (h : nextI k m live kept room dirty lost = 10) : dirty = false ∧ k = 11 := by
  unfold nextI at h
  repeat' split at h
  all_goals first
    | omega
    | (simp_all; try omega)

set_option maxRecDepth 100000 in
set_option maxHeartbeats 8000000 in
theorem callTrusts_calls (k m : Int) (live kept room dirty lost : Bool) (W : World) (hk : -9223372036854775808 ≤ k ∧ k ≤ 9223372036854775807) (hm : -9223372036854775808 ≤ m ∧ m ≤ 9223372036854775807) :
    Calls Try.prog 5 #[.int .i64 k, .int .i64 m, .bool live, .bool kept, .bool room, .bool dirty, .bool lost] W fun e w' => e = .returned (.bool true) ∧ Below W.heap.size W w' := by
  clear hk hm
  go_enter Try.func5, Try.ntmps5
  go_wp2_with fail
  refine (next_c k m 0 0 0 0 0 ⟨#[]⟩ ⟨#[]⟩ ⟨#[]⟩ live kept room dirty lost _).mono ?_
  rintro e w1 ⟨rfl, hx1⟩
  have HX1 := Lib.hid (((Ext.refl W).alloc _).trans hx1)
  clear hx1
  obtain ⟨r, hr⟩ : ∃ r, r = nextI k m live kept room dirty lost := ⟨_, rfl⟩
  rw [← hr]
  by_cases h5 : r = 5
  · subst h5
    obtain ⟨h, rfl⟩ := nextI_5 hr.symm
    clear hr
    rcases h with ⟨rfl, hm, rfl⟩ | ⟨rfl, rfl, rfl⟩
    · have hm' : (m != 0) = true := by simpa using hm
      clear hm
      go_wp2_with ((with_reducible refine (lives_c _).mono ?_); rintro e w3 ⟨rfl, hx3⟩; have HX3 := Lib.hid (HX1.out.trans hx3); clear hx3)
      go_ret
      exact ⟨rfl, HX3.out.below⟩
    · go_wp2_with ((with_reducible refine (lives_c _).mono ?_); rintro e w3 ⟨rfl, hx3⟩; have HX3 := Lib.hid (HX1.out.trans hx3); clear hx3)
      go_ret
      exact ⟨rfl, HX3.out.below⟩
  by_cases h12 : r = 12
  · subst h12
    obtain ⟨rfl, rfl, h⟩ := nextI_12 hr.symm
    clear hr
    rcases h with rfl | ⟨rfl, rfl⟩
    all_goals
      go_wp2_with ((with_reducible refine (lives_c _).mono ?_); rintro e w3 ⟨rfl, hx3⟩; have HX3 := Lib.hid (HX1.out.trans hx3); clear hx3)
      go_ret
      exact ⟨rfl, HX3.out.below⟩
  by_cases h9 : r = 9
  · subst h9
    obtain ⟨rfl, rfl, rfl⟩ := nextI_9 hr.symm
    clear hr
    go_wp2_with ((with_reducible refine (lives_c _).mono ?_); rintro e w3 ⟨rfl, hx3⟩; have HX3 := Lib.hid (HX1.out.trans hx3); clear hx3)
    go_ret
    exact ⟨rfl, HX3.out.below⟩
  by_cases h10 : r = 10
  · subst h10
    obtain ⟨rfl, rfl⟩ := nextI_10 hr.symm
    clear hr
    go_wp2_with ((with_reducible refine (lives_c _).mono ?_); rintro e w3 ⟨rfl, hx3⟩; have HX3 := Lib.hid (HX1.out.trans hx3); clear hx3)
    go_ret
    exact ⟨rfl, HX3.out.below⟩
  have h5' : (r == 5) = false := by simp [h5]
  have h12' : (r == 12) = false := by simp [h12]
  have h9' : (r == 9) = false := by simp [h9]
  have h10' : (r == 10) = false := by simp [h10]
  clear hr h5 h12 h9 h10
  go_wp2_with ((with_reducible refine (lives_c _).mono ?_); rintro e w3 ⟨rfl, hx3⟩; have HX3 := Lib.hid (HX1.out.trans hx3); clear hx3)
  go_ret
  exact ⟨rfl, HX3.out.below⟩

end Go.Proofs.Ytcekfgcajcjooaa

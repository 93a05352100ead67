/- lives; what any stamp is. -/
import Derived.Test.YtcedfpckjdobpaaL6
set_option linter.unusedVariables false
set_option linter.unusedSimpArgs false
namespace Go.Proofs.Ytcedfpckjdobpaa
open Go.RowKit

def P5 : Pc := ⟨1, 5, true, false, [7]⟩

set_option maxRecDepth 100000 in
set_option maxHeartbeats 2000000 in
theorem lives_c (w : World) : Calls Try.prog 12 #[] w fun e w' => e = .returned (.bool true) ∧ Ext w w' := by
  have hb : Bs (w.alloc (.cells #[.int .u8 7] 5)) (.slice (some ⟨w.heap.size, 0, none⟩) 1 1) [7] := Rs.of_owns (owns_lit (w := w) (B := 0) (n := 1) (size := 1) rfl (Nat.zero_le _) (by decide))
  have HB := Lib.hid hb
  clear hb
  go_enter Try.func12, Try.ntmps12
  go_wp2_with fail
  refine (seal_ok P5 (.slice (some ⟨w.heap.size, 0, none⟩) 1 1) _ (by decide) HB.out).mono ?_
  rintro e w1 ⟨g, rfl, hx1, _, hs1⟩
  have HX1 := Lib.hid (((Ext.refl w).alloc _).trans hx1)
  have HS1 := Lib.hid hs1
  clear hx1 hs1
  go_wp2_with fail
  refine (unseal_c _ P5.sec w1 HS1.out.bs).mono ?_
  rintro e w2 ⟨hx2, ⟨_, ao, cap, rfl, ho⟩ | ⟨hn, _⟩⟩
  · rw [pcOf_sec (p := P5) (by decide), show P5.agg (.slice ao P5.d.length cap) = .agg #[.int .u64 1, .int .u64 5, .bool true, .bool false, .slice ao 1 cap] from rfl]
    have HX2 := Lib.hid (HX1.out.trans hx2)
    clear hx2 ho
    go_wp2_with fail
    go_ret
    exact ⟨rfl, HX2.out.alloc _⟩
  · exact absurd (isSec_sec (p := P5) (by decide)) hn

set_option maxRecDepth 100000 in
set_option maxHeartbeats 2000000 in
theorem lapStamps_calls (e c s : Int) (W : World) (he : 0 ≤ e ∧ e ≤ 18446744073709551615) (hc : 0 ≤ c ∧ c ≤ 18446744073709551615) (hs : 0 ≤ s ∧ s ≤ 18446744073709551615) :
    Calls Try.prog 3 #[.int .u64 e, .int .u64 c, .int .u64 s] W fun e w' => e = .returned (.bool true) ∧ Below W.heap.size W w' := by
  obtain ⟨e, rfl⟩ := Int.eq_ofNat_of_zero_le he.1
  obtain ⟨c, rfl⟩ := Int.eq_ofNat_of_zero_le hc.1
  obtain ⟨s, rfl⟩ := Int.eq_ofNat_of_zero_le hs.1
  have HS : Hid (s < 18446744073709551616) := Lib.hid (by omega)
  clear he hc hs
  by_cases h : e ≤ 16777215 ∧ c ≤ 1099511627775
  · obtain ⟨h1, h2⟩ := h
    have HE := Lib.hid (And.intro h1 h2)
    have d1 : decide ((16777215 : Int) < (e : Int)) = false := by simp; omega
    have d2 : decide ((1099511627775 : Int) < (c : Int)) = false := by simp; omega
    obtain ⟨st, hst⟩ : ∃ st, st = e * 1099511627776 + c := ⟨_, rfl⟩
    obtain ⟨q, hq⟩ : ∃ q, q = s / 1099511627776 := ⟨_, rfl⟩
    obtain ⟨r, hr⟩ : ∃ q, q = s % 1099511627776 := ⟨_, rfl⟩
    have HST := Lib.hid hst
    have HQ := Lib.hid hq
    have HR := Lib.hid hr
    have t1 : IntKind.u64.wrap ((s : Int) / 1099511627776) = (q : Int) := by rw [IntKind.wrap_u64, hq]; have := HS.out; omega
    have t2 : (s : Int) % 1099511627776 = (r : Int) := by rw [hr]; omega
    have t3 : IntKind.u64.wrap (IntKind.u64.wrap ((e : Int) * 1099511627776) + (c : Int)) = (st : Int) := by rw [IntKind.wrap_u64, IntKind.wrap_u64, hst]; omega
    clear hst hq hr h1 h2
    go_enter Try.func3, Try.ntmps3
    go_wp2_with fail
    refine (stamp_ok e c W HE.out.1 HE.out.2).mono ?_
    rintro r w1 ⟨rfl, rfl⟩
    rw [← HST.out]
    go_wp2_with fail
    refine (epoch_c s _).mono ?_
    rintro r w2 ⟨rfl, rfl⟩
    rw [← HQ.out]
    go_wp2_with fail
    refine (count_c s _ HS.out).mono ?_
    rintro r w3 ⟨rfl, rfl⟩
    rw [← HR.out]
    go_wp2_with fail
    refine (epoch_c st _).mono ?_
    rintro r w2 ⟨rfl, rfl⟩
    rw [show st / 1099511627776 = e by rw [HST.out]; have := HE.out; omega]
    go_wp2_with fail
    refine (count_c st _ (by rw [HST.out]; have := HE.out; omega)).mono ?_
    rintro r w3 ⟨rfl, rfl⟩
    rw [show st % 1099511627776 = c by rw [HST.out]; have := HE.out; omega]
    go_wp2_with fail
    refine (lives_c _).mono ?_
    rintro r w4 ⟨rfl, hx⟩
    go_wp2_with fail
    go_ret
    exact ⟨rfl, hx.below⟩
  · have HE : Hid (16777215 < e ∨ 1099511627775 < c) := Lib.hid (by omega)
    obtain ⟨q, hq⟩ : ∃ q, q = s / 1099511627776 := ⟨_, rfl⟩
    obtain ⟨r, hr⟩ : ∃ q, q = s % 1099511627776 := ⟨_, rfl⟩
    have HQ := Lib.hid hq
    have HR := Lib.hid hr
    have t1 : IntKind.u64.wrap ((s : Int) / 1099511627776) = (q : Int) := by rw [IntKind.wrap_u64, hq]; have := HS.out; omega
    have t2 : (s : Int) % 1099511627776 = (r : Int) := by rw [hr]; omega
    by_cases h0 : 16777215 < e
    · have d1 : decide ((16777215 : Int) < (e : Int)) = true := by simp; omega
      clear hq hr h h0
      go_enter Try.func3, Try.ntmps3
      go_wp2_with fail
      refine (stamp_bad e c W HE.out).mono ?_
      rintro r w1 ⟨rfl, rfl⟩
      go_wp2_with fail
      refine (epoch_c s _).mono ?_
      rintro r w2 ⟨rfl, rfl⟩
      rw [← HQ.out]
      go_wp2_with fail
      refine (count_c s _ HS.out).mono ?_
      rintro r w3 ⟨rfl, rfl⟩
      rw [← HR.out]
      go_wp2_with fail
      refine (lives_c _).mono ?_
      rintro r w4 ⟨rfl, hx⟩
      go_wp2_with fail
      go_ret
      exact ⟨rfl, hx.below⟩
    · have d1 : decide ((16777215 : Int) < (e : Int)) = false := by simp; omega
      have d2 : decide ((1099511627775 : Int) < (c : Int)) = true := by simp; omega
      clear hq hr h h0
      go_enter Try.func3, Try.ntmps3
      go_wp2_with fail
      refine (stamp_bad e c W HE.out).mono ?_
      rintro r w1 ⟨rfl, rfl⟩
      go_wp2_with fail
      refine (epoch_c s _).mono ?_
      rintro r w2 ⟨rfl, rfl⟩
      rw [← HQ.out]
      go_wp2_with fail
      refine (count_c s _ HS.out).mono ?_
      rintro r w3 ⟨rfl, rfl⟩
      rw [← HR.out]
      go_wp2_with fail
      refine (lives_c _).mono ?_
      rintro r w4 ⟨rfl, hx⟩
      go_wp2_with fail
      go_ret
      exact ⟨rfl, hx.below⟩

end Go.Proofs.Ytcedfpckjdobpaa

/- As many bytes as bits need: the law BitsWhole, walked. -/
import Derived.Test.YtlfnpbpbgncbpaaB11
set_option linter.unusedVariables false
set_option linter.unusedSimpArgs false
namespace Go.Proofs.Ytlfnpbpbgncbpaa
open Go.RowKit

theorem val_false : ∀ n, val (List.replicate n false) = 0
  | 0 => rfl
  | n + 1 => by rw [List.replicate_succ, val_cons, val_false n]; simp
theorem endB_packed (l : List Bool) : endB (packed l) l.length = true := by
  obtain ⟨k, hk, e⟩ := bitsAll_packed _ l (Nat.le_refl _)
  have hlen := congrArg List.length e
  rw [bitsAll_length, List.length_append, List.length_replicate] at hlen
  unfold endB
  rw [decide_eq_true_eq]
  refine ⟨by omega, ?_⟩
  unfold bitsFrom
  rw [e, List.drop_append_of_le_length (Nat.le_refl _), List.drop_of_length_le (Nat.le_refl _), List.nil_append, show 8 * (packed l).length - l.length = k by omega, List.take_of_length_le (by simp)]
  exact val_false k
theorem val_one (l : List UInt8) (at' : Nat) : val (bitsFrom l at' 1) ≤ 1 := by
  have h := val_lt (bitsFrom l at' 1)
  have h2 : (bitsFrom l at' 1).length ≤ 1 := by unfold bitsFrom; rw [List.length_take]; omega
  have h3 : 2 ^ (bitsFrom l at' 1).length ≤ 2 ^ 1 := Nat.pow_le_pow_right (by decide) h2
  omega

theorem pw_mask {k m : Nat} (hm : m ≤ 20) (hk : k ≤ 60) : bits .and .u64 (k : Int) (IntKind.u64.wrap (IntKind.u64.wrap (2 ^ m) - 1)) = ((k % 2 ^ m : Nat) : Int) := by
  have h1 : 2 ^ m ≤ 2 ^ 20 := Nat.pow_le_pow_right (by decide) hm
  have h2 := Nat.two_pow_pos m
  have e : (2 ^ m : Int) = ((2 ^ m : Nat) : Int) := by push_cast; rfl
  rw [e, IntKind.wrap_u64, IntKind.wrap_u64, Int.emod_eq_of_lt (a := ((2 ^ m : Nat) : Int)) (by omega) (by omega), Int.emod_eq_of_lt (by omega) (by omega), show ((2 ^ m : Nat) : Int) - 1 = ((2 ^ m - 1 : Nat) : Int) by omega, u64_and_nat _ _ (by omega) (by omega), Nat.and_two_pow_sub_one_eq_mod]
theorem pw_len {n k : Nat} (h : (k : Int) ≤ 1200) (hn : n = (k + 7) / 8) : (((n : Int)) != ((k : Int) + 7) / 8) = false := by
  rw [bne_eq_false_iff_eq]; omega

set_option maxRecDepth 100000 in
set_option maxHeartbeats 4000000 in
theorem bitsWhole_calls (ao : Option Addr) (cap : Nat) (l : List Int) (W : World) (h : Is W (.slice ao l.length cap) l ∧ ∀ z ∈ l, -9223372036854775808 ≤ z ∧ z ≤ 9223372036854775807) :
    Calls Try.prog 5 #[.slice ao l.length cap] W fun e w' => e = .returned (.bool true) ∧ Below W.heap.size W w' := by
  obtain ⟨ao', cap', he, hc1, hc2, hc3, hcells⟩ := h.1.open
  simp only [Value.slice.injEq] at he
  obtain ⟨rfl, _, rfl⟩ := he
  clear h
  obtain ⟨n, hn⟩ : ∃ n, n = l.length := ⟨_, rfl⟩
  rw [← hn] at hc1 hcells ⊢
  have HN := Lib.hid hn
  have HCE := Lib.hid hcells
  have HC3 := Lib.hid hc3
  clear hn hcells hc3
  go_enter Try.func5, Try.ntmps5
  go_wp2_with fail
  refine (wnew_c W.heap.size W (Nat.le_refl _)).mono ?_
  rintro e w1 ⟨wb, rfl, hwb, hx1, h1⟩
  have HX1 := Lib.hid hx1
  have H1 := Lib.hid h1
  clear hx1 h1 hwb
  go_wp2_with fail
  go_loopw [3, 4, 5] (fun v a i wr => ∃ (k : Nat) (bl : List Bool), k ≤ n ∧ k ≤ 60 ∧ v = .pointer (some ⟨wb, 0, none⟩) ∧ a = .int .i64 (bl.length : Int) ∧ i = .int .i64 k ∧ bl.length ≤ 20 * k ∧ WrIs wr W.heap.size wb bl 0 ∧ Below W.heap.size W wr) (fun _ _ i _ => 60 - (intOf i).toNat)
  case atStart => exact ⟨0, [], Nat.zero_le _, by decide, rfl, rfl, rfl, by decide, H1.out, HX1.out.below⟩
  case round =>
    obtain ⟨k, bl, hk1, hk2, rfl, rfl, rfl, hbl, hw, hb⟩ := hrel
    have HW := Lib.hid hw
    have HB := Lib.hid hb
    have HBL := Lib.hid hbl
    clear hw hb hbl
    by_cases hlt : k < n ∧ k < 60
    · obtain ⟨hlt1, hlt2⟩ := hlt
      obtain ⟨a, rfl⟩ : ∃ a, ao = some a := by cases ao with | none => have := HC3.out rfl; omega | some a => exact ⟨a, rfl⟩
      have hcl := Below.cellw HB.out (HCE.out a rfl k hlt1)
      generalize l.getD k 0 = x at hcl
      obtain ⟨m, hm⟩ : ∃ m : Nat, clampI x 0 20 = m := Int.eq_ofNat_of_zero_le (by unfold clampI; split; decide; split; decide; omega)
      have hm20 : m ≤ 20 := by
        unfold clampI at hm
        split at hm
        · omega
        · split at hm <;> omega
      go_wp2_with fail
      refine (width_c x wr).mono ?_
      rintro e w2 ⟨rfl, rfl⟩
      rw [hm]
      clear hm
      go_wp2_with fail
      rw [pw_mask hm20 (by omega)]
      refine (put_ok wb W.heap.size bl (k % 2 ^ m) m wr HW.out (by omega) (Nat.mod_lt _ (Nat.two_pow_pos _)) (by have := HBL.out; omega)).mono ?_
      rintro e w2 ⟨rfl, h2, hm2⟩
      have H2 := Lib.hid h2
      have HB2 := Lib.hid (HB.out.trans (HW.out.below hm2))
      clear h2 hm2
      have hbi : (bl.length : Int) ≤ 1200 := by have := HBL.out; omega
      go_wp2_with fail
      go_roundw
      case rel => exact ⟨k + 1, bl ++ bitsOf (k % 2 ^ m) m, by omega, by omega, rfl, by rw [List.length_append, bitsOf_length]; go_num, by go_num, by have := HBL.out; rw [List.length_append, bitsOf_length]; omega, H2.out, HB2.out⟩
      case measure => simp [intOf]; omega
    · have hno : n ≤ k ∨ (k < n ∧ 60 ≤ k) := by omega
      have hbi : (bl.length : Int) ≤ 1200 := by have := HBL.out; omega
      obtain ⟨q, hq⟩ : ∃ q, q = bl.length := ⟨_, rfl⟩
      obtain ⟨p, hp⟩ : ∃ p, p = (packed bl).length := ⟨_, rfl⟩
      have hpq : p = (q + 7) / 8 := by rw [hp, hq, packed_length]
      have HQ := Lib.hid hq
      have HP := Lib.hid hp
      have HPQ := Lib.hid hpq
      rw [← hq] at hbi ⊢
      have hlen := pw_len hbi hpq
      have hd := done_ok wb W.heap.size bl wr HW.out (by omega)
      rw [← hp] at hd
      have HD := Lib.hid hd
      have hp8 : (p : Int) ≤ 151 := by omega
      clear hq hp hpq hd
      rcases hno with hno | ⟨hno, hno'⟩
      all_goals
        go_wp2_with fail
        refine HD.out.mono ?_
        rintro e w2 ⟨bo, bcap, rfl, hx2, hown⟩
        have HX2 := Lib.hid (HB.out.trans (hx2.below.mono HB.out.size))
        have HBS : Hid (Bs w2 (.slice bo p bcap) (packed bl)) := Lib.hid (by have := Rs.of_owns hown; unfold Bs; rw [← HP.out]; exact this)
        clear hx2 hown
        go_wp2_with fail
        have ho := ropen_c (.slice bo p bcap) (packed bl) w2 HBS.out (by rw [← HP.out]; omega)
        refine ho.mono ?_
        clear ho
        rintro e w3 ⟨rb, rfl, hrb, hx3, h3⟩
        obtain ⟨B2, hB2⟩ : ∃ B2, B2 = w2.heap.size := ⟨_, rfl⟩
        rw [← hB2] at h3
        have HWB : Hid (W.heap.size ≤ B2) := Lib.hid (by rw [hB2]; exact HX2.out.size)
        have HX3 := Lib.hid (HX2.out.trans (hx3.below.mono HX2.out.size))
        have H3 := Lib.hid h3
        clear hx3 h3 hrb hB2
        go_wp2_with fail
        go_loopw [10] (fun i wr => ∃ j : Nat, j ≤ q ∧ i = .int .i64 j ∧ RdIs wr B2 rb (packed bl) j 0 ∧ Below W.heap.size W wr) (fun i _ => q - (intOf i).toNat)
        case atStart => exact ⟨0, Nat.zero_le _, rfl, H3.out, HX3.out⟩
        case round =>
          obtain ⟨j, hj, rfl, hr, hb3⟩ := hrel
          have HR := Lib.hid hr
          have HB3 := Lib.hid hb3
          clear hr hb3
          have HJ : Hid (j ≤ 8 * (packed bl).length) := Lib.hid (by have := HPQ.out; rw [← HP.out]; omega)
          have HPL : Hid ((packed bl).length ≤ 140737488355328) := Lib.hid (by rw [← HP.out]; omega)
          by_cases hjq : j < q
          · have hl := rleft_c rb B2 (packed bl) j 0 _ HR.out HPL.out HJ.out
            rw [leftI_zero, ← HP.out] at hl
            have HLF := Lib.hid hl
            clear hl
            have hmul : IntKind.i64.wrap (8 * (p : Int)) = 8 * (p : Int) := by rw [IntKind.wrap_i64]; omega
            go_wp2_with fail
            refine HLF.out.mono ?_
            rintro e w4 ⟨rfl, nd, rfl⟩
            have hg := rget_ok rb B2 (packed bl) j 1 _ (HR.out.ext ((Ext.refl _).drewN nd)) (by decide) (by have := HPQ.out; rw [← HP.out]; omega) HPL.out
            have hv1 := val_one (packed bl) j
            generalize val (bitsFrom (packed bl) j 1) = v at hg hv1
            have HG := Lib.hid hg
            have hv : ((1 : Int) < (v : Int)) = False := eq_false (by omega)
            clear hg hv1
            go_wp2_with fail
            refine HG.out.mono ?_
            rintro e w5 ⟨rfl, h5, hm5⟩
            have H5 := Lib.hid h5
            have HB5 : Hid (Below W.heap.size W w5) := Lib.hid (HB3.out.trans ((((Ext.refl _).drewN nd).below.mono HB3.out.size).trans (((HR.out.ext ((Ext.refl _).drewN nd)).below hm5).mono HWB.out)))
            clear h5 hm5
            go_wp2_with fail
            go_roundw
            case rel => exact ⟨j + 1, by omega, by go_num, H5.out, HB5.out⟩
            case measure => simp [intOf]; omega
          · have hjq' : j = q := by omega
            have he : endI (packed bl) j 0 = 0 := by
              unfold endI
              rw [if_neg (by simp), hjq', HQ.out, endB_packed]; rfl
            have hend := rend_c rb B2 (packed bl) j 0 _ HR.out HPL.out HJ.out
            rw [he] at hend
            have HEND := Lib.hid hend
            clear he hend hjq'
            go_wp2_with fail
            refine HEND.out.mono ?_
            rintro e w4 ⟨rfl, hx4⟩
            have HX4 := Lib.hid (HB3.out.trans (hx4.below.mono HB3.out.size))
            clear hx4
            go_wp2_with fail
            refine (lives_c _).mono ?_
            rintro e w5 ⟨rfl, hx5⟩
            go_wp2
            go_ret
            exact ⟨rfl, HX4.out.trans (hx5.below.mono HX4.out.size)⟩

end Go.Proofs.Ytlfnpbpbgncbpaa

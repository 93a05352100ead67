/- The reference's Cut. -/
import Derived.Test.YtcedfpckjdobpaaL15
import Derived.IntWalk
set_option linter.unusedVariables false
set_option linter.unusedSimpArgs false
namespace Go.Proofs.Ytcedfpckjdobpaa
open Go.RowKit

set_option maxRecDepth 100000 in
set_option maxHeartbeats 8000000 in
theorem rcut_c (ep ct : Nat) (v : Value) (l : List UInt8) (w : World) (hv : Bs w v l) (hl : l.length ≤ 100000) (he : ep < 18446744073709551616) (hc : ct < 18446744073709551616) :
    Calls Try.prog 27 #[.int .u64 (ep : Int), .int .u64 (ct : Int), v] w fun r w' => ∃ vr, r = .returned (.tuple #[vr, .int .i64 (cutN ep ct l.length : Int)]) ∧ Ext w w' ∧ PRow w' w.heap.size 31 vr (cutL ep ct l) := by
  have hv0 := hv
  obtain ⟨ao, cap, rfl, r1, r2, r3, r4⟩ := hv.open
  obtain ⟨m, hm⟩ : ∃ x, x = l.length := ⟨_, rfl⟩
  rw [← hm] at r1 hl hv0 ⊢
  obtain ⟨N, hN⟩ : ∃ x, x = cntN m := ⟨_, rfl⟩
  have HM := Lib.hid hm
  have HN := Lib.hid hN
  have HV := Lib.hid hv0
  have R3 := Lib.hid r3
  have hN1 : 1 ≤ N := by rw [hN]; exact cntN_pos m
  have hN2 : N ≤ 1000 := by have := cntN_le m; omega
  have hcase : cutN ep ct m = (if 16777215 < ep ∨ 1099511627775 < ct ∨ 1099511627775 - ct < N - 1 then 2 else if 8192 < m then 5 else 0) := by rw [hN]; rfl
  have hlist : cutL ep ct l = if cutN ep ct m = 0 then (List.range N).map (cutP ep ct N l) else [] := by rw [hN, hm]; rfl
  have HNL : Hid (m ≤ N * 106 ∧ (N = 1 ∨ (N - 1) * 106 < m)) := Lib.hid (by
    have h : N = Nat.max ((m + 105) / 106) 1 := hN
    rcases Nat.le_total ((m + 105) / 106) 1 with h1 | h1
    · rw [show Nat.max ((m + 105) / 106) 1 = 1 from Nat.max_eq_right h1] at h; omega
    · rw [show Nat.max ((m + 105) / 106) 1 = (m + 105) / 106 from Nat.max_eq_left h1] at h; omega)
  clear hv hv0 r3 r4 hm hN
  by_cases ha : 16777215 < ep ∨ 1099511627775 < ct ∨ 1099511627775 - ct < N - 1
  · rw [if_pos ha] at hcase
    rw [hcase] at hlist
    rw [hcase, hlist, if_neg (by decide)]
    clear hcase hlist
    have hd : decide ((16777215 : Int) < (ep : Int)) = true ∨ (decide ((16777215 : Int) < (ep : Int)) = false ∧ decide ((1099511627775 : Int) < (ct : Int)) = true) ∨ (decide ((16777215 : Int) < (ep : Int)) = false ∧ decide ((1099511627775 : Int) < (ct : Int)) = false ∧ (ct : Int) ≤ 1099511627775 ∧ decide ((1099511627775 : Int) - (ct : Int) < (N : Int) - 1) = true) := by
      simp only [decide_eq_true_eq, decide_eq_false_iff_not]; omega
    clear ha
    rcases hd with d1 | ⟨d1, d2⟩ | ⟨d1, d2, d3, d4⟩
    all_goals
      go_enter Try.func27, Try.ntmps27
      go_wp2_with fail
      go_loopw [8] (fun x wr => ∃ k : Nat, 1 ≤ k ∧ k ≤ N ∧ x = .int .i64 k ∧ wr = w ∧ Hid (k = 1 ∨ (k - 1) * 106 < m)) (fun x _ => N - (intOf x).toNat)
      case atStart => exact ⟨1, by omega, hN1, rfl, rfl, Lib.hid (.inl rfl)⟩
      case round =>
        obtain ⟨x, hx1, hx2, rfl, rfl, HX⟩ := hrel
        by_cases hlt : x * 106 < m
        · have hxN : x + 1 ≤ N := by have := HNL.out; omega
          have hti : (x : Int) * 106 < (m : Int) := by omega
          go_wp2_with fail
          go_roundw
          case rel => exact ⟨x + 1, by omega, by omega, by go_num, by first | rfl | trivial, Lib.hid (.inr (by omega))⟩
          case measure => simp [intOf]; omega
        · obtain rfl : N = x := by have := HNL.out; have := HX.out; omega
          have hti : (m : Int) ≤ (N : Int) * 106 := by omega
          rename World => w
          go_wp2_with fail
          exact bodyPost_ret (v := .tuple #[.slice none 0 0, .int .i64 2]) (by simp [results, Try.results27, go_sem]) rfl ⟨_, rfl, Ext.refl w, PRow.nil _ _ _⟩
  · rw [if_neg ha] at hcase
    have d1 : decide ((16777215 : Int) < (ep : Int)) = false := by simp; omega
    have d2 : decide ((1099511627775 : Int) < (ct : Int)) = false := by simp; omega
    have d3 : (ct : Int) ≤ 1099511627775 := by omega
    have d4 : decide ((1099511627775 : Int) - (ct : Int) < (N : Int) - 1) = false := by simp; omega
    by_cases hb : 8192 < m
    · rw [if_pos hb] at hcase
      rw [hcase] at hlist
      rw [hcase, hlist, if_neg (by decide)]
      have d5 : decide ((8192 : Int) < (m : Int)) = true := by simp; omega
      clear hcase hlist hb ha
      go_enter Try.func27, Try.ntmps27
      go_wp2_with fail
      go_loopw [8] (fun x wr => ∃ k : Nat, 1 ≤ k ∧ k ≤ N ∧ x = .int .i64 k ∧ wr = w ∧ Hid (k = 1 ∨ (k - 1) * 106 < m)) (fun x _ => N - (intOf x).toNat)
      case atStart => exact ⟨1, by omega, hN1, rfl, rfl, Lib.hid (.inl rfl)⟩
      case round =>
        obtain ⟨x, hx1, hx2, rfl, rfl, HX⟩ := hrel
        by_cases hlt : x * 106 < m
        · have hxN : x + 1 ≤ N := by have := HNL.out; omega
          have hti : (x : Int) * 106 < (m : Int) := by omega
          go_wp2_with fail
          go_roundw
          case rel => exact ⟨x + 1, by omega, by omega, by go_num, by first | rfl | trivial, Lib.hid (.inr (by omega))⟩
          case measure => simp [intOf]; omega
        · obtain rfl : N = x := by have := HNL.out; have := HX.out; omega
          have hti : (m : Int) ≤ (N : Int) * 106 := by omega
          rename World => w
          go_wp2_with fail
          exact bodyPost_ret (v := .tuple #[.slice none 0 0, .int .i64 5]) (by simp [results, Try.results27, go_sem]) rfl ⟨_, rfl, Ext.refl w, PRow.nil _ _ _⟩
    · rw [if_neg hb] at hcase
      rw [hcase] at hlist
      rw [hcase, hlist, if_pos rfl]
      have d5 : decide ((8192 : Int) < (m : Int)) = false := by simp; omega
      have hm8 : m ≤ 8192 := by omega
      have hN80 : N ≤ 100 := by have := cntN_le m; have := HN.out; omega
      have hcn : ct + N ≤ 1099511627776 := by omega
      clear hcase hlist hb ha
      go_enter Try.func27, Try.ntmps27
      go_wp2_with fail
      go_loopw [8] (fun x wr => ∃ k : Nat, 1 ≤ k ∧ k ≤ N ∧ x = .int .i64 k ∧ wr = w ∧ Hid (k = 1 ∨ (k - 1) * 106 < m)) (fun x _ => N - (intOf x).toNat)
      case atStart => exact ⟨1, by omega, hN1, rfl, rfl, Lib.hid (.inl rfl)⟩
      case round =>
        obtain ⟨x, hx1, hx2, rfl, rfl, HX⟩ := hrel
        by_cases hlt : x * 106 < m
        · have hxN : x + 1 ≤ N := by have := HNL.out; omega
          have hti : (x : Int) * 106 < (m : Int) := by omega
          go_wp2_with fail
          go_roundw
          case rel => exact ⟨x + 1, by omega, by omega, by go_num, by first | rfl | trivial, Lib.hid (.inr (by omega))⟩
          case measure => simp [intOf]; omega
        · obtain rfl : N = x := by have := HNL.out; have := HX.out; omega
          have hti : (m : Int) ≤ (N : Int) * 106 := by omega
          rename World => w
          go_wp2_with fail
          go_loopw [10, 9, 2] (fun i o b wr => ∃ j : Nat, j ≤ N ∧ i = .int .i64 j ∧ ∃ bao bcap q, b = .slice bao q bcap ∧ Hid (Ext w wr ∧ q = (l.drop (106 * j)).length ∧ Bs w (.slice bao q bcap) (l.drop (106 * j)) ∧ PRow wr w.heap.size 31 o ((List.range j).map (cutP ep ct N l)))) (fun i _ _ _ => N - (intOf i).toNat)
          case atStart => exact ⟨0, by omega, rfl, ao, cap, m, rfl, Lib.hid ⟨Ext.refl _, HM.out, HV.out, PRow.nil _ _ _⟩⟩
          case round =>
            obtain ⟨j, hj, rfl, bao, bcap, q, rfl, HR⟩ := hrel
            by_cases hlt : j < N
            · obtain ⟨hxw, hq, hbs, vs, hvs, ⟨oao, ocap, hsh⟩, h3, h4⟩ := HR.out
              rw [List.length_map, List.length_range] at hsh h3
              subst hsh
              have hbs0 := hbs
              obtain ⟨bao', bcap', hb1, hb2, hb3, hb4, _⟩ := hbs.open
              simp only [Value.slice.injEq] at hb1
              obtain ⟨rfl, -, rfl⟩ := hb1
              rw [← hq] at hb2
              obtain ⟨k, hk⟩ : ∃ k, k = Nat.min q 106 := ⟨_, rfl⟩
              have hkq : k ≤ q := by rw [hk]; exact Nat.min_le_left _ _
              have hk106 : k ≤ 106 := by rw [hk]; exact Nat.min_le_right _ _
              obtain ⟨dl, hdl⟩ : ∃ x, x = (l.drop (106 * j)).take 106 := ⟨_, rfl⟩
              have hdk : dl.length = k := by rw [hdl, List.length_take, ← hq, hk, Nat.min_comm]
              have hbt : Bs w (.slice bao k bcap) dl := by
                have h := Bs.take (k := k) hbs0 hkq
                have e : (l.drop (106 * j)).take k = dl := by
                  rw [hdl]
                  by_cases h6 : q ≤ 106
                  · rw [List.take_of_length_le (by rw [← hq, hk]; exact Nat.le_of_eq (Nat.min_eq_left h6).symm), List.take_of_length_le (by rw [← hq]; exact h6)]
                  · rw [show k = 106 by rw [hk]; exact Nat.min_eq_right (by omega)]
                rw [e] at h
                exact h
              have HBT := Lib.hid hbt
              have HDK := Lib.hid hdk
              have HDL := Lib.hid hdl
              have HBS := Lib.hid hbs0
              have HBW : Hid (Bs w (.slice bao q bcap) (l.drop (106 * j))) := Lib.hid hbs0
              have HQ4 := Lib.hid hq
              have HVS := Lib.hid hvs
              have H3 := Lib.hid h3
              have H4 := Lib.hid h4
              have HXW := Lib.hid hxw
              have HK := Lib.hid hk
              have HB4 := Lib.hid hb4
              clear hq hbs hbs0 hvs h3 h4 hxw hk hb4 hdl hdk hbt HR
              go_upto_region 12 with fail
              go_wp2_with fail
              refine (cut_c _ (l.drop (106 * j)) 106 (by decide) (by decide) wr (HBW.out.ext HXW.out)).mono ?_
              rintro e w1 ⟨cao, ccap, rfl, rfl, hcb, _⟩
              rw [show (106 : Int).toNat = 106 from rfl, ← HDL.out, HDK.out] at hcb ⊢
              have HCB := Lib.hid hcb
              clear hcb
              rename World => wr
              go_wp2_with fail
              refine (copy_c _ dl wr HCB.out (by have := HDK.out; omega)).mono ?_
              rintro e w2 ⟨dao, dcap, rfl, hx2, ho2⟩
              rw [HDK.out] at ho2 ⊢
              have HX2 := Lib.hid hx2
              have HO2 := Lib.hid ho2
              clear hx2 ho2
              go_upto_region 14 with (first
                | (at_builtin; refine wpList_app rfl (.tmp 43) (.tmp 58) 57 rfl etRPc w.heap.size rfl (owns_ext (owns_ext H3.out HX2.out) ((Ext.refl _).alloc _)) rfl (Rs.of_owns (owns_lit (w := w2) (B := 0) (n := 1) (size := 5) rfl (Nat.zero_le _) (by decide))) (by simp [Value.oneCell']) (by omega) (by omega) (by have := HXW.out.size; have := HX2.out.size; simp; omega) ?_; intro v' w4 ho hg _)
                | fail)
              have hx4 : Ext w w4 := ((HXW.out.trans HX2.out).alloc _).grown hg (fun i hi => (owns_block H3.out hi).1)
              have hx2w := HXW.out.size
              have hp4 : PRow w4 w.heap.size 31 v' ((List.range (j + 1)).map (cutP ep ct N l)) := by
                rw [List.range_succ, List.map_append, List.map_cons, List.map_nil]
                have hcd : (cutP ep ct N l j).d = dl := HDL.out.symm
                refine PRow.push (vs := vs) (dao := dao) (dcap := dcap) HVS.out (owns_ext (owns_ext H3.out HX2.out) ((Ext.refl _).alloc _)) (fun d hd => ⟨(H4.out d hd).1, owns_ext (owns_ext (H4.out d hd).2 HX2.out) ((Ext.refl _).alloc _)⟩) (by decide) ?_ (by rw [List.length_map, List.length_range]) ?_ hg
                · rw [hcd, HDK.out]
                  exact owns_base (owns_ext HO2.out ((Ext.refl _).alloc _)) hx2w
                · rw [hcd, HDK.out, ← cutP_cells ep ct N j l _ hN1]
                  exact ho
              have HX4 := Lib.hid hx4
              have HP4 := Lib.hid hp4
              clear ho hg hx4 hp4 hx2w
              have hdr : l.drop (106 * (j + 1)) = (l.drop (106 * j)).drop k := by
                rw [List.drop_drop, HK.out]
                by_cases h6 : q ≤ 106
                · have h7 := HQ4.out
                  rw [List.length_drop] at h7
                  rw [List.drop_of_length_le (by omega), List.drop_of_length_le (by rw [show Nat.min q 106 = q from Nat.min_eq_left h6]; omega)]
                · rw [show Nat.min q 106 = 106 from Nat.min_eq_right (by omega), show 106 * (j + 1) = 106 * j + 106 by omega]
              have HDR := Lib.hid hdr
              clear hdr
              cases bao with
              | none =>
                have hc0 := HB4.out rfl
                subst hc0
                obtain rfl : k = 0 := by omega
                obtain rfl : q = 0 := by omega
                go_wp2_with fail
                go_roundw
                case rel =>
                  have hnil : l.drop (106 * (j + 1)) = [] := by
                    rw [HDR.out, List.drop_zero]
                    exact List.eq_nil_of_length_eq_zero HQ4.out.symm
                  exact ⟨j + 1, by omega, by go_num, none, 0, 0, rfl, Lib.hid ⟨HX4.out, by rw [hnil]; rfl, by rw [hnil]; exact Bs.nil _, HP4.out⟩⟩
                case measure => simp [intOf]; omega
              | some ba =>
                go_wp2_with fail
                go_roundw
                case rel =>
                  have hlen : (l.drop (106 * (j + 1))).length = q - k := by rw [HDR.out, List.length_drop, ← HQ4.out]
                  refine ⟨j + 1, by omega, by go_num, _, _, _, rfl, Lib.hid ⟨HX4.out, hlen.symm, ?_, HP4.out⟩⟩
                  have h := Bs.sub HBS.out (k := k) (m := q) hkq (Nat.le_refl _) (ao' := if bcap = k then some ba else some (ba.add k)) (cap' := bcap - k) (by omega) (by omega) (by split <;> (intro h; cases h)) (fun a' ha hlt => ⟨ba, rfl, by rw [if_neg (by omega)] at ha; cases ha; rfl⟩)
                  rw [← HDR.out, List.take_of_length_le (by rw [hlen]; exact Nat.le_refl _)] at h
                  exact h
                case measure => simp [intOf]; omega
            · have : j = N := by omega
              subst this
              go_wp2_with fail
              exact bodyPost_ret (by simp [results, Try.results27, go_sem]) rfl ⟨_, rfl, HR.out.1, HR.out.2.2.2⟩

end Go.Proofs.Ytcedfpckjdobpaa

/- Which pieces any record has: the law's walk. -/
import Derived.Test.YtcedfpckjdobpaaL16
set_option linter.unusedVariables false
set_option linter.unusedSimpArgs false
namespace Go.Proofs.Ytcedfpckjdobpaa
open Go.RowKit

theorem PRow.le {w : World} {B : Nat} {e : TypeId} {v : Value} {ps : List Pc} (h : PRow w B e v ps) : ps.length ≤ 9223372036854775807 := by
  obtain ⟨vs, h1, h2, h3, h4⟩ := h
  obtain ⟨ao, cap, _, q1, q2, _⟩ := (Rs.of_owns h3).open
  exact Nat.le_trans q1 q2

set_option maxRecDepth 100000 in
set_option maxHeartbeats 8000000 in
theorem lapCuts_walk (ep0 ct0 : Nat) (b0 : List UInt8) (v : Value) (n : Int) (W : World) (hv : Bs W v b0) (he : ep0 < 18446744073709551616) (hc : ct0 < 18446744073709551616) (hn : -9223372036854775808 ≤ n ∧ n ≤ 9223372036854775807) :
    Calls Try.prog 7 #[.int .u64 (ep0 : Int), .int .u64 (ct0 : Int), v, .int .i64 n] W fun e w' => e = .returned (.bool true) ∧ Below W.heap.size W w' := by
  have hv0 := hv
  obtain ⟨vao, vcap, rfl, _⟩ := hv.open
  have HV0 := Lib.hid hv0
  have HEC := Lib.hid (And.intro he hc)
  have HN := Lib.hid hn
  have HLV := fun w => lives_c w
  have HL := Lib.hid HLV
  clear hv hv0 HLV he hc hn
  go_enter Try.func7, Try.ntmps7
  go_wp2_with fail
  refine (cut_c _ b0 400 (by decide) (by decide) W HV0.out).mono ?_
  rintro e w1 ⟨bo, bcap, rfl, rfl, hb, _⟩
  rename World => W
  obtain ⟨q, hq⟩ : ∃ q, q = (b0.take (400 : Int).toNat).length := ⟨_, rfl⟩
  have HQ : Hid (q ≤ 400 ∧ q = (b0.take (400 : Int).toNat).length) := Lib.hid ⟨by rw [hq, List.length_take]; exact Nat.min_le_left _ _, hq⟩
  rw [← hq] at hb ⊢
  have HB := Lib.hid hb
  clear hb hq
  go_upto_region 2 with fail
  go_cut [21] (fun c wx => ∃ b, c = .bool b ∧ wx = W ∧ Hid (b = true → 8000 < n ∧ n < 8400))
  case first =>
    have hd : decide ((8000 : Int) < n) = false ∨ (decide ((8000 : Int) < n) = true ∧ decide (n < 8400) = false) ∨ (decide ((8000 : Int) < n) = true ∧ decide (n < 8400) = true) := by
      simp only [decide_eq_true_eq, decide_eq_false_iff_not]; omega
    rcases hd with d1 | ⟨d1, d2⟩ | ⟨d1, d2⟩
    · go_wp2_with fail
      go_meet
      case rel => exact ⟨false, rfl, rfl, Lib.hid (fun h => by cases h)⟩
    · go_wp2_with fail
      go_meet
      case rel => exact ⟨false, rfl, rfl, Lib.hid (fun h => by cases h)⟩
    · have HD := Lib.hid (And.intro (of_decide_eq_true d1) (of_decide_eq_true d2))
      go_wp2_with fail
      go_meet
      case rel => exact ⟨true, rfl, rfl, Lib.hid (fun _ => HD.out)⟩
  case rest =>
  obtain ⟨b, rfl, rfl, HBN⟩ := hcut
  rename World => W
  go_upto_if 21 with fail
  go_cut [2] (fun s2 wx => ∃ bl : List UInt8, ∃ bao bcp r, s2 = .slice bao r bcp ∧ Hid (Ext W wx ∧ r = bl.length ∧ Bs wx (.slice bao r bcp) bl ∧ r ≤ 10000))
  case first =>
    cases b with
    | false =>
      go_wp2_with fail
      go_meet
      case rel => exact ⟨_, bo, bcap, q, rfl, Lib.hid ⟨Ext.refl _, HQ.out.2, HB.out, by have := HQ.out.1; omega⟩⟩
    | true =>
      obtain ⟨n, rfl⟩ := Int.eq_ofNat_of_zero_le (show 0 ≤ n by have := HBN.out rfl; omega)
      obtain ⟨w2, hr, ho, hx2⟩ := make_bytes n (by have := HBN.out rfl; omega) W
      have HR : Hid (Ext W w2 ∧ n = (List.replicate n (0 : UInt8)).length ∧ Bs w2 (.slice (some ⟨W.heap.size, 0, none⟩) n n) (List.replicate n 0) ∧ n ≤ 10000) := Lib.hid ⟨hx2, by simp, by have h := Rs.of_owns ho; unfold Bs; rw [List.length_replicate]; exact h, by have := HBN.out rfl; omega⟩
      clear ho hx2
      go_wp2_with fail
      go_meet
      case rel => exact ⟨_, _, _, _, rfl, HR⟩
  case rest =>
  obtain ⟨bl, bao, bcp, r, rfl, HR⟩ := hcut
  rename World => w1
  go_wp2_with fail
  have hs := lcut_c ep0 ct0 (.slice bao r bcp) bl w1 HR.out.2.2.1 (by have := HR.out; omega) HEC.out.1 HEC.out.2
  refine hs.mono ?_
  rintro e w2 ⟨vl, rfl, hx2, hp2⟩
  obtain ⟨K, hK⟩ : ∃ x, x = cutN ep0 ct0 bl.length := ⟨_, rfl⟩
  obtain ⟨PL, hPL⟩ : ∃ x, x = cutL ep0 ct0 bl := ⟨_, rfl⟩
  obtain ⟨L, hL⟩ : ∃ x, x = PL.length := ⟨_, rfl⟩
  rw [← hPL] at hp2
  obtain ⟨lao, lcap, hsh⟩ := hp2.shape
  rw [← hL] at hsh
  subst hsh
  rw [← hK]
  have HX2 := Lib.hid hx2
  have HP2 := Lib.hid hp2
  have HPL := Lib.hid (And.intro hPL (And.intro hK hL))
  clear hs hx2 hp2 hPL hK hL
  go_wp2_with fail
  have hs := rcut_c ep0 ct0 (.slice bao r bcp) bl w2 (HR.out.2.2.1.ext HX2.out) (by have := HR.out; omega) HEC.out.1 HEC.out.2
  refine hs.mono ?_
  rintro e w3 ⟨vm, rfl, hx3, hp3⟩
  rw [← HPL.out.1] at hp3
  rw [← HPL.out.2.1]
  obtain ⟨mao, mcap, hsh⟩ := hp3.shape
  rw [← HPL.out.2.2] at hsh
  subst hsh
  have HX3 : Hid (Ext W w3) := Lib.hid (HR.out.1.trans (HX2.out.trans hx3))
  have HP3 := Lib.hid (HP2.out.ext hx3)
  have HQ3 := Lib.hid hp3
  clear hs hx3 hp3
  go_wp2_with fail
  have hLb : L ≤ 9223372036854775807 := by rw [HPL.out.2.2]; exact HQ3.out.le
  go_loopw [13] (fun i wr => ∃ j : Nat, j ≤ L ∧ i = .int .i64 j ∧ Hid (Ext w3 wr)) (fun i _ => L - (intOf i).toNat)
  case atStart => exact ⟨0, by omega, rfl, Lib.hid (Ext.refl _)⟩
  case round =>
    obtain ⟨i, hj, rfl, HR4⟩ := hrel
    by_cases hlt : i < L
    · obtain ⟨p, hp⟩ : ∃ p, PL[i]? = some p := ⟨_, List.getElem?_eq_getElem (by rw [← HPL.out.2.2]; exact hlt)⟩
      obtain ⟨g1, d1, k1, rfl, _, _, hb1, _, hc1⟩ := (HP3.out.ext HR4.out).at hp
      obtain ⟨g2, d2, k2, rfl, _, _, hb2, _, hc2⟩ := (HQ3.out.ext HR4.out).at hp
      obtain ⟨ep, ct, fi, la, pd⟩ := p
      simp only at hb1 hb2 hc1 hc2
      obtain ⟨m, hm⟩ : ∃ x, x = pd.length := ⟨_, rfl⟩
      rw [← hm] at hb1 hb2 hc1 hc2
      have p0 : wr.cell? ⟨g1, i * 5, none⟩ = some (.int .u64 (ep : Int)) := hc1 0 (by decide)
      have p1 : wr.cell? ⟨g1, i * 5 + 1, none⟩ = some (.int .u64 (ct : Int)) := hc1 1 (by decide)
      have p2 : wr.cell? ⟨g1, i * 5 + 2, none⟩ = some (.bool fi) := hc1 2 (by decide)
      have p3 : wr.cell? ⟨g1, i * 5 + 3, none⟩ = some (.bool la) := hc1 3 (by decide)
      have p4 : wr.cell? ⟨g1, i * 5 + 4, none⟩ = some (.slice d1 m k1) := hc1 4 (by decide)
      have q0 : wr.cell? ⟨g2, i * 5, none⟩ = some (.int .u64 (ep : Int)) := hc2 0 (by decide)
      have q1 : wr.cell? ⟨g2, i * 5 + 1, none⟩ = some (.int .u64 (ct : Int)) := hc2 1 (by decide)
      have q2 : wr.cell? ⟨g2, i * 5 + 2, none⟩ = some (.bool fi) := hc2 2 (by decide)
      have q3 : wr.cell? ⟨g2, i * 5 + 3, none⟩ = some (.bool la) := hc2 3 (by decide)
      have q4 : wr.cell? ⟨g2, i * 5 + 4, none⟩ = some (.slice d2 m k2) := hc2 4 (by decide)
      have HPD := Lib.hid hb1
      have HQD := Lib.hid hb2
      have hi1 : (0 : Int) ≤ (i : Int) := by omega
      have hi2 : (i : Int) < (L : Int) := by omega
      have HLT := Lib.hid hlt
      clear hp hb1 hb2 hc1 hc2 hm
      go_wp2_with fail
      refine wp_region_rx 11 _
        [ex (.slice (some ⟨g1, 0, none⟩) L lcap),
          ex (.int .i64 (i : Int)),
          ex (.pointer (some ⟨g1, i * 5, none⟩)),
          ex (.agg #[.int .u64 (ep : Int), .int .u64 (ct : Int), .bool fi, .bool la, .slice d1 m k1]),
          ex (.agg #[.int .u64 (ep : Int), .int .u64 (ct : Int), .bool fi, .bool la, .slice d1 m k1]),
          ex (.slice (some ⟨g2, 0, none⟩) L mcap),
          ex (.int .i64 (i : Int)),
          ex (.pointer (some ⟨g2, i * 5, none⟩)),
          ex (.agg #[.int .u64 (ep : Int), .int .u64 (ct : Int), .bool fi, .bool la, .slice d2 m k2]),
          ex (.bool true),
          ex (.bool false)]
        (by kernel_rfl) (by kernel_rfl) (by kernel_rfl) rfl ⟨ex_st, ex_st, ex_st, ex_st, ex_st, ex_st, ex_st, ex_st, ex_st, ex_st, ex_st, trivial⟩ ?_ ?_
      · simp only [List.take_succ_cons, List.take_zero]
        go_tidy
        refine RhOps.mk (RhOp.moveA (by decide) (.free rfl) 9 (fun _ w _ => Ext.refl w) rfl rfl (.slice (some ⟨g1, 0, none⟩) L lcap) rfl (fun _ _ _ => rfl)) ?_
        refine RhOps.mk (RhOp.moveA (by decide) (.free rfl) 13 (fun _ w _ => Ext.refl w) rfl rfl (.int .i64 (i : Int)) rfl (fun _ _ _ => rfl)) ?_
        refine RhOps.mk (RhOp.at (by decide) (.free rfl) ?_) ?_
        rotate_left
        refine RhOps.mk (RhOp.at (by decide) (.free rfl) ?_) ?_
        rotate_left
        refine RhOps.mk (RhOp.at (by decide) (.free rfl) ?_) ?_
        rotate_left
        refine RhOps.mk (RhOp.moveA (by decide) (.free rfl) 11 (fun _ w _ => Ext.refl w) rfl rfl (.slice (some ⟨g2, 0, none⟩) L mcap) rfl (fun _ _ _ => rfl)) ?_
        refine RhOps.mk (RhOp.moveA (by decide) (.free rfl) 13 (fun _ w _ => Ext.refl w) rfl rfl (.int .i64 (i : Int)) rfl (fun _ _ _ => rfl)) ?_
        refine RhOps.mk (RhOp.at (by decide) (.free rfl) ?_) ?_
        rotate_left
        refine RhOps.mk (RhOp.at (by decide) (.free rfl) ?_) ?_
        rotate_left
        refine RhOps.mk (RhOp.at (by decide) (.free rfl) ?_) ?_
        rotate_left
        refine RhOps.mk (RhOp.at (by decide) (.free rfl) ?_) ?_
        rotate_left
        exact RhOps.done
        · intro bb vals ρ w' hC hd hS
          have r54 : ρ (.tmp 54) = .slice (some ⟨g1, 0, none⟩) L lcap := (hS.tmp 54).trans (hd.at 0 rfl)
          have r55 : ρ (.tmp 55) = .int .i64 (i : Int) := (hS.tmp 55).trans (hd.at 1 rfl)
          refine (show givesR _ _ _ _ (fun v w'' => Ext w' w'' ∧ v = .pointer (some ⟨g1, i * 5, none⟩)) from ?_)
          clear hC hd hS
          go_simp
          exact Ext.refl _
        · intro bb vals ρ w' hC hd hS
          have r56 : ρ (.tmp 56) = .pointer (some ⟨g1, i * 5, none⟩) := (hS.tmp 56).trans (hd.at 2 rfl)
          refine (show givesR _ _ _ _ (fun v w'' => Ext w' w'' ∧ v = .agg #[.int .u64 (ep : Int), .int .u64 (ct : Int), .bool fi, .bool la, .slice d1 m k1]) from ?_)
          have q0 := hC.cell p0
          have q1 := hC.cell p1
          have q2 := hC.cell p2
          have q3 := hC.cell p3
          have q4 := hC.cell p4
          clear hC hd hS
          go_simp
          exact Ext.refl _
        · intro bb vals ρ w' hC hd hS
          have r57 : ρ (.tmp 57) = .agg #[.int .u64 (ep : Int), .int .u64 (ct : Int), .bool fi, .bool la, .slice d1 m k1] := (hS.tmp 57).trans (hd.at 3 rfl)
          have rf := hS.func
          refine (show givesR _ _ _ _ (fun v w'' => Ext w' w'' ∧ v = .agg #[.int .u64 (ep : Int), .int .u64 (ct : Int), .bool fi, .bool la, .slice d1 m k1]) from ?_)
          clear hC hd hS
          go_simp
          refine (plain_c _ _ _ _ _ _ _ w').mono ?_
          rintro e w'' ⟨rfl, hx⟩
          exact ⟨rfl, hx⟩
        · intro bb vals ρ w' hC hd hS
          have r59 : ρ (.tmp 59) = .slice (some ⟨g2, 0, none⟩) L mcap := (hS.tmp 59).trans (hd.at 5 rfl)
          have r60 : ρ (.tmp 60) = .int .i64 (i : Int) := (hS.tmp 60).trans (hd.at 6 rfl)
          refine (show givesR _ _ _ _ (fun v w'' => Ext w' w'' ∧ v = .pointer (some ⟨g2, i * 5, none⟩)) from ?_)
          clear hC hd hS
          go_simp
          exact Ext.refl _
        · intro bb vals ρ w' hC hd hS
          have r61 : ρ (.tmp 61) = .pointer (some ⟨g2, i * 5, none⟩) := (hS.tmp 61).trans (hd.at 7 rfl)
          refine (show givesR _ _ _ _ (fun v w'' => Ext w' w'' ∧ v = .agg #[.int .u64 (ep : Int), .int .u64 (ct : Int), .bool fi, .bool la, .slice d2 m k2]) from ?_)
          have q0 := hC.cell q0
          have q1 := hC.cell q1
          have q2 := hC.cell q2
          have q3 := hC.cell q3
          have q4 := hC.cell q4
          clear hC hd hS
          go_simp
          exact Ext.refl _
        · intro bb vals ρ w' hC hd hS
          have r58 : ρ (.tmp 58) = .agg #[.int .u64 (ep : Int), .int .u64 (ct : Int), .bool fi, .bool la, .slice d1 m k1] := (hS.tmp 58).trans (hd.at 4 rfl)
          have r62 : ρ (.tmp 62) = .agg #[.int .u64 (ep : Int), .int .u64 (ct : Int), .bool fi, .bool la, .slice d2 m k2] := (hS.tmp 62).trans (hd.at 8 rfl)
          have rf := hS.func
          refine (show givesR _ _ _ _ (fun v w'' => Ext w' w'' ∧ v = .bool true) from ?_)
          have h1 := HPD.out.ext hC
          have h2 := HQD.out.ext hC
          have H1' := Lib.hid h1
          have H2' := Lib.hid h2
          clear hC hd hS h1 h2
          go_simp
          refine (psame_c _ _ _ _ _ _ pd w' H1'.out H2'.out).mono ?_
          rintro e w'' ⟨rfl, hx⟩
          exact ⟨rfl, hx⟩
        · intro bb vals ρ w' hC hd hS
          have r63 : ρ (.tmp 63) = .bool true := (hS.tmp 63).trans (hd.at 9 rfl)
          refine (show givesR _ _ _ _ (fun v w'' => Ext w' w'' ∧ v = .bool false) from ?_)
          clear hC hd hS
          go_simp
          exact Ext.refl _
      intro vals w' hC hV
      have e10 := hV 10 (by decide)
      simp only [vlist, ex, List.getD_cons_zero, List.getD_cons_succ] at e10
      have HC' := Lib.hid hC; clear hC hV
      simp only [List.drop_succ_cons, List.drop_zero]
      go_simp -- the frame
      go_wp2_with fail
      go_roundw
      case rel => exact ⟨i + 1, HLT.out, by go_num, Lib.hid (HR4.out.trans HC'.out)⟩
      case measure => have := HLT.out; simp [intOf]; omega
    · obtain rfl : i = L := by omega
      go_wp2_with fail
      refine (HL.out wr).mono ?_
      rintro e w5 ⟨rfl, hx5⟩
      have HX5 := Lib.hid (HX3.out.trans (HR4.out.trans hx5))
      clear hx5
      go_wp2_with fail
      go_ret
      exact ⟨rfl, HX5.out.below⟩

end Go.Proofs.Ytcedfpckjdobpaa

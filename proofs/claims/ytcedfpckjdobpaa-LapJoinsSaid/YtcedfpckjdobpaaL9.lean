/- Torn between two: the law's walk. -/
import Derived.Test.YtcedfpckjdobpaaL8
set_option linter.unusedVariables false
set_option linter.unusedSimpArgs false
namespace Go.Proofs.Ytcedfpckjdobpaa
open Go.RowKit

theorem cut_ok {p : Pc} : p.cut.ep = p.ep ∧ p.cut.ct = p.ct := ⟨rfl, rfl⟩

theorem seal_c (p : Pc) (v : Value) (w : World) (hv : Bs w v p.d) :
    Calls Try.prog 13 #[p.agg v] w fun r w' => Ext w w' ∧ ((p.ok ∧ ∃ g, r = .returned (.tuple #[.slice (some ⟨g, 0, none⟩) 128 128, .int .i64 0]) ∧ Sec w' g p.sec) ∨ (¬ p.ok ∧ r = .returned (.tuple #[.slice none 0 0, .int .i64 2]))) := by
  by_cases hp : p.ok
  · refine (seal_ok p v w hp hv).mono ?_
    rintro r w' ⟨g, h1, h2, _, h3⟩
    exact ⟨h2, .inl ⟨hp, g, h1, h3⟩⟩
  · refine (seal_bad p v w hp hv).mono ?_
    rintro r w' ⟨h1, h2⟩
    exact ⟨h2, .inr ⟨hp, h1⟩⟩

set_option maxRecDepth 100000 in
set_option maxHeartbeats 8000000 in
theorem lapTorn_walk (p q : Pc) (v1 v2 : Value) (n : Int) (W : World) (hn : -9223372036854775808 ≤ n ∧ n ≤ 9223372036854775807) (h1 : Bs W v1 p.d) (h2 : Bs W v2 q.d) :
    Calls Try.prog 4 #[p.agg v1, q.agg v2, .int .i64 n] W fun e w' => e = .returned (.bool true) ∧ Below W.heap.size W w' := by
  have h1' := h1
  have h2' := h2
  obtain ⟨a1, b1, rfl, _⟩ := h1.open
  obtain ⟨a2, b2, rfl, _⟩ := h2.open
  have H1 := Lib.hid h1'
  have H2 := Lib.hid h2'
  obtain ⟨n1, hn1⟩ : ∃ x, x = p.d.length := ⟨_, rfl⟩
  obtain ⟨n2, hn2⟩ : ∃ x, x = q.d.length := ⟨_, rfl⟩
  rw [← hn1] at H1 ⊢
  rw [← hn2] at H2 ⊢
  obtain ⟨x1, hx1⟩ : ∃ x, x = p.cut := ⟨_, rfl⟩
  obtain ⟨x2, hx2⟩ : ∃ x, x = q.cut := ⟨_, rfl⟩
  have HX1 := Lib.hid hx1
  have HX2 := Lib.hid hx2
  obtain ⟨e1, he1⟩ : ∃ x, x = p.ep := ⟨_, rfl⟩
  obtain ⟨c1, hc1⟩ : ∃ x, x = p.ct := ⟨_, rfl⟩
  obtain ⟨f1, hf1⟩ : ∃ x, x = p.fi := ⟨_, rfl⟩
  obtain ⟨g1, hg1⟩ : ∃ x, x = p.la := ⟨_, rfl⟩
  obtain ⟨e2, he2⟩ : ∃ x, x = q.ep := ⟨_, rfl⟩
  obtain ⟨c2, hc2⟩ : ∃ x, x = q.ct := ⟨_, rfl⟩
  obtain ⟨f2, hf2⟩ : ∃ x, x = q.fi := ⟨_, rfl⟩
  obtain ⟨g2, hg2⟩ : ∃ x, x = q.la := ⟨_, rfl⟩
  have HA1 : Hid (p.agg (.slice a1 n1 b1) = .agg #[.int .u64 (e1 : Int), .int .u64 (c1 : Int), .bool f1, .bool g1, .slice a1 n1 b1]) := Lib.hid (by rw [he1, hc1, hf1, hg1]; rfl)
  have HA2 : Hid (q.agg (.slice a2 n2 b2) = .agg #[.int .u64 (e2 : Int), .int .u64 (c2 : Int), .bool f2, .bool g2, .slice a2 n2 b2]) := Lib.hid (by rw [he2, hc2, hf2, hg2]; rfl)
  have HEC : Hid (x1.ep = e1 ∧ x1.ct = c1 ∧ x2.ep = e2 ∧ x2.ct = c2) := Lib.hid (by rw [hx1, hx2, he1, hc1, he2, hc2]; exact ⟨rfl, rfl, rfl, rfl⟩)
  rw [HA1.out, HA2.out]
  clear h1 h2 h1' h2' hn1 hn2 he1 hc1 hf1 hg1 he2 hc2 hf2 hg2 hx1 hx2
  have HLV := fun w => lives_c w
  have HL := Lib.hid HLV
  clear HLV
  go_enter Try.func4, Try.ntmps4
  go_wp2_with fail
  obtain ⟨w1, hw1⟩ : ∃ x, x = (W.alloc (.cells #[.int .u64 (e1 : Int), .int .u64 (c1 : Int), .bool f1, .bool g1, .slice a1 n1 b1] 31)).alloc (.cells #[.int .u64 (e2 : Int), .int .u64 (c2 : Int), .bool f2, .bool g2, .slice a2 n2 b2] 31) := ⟨_, rfl⟩
  obtain ⟨pb, hpb⟩ : ∃ x, x = W.heap.size := ⟨_, rfl⟩
  have hb0 : w1.heap[pb]? = some (.cells #[.int .u64 (e1 : Int), .int .u64 (c1 : Int), .bool f1, .bool g1, .slice a1 n1 b1] 31 (0, 0)) := by rw [hw1, hpb]; exact blk_old (heap_alloc_new W _)
  have hb1 : w1.heap[pb + 1]? = some (.cells #[.int .u64 (e2 : Int), .int .u64 (c2 : Int), .bool f2, .bool g2, .slice a2 n2 b2] 31 (0, 0)) := by rw [hw1, hpb]; exact blk_new1 _ _ (by simp)
  have HW1 : Hid (Ext W w1) := Lib.hid (by rw [hw1]; exact ((Ext.refl W).alloc _).alloc _)
  have HB0 := Lib.hid hb0
  have HB1 := Lib.hid hb1
  have HPB := Lib.hid hpb
  rw [← hw1, ← hpb]
  clear hw1 hb0 hb1 hpb
  rw [← HA1.out]
  refine (mine_c p _ w1 (H1.out.ext HW1.out)).mono ?_
  rintro e w2 ⟨ao, cap, rfl, hx2, ho⟩
  rw [← HX1.out] at ho ⊢
  have HO := Lib.hid (Rs.of_owns ho)
  have HW2 := Lib.hid hx2
  clear ho hx2
  go_wp2_with fail
  refine (seal_c x1 _ w2 HO.out).mono ?_
  rintro e w3 ⟨hx3, hs3⟩
  have HW3 := Lib.hid (HW2.out.trans hx3)
  clear hx3
  have hb1 := (HW3.out.block (pb + 1) (Array.getElem?_eq_some_iff.1 HB1.out).1 id).trans HB1.out
  have k0 : w3.cell? ⟨pb + 1, 0, none⟩ = some (.int .u64 (e2 : Int)) := by rw [cell_of_blk hb1]; rfl
  have k1 : w3.cell? ⟨pb + 1, 1, none⟩ = some (.int .u64 (c2 : Int)) := by rw [cell_of_blk hb1]; rfl
  have k2 : w3.cell? ⟨pb + 1, 2, none⟩ = some (.bool f2) := by rw [cell_of_blk hb1]; rfl
  have k3 : w3.cell? ⟨pb + 1, 3, none⟩ = some (.bool g2) := by rw [cell_of_blk hb1]; rfl
  have k4 : w3.cell? ⟨pb + 1, 4, none⟩ = some (.slice a2 n2 b2) := by rw [cell_of_blk hb1]; rfl
  clear hb1
  rcases hs3 with ⟨ho1, ga, rfl, hsa⟩ | ⟨ho1, rfl⟩
  · have HSA := Lib.hid hsa
    have HOK1 := Lib.hid ho1
    clear hsa ho1
    go_wp2_with fail
    rw [← HA2.out]
    refine (mine_c q _ w3 (H2.out.ext (HW1.out.trans HW3.out))).mono ?_
    rintro e w4 ⟨ao', cap', rfl, hx4, ho⟩
    rw [← HX2.out] at ho ⊢
    have HO' := Lib.hid (Rs.of_owns ho)
    have HW4 := Lib.hid hx4
    clear ho hx4 k0 k1 k2 k3 k4
    go_wp2_with fail
    refine (seal_c x2 _ w4 HO'.out).mono ?_
    rintro e w5 ⟨hx5, hs5⟩
    have HW5 := Lib.hid (HW4.out.trans hx5)
    clear hx5
    have hb0 := ((HW3.out.trans HW5.out).block pb (Array.getElem?_eq_some_iff.1 HB0.out).1 id).trans HB0.out
    have hb1 := ((HW3.out.trans HW5.out).block (pb + 1) (Array.getElem?_eq_some_iff.1 HB1.out).1 id).trans HB1.out
    have k0 : w5.cell? ⟨pb, 0, none⟩ = some (.int .u64 (e1 : Int)) := by rw [cell_of_blk hb0]; rfl
    have k1 : w5.cell? ⟨pb, 1, none⟩ = some (.int .u64 (c1 : Int)) := by rw [cell_of_blk hb0]; rfl
    have l0 : w5.cell? ⟨pb + 1, 0, none⟩ = some (.int .u64 (e2 : Int)) := by rw [cell_of_blk hb1]; rfl
    have l1 : w5.cell? ⟨pb + 1, 1, none⟩ = some (.int .u64 (c2 : Int)) := by rw [cell_of_blk hb1]; rfl
    have HWW : Hid (Ext W w5) := Lib.hid (HW1.out.trans (HW3.out.trans HW5.out))
    clear hb0 hb1
    rcases hs5 with ⟨ho2, gb, rfl, hsb⟩ | ⟨ho2, rfl⟩
    · have HSB := Lib.hid hsb
      have HOK2 := Lib.hid ho2
      clear hsb ho2
      by_cases hec : e1 = e2 ∧ c1 = c2
      · have d1 : ((e1 : Int) == (e2 : Int)) = true := by simp; omega
        have d2 : ((c1 : Int) == (c2 : Int)) = true := by simp; omega
        clear hec
        go_wp2_with fail
        refine (HL.out _).mono ?_
        rintro e w6 ⟨rfl, hx6⟩
        have HX6 := Lib.hid (HWW.out.trans hx6)
        clear hx6
        go_wp2_with fail
        go_ret
        exact ⟨rfl, HX6.out.below⟩
      have HNE : Hid (¬ (x1.ep = x2.ep ∧ x1.ct = x2.ct)) := Lib.hid (by obtain ⟨q1, q2, q3, q4⟩ := HEC.out; rw [q1, q2, q3, q4]; exact hec)
      have hdd : ((e1 : Int) == (e2 : Int)) = false ∨ (((e1 : Int) == (e2 : Int)) = true ∧ ((c1 : Int) == (c2 : Int)) = false) := by
        simp only [beq_eq_false_iff_ne, beq_iff_eq, ne_eq]; omega
      clear hec
      rcases hdd with d1 | ⟨d1, d2⟩
      all_goals
        go_wp2_with fail
        refine (within_c n 0 128 w5).mono ?_
        rintro e w6 ⟨rfl, rfl⟩
        obtain ⟨k, hk, hk128⟩ : ∃ k : Nat, clampI n 0 128 = (k : Int) ∧ k ≤ 128 := by
          have h : 0 ≤ clampI n 0 128 ∧ clampI n 0 128 ≤ 128 := by unfold clampI; split <;> (try split) <;> omega
          exact ⟨(clampI n 0 128).toNat, by omega, by omega⟩
        rw [hk]
        obtain ⟨l1', hl1⟩ : ∃ x, x = x1.sec := ⟨_, rfl⟩
        obtain ⟨l2', hl2⟩ : ∃ x, x = x2.sec := ⟨_, rfl⟩
        obtain ⟨m, hm⟩ : ∃ x, x = 128 - k := ⟨_, rfl⟩
        obtain ⟨ba, hbo⟩ : ∃ x, x = (if 128 = k then (⟨gb, 0, none⟩ : Addr) else (⟨gb, k, none⟩ : Addr)) := ⟨_, rfl⟩
        obtain ⟨tk, htk⟩ : ∃ x, x = l1'.take k := ⟨_, rfl⟩
        obtain ⟨dk, hdk⟩ : ∃ x, x = l2'.drop k := ⟨_, rfl⟩
        have hsa : Sec w5 ga l1' := by rw [hl1]; exact HSA.out.ext HW5.out
        have hsb : Sec w5 gb l2' := by rw [hl2]; exact HSB.out
        have hbb : Bs w5 (.slice (some ba) m m) dk := by
          have h := Bs.sub hsb.bs (k := k) (m := 128) hk128 (by decide) (ao' := some ba) (cap' := m) (by omega) (by omega) (fun h => by cases h) (fun a' ha hlt => by
            cases ha; exact ⟨_, rfl, by rw [hbo, if_neg (by omega), add_mid, Nat.zero_add]⟩)
          rw [List.take_of_length_le (by rw [List.length_drop, hsb.1]; exact Nat.le_refl _), ← hm, ← hdk] at h
          exact h
        have HL1 := Lib.hid hl1
        have HL2 := Lib.hid hl2
        have HSA5 := Lib.hid hsa
        have HSB5 := Lib.hid hsb
        have HBB5 := Lib.hid hbb
        have HMK : Hid (m = 128 - k ∧ k + m = 128) := Lib.hid ⟨hm, by omega⟩
        have HBO := Lib.hid hbo
        have HT1 : Hid (Bs w5 (.slice (some ⟨ga, 0, none⟩) k 128) tk) := Lib.hid (by rw [htk]; exact hsa.bs.take hk128)
        have HTD := Lib.hid (And.intro htk hdk)
        have HLK : Hid (tk.length = k ∧ dk.length = m ∧ k ≤ 128) := Lib.hid ⟨by rw [htk, List.length_take, hsa.1]; omega, by rw [hdk, List.length_drop, hsb.1]; exact hm.symm, hk128⟩
        obtain ⟨B, hB⟩ : ∃ x, x = w5.heap.size := ⟨_, rfl⟩
        have HSBZ : Hid (B ≤ w5.heap.size ∧ B = w5.heap.size) := Lib.hid ⟨by rw [hB]; exact Nat.le_refl _, hB⟩
        have hki : (k : Int) ≤ 128 := by omega
        clear hk hl1 hl2 hm hbo htk hdk hsa hsb hbb hB k0 k1 l0 l1 d1 HSA HSB
        go_wp2_with fail
        refine wp_region_rx 7 _
          [ex (.slice (some ⟨ga, 0, none⟩) 128 128),
            ex (.int .i64 (k : Int)),
            ex (.slice (some ⟨ga, 0, none⟩) k 128),
            (fun v w' => ∃ ao' cap', v = .slice ao' k cap' ∧ w'.ownsRow B 5 1 (.slice ao' k cap') k (tk.map bv)),
            ex (.slice (some ⟨gb, 0, none⟩) 128 128),
            ex (.int .i64 (k : Int)),
            ex (.slice (some ba) m m)]
          (by kernel_rfl) (by kernel_rfl) (by kernel_rfl) rfl ⟨ex_st, ex_st, ex_st, (fun v w1 w2 h hx => by obtain ⟨x, y, h1, h2⟩ := h; exact ⟨x, y, h1, owns_ext h2 hx⟩), ex_st, ex_st, ex_st, trivial⟩ ?_ ?_
        · simp only [List.take_succ_cons, List.take_zero]
          go_tidy
          refine RhOps.mk (RhOp.moveA (by decide) (.free rfl) 7 (fun _ w _ => Ext.refl w) rfl rfl (.slice (some ⟨ga, 0, none⟩) 128 128) rfl (fun _ _ _ => rfl)) ?_
          refine RhOps.mk (RhOp.moveA (by decide) (.free rfl) 2 (fun _ w _ => Ext.refl w) rfl rfl (.int .i64 (k : Int)) rfl (fun _ _ _ => rfl)) ?_
          refine RhOps.mk (RhOp.at (by decide) (.free rfl) ?_) ?_
          rotate_left
          refine RhOps.mk (RhOp.at (by decide) (.free rfl) ?_) ?_
          rotate_left
          refine RhOps.mk (RhOp.moveA (by decide) (.free rfl) 9 (fun _ w _ => Ext.refl w) rfl rfl (.slice (some ⟨gb, 0, none⟩) 128 128) rfl (fun _ _ _ => rfl)) ?_
          refine RhOps.mk (RhOp.moveA (by decide) (.free rfl) 2 (fun _ w _ => Ext.refl w) rfl rfl (.int .i64 (k : Int)) rfl (fun _ _ _ => rfl)) ?_
          refine RhOps.mk (RhOp.at (by decide) (.free rfl) ?_) ?_
          rotate_left
          exact RhOps.done
          · intro bb vals ρ w' hC hd hS
            have r57 : ρ (.tmp 57) = .slice (some ⟨ga, 0, none⟩) 128 128 := (hS.tmp 57).trans (hd.at 0 rfl)
            have r58 : ρ (.tmp 58) = .int .i64 (k : Int) := (hS.tmp 58).trans (hd.at 1 rfl)
            refine (show givesR _ _ _ _ (fun v w'' => Ext w' w'' ∧ v = .slice (some ⟨ga, 0, none⟩) k 128) from ?_)
            clear hC hd hS
            go_simp
            exact Ext.refl _
          · intro bb vals ρ w' hC hd hS
            have r59 : ρ (.tmp 59) = .slice (some ⟨ga, 0, none⟩) k 128 := (hS.tmp 59).trans (hd.at 2 rfl)
            have rf := hS.func
            refine (show givesR _ _ _ _ (fun v w'' => Ext w' w'' ∧ (fun v w' => ∃ ao' cap', v = .slice ao' k cap' ∧ w'.ownsRow B 5 1 (.slice ao' k cap') k (tk.map bv)) v w'') from ?_)
            have hb := HT1.out.ext hC
            have HBB := Lib.hid hb
            have hz := hC.size
            have HZ := Lib.hid hz
            clear hC hd hS hb hz
            go_simp
            refine (copy_c _ tk w' HBB.out (by have := HLK.out.1; omega)).mono ?_
            rintro e w'' ⟨ao2, cap2, rfl, hx, ho⟩
            rw [HLK.out.1] at ho ⊢
            exact ⟨_, rfl, hx, ao2, cap2, rfl, owns_base ho (by have := HZ.out; have := HSBZ.out.1; omega)⟩
          · intro bb vals ρ w' hC hd hS
            have r61 : ρ (.tmp 61) = .slice (some ⟨gb, 0, none⟩) 128 128 := (hS.tmp 61).trans (hd.at 4 rfl)
            have r62 : ρ (.tmp 62) = .int .i64 (k : Int) := (hS.tmp 62).trans (hd.at 5 rfl)
            refine (show givesR _ _ _ _ (fun v w'' => Ext w' w'' ∧ v = .slice (some ba) m m) from ?_)
            clear hC hd hS
            go_simp
            exact ⟨Ext.refl _, by rw [HBO.out]; split <;> rfl, HMK.out.1.symm⟩
        intro vals w' hC hV
        have e3 := hV 3 (by decide)
        have e6 := hV 6 (by decide)
        simp only [vlist, ex, List.getD_cons_zero, List.getD_cons_succ] at e3 e6
        have HC' := Lib.hid hC; clear hC hV
        simp only [List.drop_succ_cons, List.drop_zero]
        rename World => w7
        obtain ⟨ao3, cap3, e3, o3⟩ := e3
        have hx7 : Ext w5 w7 := HC'.out
        have HX7 := Lib.hid hx7
        refine wpList_app rfl (.tmp 60) (.tmp 63) 29 rfl etBytes B (((sees (dstB_ok (sz := 85) rfl rfl) vals).tmp 60).trans e3) o3 (((sees (dstB_ok (sz := 85) rfl rfl) vals).tmp 63).trans e6) (by have h := HBB5.out.ext hx7; unfold Bs at h; rw [HLK.out.2.1] at h; exact h) (oneCell_bv _) (by have := HMK.out.2; omega) (by have := HMK.out.2; omega) (by have := HSBZ.out; have := hx7.size; omega) ?_
        intro v8 w8 ho8 hg8 _
        rw [HMK.out.2, ← List.map_append] at ho8
        obtain ⟨ao8, cap8, rfl⟩ := owns_shape ho8
        have hx8 : Ext w5 w8 := hx7.grown hg8 (fun j hj => by rw [← HSBZ.out.2]; exact (owns_block o3 hj).1)
        obtain ⟨cl, hcl⟩ : ∃ x, x = tk ++ dk := ⟨_, rfl⟩
        rw [← hcl] at ho8
        have hlc : cl.length = 128 := by rw [hcl, List.length_append, HLK.out.1, HLK.out.2.1]; exact HMK.out.2
        have HC8 : Hid (Bs w8 (.slice ao8 128 cap8) cl) := Lib.hid (by have h := Rs.of_owns ho8; unfold Bs; rw [hlc]; exact h)
        have HSA8 : Hid (Sec w8 ga l1' ∧ Sec w8 gb l2') := Lib.hid ⟨HSA5.out.ext hx8, HSB5.out.ext hx8⟩
        have HX8 := Lib.hid (HWW.out.trans hx8)
        have HCL := Lib.hid hcl
        clear o3 ho8 hg8 hx8 hcl hlc hx7
        go_wp2_with fail
        refine (unseal_c _ cl w8 HC8.out).mono ?_
        rintro e w9 ⟨hx9, hu⟩
        have HX9 := Lib.hid (HX8.out.trans hx9)
        have HS9 : Hid (Bs w9 (.slice ao8 128 cap8) cl ∧ Sec w9 ga l1' ∧ Sec w9 gb l2') := Lib.hid ⟨HC8.out.ext hx9, HSA8.out.1.ext hx9, HSA8.out.2.ext hx9⟩
        clear hx9
        rcases hu with ⟨hsec, ao9, cap9, rfl, _⟩ | ⟨_, rfl⟩
        · have hor := torn_law HOK1.out HOK2.out HNE.out k (by have h := hsec; rw [HCL.out, HTD.out.1, HTD.out.2, HL1.out, HL2.out] at h; exact h)
          have hor' : cl = l1' ∨ cl = l2' := by rw [HCL.out, HTD.out.1, HTD.out.2, HL1.out, HL2.out]; exact hor
          have HOR := Lib.hid hor'
          clear hor hor' hsec
          unfold Pc.agg
          generalize pcOf cl = pz
          go_wp2_with fail
          refine (same_c _ _ cl l1' _ (HS9.out.1.ext ((Ext.refl _).alloc _)) (HS9.out.2.1.ext ((Ext.refl _).alloc _)).bs).mono ?_
          rintro e w10 ⟨rfl, n10, rfl⟩
          by_cases hq : cl = l1'
          · rw [decide_eq_true hq]
            clear hq
            go_wp2_with fail
            refine (HL.out _).mono ?_
            rintro e w11 ⟨rfl, hx11⟩
            have HX11 := Lib.hid (((HX9.out.alloc _).drewN _).trans hx11)
            clear hx11
            go_wp2_with fail
            go_ret
            exact ⟨rfl, HX11.out.below⟩
          · rw [decide_eq_false hq]
            have hq2 : cl = l2' := by rcases HOR.out with h | h; exact absurd h hq; exact h
            have HQ2 := Lib.hid hq2
            clear hq hq2
            go_wp2_with fail
            refine (same_c _ _ cl l2' _ (HS9.out.1.ext (((Ext.refl _).alloc _).drewN _)) (HS9.out.2.2.ext (((Ext.refl _).alloc _).drewN _)).bs).mono ?_
            rintro e w11 ⟨rfl, n11, rfl⟩
            rw [decide_eq_true HQ2.out]
            go_wp2_with fail
            refine (HL.out _).mono ?_
            rintro e w12 ⟨rfl, hx11⟩
            have HX11 := Lib.hid (((HX9.out.alloc _).drewN _).trans hx11)
            clear hx11
            go_wp2_with fail
            go_ret
            exact ⟨rfl, HX11.out.below⟩
        · unfold pc0
          go_wp2_with fail
          refine (HL.out _).mono ?_
          rintro e w10 ⟨rfl, hx10⟩
          have HX10 := Lib.hid ((HX9.out.alloc _).trans hx10)
          clear hx10
          go_wp2_with fail
          go_ret
          exact ⟨rfl, HX10.out.below⟩
    · have HWW' := HWW
      clear ho2
      go_wp2_with fail
      refine (HL.out _).mono ?_
      rintro e w6 ⟨rfl, hx6⟩
      have HX6 := Lib.hid (HWW.out.trans hx6)
      clear hx6
      go_wp2_with fail
      go_ret
      exact ⟨rfl, HX6.out.below⟩
  · clear ho1
    go_wp2_with fail
    rw [← HA2.out]
    refine (mine_c q _ w3 (H2.out.ext (HW1.out.trans HW3.out))).mono ?_
    rintro e w4 ⟨ao', cap', rfl, hx4, ho⟩
    rw [← HX2.out] at ho ⊢
    have HO' := Lib.hid (Rs.of_owns ho)
    have HW4 := Lib.hid hx4
    clear ho hx4 k0 k1 k2 k3 k4
    go_wp2_with fail
    refine (seal_c x2 _ w4 HO'.out).mono ?_
    rintro e w5 ⟨hx5, hs5⟩
    have HWW : Hid (Ext W w5) := Lib.hid (HW1.out.trans (HW3.out.trans (HW4.out.trans hx5)))
    clear hx5
    rcases hs5 with ⟨_, gb, rfl, _⟩ | ⟨_, rfl⟩
    all_goals
      go_wp2_with fail
      refine (HL.out _).mono ?_
      rintro e w6 ⟨rfl, hx6⟩
      have HX6 := Lib.hid (HWW.out.trans hx6)
      clear hx6
      go_wp2_with fail
      go_ret
      exact ⟨rfl, HX6.out.below⟩

end Go.Proofs.Ytcedfpckjdobpaa

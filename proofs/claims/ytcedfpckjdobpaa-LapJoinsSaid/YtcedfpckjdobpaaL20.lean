/- The reference's Join. -/
import Derived.Test.YtcedfpckjdobpaaL19
set_option linter.unusedVariables false
set_option linter.unusedSimpArgs false
namespace Go.Proofs.Ytcedfpckjdobpaa
open Go.RowKit

set_option maxRecDepth 100000 in
set_option maxHeartbeats 8000000 in
theorem rjoin_c (ps : List Pc) (v : Value) (B : Nat) (w : World) (h : PRow w B 31 v ps) (hb : (catP ps).length ≤ 100000) (hw : ∀ p ∈ ps, p.wf) :
    Calls Try.prog 29 #[v] w fun r w' => ∃ vb, r = .returned (.tuple #[vb, .int .i64 (joinN ps : Int)]) ∧ Ext w w' ∧ Bs w' vb (joinL ps) := by
  obtain ⟨ao, cap, rfl⟩ := h.shape
  have hmax := h.le
  obtain ⟨n, hn⟩ : ∃ x, x = ps.length := ⟨_, rfl⟩
  rw [← hn] at h hmax ⊢
  have HP := Lib.hid h
  have HN := Lib.hid hn
  have HCB := Lib.hid hb
  have HWF := Lib.hid hw
  clear h hn hb hw
  go_enter Try.func29, Try.ntmps29
  go_wp2_with fail
  go_loopw [5, 4] (fun i a wr => ∃ j : Nat, j ≤ n ∧ i = .int .i64 j ∧ ∃ aao acap q, a = .slice aao q acap ∧ Hid ((∀ i p, ps[i]? = some p → i < j → pcFits (headP ps) n i p) ∧ Ext w wr ∧ q = (catP (ps.take j)).length ∧ wr.ownsRow w.heap.size 5 1 (.slice aao q acap) q ((catP (ps.take j)).map bv))) (fun i _ _ => n - (intOf i).toNat)
  case atStart => exact ⟨0, by omega, rfl, none, 0, 0, rfl, Lib.hid ⟨fun i p _ h => absurd h (by omega), Ext.refl _, rfl, World.ownsRow_nil _ _ _ _⟩⟩
  case round =>
    obtain ⟨j, hj, rfl, aao, acap, q, rfl, HR⟩ := hrel
    by_cases hlt : j < n
    · obtain ⟨p, hp⟩ : ∃ p, ps[j]? = some p := ⟨_, List.getElem?_eq_getElem (by rw [← HN.out]; exact hlt)⟩
      obtain ⟨g, dao, dcap, rfl, _, _, hbs, _, hc⟩ := (HP.out.ext HR.out.2.1).at hp
      have hcs := catP_take_succ hp
      have hcl := catP_take_le ps (j + 1)
      obtain ⟨ep, ct, fi, la, pd⟩ := p
      simp only at hbs hc hcs
      obtain ⟨m, hm⟩ : ∃ x, x = pd.length := ⟨_, rfl⟩
      rw [← hm] at hbs hc
      have c0 : wr.cell? ⟨g, j * 5, none⟩ = some (.int .u64 (ep : Int)) := hc 0 (by decide)
      have c1 : wr.cell? ⟨g, j * 5 + 1, none⟩ = some (.int .u64 (ct : Int)) := hc 1 (by decide)
      have c2 : wr.cell? ⟨g, j * 5 + 2, none⟩ = some (.bool fi) := hc 2 (by decide)
      have c3 : wr.cell? ⟨g, j * 5 + 3, none⟩ = some (.bool la) := hc 3 (by decide)
      have c4 : wr.cell? ⟨g, j * 5 + 4, none⟩ = some (.slice dao m dcap) := hc 4 (by decide)
      have HLT := Lib.hid hlt
      have HQM : Hid (q + m ≤ 100000 ∧ q + m = (catP (ps.take (j + 1))).length) := Lib.hid (by
        have e : (catP (ps.take (j + 1))).length = q + m := by rw [hcs, List.length_append, ← HR.out.2.2.1, hm]
        have := HCB.out
        exact ⟨by omega, e.symm⟩)
      have HCS := Lib.hid hcs
      have HBS : Hid (Rs wr 1 (.slice dao m dcap) m (pd.map bv)) := Lib.hid (by have h := hbs; unfold Bs at h; rw [← hm] at h; exact h)
      have hi1 : (0 : Int) ≤ (j : Int) := by omega
      have hi2 : (j : Int) < (n : Int) := by omega
      obtain ⟨p0, hp0⟩ : ∃ p, ps[0]? = some p := ⟨_, List.getElem?_eq_getElem (by rw [← HN.out]; omega)⟩
      obtain ⟨g', dao0, dcap0, hg0, _, _, _, _, hc0⟩ := (HP.out.ext HR.out.2.1).at hp0
      simp only [Option.some.injEq, Addr.mk.injEq] at hg0
      obtain ⟨rfl, -, -⟩ := hg0
      have hhead : headP ps = p0 := by
        cases ps with
        | nil => simp at hp0
        | cons a r => simp at hp0; subst hp0; rfl
      obtain ⟨ep0, ct0, fi0, la0, pd0⟩ := p0
      have hwf0 := HWF.out _ (List.mem_of_getElem? hp0)
      have hwf1 := HWF.out _ (List.mem_of_getElem? hp)
      have HPJ := Lib.hid hp
      have HHD := Lib.hid hhead
      have HWQ := Lib.hid (And.intro hwf0 hwf1)
      have HMD := Lib.hid hm
      obtain ⟨pb, hpb⟩ : ∃ x, x = wr.heap.size := ⟨_, rfl⟩
      obtain ⟨wp, hwp⟩ : ∃ x, x = wr.alloc (.cells #[.int .u64 (ep : Int), .int .u64 (ct : Int), .bool fi, .bool la, .slice dao m dcap] 31) := ⟨_, rfl⟩
      have hxp : Ext wr wp := by rw [hwp]; exact (Ext.refl _).alloc _
      have hbp : wp.heap[pb]? = some (.cells #[.int .u64 (ep : Int), .int .u64 (ct : Int), .bool fi, .bool la, .slice dao m dcap] 31 (0, 0)) := by rw [hwp, hpb]; exact heap_alloc_new wr _
      have g0 : wp.cell? ⟨g, 0, none⟩ = some (.int .u64 (ep0 : Int)) := hxp.cell (by have := hc0 0 (by decide); rw [Nat.zero_mul, Nat.zero_add] at this; exact this)
      have g1 : wp.cell? ⟨g, 1, none⟩ = some (.int .u64 (ct0 : Int)) := hxp.cell (by have := hc0 1 (by decide); rw [Nat.zero_mul, Nat.zero_add] at this; exact this)
      have p0 : wp.cell? ⟨pb, 0, none⟩ = some (.int .u64 (ep : Int)) := by rw [cell_of_blk hbp]; rfl
      have p1 : wp.cell? ⟨pb, 1, none⟩ = some (.int .u64 (ct : Int)) := by rw [cell_of_blk hbp]; rfl
      have p2 : wp.cell? ⟨pb, 2, none⟩ = some (.bool fi) := by rw [cell_of_blk hbp]; rfl
      have p3 : wp.cell? ⟨pb, 3, none⟩ = some (.bool la) := by rw [cell_of_blk hbp]; rfl
      have p4 : wp.cell? ⟨pb, 4, none⟩ = some (.slice dao m dcap) := by rw [cell_of_blk hbp]; rfl
      have HXP := Lib.hid hxp
      have HBP := Lib.hid hbp
      have HRP : Hid (Ext w wr ∧ w.heap.size ≤ wp.heap.size) := Lib.hid ⟨HR.out.2.1, Nat.le_trans HR.out.2.1.size hxp.size⟩
      obtain ⟨fb, hfb⟩ : ∃ x, x = decide (m = 106 ∨ (j = n - 1 ∧ m < 106 ∧ (0 < m ∨ j = 0))) := ⟨_, rfl⟩
      have HFB := Lib.hid hfb
      have hj0 : 0 < n := by omega
      have hmb : m ≤ 9223372036854775807 := by have := HQM.out.1; omega
      clear hp hbs hc hcs hcl hm hp0 hc0 hhead hwf0 hwf1 hxp hbp hfb
      go_upto_region 6 with fail
      rw [← hwp, ← hpb]
      clear hwp hpb
      go_cut [7] (fun s7 wx => s7 = .bool fb ∧ wx = wp)
      case first =>
        have hd : (((m : Int) == 106) = true ∧ fb = true) ∨ (((m : Int) == 106) = false ∧ ((j : Int) == (n : Int) - 1) = false ∧ fb = false) ∨ (((m : Int) == 106) = false ∧ ((j : Int) == (n : Int) - 1) = true ∧ decide ((m : Int) < 106) = false ∧ fb = false) ∨
            (((m : Int) == 106) = false ∧ ((j : Int) == (n : Int) - 1) = true ∧ decide ((m : Int) < 106) = true ∧ decide ((0 : Int) < (m : Int)) = true ∧ decide (0 < m) = true ∧ fb = true) ∨
            (((m : Int) == 106) = false ∧ ((j : Int) == (n : Int) - 1) = true ∧ decide ((m : Int) < 106) = true ∧ decide ((0 : Int) < (m : Int)) = false ∧ decide (0 < m) = false ∧ ((j : Int) == 0) = true ∧ fb = true) ∨
            (((m : Int) == 106) = false ∧ ((j : Int) == (n : Int) - 1) = true ∧ decide ((m : Int) < 106) = true ∧ decide ((0 : Int) < (m : Int)) = false ∧ decide (0 < m) = false ∧ ((j : Int) == 0) = false ∧ fb = false) := by
          rw [HFB.out]
          simp only [beq_iff_eq, beq_eq_false_iff_ne, ne_eq, decide_eq_true_eq, decide_eq_false_iff_not]
          omega
        rcases hd with ⟨x1, hf⟩ | ⟨x1, x2, hf⟩ | ⟨x1, x2, x3, hf⟩ | ⟨x1, x2, x3, x4, x4', hf⟩ | ⟨x1, x2, x3, x4, x4', x5, hf⟩ | ⟨x1, x2, x3, x4, x4', x5, hf⟩
        all_goals
          have HF := Lib.hid hf
          clear hf
          go_wp2_with fail
          go_meet
          case rel => exact ⟨by rw [HF.out], rfl⟩
      case rest =>
        obtain ⟨rfl, rfl⟩ := hcut
        rename World => wp
        obtain ⟨s1, hs1⟩ : ∃ x, x = decide ((16777215 : Int) < (ep : Int)) := ⟨_, rfl⟩
        obtain ⟨c2, hc2⟩ : ∃ x, x = ((ep : Int) != (ep0 : Int)) := ⟨_, rfl⟩
        obtain ⟨s2, hs2⟩ : ∃ x, x = (s1 || c2) := ⟨_, rfl⟩
        obtain ⟨c3, hc3⟩ : ∃ x, x = decide ((1099511627775 : Int) < (ct : Int)) := ⟨_, rfl⟩
        obtain ⟨s3, hs3⟩ : ∃ x, x = (s2 || c3) := ⟨_, rfl⟩
        obtain ⟨c4, hc4⟩ : ∃ x, x = decide (ct < ct0) := ⟨_, rfl⟩
        obtain ⟨s4, hs4⟩ : ∃ x, x = (s3 || c4) := ⟨_, rfl⟩
        obtain ⟨D, hD⟩ : ∃ x, x = IntKind.u64.wrap ((ct : Int) - (ct0 : Int)) := ⟨_, rfl⟩
        obtain ⟨c5, hc5⟩ : ∃ x, x = (D != (j : Int)) := ⟨_, rfl⟩
        obtain ⟨s5, hs5⟩ : ∃ x, x = (s4 || c5) := ⟨_, rfl⟩
        obtain ⟨z6, hz6⟩ : ∃ x, x = ((j : Int) == 0) := ⟨_, rfl⟩
        obtain ⟨c6, hc6⟩ : ∃ x, x = (fi != z6) := ⟨_, rfl⟩
        obtain ⟨s6, hs6⟩ : ∃ x, x = (s5 || c6) := ⟨_, rfl⟩
        obtain ⟨z7, hz7⟩ : ∃ x, x = ((j : Int) == (n : Int) - 1) := ⟨_, rfl⟩
        obtain ⟨c7, hc7⟩ : ∃ x, x = (la != z7) := ⟨_, rfl⟩
        obtain ⟨s7, hs7⟩ : ∃ x, x = (s6 || c7) := ⟨_, rfl⟩
        obtain ⟨c8, hc8⟩ : ∃ x, x = (!fb) := ⟨_, rfl⟩
        obtain ⟨s8, hs8⟩ : ∃ x, x = (s7 || c8) := ⟨_, rfl⟩
        have HFIT : Hid (s8 = false ↔ pcFits (headP ps) n j ⟨ep, ct, fi, la, pd⟩) := Lib.hid (by
          have hw := HWQ.out
          simp only [Pc.wf] at hw
          rw [HHD.out]
          unfold pcFits pcFull
          simp only
          rw [hs8, hs7, hs6, hs5, hs4, hs3, hs2, hs1, hc2, hc3, hc4, hc5, hc6, hc7, hc8, hz6, hz7, HFB.out, hD, IntKind.wrap_u64, ← HMD.out]
          have e6 : ((j : Int) == 0) = decide (j = 0) := by rw [Bool.eq_iff_iff]; simp
          have e7 : ((j : Int) == (n : Int) - 1) = decide (j = n - 1) := by rw [Bool.eq_iff_iff]; simp; omega
          rw [e6, e7]
          simp only [Bool.or_eq_false_iff, decide_eq_false_iff_not, bne_eq_false_iff_eq, Bool.not_eq_false, decide_eq_true_eq, Bool.not_eq_eq_eq_not, Bool.not_false]
          constructor
          · rintro ⟨⟨⟨⟨⟨⟨⟨a1, a2⟩, a3⟩, a4⟩, a5⟩, a6⟩, a7⟩, a8⟩
            exact ⟨by omega, by omega, by omega, by omega, by omega, a6, a7, a8⟩
          · rintro ⟨a1, a2, a3, a4, a5, a6, a7, a8⟩
            exact ⟨⟨⟨⟨⟨⟨⟨by omega, by omega⟩, by omega⟩, by omega⟩, by omega⟩, a6⟩, a7⟩, a8⟩)
        have HC1 := Lib.hid hs1.symm
        have HC2 := Lib.hid hc2.symm
        have HC3 := Lib.hid hc3.symm
        have HC4 := Lib.hid hc4.symm
        have HC5 := Lib.hid hc5.symm
        have HC6 := Lib.hid hc6.symm
        have HC7 := Lib.hid hc7.symm
        have HC8 := Lib.hid hc8.symm
        have HD := Lib.hid hD.symm
        have HZ6 := Lib.hid hz6.symm
        have HZ7 := Lib.hid hz7.symm
        have HS2 := Lib.hid hs2
        have HS3 := Lib.hid hs3
        have HS4 := Lib.hid hs4
        have HS5 := Lib.hid hs5
        have HS6 := Lib.hid hs6
        have HS7 := Lib.hid hs7
        have HS8 := Lib.hid hs8
        have HJ8 : Hid (IntKind.u64.wrap (j : Int) = (j : Int)) := Lib.hid (by rw [IntKind.wrap_u64]; omega)
        clear hs1 hc2 hs2 hc3 hs3 hc4 hs4 hD hc5 hs5 hz6 hc6 hs6 hz7 hc7 hs7 hc8 hs8 p4
        go_upto_region 7 with fail
        refine wp_region_rx 59 _
          [ex (.pointer (some ⟨pb, 0, none⟩)),
            ex (.int .u64 (ep : Int)),
            ex (.bool s1),
            ex (.bool s1),
            exc s1 false (.pointer (some ⟨pb, 0, none⟩)),
            exc s1 false (.int .u64 (ep : Int)),
            exc s1 false (.slice (some ⟨g, 0, none⟩) n cap),
            exc s1 false (.pointer (some ⟨g, 0, none⟩)),
            exc s1 false (.pointer (some ⟨g, 0, none⟩)),
            exc s1 false (.int .u64 (ep0 : Int)),
            exc s1 false (.bool c2),
            ex (.bool s2),
            ex (.bool s2),
            exc s2 false (.pointer (some ⟨pb, 1, none⟩)),
            exc s2 false (.int .u64 (ct : Int)),
            exc s2 false (.bool c3),
            ex (.bool s3),
            ex (.bool s3),
            exc s3 false (.pointer (some ⟨pb, 1, none⟩)),
            exc s3 false (.int .u64 (ct : Int)),
            exc s3 false (.slice (some ⟨g, 0, none⟩) n cap),
            exc s3 false (.pointer (some ⟨g, 0, none⟩)),
            exc s3 false (.pointer (some ⟨g, 1, none⟩)),
            exc s3 false (.int .u64 (ct0 : Int)),
            exc s3 false (.bool c4),
            ex (.bool s4),
            ex (.bool s4),
            exc s4 false (.pointer (some ⟨pb, 1, none⟩)),
            exc s4 false (.int .u64 (ct : Int)),
            exc s4 false (.slice (some ⟨g, 0, none⟩) n cap),
            exc s4 false (.pointer (some ⟨g, 0, none⟩)),
            exc s4 false (.pointer (some ⟨g, 1, none⟩)),
            exc s4 false (.int .u64 (ct0 : Int)),
            exc s4 false (.int .u64 D),
            exc s4 false (.int .i64 (j : Int)),
            exc s4 false (.int .u64 (j : Int)),
            exc s4 false (.bool c5),
            ex (.bool s5),
            ex (.bool s5),
            exc s5 false (.pointer (some ⟨pb, 2, none⟩)),
            exc s5 false (.bool fi),
            exc s5 false (.int .i64 (j : Int)),
            exc s5 false (.bool z6),
            exc s5 false (.bool c6),
            ex (.bool s6),
            ex (.bool s6),
            exc s6 false (.pointer (some ⟨pb, 3, none⟩)),
            exc s6 false (.bool la),
            exc s6 false (.int .i64 (j : Int)),
            exc s6 false (.slice (some ⟨g, 0, none⟩) n cap),
            exc s6 false (.int .i64 (n : Int)),
            exc s6 false (.int .i64 ((n : Int) - 1)),
            exc s6 false (.bool z7),
            exc s6 false (.bool c7),
            ex (.bool s7),
            ex (.bool s7),
            exc s7 false (.bool fb),
            exc s7 false (.bool c8),
            ex (.bool s8)]
          (by kernel_rfl) (by kernel_rfl) (by kernel_rfl) rfl ⟨ex_st, ex_st, ex_st, ex_st, exc_st, exc_st, exc_st, exc_st, exc_st, exc_st, exc_st, ex_st, ex_st, exc_st, exc_st, exc_st, ex_st, ex_st, exc_st, exc_st, exc_st, exc_st, exc_st, exc_st, exc_st, ex_st, ex_st, exc_st, exc_st, exc_st, exc_st, exc_st, exc_st, exc_st, exc_st, exc_st, exc_st, ex_st, ex_st, exc_st, exc_st, exc_st, exc_st, exc_st, ex_st, ex_st, exc_st, exc_st, exc_st, exc_st, exc_st, exc_st, exc_st, exc_st, ex_st, ex_st, exc_st, exc_st, ex_st, trivial⟩ ?_ ?_
        · simp only [List.take_succ_cons, List.take_zero]
          go_tidy
          refine RhOps.mk (RhOp.at (by decide) (.free rfl) ?_) ?_
          rotate_left
          refine RhOps.mk (RhOp.at (by decide) (.free rfl) ?_) ?_
          rotate_left
          refine RhOps.mk (RhOp.at (by decide) (.free rfl) ?_) ?_
          rotate_left
          refine RhOps.mk (RhOp.move (by decide) (.free rfl) 47 2 (fun _ w _ => Ext.refl w) rfl rfl rfl (fun _ _ h => h)) ?_
          refine RhOps.mk (RhOp.condx (by decide) 3 false s1 (.pointer (some ⟨pb, 0, none⟩)) rfl (fun _ _ h => h) (fun _ _ => rfl) (fun hoff _ h => absurd h hoff) (fun hon => ?_)) ?_
          rotate_left
          refine RhOps.mk (RhOp.condx (by decide) 3 false s1 (.int .u64 (ep : Int)) rfl (fun _ _ h => h) (fun _ _ => rfl) (fun hoff _ h => absurd h hoff) (fun hon => ?_)) ?_
          rotate_left
          refine RhOps.mk (RhOp.condx (by decide) 3 false s1 (.slice (some ⟨g, 0, none⟩) n cap) rfl (fun _ _ h => h) (fun _ _ => rfl) (fun hoff _ h => absurd h hoff) (fun hon => ?_)) ?_
          rotate_left
          refine RhOps.mk (RhOp.condx (by decide) 3 false s1 (.pointer (some ⟨g, 0, none⟩)) rfl (fun _ _ h => h) (fun _ _ => rfl) (fun hoff _ h => absurd h hoff) (fun hon => ?_)) ?_
          rotate_left
          refine RhOps.mk (RhOp.condx (by decide) 3 false s1 (.pointer (some ⟨g, 0, none⟩)) rfl (fun _ _ h => h) (fun _ _ => rfl) (fun hoff _ h => absurd h hoff) (fun hon => ?_)) ?_
          rotate_left
          refine RhOps.mk (RhOp.condx (by decide) 3 false s1 (.int .u64 (ep0 : Int)) rfl (fun _ _ h => h) (fun _ _ => rfl) (fun hoff _ h => absurd h hoff) (fun hon => ?_)) ?_
          rotate_left
          refine RhOps.mk (RhOp.condx (by decide) 3 false s1 (.bool c2) rfl (fun _ _ h => h) (fun _ _ => rfl) (fun hoff _ h => absurd h hoff) (fun hon => ?_)) ?_
          rotate_left
          refine RhOps.mk (RhOp.at (by decide) (.free rfl) ?_) ?_
          rotate_left
          refine RhOps.mk (RhOp.move (by decide) (.free rfl) 56 11 (fun _ w _ => Ext.refl w) rfl rfl rfl (fun _ _ h => h)) ?_
          refine RhOps.mk (RhOp.condx (by decide) 12 false s2 (.pointer (some ⟨pb, 1, none⟩)) rfl (fun _ _ h => h) (fun _ _ => rfl) (fun hoff _ h => absurd h hoff) (fun hon => ?_)) ?_
          rotate_left
          refine RhOps.mk (RhOp.condx (by decide) 12 false s2 (.int .u64 (ct : Int)) rfl (fun _ _ h => h) (fun _ _ => rfl) (fun hoff _ h => absurd h hoff) (fun hon => ?_)) ?_
          rotate_left
          refine RhOps.mk (RhOp.condx (by decide) 12 false s2 (.bool c3) rfl (fun _ _ h => h) (fun _ _ => rfl) (fun hoff _ h => absurd h hoff) (fun hon => ?_)) ?_
          rotate_left
          refine RhOps.mk (RhOp.at (by decide) (.free rfl) ?_) ?_
          rotate_left
          refine RhOps.mk (RhOp.move (by decide) (.free rfl) 61 16 (fun _ w _ => Ext.refl w) rfl rfl rfl (fun _ _ h => h)) ?_
          refine RhOps.mk (RhOp.condx (by decide) 17 false s3 (.pointer (some ⟨pb, 1, none⟩)) rfl (fun _ _ h => h) (fun _ _ => rfl) (fun hoff _ h => absurd h hoff) (fun hon => ?_)) ?_
          rotate_left
          refine RhOps.mk (RhOp.condx (by decide) 17 false s3 (.int .u64 (ct : Int)) rfl (fun _ _ h => h) (fun _ _ => rfl) (fun hoff _ h => absurd h hoff) (fun hon => ?_)) ?_
          rotate_left
          refine RhOps.mk (RhOp.condx (by decide) 17 false s3 (.slice (some ⟨g, 0, none⟩) n cap) rfl (fun _ _ h => h) (fun _ _ => rfl) (fun hoff _ h => absurd h hoff) (fun hon => ?_)) ?_
          rotate_left
          refine RhOps.mk (RhOp.condx (by decide) 17 false s3 (.pointer (some ⟨g, 0, none⟩)) rfl (fun _ _ h => h) (fun _ _ => rfl) (fun hoff _ h => absurd h hoff) (fun hon => ?_)) ?_
          rotate_left
          refine RhOps.mk (RhOp.condx (by decide) 17 false s3 (.pointer (some ⟨g, 1, none⟩)) rfl (fun _ _ h => h) (fun _ _ => rfl) (fun hoff _ h => absurd h hoff) (fun hon => ?_)) ?_
          rotate_left
          refine RhOps.mk (RhOp.condx (by decide) 17 false s3 (.int .u64 (ct0 : Int)) rfl (fun _ _ h => h) (fun _ _ => rfl) (fun hoff _ h => absurd h hoff) (fun hon => ?_)) ?_
          rotate_left
          refine RhOps.mk (RhOp.condx (by decide) 17 false s3 (.bool c4) rfl (fun _ _ h => h) (fun _ _ => rfl) (fun hoff _ h => absurd h hoff) (fun hon => ?_)) ?_
          rotate_left
          refine RhOps.mk (RhOp.at (by decide) (.free rfl) ?_) ?_
          rotate_left
          refine RhOps.mk (RhOp.move (by decide) (.free rfl) 70 25 (fun _ w _ => Ext.refl w) rfl rfl rfl (fun _ _ h => h)) ?_
          refine RhOps.mk (RhOp.condx (by decide) 26 false s4 (.pointer (some ⟨pb, 1, none⟩)) rfl (fun _ _ h => h) (fun _ _ => rfl) (fun hoff _ h => absurd h hoff) (fun hon => ?_)) ?_
          rotate_left
          refine RhOps.mk (RhOp.condx (by decide) 26 false s4 (.int .u64 (ct : Int)) rfl (fun _ _ h => h) (fun _ _ => rfl) (fun hoff _ h => absurd h hoff) (fun hon => ?_)) ?_
          rotate_left
          refine RhOps.mk (RhOp.condx (by decide) 26 false s4 (.slice (some ⟨g, 0, none⟩) n cap) rfl (fun _ _ h => h) (fun _ _ => rfl) (fun hoff _ h => absurd h hoff) (fun hon => ?_)) ?_
          rotate_left
          refine RhOps.mk (RhOp.condx (by decide) 26 false s4 (.pointer (some ⟨g, 0, none⟩)) rfl (fun _ _ h => h) (fun _ _ => rfl) (fun hoff _ h => absurd h hoff) (fun hon => ?_)) ?_
          rotate_left
          refine RhOps.mk (RhOp.condx (by decide) 26 false s4 (.pointer (some ⟨g, 1, none⟩)) rfl (fun _ _ h => h) (fun _ _ => rfl) (fun hoff _ h => absurd h hoff) (fun hon => ?_)) ?_
          rotate_left
          refine RhOps.mk (RhOp.condx (by decide) 26 false s4 (.int .u64 (ct0 : Int)) rfl (fun _ _ h => h) (fun _ _ => rfl) (fun hoff _ h => absurd h hoff) (fun hon => ?_)) ?_
          rotate_left
          refine RhOps.mk (RhOp.condx (by decide) 26 false s4 (.int .u64 D) rfl (fun _ _ h => h) (fun _ _ => rfl) (fun hoff _ h => absurd h hoff) (fun hon => ?_)) ?_
          rotate_left
          refine RhOps.mk (RhOp.condx (by decide) 26 false s4 (.int .i64 (j : Int)) rfl (fun _ _ h => h) (fun _ _ => rfl) (fun hoff _ h => absurd h hoff) (fun hon => ?_)) ?_
          rotate_left
          refine RhOps.mk (RhOp.condx (by decide) 26 false s4 (.int .u64 (j : Int)) rfl (fun _ _ h => h) (fun _ _ => rfl) (fun hoff _ h => absurd h hoff) (fun hon => ?_)) ?_
          rotate_left
          refine RhOps.mk (RhOp.condx (by decide) 26 false s4 (.bool c5) rfl (fun _ _ h => h) (fun _ _ => rfl) (fun hoff _ h => absurd h hoff) (fun hon => ?_)) ?_
          rotate_left
          refine RhOps.mk (RhOp.at (by decide) (.free rfl) ?_) ?_
          rotate_left
          refine RhOps.mk (RhOp.move (by decide) (.free rfl) 82 37 (fun _ w _ => Ext.refl w) rfl rfl rfl (fun _ _ h => h)) ?_
          refine RhOps.mk (RhOp.condx (by decide) 38 false s5 (.pointer (some ⟨pb, 2, none⟩)) rfl (fun _ _ h => h) (fun _ _ => rfl) (fun hoff _ h => absurd h hoff) (fun hon => ?_)) ?_
          rotate_left
          refine RhOps.mk (RhOp.condx (by decide) 38 false s5 (.bool fi) rfl (fun _ _ h => h) (fun _ _ => rfl) (fun hoff _ h => absurd h hoff) (fun hon => ?_)) ?_
          rotate_left
          refine RhOps.mk (RhOp.condx (by decide) 38 false s5 (.int .i64 (j : Int)) rfl (fun _ _ h => h) (fun _ _ => rfl) (fun hoff _ h => absurd h hoff) (fun hon => ?_)) ?_
          rotate_left
          refine RhOps.mk (RhOp.condx (by decide) 38 false s5 (.bool z6) rfl (fun _ _ h => h) (fun _ _ => rfl) (fun hoff _ h => absurd h hoff) (fun hon => ?_)) ?_
          rotate_left
          refine RhOps.mk (RhOp.condx (by decide) 38 false s5 (.bool c6) rfl (fun _ _ h => h) (fun _ _ => rfl) (fun hoff _ h => absurd h hoff) (fun hon => ?_)) ?_
          rotate_left
          refine RhOps.mk (RhOp.at (by decide) (.free rfl) ?_) ?_
          rotate_left
          refine RhOps.mk (RhOp.move (by decide) (.free rfl) 89 44 (fun _ w _ => Ext.refl w) rfl rfl rfl (fun _ _ h => h)) ?_
          refine RhOps.mk (RhOp.condx (by decide) 45 false s6 (.pointer (some ⟨pb, 3, none⟩)) rfl (fun _ _ h => h) (fun _ _ => rfl) (fun hoff _ h => absurd h hoff) (fun hon => ?_)) ?_
          rotate_left
          refine RhOps.mk (RhOp.condx (by decide) 45 false s6 (.bool la) rfl (fun _ _ h => h) (fun _ _ => rfl) (fun hoff _ h => absurd h hoff) (fun hon => ?_)) ?_
          rotate_left
          refine RhOps.mk (RhOp.condx (by decide) 45 false s6 (.int .i64 (j : Int)) rfl (fun _ _ h => h) (fun _ _ => rfl) (fun hoff _ h => absurd h hoff) (fun hon => ?_)) ?_
          rotate_left
          refine RhOps.mk (RhOp.condx (by decide) 45 false s6 (.slice (some ⟨g, 0, none⟩) n cap) rfl (fun _ _ h => h) (fun _ _ => rfl) (fun hoff _ h => absurd h hoff) (fun hon => ?_)) ?_
          rotate_left
          refine RhOps.mk (RhOp.condx (by decide) 45 false s6 (.int .i64 (n : Int)) rfl (fun _ _ h => h) (fun _ _ => rfl) (fun hoff _ h => absurd h hoff) (fun hon => ?_)) ?_
          rotate_left
          refine RhOps.mk (RhOp.condx (by decide) 45 false s6 (.int .i64 ((n : Int) - 1)) rfl (fun _ _ h => h) (fun _ _ => rfl) (fun hoff _ h => absurd h hoff) (fun hon => ?_)) ?_
          rotate_left
          refine RhOps.mk (RhOp.condx (by decide) 45 false s6 (.bool z7) rfl (fun _ _ h => h) (fun _ _ => rfl) (fun hoff _ h => absurd h hoff) (fun hon => ?_)) ?_
          rotate_left
          refine RhOps.mk (RhOp.condx (by decide) 45 false s6 (.bool c7) rfl (fun _ _ h => h) (fun _ _ => rfl) (fun hoff _ h => absurd h hoff) (fun hon => ?_)) ?_
          rotate_left
          refine RhOps.mk (RhOp.at (by decide) (.free rfl) ?_) ?_
          rotate_left
          refine RhOps.mk (RhOp.move (by decide) (.free rfl) 99 54 (fun _ w _ => Ext.refl w) rfl rfl rfl (fun _ _ h => h)) ?_
          refine RhOps.mk (RhOp.condx (by decide) 55 false s7 (.bool fb) rfl (fun _ _ h => h) (fun _ _ => rfl) (fun hoff _ h => absurd h hoff) (fun hon => ?_)) ?_
          rotate_left
          refine RhOps.mk (RhOp.condx (by decide) 55 false s7 (.bool c8) rfl (fun _ _ h => h) (fun _ _ => rfl) (fun hoff _ h => absurd h hoff) (fun hon => ?_)) ?_
          rotate_left
          refine RhOps.mk (RhOp.at (by decide) (.free rfl) ?_) ?_
          rotate_left
          exact RhOps.done
          · intro bb vals ρ w' hC hd hS
            have r6 : ρ (.tmp 6) = .pointer (some ⟨pb, 0, none⟩) := hS.tmp 6
            refine (show givesR _ _ _ _ (fun v w'' => Ext w' w'' ∧ v = .pointer (some ⟨pb, 0, none⟩)) from ?_)
            clear hC hd hS
            go_simp
            exact Ext.refl _
          · intro bb vals ρ w' hC hd hS
            have r45 : ρ (.tmp 45) = .pointer (some ⟨pb, 0, none⟩) := (hS.tmp 45).trans (hd.at 0 rfl)
            have qc := hC.cell p0
            refine (show givesR _ _ _ _ (fun v w'' => Ext w' w'' ∧ v = .int .u64 (ep : Int)) from ?_)
            clear hC hd hS
            go_simp
            exact Ext.refl _
          · intro bb vals ρ w' hC hd hS
            have r46 : ρ (.tmp 46) = .int .u64 (ep : Int) := (hS.tmp 46).trans (hd.at 1 rfl)
            have rc := hS.const
            refine (show givesR _ _ _ _ (fun v w'' => Ext w' w'' ∧ v = .bool s1) from ?_)
            clear hC hd hS
            go_simp
            exact ⟨Ext.refl _, HC1.out⟩
          · intro bb vals ρ w' hC hd hS
            have r6 : ρ (.tmp 6) = .pointer (some ⟨pb, 0, none⟩) := hS.tmp 6
            refine (show givesR _ _ _ _ (fun v w'' => Ext w' w'' ∧ v = .pointer (some ⟨pb, 0, none⟩)) from ?_)
            clear hC hd hS
            go_simp
            exact Ext.refl _
          · intro bb vals ρ w' hC hd hS
            have r49 : ρ (.tmp 49) = .pointer (some ⟨pb, 0, none⟩) := (hS.tmp 49).trans (hd.at 4 rfl hon)
            have qc := hC.cell p0
            refine (show givesR _ _ _ _ (fun v w'' => Ext w' w'' ∧ v = .int .u64 (ep : Int)) from ?_)
            clear hC hd hS
            go_simp
            exact Ext.refl _
          · intro bb vals ρ w' hC hd hS
            have r0 : ρ (.tmp 0) = .slice (some ⟨g, 0, none⟩) n cap := hS.tmp 0
            refine (show givesR _ _ _ _ (fun v w'' => Ext w' w'' ∧ v = .slice (some ⟨g, 0, none⟩) n cap) from ?_)
            clear hC hd hS
            go_simp
            exact Ext.refl _
          · intro bb vals ρ w' hC hd hS
            have r51 : ρ (.tmp 51) = .slice (some ⟨g, 0, none⟩) n cap := (hS.tmp 51).trans (hd.at 6 rfl hon)
            have rc := hS.const
            refine (show givesR _ _ _ _ (fun v w'' => Ext w' w'' ∧ v = .pointer (some ⟨g, 0, none⟩)) from ?_)
            clear hC hd hS
            go_simp
            exact Ext.refl _
          · intro bb vals ρ w' hC hd hS
            have r52 : ρ (.tmp 52) = .pointer (some ⟨g, 0, none⟩) := (hS.tmp 52).trans (hd.at 7 rfl hon)
            refine (show givesR _ _ _ _ (fun v w'' => Ext w' w'' ∧ v = .pointer (some ⟨g, 0, none⟩)) from ?_)
            clear hC hd hS
            go_simp
            exact Ext.refl _
          · intro bb vals ρ w' hC hd hS
            have r53 : ρ (.tmp 53) = .pointer (some ⟨g, 0, none⟩) := (hS.tmp 53).trans (hd.at 8 rfl hon)
            have qc := hC.cell g0
            refine (show givesR _ _ _ _ (fun v w'' => Ext w' w'' ∧ v = .int .u64 (ep0 : Int)) from ?_)
            clear hC hd hS
            go_simp
            exact Ext.refl _
          · intro bb vals ρ w' hC hd hS
            have r50 : ρ (.tmp 50) = .int .u64 (ep : Int) := (hS.tmp 50).trans (hd.at 5 rfl hon)
            have r54 : ρ (.tmp 54) = .int .u64 (ep0 : Int) := (hS.tmp 54).trans (hd.at 9 rfl hon)
            refine (show givesR _ _ _ _ (fun v w'' => Ext w' w'' ∧ v = .bool c2) from ?_)
            clear hC hd hS
            go_simp
            exact ⟨Ext.refl _, HC2.out⟩
          · intro bb vals ρ w' hC hd hS
            have r48 : ρ (.tmp 48) = .bool s1 := (hS.tmp 48).trans (hd.at 3 rfl)
            have d10 := hd.at 10 rfl
            have r55 : ρ (.tmp 55) = vals 10 := hS.tmp 55
            have rc := hS.const
            refine (show givesR _ _ _ _ (fun v w'' => Ext w' w'' ∧ v = .bool s2) from ?_)
            clear hC hd hS
            cases s1
            · have e := d10 rfl
              rw [e] at r55
              go_simp
              first | exact ⟨Ext.refl _, HS2.out.symm⟩ | exact ⟨Ext.refl _, HS2.out⟩
            · go_simp
              first | exact ⟨Ext.refl _, HS2.out.symm⟩ | exact ⟨Ext.refl _, HS2.out⟩
          · intro bb vals ρ w' hC hd hS
            have r6 : ρ (.tmp 6) = .pointer (some ⟨pb, 0, none⟩) := hS.tmp 6
            refine (show givesR _ _ _ _ (fun v w'' => Ext w' w'' ∧ v = .pointer (some ⟨pb, 1, none⟩)) from ?_)
            clear hC hd hS
            go_simp
            exact Ext.refl _
          · intro bb vals ρ w' hC hd hS
            have r58 : ρ (.tmp 58) = .pointer (some ⟨pb, 1, none⟩) := (hS.tmp 58).trans (hd.at 13 rfl hon)
            have qc := hC.cell p1
            refine (show givesR _ _ _ _ (fun v w'' => Ext w' w'' ∧ v = .int .u64 (ct : Int)) from ?_)
            clear hC hd hS
            go_simp
            exact Ext.refl _
          · intro bb vals ρ w' hC hd hS
            have r59 : ρ (.tmp 59) = .int .u64 (ct : Int) := (hS.tmp 59).trans (hd.at 14 rfl hon)
            have rc := hS.const
            refine (show givesR _ _ _ _ (fun v w'' => Ext w' w'' ∧ v = .bool c3) from ?_)
            clear hC hd hS
            go_simp
            exact ⟨Ext.refl _, HC3.out⟩
          · intro bb vals ρ w' hC hd hS
            have r57 : ρ (.tmp 57) = .bool s2 := (hS.tmp 57).trans (hd.at 12 rfl)
            have d15 := hd.at 15 rfl
            have r60 : ρ (.tmp 60) = vals 15 := hS.tmp 60
            have rc := hS.const
            refine (show givesR _ _ _ _ (fun v w'' => Ext w' w'' ∧ v = .bool s3) from ?_)
            clear hC hd hS
            cases s2
            · have e := d15 rfl
              rw [e] at r60
              go_simp
              first | exact ⟨Ext.refl _, HS3.out.symm⟩ | exact ⟨Ext.refl _, HS3.out⟩
            · go_simp
              first | exact ⟨Ext.refl _, HS3.out.symm⟩ | exact ⟨Ext.refl _, HS3.out⟩
          · intro bb vals ρ w' hC hd hS
            have r6 : ρ (.tmp 6) = .pointer (some ⟨pb, 0, none⟩) := hS.tmp 6
            refine (show givesR _ _ _ _ (fun v w'' => Ext w' w'' ∧ v = .pointer (some ⟨pb, 1, none⟩)) from ?_)
            clear hC hd hS
            go_simp
            exact Ext.refl _
          · intro bb vals ρ w' hC hd hS
            have r63 : ρ (.tmp 63) = .pointer (some ⟨pb, 1, none⟩) := (hS.tmp 63).trans (hd.at 18 rfl hon)
            have qc := hC.cell p1
            refine (show givesR _ _ _ _ (fun v w'' => Ext w' w'' ∧ v = .int .u64 (ct : Int)) from ?_)
            clear hC hd hS
            go_simp
            exact Ext.refl _
          · intro bb vals ρ w' hC hd hS
            have r0 : ρ (.tmp 0) = .slice (some ⟨g, 0, none⟩) n cap := hS.tmp 0
            refine (show givesR _ _ _ _ (fun v w'' => Ext w' w'' ∧ v = .slice (some ⟨g, 0, none⟩) n cap) from ?_)
            clear hC hd hS
            go_simp
            exact Ext.refl _
          · intro bb vals ρ w' hC hd hS
            have r65 : ρ (.tmp 65) = .slice (some ⟨g, 0, none⟩) n cap := (hS.tmp 65).trans (hd.at 20 rfl hon)
            have rc := hS.const
            refine (show givesR _ _ _ _ (fun v w'' => Ext w' w'' ∧ v = .pointer (some ⟨g, 0, none⟩)) from ?_)
            clear hC hd hS
            go_simp
            exact Ext.refl _
          · intro bb vals ρ w' hC hd hS
            have r66 : ρ (.tmp 66) = .pointer (some ⟨g, 0, none⟩) := (hS.tmp 66).trans (hd.at 21 rfl hon)
            refine (show givesR _ _ _ _ (fun v w'' => Ext w' w'' ∧ v = .pointer (some ⟨g, 1, none⟩)) from ?_)
            clear hC hd hS
            go_simp
            exact Ext.refl _
          · intro bb vals ρ w' hC hd hS
            have r67 : ρ (.tmp 67) = .pointer (some ⟨g, 1, none⟩) := (hS.tmp 67).trans (hd.at 22 rfl hon)
            have qc := hC.cell g1
            refine (show givesR _ _ _ _ (fun v w'' => Ext w' w'' ∧ v = .int .u64 (ct0 : Int)) from ?_)
            clear hC hd hS
            go_simp
            exact Ext.refl _
          · intro bb vals ρ w' hC hd hS
            have r64 : ρ (.tmp 64) = .int .u64 (ct : Int) := (hS.tmp 64).trans (hd.at 19 rfl hon)
            have r68 : ρ (.tmp 68) = .int .u64 (ct0 : Int) := (hS.tmp 68).trans (hd.at 23 rfl hon)
            refine (show givesR _ _ _ _ (fun v w'' => Ext w' w'' ∧ v = .bool c4) from ?_)
            clear hC hd hS
            go_simp
            exact ⟨Ext.refl _, HC4.out⟩
          · intro bb vals ρ w' hC hd hS
            have r62 : ρ (.tmp 62) = .bool s3 := (hS.tmp 62).trans (hd.at 17 rfl)
            have d24 := hd.at 24 rfl
            have r69 : ρ (.tmp 69) = vals 24 := hS.tmp 69
            have rc := hS.const
            refine (show givesR _ _ _ _ (fun v w'' => Ext w' w'' ∧ v = .bool s4) from ?_)
            clear hC hd hS
            cases s3
            · have e := d24 rfl
              rw [e] at r69
              go_simp
              first | exact ⟨Ext.refl _, HS4.out.symm⟩ | exact ⟨Ext.refl _, HS4.out⟩
            · go_simp
              first | exact ⟨Ext.refl _, HS4.out.symm⟩ | exact ⟨Ext.refl _, HS4.out⟩
          · intro bb vals ρ w' hC hd hS
            have r6 : ρ (.tmp 6) = .pointer (some ⟨pb, 0, none⟩) := hS.tmp 6
            refine (show givesR _ _ _ _ (fun v w'' => Ext w' w'' ∧ v = .pointer (some ⟨pb, 1, none⟩)) from ?_)
            clear hC hd hS
            go_simp
            exact Ext.refl _
          · intro bb vals ρ w' hC hd hS
            have r72 : ρ (.tmp 72) = .pointer (some ⟨pb, 1, none⟩) := (hS.tmp 72).trans (hd.at 27 rfl hon)
            have qc := hC.cell p1
            refine (show givesR _ _ _ _ (fun v w'' => Ext w' w'' ∧ v = .int .u64 (ct : Int)) from ?_)
            clear hC hd hS
            go_simp
            exact Ext.refl _
          · intro bb vals ρ w' hC hd hS
            have r0 : ρ (.tmp 0) = .slice (some ⟨g, 0, none⟩) n cap := hS.tmp 0
            refine (show givesR _ _ _ _ (fun v w'' => Ext w' w'' ∧ v = .slice (some ⟨g, 0, none⟩) n cap) from ?_)
            clear hC hd hS
            go_simp
            exact Ext.refl _
          · intro bb vals ρ w' hC hd hS
            have r74 : ρ (.tmp 74) = .slice (some ⟨g, 0, none⟩) n cap := (hS.tmp 74).trans (hd.at 29 rfl hon)
            have rc := hS.const
            refine (show givesR _ _ _ _ (fun v w'' => Ext w' w'' ∧ v = .pointer (some ⟨g, 0, none⟩)) from ?_)
            clear hC hd hS
            go_simp
            exact Ext.refl _
          · intro bb vals ρ w' hC hd hS
            have r75 : ρ (.tmp 75) = .pointer (some ⟨g, 0, none⟩) := (hS.tmp 75).trans (hd.at 30 rfl hon)
            refine (show givesR _ _ _ _ (fun v w'' => Ext w' w'' ∧ v = .pointer (some ⟨g, 1, none⟩)) from ?_)
            clear hC hd hS
            go_simp
            exact Ext.refl _
          · intro bb vals ρ w' hC hd hS
            have r76 : ρ (.tmp 76) = .pointer (some ⟨g, 1, none⟩) := (hS.tmp 76).trans (hd.at 31 rfl hon)
            have qc := hC.cell g1
            refine (show givesR _ _ _ _ (fun v w'' => Ext w' w'' ∧ v = .int .u64 (ct0 : Int)) from ?_)
            clear hC hd hS
            go_simp
            exact Ext.refl _
          · intro bb vals ρ w' hC hd hS
            have r73 : ρ (.tmp 73) = .int .u64 (ct : Int) := (hS.tmp 73).trans (hd.at 28 rfl hon)
            have r77 : ρ (.tmp 77) = .int .u64 (ct0 : Int) := (hS.tmp 77).trans (hd.at 32 rfl hon)
            refine (show givesR _ _ _ _ (fun v w'' => Ext w' w'' ∧ v = .int .u64 D) from ?_)
            clear hC hd hS
            go_simp
            exact ⟨Ext.refl _, HD.out⟩
          · intro bb vals ρ w' hC hd hS
            have r5 : ρ (.tmp 5) = .int .i64 (j : Int) := hS.tmp 5
            refine (show givesR _ _ _ _ (fun v w'' => Ext w' w'' ∧ v = .int .i64 (j : Int)) from ?_)
            clear hC hd hS
            go_simp
            exact Ext.refl _
          · intro bb vals ρ w' hC hd hS
            have r79 : ρ (.tmp 79) = .int .i64 (j : Int) := (hS.tmp 79).trans (hd.at 34 rfl hon)
            refine (show givesR _ _ _ _ (fun v w'' => Ext w' w'' ∧ v = .int .u64 (j : Int)) from ?_)
            clear hC hd hS
            go_simp
            exact ⟨Ext.refl _, HJ8.out⟩
          · intro bb vals ρ w' hC hd hS
            have r78 : ρ (.tmp 78) = .int .u64 D := (hS.tmp 78).trans (hd.at 33 rfl hon)
            have r80 : ρ (.tmp 80) = .int .u64 (j : Int) := (hS.tmp 80).trans (hd.at 35 rfl hon)
            refine (show givesR _ _ _ _ (fun v w'' => Ext w' w'' ∧ v = .bool c5) from ?_)
            clear hC hd hS
            go_simp
            exact ⟨Ext.refl _, HC5.out⟩
          · intro bb vals ρ w' hC hd hS
            have r71 : ρ (.tmp 71) = .bool s4 := (hS.tmp 71).trans (hd.at 26 rfl)
            have d36 := hd.at 36 rfl
            have r81 : ρ (.tmp 81) = vals 36 := hS.tmp 81
            have rc := hS.const
            refine (show givesR _ _ _ _ (fun v w'' => Ext w' w'' ∧ v = .bool s5) from ?_)
            clear hC hd hS
            cases s4
            · have e := d36 rfl
              rw [e] at r81
              go_simp
              first | exact ⟨Ext.refl _, HS5.out.symm⟩ | exact ⟨Ext.refl _, HS5.out⟩
            · go_simp
              first | exact ⟨Ext.refl _, HS5.out.symm⟩ | exact ⟨Ext.refl _, HS5.out⟩
          · intro bb vals ρ w' hC hd hS
            have r6 : ρ (.tmp 6) = .pointer (some ⟨pb, 0, none⟩) := hS.tmp 6
            refine (show givesR _ _ _ _ (fun v w'' => Ext w' w'' ∧ v = .pointer (some ⟨pb, 2, none⟩)) from ?_)
            clear hC hd hS
            go_simp
            exact Ext.refl _
          · intro bb vals ρ w' hC hd hS
            have r84 : ρ (.tmp 84) = .pointer (some ⟨pb, 2, none⟩) := (hS.tmp 84).trans (hd.at 39 rfl hon)
            have qc := hC.cell p2
            refine (show givesR _ _ _ _ (fun v w'' => Ext w' w'' ∧ v = .bool fi) from ?_)
            clear hC hd hS
            go_simp
            exact Ext.refl _
          · intro bb vals ρ w' hC hd hS
            have r5 : ρ (.tmp 5) = .int .i64 (j : Int) := hS.tmp 5
            refine (show givesR _ _ _ _ (fun v w'' => Ext w' w'' ∧ v = .int .i64 (j : Int)) from ?_)
            clear hC hd hS
            go_simp
            exact Ext.refl _
          · intro bb vals ρ w' hC hd hS
            have r86 : ρ (.tmp 86) = .int .i64 (j : Int) := (hS.tmp 86).trans (hd.at 41 rfl hon)
            have rc := hS.const
            refine (show givesR _ _ _ _ (fun v w'' => Ext w' w'' ∧ v = .bool z6) from ?_)
            clear hC hd hS
            go_simp
            exact ⟨Ext.refl _, HZ6.out⟩
          · intro bb vals ρ w' hC hd hS
            have r85 : ρ (.tmp 85) = .bool fi := (hS.tmp 85).trans (hd.at 40 rfl hon)
            have r87 : ρ (.tmp 87) = .bool z6 := (hS.tmp 87).trans (hd.at 42 rfl hon)
            refine (show givesR _ _ _ _ (fun v w'' => Ext w' w'' ∧ v = .bool c6) from ?_)
            clear hC hd hS
            go_simp
            exact ⟨Ext.refl _, by have h := HC6.out; cases fi <;> cases z6 <;> cases c6 <;> simp_all⟩
          · intro bb vals ρ w' hC hd hS
            have r83 : ρ (.tmp 83) = .bool s5 := (hS.tmp 83).trans (hd.at 38 rfl)
            have d43 := hd.at 43 rfl
            have r88 : ρ (.tmp 88) = vals 43 := hS.tmp 88
            have rc := hS.const
            refine (show givesR _ _ _ _ (fun v w'' => Ext w' w'' ∧ v = .bool s6) from ?_)
            clear hC hd hS
            cases s5
            · have e := d43 rfl
              rw [e] at r88
              go_simp
              first | exact ⟨Ext.refl _, HS6.out.symm⟩ | exact ⟨Ext.refl _, HS6.out⟩
            · go_simp
              first | exact ⟨Ext.refl _, HS6.out.symm⟩ | exact ⟨Ext.refl _, HS6.out⟩
          · intro bb vals ρ w' hC hd hS
            have r6 : ρ (.tmp 6) = .pointer (some ⟨pb, 0, none⟩) := hS.tmp 6
            refine (show givesR _ _ _ _ (fun v w'' => Ext w' w'' ∧ v = .pointer (some ⟨pb, 3, none⟩)) from ?_)
            clear hC hd hS
            go_simp
            exact Ext.refl _
          · intro bb vals ρ w' hC hd hS
            have r91 : ρ (.tmp 91) = .pointer (some ⟨pb, 3, none⟩) := (hS.tmp 91).trans (hd.at 46 rfl hon)
            have qc := hC.cell p3
            refine (show givesR _ _ _ _ (fun v w'' => Ext w' w'' ∧ v = .bool la) from ?_)
            clear hC hd hS
            go_simp
            exact Ext.refl _
          · intro bb vals ρ w' hC hd hS
            have r5 : ρ (.tmp 5) = .int .i64 (j : Int) := hS.tmp 5
            refine (show givesR _ _ _ _ (fun v w'' => Ext w' w'' ∧ v = .int .i64 (j : Int)) from ?_)
            clear hC hd hS
            go_simp
            exact Ext.refl _
          · intro bb vals ρ w' hC hd hS
            have r0 : ρ (.tmp 0) = .slice (some ⟨g, 0, none⟩) n cap := hS.tmp 0
            refine (show givesR _ _ _ _ (fun v w'' => Ext w' w'' ∧ v = .slice (some ⟨g, 0, none⟩) n cap) from ?_)
            clear hC hd hS
            go_simp
            exact Ext.refl _
          · intro bb vals ρ w' hC hd hS
            have r94 : ρ (.tmp 94) = .slice (some ⟨g, 0, none⟩) n cap := (hS.tmp 94).trans (hd.at 49 rfl hon)
            refine (show givesR _ _ _ _ (fun v w'' => Ext w' w'' ∧ v = .int .i64 (n : Int)) from ?_)
            clear hC hd hS
            go_simp
            exact Ext.refl _
          · intro bb vals ρ w' hC hd hS
            have r95 : ρ (.tmp 95) = .int .i64 (n : Int) := (hS.tmp 95).trans (hd.at 50 rfl hon)
            have rc := hS.const
            refine (show givesR _ _ _ _ (fun v w'' => Ext w' w'' ∧ v = .int .i64 ((n : Int) - 1)) from ?_)
            clear hC hd hS
            go_simp
            exact ⟨Ext.refl _, IntWalk.i64_in _ (by omega)⟩
          · intro bb vals ρ w' hC hd hS
            have r93 : ρ (.tmp 93) = .int .i64 (j : Int) := (hS.tmp 93).trans (hd.at 48 rfl hon)
            have r96 : ρ (.tmp 96) = .int .i64 ((n : Int) - 1) := (hS.tmp 96).trans (hd.at 51 rfl hon)
            refine (show givesR _ _ _ _ (fun v w'' => Ext w' w'' ∧ v = .bool z7) from ?_)
            clear hC hd hS
            go_simp
            exact ⟨Ext.refl _, HZ7.out⟩
          · intro bb vals ρ w' hC hd hS
            have r92 : ρ (.tmp 92) = .bool la := (hS.tmp 92).trans (hd.at 47 rfl hon)
            have r97 : ρ (.tmp 97) = .bool z7 := (hS.tmp 97).trans (hd.at 52 rfl hon)
            refine (show givesR _ _ _ _ (fun v w'' => Ext w' w'' ∧ v = .bool c7) from ?_)
            clear hC hd hS
            go_simp
            exact ⟨Ext.refl _, by have h := HC7.out; cases la <;> cases z7 <;> cases c7 <;> simp_all⟩
          · intro bb vals ρ w' hC hd hS
            have r90 : ρ (.tmp 90) = .bool s6 := (hS.tmp 90).trans (hd.at 45 rfl)
            have d53 := hd.at 53 rfl
            have r98 : ρ (.tmp 98) = vals 53 := hS.tmp 98
            have rc := hS.const
            refine (show givesR _ _ _ _ (fun v w'' => Ext w' w'' ∧ v = .bool s7) from ?_)
            clear hC hd hS
            cases s6
            · have e := d53 rfl
              rw [e] at r98
              go_simp
              first | exact ⟨Ext.refl _, HS7.out.symm⟩ | exact ⟨Ext.refl _, HS7.out⟩
            · go_simp
              first | exact ⟨Ext.refl _, HS7.out.symm⟩ | exact ⟨Ext.refl _, HS7.out⟩
          · intro bb vals ρ w' hC hd hS
            have r7 : ρ (.tmp 7) = .bool fb := hS.tmp 7
            refine (show givesR _ _ _ _ (fun v w'' => Ext w' w'' ∧ v = .bool fb) from ?_)
            clear hC hd hS
            go_simp
            exact Ext.refl _
          · intro bb vals ρ w' hC hd hS
            have r101 : ρ (.tmp 101) = .bool fb := (hS.tmp 101).trans (hd.at 56 rfl hon)
            refine (show givesR _ _ _ _ (fun v w'' => Ext w' w'' ∧ v = .bool c8) from ?_)
            clear hC hd hS
            go_simp
            exact ⟨Ext.refl _, by have h := HC8.out; cases fb <;> cases c8 <;> simp_all⟩
          · intro bb vals ρ w' hC hd hS
            have r100 : ρ (.tmp 100) = .bool s7 := (hS.tmp 100).trans (hd.at 55 rfl)
            have d57 := hd.at 57 rfl
            have r102 : ρ (.tmp 102) = vals 57 := hS.tmp 102
            have rc := hS.const
            refine (show givesR _ _ _ _ (fun v w'' => Ext w' w'' ∧ v = .bool s8) from ?_)
            clear hC hd hS
            cases s7
            · have e := d57 rfl
              rw [e] at r102
              go_simp
              first | exact ⟨Ext.refl _, HS8.out.symm⟩ | exact ⟨Ext.refl _, HS8.out⟩
            · go_simp
              first | exact ⟨Ext.refl _, HS8.out.symm⟩ | exact ⟨Ext.refl _, HS8.out⟩
        intro vals w' hC hV
        have e58 := hV 58 (by decide)
        simp only [vlist, ex, List.getD_cons_zero, List.getD_cons_succ] at e58
        have HC' := Lib.hid hC; clear hC hV
        simp only [List.drop_succ_cons, List.drop_zero]
        go_simp -- the frame
        rename World => w5
        have hb5 := (HC'.out.block pb (Array.getElem?_eq_some_iff.1 HBP.out).1 id).trans HBP.out
        have p4 : w5.cell? ⟨pb, 4, none⟩ = some (.slice dao m dcap) := by rw [cell_of_blk hb5]; rfl
        have hxr : Ext wr w5 := HXP.out.trans HC'.out
        have HXR := Lib.hid hxr
        clear hb5 hxr g0 g1 p0 p1 p2 p3
        cases s8 with
        | false =>
          have hfit := HFIT.out.1 rfl
          have HF2 := Lib.hid hfit
          clear hfit
          go_wp2_with (first
            | (at_builtin; refine wpList_app rfl (.tmp 104) (.tmp 106) 29 rfl etBytes w.heap.size rfl (owns_ext HR.out.2.2.2 HXR.out) rfl (HBS.out.ext HXR.out) (oneCell_bv _) (by have := HQM.out.1; omega) (by have := HQM.out.1; omega) (by have := HRP.out.1.size; have := HXR.out.size; omega) ?_; intro v' w4 ho hg _)
            | fail)
          obtain ⟨ao', cap', rfl⟩ := owns_shape ho
          have HO := Lib.hid ho
          have HG := Lib.hid hg
          clear ho hg
          go_roundw
          case rel =>
            refine ⟨j + 1, HLT.out, by go_num, ao', cap', q + m, rfl, Lib.hid ⟨?_, ?_, HQM.out.2, ?_⟩⟩
            · intro i p hp hi
              by_cases hij : i < j
              · exact HR.out.1 i p hp hij
              · obtain rfl : i = j := by omega
                have := HPJ.out
                rw [hp] at this
                cases this
                exact HF2.out
            · exact (HRP.out.1.trans HXR.out).grown HG.out fun i hi => (owns_block HR.out.2.2.2 hi).1
            · rw [HCS.out, List.map_append]
              exact HO.out
          case measure => have := HLT.out; simp [intOf]; omega
        | true =>
          have hno : ¬ joinOk ps := by
            rw [join_law]
            intro h
            have h1 := h.2.1 j _ HPJ.out
            rw [← HN.out] at h1
            have := HFIT.out.2 h1
            cases this
          have HNO : Hid (joinN ps = 4 ∧ joinL ps = []) := Lib.hid ⟨by unfold joinN; rw [if_neg hno], by unfold joinL; rw [if_neg hno]⟩
          clear hno
          go_wp2_with fail
          rw [HNO.out.1, HNO.out.2]
          exact bodyPost_ret (v := .tuple #[.slice none 0 0, .int .i64 4]) (by simp [results, Try.results29, go_sem]) rfl ⟨_, rfl, HRP.out.1.trans HXR.out, Bs.nil _⟩
    · obtain rfl : n = j := by omega
      have hcat : catP (ps.take n) = catP ps := by rw [List.take_of_length_le (by rw [← HN.out]; exact Nat.le_refl _)]
      rw [hcat] at HR
      clear hcat
      have hq := HR.out.2.2.1
      have hcb := HCB.out
      have hall : joinOk ps ↔ n ≠ 0 ∧ q ≤ 8192 := by
        rw [join_law]
        unfold joinFits
        rw [← hq, ← HN.out]
        constructor
        · rintro ⟨h1, _, h3⟩
          exact ⟨fun e => h1 (List.eq_nil_of_length_eq_zero (by rw [← HN.out]; exact e)), h3⟩
        · rintro ⟨h1, h3⟩
          exact ⟨fun e => h1 (by rw [HN.out, e]; rfl), fun i p hp => HR.out.1 i p hp (by rw [HN.out]; exact (List.getElem?_eq_some_iff.1 hp).1), h3⟩
      have hqb : q ≤ 100000 := by omega
      clear hq hcb
      by_cases hno : n = 0 ∨ 8192 < q
      · have HNO : Hid (joinN ps = 4 ∧ joinL ps = []) := Lib.hid (by
          have : ¬ joinOk ps := by rw [hall]; omega
          exact ⟨by unfold joinN; rw [if_neg this], by unfold joinL; rw [if_neg this]⟩)
        have hd : ((n : Int) == 0) = true ∨ (((n : Int) == 0) = false ∧ decide ((8192 : Int) < (q : Int)) = true) := by
          simp only [beq_iff_eq, beq_eq_false_iff_ne, ne_eq, decide_eq_true_eq]; omega
        clear hall hno
        rcases hd with x1 | ⟨x1, x2⟩
        all_goals
          go_wp2_with fail
          rw [HNO.out.1, HNO.out.2]
          exact bodyPost_ret (v := .tuple #[.slice none 0 0, .int .i64 4]) (by simp [results, Try.results29, go_sem]) rfl ⟨_, rfl, HR.out.2.1, Bs.nil _⟩
      · have HNO : Hid (joinN ps = 0 ∧ joinL ps = catP ps) := Lib.hid (by
          have : joinOk ps := by rw [hall]; omega
          exact ⟨by unfold joinN; rw [if_pos this], by unfold joinL; rw [if_pos this]⟩)
        have x1 : ((n : Int) == 0) = false := by simp; omega
        have x2 : decide ((8192 : Int) < (q : Int)) = false := by simp; omega
        clear hall hno
        go_wp2_with fail
        rw [HNO.out.1, HNO.out.2]
        exact bodyPost_ret (v := .tuple #[.slice aao q acap, .int .i64 0]) (by simp [results, Try.results29, go_sem]) rfl ⟨_, rfl, HR.out.2.1, by have h := Rs.of_owns HR.out.2.2.2; unfold Bs; rw [← HR.out.2.2.1]; exact h⟩

end Go.Proofs.Ytcedfpckjdobpaa

/- Which piece any bytes are: the law's walk. -/
import Derived.Test.YtcedfpckjdobpaaL12
set_option linter.unusedVariables false
set_option linter.unusedSimpArgs false
namespace Go.Proofs.Ytcedfpckjdobpaa
open Go.RowKit

def secN (l : List UInt8) : Nat := if isSec l then 0 else 4
def secP (l : List UInt8) : Pc := if isSec l then pcOf l else ⟨0, 0, false, false, []⟩
theorem unseal_x (v : Value) (l : List UInt8) (w : World) (hv : Bs w v l) :
    Calls Try.prog 17 #[v] w fun r w' => ∃ ao cap, r = .returned (.tuple #[(secP l).agg (.slice ao (secP l).d.length cap), .int .i64 (secN l : Int)]) ∧ Ext w w' ∧ w'.ownsRow w.heap.size 5 1 (.slice ao (secP l).d.length cap) (secP l).d.length ((secP l).d.map bv) := by
  unfold secP secN
  refine (unseal_c v l w hv).mono ?_
  rintro r w' ⟨hx, ⟨hs, ao, cap, h1, h2⟩ | ⟨hs, h1⟩⟩
  · rw [if_pos hs, if_pos hs]; exact ⟨ao, cap, h1, hx, h2⟩
  · rw [if_neg hs, if_neg hs]; exact ⟨none, 0, h1, hx, World.ownsRow_nil _ _ _ _⟩
theorem runseal_x (v : Value) (l : List UInt8) (w : World) (hv : Bs w v l) :
    Calls Try.prog 24 #[v] w fun r w' => ∃ ao cap, r = .returned (.tuple #[(secP l).agg (.slice ao (secP l).d.length cap), .int .i64 (secN l : Int)]) ∧ Ext w w' ∧ w'.ownsRow w.heap.size 5 1 (.slice ao (secP l).d.length cap) (secP l).d.length ((secP l).d.map bv) := by
  unfold secP secN
  refine (runseal_c v l w hv).mono ?_
  rintro r w' ⟨hx, ⟨hs, ao, cap, h1, h2⟩ | ⟨hs, h1⟩⟩
  · rw [if_pos hs, if_pos hs]; exact ⟨ao, cap, h1, hx, h2⟩
  · rw [if_neg hs, if_neg hs]; exact ⟨none, 0, h1, hx, World.ownsRow_nil _ _ _ _⟩
theorem valB_hi (l : List UInt8) (h : l.length = 8) : valB l / 1099511627776 = valB (l.take 3) := by
  have e := valB_append (l.take 3) (l.drop 3)
  rw [List.take_append_drop] at e
  have h2 := valB_lt (l.drop 3)
  rw [List.length_drop, h] at e h2
  rw [e]
  simp only [show 8 - 3 = 5 from rfl, show (256 : Nat) ^ 5 = 1099511627776 from rfl] at h2 ⊢
  omega
theorem endA_eq {l : List UInt8} (h : l.length = 128) : endA l = valB (l.take 3) := by
  unfold endA
  rw [if_pos h, valB_hi _ (by rw [List.length_take, h]; rfl), List.take_take]
  rfl
theorem endB_eq {l : List UInt8} (h : l.length = 128) : endB l = valB ((l.drop 120).take 3) := by
  unfold endB
  rw [if_pos h, valB_hi _ (by rw [List.length_drop, h])]

set_option maxRecDepth 100000 in
set_option maxHeartbeats 8000000 in
theorem lapUnseals_walk (b0 : List UInt8) (v : Value) (W : World) (hv : Bs W v b0) :
    Calls Try.prog 6 #[v] W fun e w' => e = .returned (.bool true) ∧ Below W.heap.size W w' := by
  have hv0 := hv
  obtain ⟨vao, vcap, rfl, _⟩ := hv.open
  have HV0 := Lib.hid hv0
  obtain ⟨bl, hbl⟩ : ∃ x, x = b0.take 140 := ⟨_, rfl⟩
  obtain ⟨n, hn⟩ : ∃ x, x = bl.length := ⟨_, rfl⟩
  have hn140 : n ≤ 140 := by rw [hn, hbl, List.length_take]; omega
  have HBL := Lib.hid (And.intro hbl hn)
  obtain ⟨P, hP⟩ : ∃ x, x = secP bl := ⟨_, rfl⟩
  obtain ⟨ep, hep⟩ : ∃ x, x = P.ep := ⟨_, rfl⟩
  obtain ⟨ct, hct⟩ : ∃ x, x = P.ct := ⟨_, rfl⟩
  obtain ⟨fi, hfi⟩ : ∃ x, x = P.fi := ⟨_, rfl⟩
  obtain ⟨la, hla⟩ : ∃ x, x = P.la := ⟨_, rfl⟩
  obtain ⟨dl, hdl⟩ : ∃ x, x = P.d := ⟨_, rfl⟩
  obtain ⟨m, hm⟩ : ∃ x, x = dl.length := ⟨_, rfl⟩
  obtain ⟨k, hk⟩ : ∃ x, x = secN bl := ⟨_, rfl⟩
  have HP : Hid (∀ ao cap, (secP bl).agg (.slice ao (secP bl).d.length cap) = .agg #[.int .u64 (ep : Int), .int .u64 (ct : Int), .bool fi, .bool la, .slice ao m cap]) := Lib.hid (by intro ao cap; rw [hm, hdl, hep, hct, hfi, hla, hP]; rfl)
  have HD : Hid ((secP bl).d = dl ∧ dl.length = m ∧ secN bl = k) := Lib.hid ⟨by rw [hdl, hP], hm.symm, hk.symm⟩
  obtain ⟨a, ha⟩ : ∃ x, x = endA bl := ⟨_, rfl⟩
  obtain ⟨b, hb⟩ : ∃ x, x = endB bl := ⟨_, rfl⟩
  have HAB := Lib.hid (And.intro ha hb)
  have HLV := fun w => lives_c w
  have HL := Lib.hid HLV
  clear hv hv0 hbl hn hP hep hct hfi hla hdl hm hk ha hb HLV
  go_enter Try.func6, Try.ntmps6
  go_wp2_with fail
  refine (cut_c _ b0 140 (by decide) (by decide) W HV0.out).mono ?_
  rintro e w1 ⟨bo, bcap, rfl, rfl, hb, _⟩
  rw [show (140 : Int).toNat = 140 from rfl, ← HBL.out.1, ← HBL.out.2] at hb ⊢
  have HB1 := Lib.hid hb
  clear hb
  go_wp2_with fail
  rename World => W
  refine (copy_c _ bl W HB1.out (by have := HBL.out.2; omega)).mono ?_
  rintro e w2 ⟨oo, ocap, rfl, hx2, ho2⟩
  rw [← HBL.out.2] at ho2 ⊢
  have HX2 := Lib.hid hx2
  have HO2 := Lib.hid ho2
  have HOB2 : Hid (Bs w2 (.slice oo n ocap) bl) := Lib.hid (by have h := Rs.of_owns ho2; unfold Bs; rw [← HBL.out.2]; exact h)
  obtain ⟨T, hT⟩ : ∃ x, x = w2.heap.size := ⟨_, rfl⟩
  have HT := Lib.hid hT
  clear hx2 ho2 hT
  go_wp2_with fail
  refine (unseal_x _ bl w2 HOB2.out).mono ?_
  rintro e w3 ⟨pao, pcap, rfl, hx3, hp3⟩
  rw [HP.out, HD.out.2.2]
  rw [HD.out.1, HD.out.2.1, ← HT.out] at hp3
  have HX3 := Lib.hid hx3
  have HP3 := Lib.hid hp3
  clear hx3 hp3
  go_wp2_with fail
  obtain ⟨w4, hw4⟩ : ∃ x, x = w3.alloc (.cells #[.int .u64 (ep : Int), .int .u64 (ct : Int), .bool fi, .bool la, .slice pao m pcap] 34) := ⟨_, rfl⟩
  obtain ⟨pb, hpb⟩ : ∃ x, x = w3.heap.size := ⟨_, rfl⟩
  have HB4 : Hid (w4.heap[pb]? = some (.cells #[.int .u64 (ep : Int), .int .u64 (ct : Int), .bool fi, .bool la, .slice pao m pcap] 34 (0, 0))) := Lib.hid (by rw [hw4, hpb]; exact heap_alloc_new w3 _)
  have hx4 : Ext w3 w4 := by rw [hw4]; exact (Ext.refl _).alloc _
  have HX4 := Lib.hid (HX3.out.trans hx4)
  have HP4 := Lib.hid (owns_ext HP3.out hx4)
  have HTP : Hid (T ≤ pb) := Lib.hid (by rw [HT.out, hpb]; exact HX3.out.size)
  rw [← hw4, ← hpb]
  clear hw4 hpb hx4 HP3 HX3
  refine (runseal_x _ bl w4 (HB1.out.ext (HX2.out.trans HX4.out))).mono ?_
  rintro e w5 ⟨qao, qcap, rfl, hx5, hq5⟩
  rw [HP.out, HD.out.2.2]
  rw [HD.out.1, HD.out.2.1] at hq5
  have HX5 := Lib.hid (HX4.out.trans hx5)
  have HX45 := Lib.hid hx5
  have HQ5 : Hid (w5.ownsRow T 5 1 (.slice qao m qcap) m (dl.map bv)) := Lib.hid (owns_base hq5 (by rw [HT.out]; exact HX4.out.size))
  clear hx5 hq5
  go_wp2_with fail
  obtain ⟨w6, hw6⟩ : ∃ x, x = w5.alloc (.cells #[.int .u64 (ep : Int), .int .u64 (ct : Int), .bool fi, .bool la, .slice qao m qcap] 31) := ⟨_, rfl⟩
  obtain ⟨qb, hqb⟩ : ∃ x, x = w5.heap.size := ⟨_, rfl⟩
  have HB6 : Hid (w6.heap[qb]? = some (.cells #[.int .u64 (ep : Int), .int .u64 (ct : Int), .bool fi, .bool la, .slice qao m qcap] 31 (0, 0))) := Lib.hid (by rw [hw6, hqb]; exact heap_alloc_new w5 _)
  have hx6 : Ext w5 w6 := by rw [hw6]; exact (Ext.refl _).alloc _
  have HX6 := Lib.hid (HX5.out.trans hx6)
  have HX46 := Lib.hid (HX45.out.trans hx6)
  have HQ6 := Lib.hid (owns_ext HQ5.out hx6)
  have HTQ : Hid (T ≤ qb) := Lib.hid (by rw [HT.out, hqb]; exact HX5.out.size)
  rw [← hw6, ← hqb]
  clear hw6 hqb hx6 HQ5 HX5 HX45
  have hs := ends_x (.slice oo n ocap) bl w6 (HOB2.out.ext HX6.out)
  rw [← HAB.out.1, ← HAB.out.2] at hs
  refine hs.mono ?_
  rintro e w7 ⟨rfl, hx7⟩
  have HX27 : Hid (Ext w2 w7) := Lib.hid (HX6.out.trans hx7)
  have HX47 : Hid (Ext w4 w7) := Lib.hid (HX46.out.trans hx7)
  have HX67 : Hid (Ext w6 w7) := Lib.hid hx7
  have HBN7 : Hid (Bs w7 (.slice bo n bcap) bl) := Lib.hid (HB1.out.ext (HX2.out.trans HX27.out))
  clear hs hx7
  go_upto_if 34 with fail
  go_cut [10, 11] (fun s10 s11 wx => s10 = .int .u64 (a : Int) ∧ s11 = .int .u64 (b : Int) ∧ Hid (Ext w7 wx))
  case first =>
    by_cases h128 : n = 128
    · subst h128
      obtain ⟨ba, rfl⟩ : ∃ x, bo = some x := by
        obtain ⟨_, ao0, cap0, h2, h3, h4, h5, h6⟩ := HBN7.out
        cases bo with
        | none => simp only [Value.slice.injEq] at h2; obtain ⟨rfl, _, rfl⟩ := h2; have := h5 rfl; have := HBL.out.2; omega
        | some x => exact ⟨x, rfl⟩
      have hcap : 128 ≤ bcap := by
        obtain ⟨_, ao0, cap0, h2, h3, _⟩ := HBN7.out
        simp only [Value.slice.injEq] at h2; obtain ⟨_, _, rfl⟩ := h2; have := HBL.out.2; omega
      have hcapm : bcap ≤ 9223372036854775807 := by
        obtain ⟨_, ao0, cap0, h2, h3, h4, _⟩ := HBN7.out
        simp only [Value.slice.injEq] at h2; obtain ⟨_, _, rfl⟩ := h2; exact h4
      have HT3 : Hid (Bs w7 (.slice (some ba) 3 bcap) (bl.take 3)) := Lib.hid (HBN7.out.take (by decide))
      have HD3 : Hid (Bs w7 (.slice (some ⟨ba.block, ba.off + 120, none⟩) 3 (bcap - 120)) ((bl.drop 120).take 3)) := Lib.hid (by
        have h := Bs.sub HBN7.out (k := 120) (m := 123) (by decide) (by decide) (ao' := some ⟨ba.block, ba.off + 120, none⟩) (cap' := bcap - 120) (by omega) (by omega) (fun h => by cases h) (fun a' ha _ => by cases ha; exact ⟨ba, rfl, by rw [show ba.add 120 = ⟨ba.block, ba.off + 120, none⟩ from rfl]⟩)
        exact h)
      have HTL : Hid ((bl.take 3).length ≤ 8 ∧ ((bl.drop 120).take 3).length ≤ 8) := Lib.hid ⟨by rw [List.length_take]; omega, by rw [List.length_take]; omega⟩
      have HTV : Hid (a = valB (bl.take 3) ∧ b = valB ((bl.drop 120).take 3)) := Lib.hid ⟨by rw [HAB.out.1, endA_eq HBL.out.2.symm], by rw [HAB.out.2, endB_eq HBL.out.2.symm]⟩
      go_wp2_with fail
      have hc3 : (3 : Int) ≤ (bcap : Int) := by omega
      have hc120 : (120 : Int) ≤ (bcap : Int) := by omega
      have hc123 : (123 : Int) ≤ (bcap : Int) := by omega
      have hcne : (bcap = 120) = False := eq_false (by omega)
      refine wp_region_rx 8 _
        [ex (.slice (some ba) 128 bcap),
          ex (.slice (some ba) 3 bcap),
          ex (.int .u64 (a : Int)),
          ex (.slice (some ba) 128 bcap),
          ex (.slice (some ⟨ba.block, ba.off + 120, none⟩) 3 (bcap - 120)),
          ex (.int .u64 (b : Int)),
          ex (.int .u64 (a : Int)),
          ex (.int .u64 (b : Int))]
        (by kernel_rfl) (by kernel_rfl) (by kernel_rfl) rfl ⟨ex_st, ex_st, ex_st, ex_st, ex_st, ex_st, ex_st, ex_st, trivial⟩ ?_ ?_
      · simp only [List.take_succ_cons, List.take_zero]
        go_tidy
        refine RhOps.mk (RhOp.moveA (by decide) (.free rfl) 0 (fun _ w _ => Ext.refl w) rfl rfl (.slice (some ba) 128 bcap) rfl (fun _ _ _ => rfl)) ?_
        refine RhOps.mk (RhOp.at (by decide) (.free rfl) ?_) ?_
        rotate_left
        refine RhOps.mk (RhOp.at (by decide) (.free rfl) ?_) ?_
        rotate_left
        refine RhOps.mk (RhOp.moveA (by decide) (.free rfl) 0 (fun _ w _ => Ext.refl w) rfl rfl (.slice (some ba) 128 bcap) rfl (fun _ _ _ => rfl)) ?_
        refine RhOps.mk (RhOp.at (by decide) (.free rfl) ?_) ?_
        rotate_left
        refine RhOps.mk (RhOp.at (by decide) (.free rfl) ?_) ?_
        rotate_left
        refine RhOps.mk (RhOp.move (by decide) (.free rfl) 37 2 (fun _ w _ => Ext.refl w) rfl rfl rfl (fun _ _ h => h)) ?_
        refine RhOps.mk (RhOp.move (by decide) (.free rfl) 40 5 (fun _ w _ => Ext.refl w) rfl rfl rfl (fun _ _ h => h)) ?_
        exact RhOps.done
        · intro bb vals ρ w' hC hd hS
          have r35 : ρ (.tmp 35) = .slice (some ba) 128 bcap := (hS.tmp 35).trans (hd.at 0 rfl)
          have rc := hS.const
          refine (show givesR _ _ _ _ (fun v w'' => Ext w' w'' ∧ v = .slice (some ba) 3 bcap) from ?_)
          clear hC hd hS
          go_simp
          exact Ext.refl _
        · intro bb vals ρ w' hC hd hS
          have r36 : ρ (.tmp 36) = .slice (some ba) 3 bcap := (hS.tmp 36).trans (hd.at 1 rfl)
          have rf := hS.func
          refine (show givesR _ _ _ _ (fun v w'' => Ext w' w'' ∧ v = .int .u64 (a : Int)) from ?_)
          have h1 := HT3.out.ext hC
          have H1' := Lib.hid h1
          clear hC hd hS h1
          go_simp
          refine (rvalue_c _ _ w' H1'.out HTL.out.1).mono ?_
          rintro e w'' ⟨rfl, rfl⟩
          exact ⟨by rw [HTV.out.1], Ext.refl _⟩
        · intro bb vals ρ w' hC hd hS
          have r38 : ρ (.tmp 38) = .slice (some ba) 128 bcap := (hS.tmp 38).trans (hd.at 3 rfl)
          have rc := hS.const
          refine (show givesR _ _ _ _ (fun v w'' => Ext w' w'' ∧ v = .slice (some ⟨ba.block, ba.off + 120, none⟩) 3 (bcap - 120)) from ?_)
          clear hC hd hS
          go_simp
          exact Ext.refl _
        · intro bb vals ρ w' hC hd hS
          have r39 : ρ (.tmp 39) = .slice (some ⟨ba.block, ba.off + 120, none⟩) 3 (bcap - 120) := (hS.tmp 39).trans (hd.at 4 rfl)
          have rf := hS.func
          refine (show givesR _ _ _ _ (fun v w'' => Ext w' w'' ∧ v = .int .u64 (b : Int)) from ?_)
          have h1 := HD3.out.ext hC
          have H1' := Lib.hid h1
          clear hC hd hS h1
          go_simp
          refine (rvalue_c _ _ w' H1'.out HTL.out.2).mono ?_
          rintro e w'' ⟨rfl, rfl⟩
          exact ⟨by rw [HTV.out.2], Ext.refl _⟩
      intro vals w' hC hV
      have e6 := hV 6 (by decide)
      have e7 := hV 7 (by decide)
      simp only [vlist, ex, List.getD_cons_zero, List.getD_cons_succ] at e6 e7
      have HC' := Lib.hid hC; clear hC hV
      simp only [List.drop_succ_cons, List.drop_zero]
      go_simp -- the frame
      go_wp2_with fail
      go_meet
      case rel => first | exact ⟨rfl, rfl, HC'⟩ | exact ⟨e6, e7, HC'⟩
    · have hne : ((n : Int) == 128) = false := by simp; omega
      have HZ : Hid (a = 0 ∧ b = 0) := Lib.hid ⟨by rw [HAB.out.1]; unfold endA; rw [if_neg (by rw [← HBL.out.2]; exact h128)], by rw [HAB.out.2]; unfold endB; rw [if_neg (by rw [← HBL.out.2]; exact h128)]⟩
      clear h128
      go_wp2_with fail
      go_meet
      case rel => exact ⟨by rw [HZ.out.1]; rfl, by rw [HZ.out.2]; rfl, Lib.hid (Ext.refl _)⟩
  case rest =>
    obtain ⟨rfl, rfl, HX78⟩ := hcut
    rename World => w8
    have hb4 := ((HX47.out.trans HX78.out).block pb (Array.getElem?_eq_some_iff.1 HB4.out).1 id).trans HB4.out
    have hb6 := ((HX67.out.trans HX78.out).block qb (Array.getElem?_eq_some_iff.1 HB6.out).1 id).trans HB6.out
    have HB48 := Lib.hid hb4
    have HB68 := Lib.hid hb6
    have p0 : w8.cell? ⟨pb, 0, none⟩ = some (.int .u64 (ep : Int)) := by rw [cell_of_blk hb4]; rfl
    have p1 : w8.cell? ⟨pb, 1, none⟩ = some (.int .u64 (ct : Int)) := by rw [cell_of_blk hb4]; rfl
    have p2 : w8.cell? ⟨pb, 2, none⟩ = some (.bool fi) := by rw [cell_of_blk hb4]; rfl
    have p3 : w8.cell? ⟨pb, 3, none⟩ = some (.bool la) := by rw [cell_of_blk hb4]; rfl
    have p4 : w8.cell? ⟨pb, 4, none⟩ = some (.slice pao m pcap) := by rw [cell_of_blk hb4]; rfl
    have q0 : w8.cell? ⟨qb, 0, none⟩ = some (.int .u64 (ep : Int)) := by rw [cell_of_blk hb6]; rfl
    have q1 : w8.cell? ⟨qb, 1, none⟩ = some (.int .u64 (ct : Int)) := by rw [cell_of_blk hb6]; rfl
    have q2 : w8.cell? ⟨qb, 2, none⟩ = some (.bool fi) := by rw [cell_of_blk hb6]; rfl
    have q3 : w8.cell? ⟨qb, 3, none⟩ = some (.bool la) := by rw [cell_of_blk hb6]; rfl
    have q4 : w8.cell? ⟨qb, 4, none⟩ = some (.slice qao m qcap) := by rw [cell_of_blk hb6]; rfl
    have HOW : Hid (Bs w8 (.slice oo n ocap) bl) := Lib.hid (HOB2.out.ext (HX27.out.trans HX78.out))
    have HBB : Hid (Bs w8 (.slice bo n bcap) bl) := Lib.hid (HBN7.out.ext HX78.out)
    have HOO := Lib.hid (owns_ext HO2.out (HX27.out.trans HX78.out))
    have HPO := Lib.hid (owns_ext HP4.out (HX47.out.trans HX78.out))
    have HQO := Lib.hid (owns_ext HQ6.out (HX67.out.trans HX78.out))
    have HPD : Hid (Bs w8 (.slice pao m pcap) dl) := Lib.hid (by have h := Rs.of_owns HPO.out; unfold Bs; rw [HD.out.2.1]; exact h)
    have HQD : Hid (Bs w8 (.slice qao m qcap) dl) := Lib.hid (by have h := Rs.of_owns HQO.out; unfold Bs; rw [HD.out.2.1]; exact h)
    have HXW8 : Hid (Ext W w8) := Lib.hid (HX2.out.trans (HX27.out.trans HX78.out))
    clear hb4 hb6
    go_wp2_with fail
    refine wp_region_rx 26 _
      [ex (.agg #[.int .u64 (ep : Int), .int .u64 (ct : Int), .bool fi, .bool la, .slice pao m pcap]),
        ex (.agg #[.int .u64 (ep : Int), .int .u64 (ct : Int), .bool fi, .bool la, .slice pao m pcap]),
        ex (.agg #[.int .u64 (ep : Int), .int .u64 (ct : Int), .bool fi, .bool la, .slice qao m qcap]),
        ex (.bool true),
        ex (.bool false),
        ex (.bool false),
        ex (.int .i64 (k : Int)),
        ex (.int .i64 (k : Int)),
        ex (.bool false),
        ex (.bool false),
        ex (.bool false),
        ex (.slice oo n ocap),
        ex (.slice bo n bcap),
        ex (.bool true),
        ex (.bool false),
        ex (.bool false),
        ex (.bool false),
        ex (.int .u64 (a : Int)),
        ex (.int .u64 (a : Int)),
        ex (.bool false),
        ex (.bool false),
        ex (.bool false),
        ex (.int .u64 (b : Int)),
        ex (.int .u64 (b : Int)),
        ex (.bool false),
        ex (.bool false)]
      (by kernel_rfl) (by kernel_rfl) (by kernel_rfl) rfl ⟨ex_st, ex_st, ex_st, ex_st, ex_st, ex_st, ex_st, ex_st, ex_st, ex_st, ex_st, ex_st, ex_st, ex_st, ex_st, ex_st, ex_st, ex_st, ex_st, ex_st, ex_st, ex_st, ex_st, ex_st, ex_st, ex_st, trivial⟩ ?_ ?_
    · simp only [List.take_succ_cons, List.take_zero]
      go_tidy
      refine RhOps.mk (RhOp.at (by decide) (.free rfl) ?_) ?_
      rotate_left
      refine RhOps.mk (RhOp.at (by decide) (.free rfl) ?_) ?_
      rotate_left
      refine RhOps.mk (RhOp.at (by decide) (.free rfl) ?_) ?_
      rotate_left
      refine RhOps.mk (RhOp.at (by decide) (.free rfl) ?_) ?_
      rotate_left
      refine RhOps.mk (RhOp.at (by decide) (.free rfl) ?_) ?_
      rotate_left
      refine RhOps.mk (RhOp.move (by decide) (.free rfl) 45 4 (fun _ w _ => Ext.refl w) rfl rfl rfl (fun _ _ h => h)) ?_
      refine RhOps.mk (RhOp.moveA (by decide) (.on 5 false rfl (fun _ _ h => h)) 5 (fun _ w _ => Ext.refl w) rfl rfl (.int .i64 (k : Int)) rfl (fun _ _ _ => rfl)) ?_
      refine RhOps.mk (RhOp.moveA (by decide) (.on 5 false rfl (fun _ _ h => h)) 7 (fun _ w _ => Ext.refl w) rfl rfl (.int .i64 (k : Int)) rfl (fun _ _ _ => rfl)) ?_
      refine RhOps.mk (RhOp.at (by decide) (.on 5 false rfl (fun _ _ h => h)) ?_) ?_
      rotate_left
      refine RhOps.mk (RhOp.at (by decide) (.free rfl) ?_) ?_
      rotate_left
      refine RhOps.mk (RhOp.move (by decide) (.free rfl) 50 9 (fun _ w _ => Ext.refl w) rfl rfl rfl (fun _ _ h => h)) ?_
      refine RhOps.mk (RhOp.moveA (by decide) (.on 10 false rfl (fun _ _ h => h)) 3 (fun _ w _ => Ext.refl w) rfl rfl (.slice oo n ocap) rfl (fun _ _ _ => rfl)) ?_
      refine RhOps.mk (RhOp.moveA (by decide) (.on 10 false rfl (fun _ _ h => h)) 0 (fun _ w _ => Ext.refl w) rfl rfl (.slice bo n bcap) rfl (fun _ _ _ => rfl)) ?_
      refine RhOps.mk (RhOp.at (by decide) (.on 10 false rfl (fun _ _ h => h)) ?_) ?_
      rotate_left
      refine RhOps.mk (RhOp.at (by decide) (.on 10 false rfl (fun _ _ h => h)) ?_) ?_
      rotate_left
      refine RhOps.mk (RhOp.at (by decide) (.free rfl) ?_) ?_
      rotate_left
      refine RhOps.mk (RhOp.move (by decide) (.free rfl) 56 15 (fun _ w _ => Ext.refl w) rfl rfl rfl (fun _ _ h => h)) ?_
      refine RhOps.mk (RhOp.moveA (by decide) (.on 16 false rfl (fun _ _ h => h)) 8 (fun _ w _ => Ext.refl w) rfl rfl (.int .u64 (a : Int)) rfl (fun _ _ _ => rfl)) ?_
      refine RhOps.mk (RhOp.moveA (by decide) (.on 16 false rfl (fun _ _ h => h)) 10 (fun _ w _ => Ext.refl w) rfl rfl (.int .u64 (a : Int)) rfl (fun _ _ _ => rfl)) ?_
      refine RhOps.mk (RhOp.at (by decide) (.on 16 false rfl (fun _ _ h => h)) ?_) ?_
      rotate_left
      refine RhOps.mk (RhOp.at (by decide) (.free rfl) ?_) ?_
      rotate_left
      refine RhOps.mk (RhOp.move (by decide) (.free rfl) 61 20 (fun _ w _ => Ext.refl w) rfl rfl rfl (fun _ _ h => h)) ?_
      refine RhOps.mk (RhOp.moveA (by decide) (.on 21 false rfl (fun _ _ h => h)) 9 (fun _ w _ => Ext.refl w) rfl rfl (.int .u64 (b : Int)) rfl (fun _ _ _ => rfl)) ?_
      refine RhOps.mk (RhOp.moveA (by decide) (.on 21 false rfl (fun _ _ h => h)) 11 (fun _ w _ => Ext.refl w) rfl rfl (.int .u64 (b : Int)) rfl (fun _ _ _ => rfl)) ?_
      refine RhOps.mk (RhOp.at (by decide) (.on 21 false rfl (fun _ _ h => h)) ?_) ?_
      rotate_left
      refine RhOps.mk (RhOp.at (by decide) (.free rfl) ?_) ?_
      rotate_left
      exact RhOps.done
      · intro bb vals ρ w' hC hd hS
        have r4 : ρ (.tmp 4) = .pointer (some ⟨pb, 0, none⟩) := hS.tmp 4
        refine (show givesR _ _ _ _ (fun v w'' => Ext w' w'' ∧ v = .agg #[.int .u64 (ep : Int), .int .u64 (ct : Int), .bool fi, .bool la, .slice pao m pcap]) from ?_)
        have q0 := hC.cell p0
        have q1 := hC.cell p1
        have q2 := hC.cell p2
        have q3 := hC.cell p3
        have q4 := hC.cell p4
        clear hC hd hS
        go_simp
        exact Ext.refl _
      · intro bb vals ρ w' hC hd hS
        have r41 : ρ (.tmp 41) = .agg #[.int .u64 (ep : Int), .int .u64 (ct : Int), .bool fi, .bool la, .slice pao m pcap] := (hS.tmp 41).trans (hd.at 0 rfl)
        have rf := hS.func
        refine (show givesR _ _ _ _ (fun v w'' => Ext w' w'' ∧ v = .agg #[.int .u64 (ep : Int), .int .u64 (ct : Int), .bool fi, .bool la, .slice pao m pcap]) from ?_)
        clear hC hd hS
        go_simp
        refine (plain_c _ _ _ _ _ _ _ w').mono ?_
        rintro e w'' ⟨rfl, hx⟩
        exact ⟨rfl, hx⟩
      · intro bb vals ρ w' hC hd hS
        have r6 : ρ (.tmp 6) = .pointer (some ⟨qb, 0, none⟩) := hS.tmp 6
        refine (show givesR _ _ _ _ (fun v w'' => Ext w' w'' ∧ v = .agg #[.int .u64 (ep : Int), .int .u64 (ct : Int), .bool fi, .bool la, .slice qao m qcap]) from ?_)
        have q0 := hC.cell q0
        have q1 := hC.cell q1
        have q2 := hC.cell q2
        have q3 := hC.cell q3
        have q4 := hC.cell q4
        clear hC hd hS
        go_simp
        exact Ext.refl _
      · intro bb vals ρ w' hC hd hS
        have r42 : ρ (.tmp 42) = .agg #[.int .u64 (ep : Int), .int .u64 (ct : Int), .bool fi, .bool la, .slice pao m pcap] := (hS.tmp 42).trans (hd.at 1 rfl)
        have r43 : ρ (.tmp 43) = .agg #[.int .u64 (ep : Int), .int .u64 (ct : Int), .bool fi, .bool la, .slice qao m qcap] := (hS.tmp 43).trans (hd.at 2 rfl)
        have rf := hS.func
        refine (show givesR _ _ _ _ (fun v w'' => Ext w' w'' ∧ v = .bool true) from ?_)
        have h1 := HPD.out.ext hC
        have h2 := HQD.out.ext hC
        have H1' := Lib.hid h1
        have H2' := Lib.hid h2
        clear hC hd hS h1 h2
        go_simp
        refine (psame_c _ _ _ _ _ _ dl w' H1'.out H2'.out).mono ?_
        rintro e w'' ⟨rfl, hx⟩
        exact ⟨rfl, hx⟩
      · intro bb vals ρ w' hC hd hS
        have r44 : ρ (.tmp 44) = .bool true := (hS.tmp 44).trans (hd.at 3 rfl)
        refine (show givesR _ _ _ _ (fun v w'' => Ext w' w'' ∧ v = .bool false) from ?_)
        clear hC hd hS
        go_simp
        exact Ext.refl _
      · intro bb vals ρ w' hC hd hS
        have r47 : ρ (.tmp 47) = .int .i64 (k : Int) := (hS.tmp 47).trans (hd.at 6 rfl)
        have r48 : ρ (.tmp 48) = .int .i64 (k : Int) := (hS.tmp 48).trans (hd.at 7 rfl)
        refine (show givesR _ _ _ _ (fun v w'' => Ext w' w'' ∧ v = .bool false) from ?_)
        clear hC hd hS
        go_simp
        exact Ext.refl _
      · intro bb vals ρ w' hC hd hS
        have r46 : ρ (.tmp 46) = .bool false := (hS.tmp 46).trans (hd.at 5 rfl)
        have r49 : ρ (.tmp 49) = .bool false := (hS.tmp 49).trans (hd.at 8 rfl)
        have rc := hS.const
        refine (show givesR _ _ _ _ (fun v w'' => Ext w' w'' ∧ v = .bool false) from ?_)
        clear hC hd hS
        go_simp
        exact Ext.refl _
      · intro bb vals ρ w' hC hd hS
        have r52 : ρ (.tmp 52) = .slice oo n ocap := (hS.tmp 52).trans (hd.at 11 rfl)
        have r53 : ρ (.tmp 53) = .slice bo n bcap := (hS.tmp 53).trans (hd.at 12 rfl)
        have rf := hS.func
        refine (show givesR _ _ _ _ (fun v w'' => Ext w' w'' ∧ v = .bool true) from ?_)
        have h1 := HOW.out.ext hC
        have h2 := HBB.out.ext hC
        have H1' := Lib.hid h1
        have H2' := Lib.hid h2
        clear hC hd hS h1 h2
        go_simp
        refine (same_c _ _ _ _ w' H1'.out H2'.out).mono ?_
        rintro e w'' ⟨rfl, nd, rfl⟩
        exact ⟨by simp, (Ext.refl _).drewN _⟩
      · intro bb vals ρ w' hC hd hS
        have r54 : ρ (.tmp 54) = .bool true := (hS.tmp 54).trans (hd.at 13 rfl)
        refine (show givesR _ _ _ _ (fun v w'' => Ext w' w'' ∧ v = .bool false) from ?_)
        clear hC hd hS
        go_simp
        exact Ext.refl _
      · intro bb vals ρ w' hC hd hS
        have r51 : ρ (.tmp 51) = .bool false := (hS.tmp 51).trans (hd.at 10 rfl)
        have r55 : ρ (.tmp 55) = .bool false := (hS.tmp 55).trans (hd.at 14 rfl)
        have rc := hS.const
        refine (show givesR _ _ _ _ (fun v w'' => Ext w' w'' ∧ v = .bool false) from ?_)
        clear hC hd hS
        go_simp
        exact Ext.refl _
      · intro bb vals ρ w' hC hd hS
        have r58 : ρ (.tmp 58) = .int .u64 (a : Int) := (hS.tmp 58).trans (hd.at 17 rfl)
        have r59 : ρ (.tmp 59) = .int .u64 (a : Int) := (hS.tmp 59).trans (hd.at 18 rfl)
        refine (show givesR _ _ _ _ (fun v w'' => Ext w' w'' ∧ v = .bool false) from ?_)
        clear hC hd hS
        go_simp
        exact Ext.refl _
      · intro bb vals ρ w' hC hd hS
        have r57 : ρ (.tmp 57) = .bool false := (hS.tmp 57).trans (hd.at 16 rfl)
        have r60 : ρ (.tmp 60) = .bool false := (hS.tmp 60).trans (hd.at 19 rfl)
        have rc := hS.const
        refine (show givesR _ _ _ _ (fun v w'' => Ext w' w'' ∧ v = .bool false) from ?_)
        clear hC hd hS
        go_simp
        exact Ext.refl _
      · intro bb vals ρ w' hC hd hS
        have r63 : ρ (.tmp 63) = .int .u64 (b : Int) := (hS.tmp 63).trans (hd.at 22 rfl)
        have r64 : ρ (.tmp 64) = .int .u64 (b : Int) := (hS.tmp 64).trans (hd.at 23 rfl)
        refine (show givesR _ _ _ _ (fun v w'' => Ext w' w'' ∧ v = .bool false) from ?_)
        clear hC hd hS
        go_simp
        exact Ext.refl _
      · intro bb vals ρ w' hC hd hS
        have r62 : ρ (.tmp 62) = .bool false := (hS.tmp 62).trans (hd.at 21 rfl)
        have r65 : ρ (.tmp 65) = .bool false := (hS.tmp 65).trans (hd.at 24 rfl)
        have rc := hS.const
        refine (show givesR _ _ _ _ (fun v w'' => Ext w' w'' ∧ v = .bool false) from ?_)
        clear hC hd hS
        go_simp
        exact Ext.refl _
    intro vals w' hC hV
    have e25 := hV 25 (by decide)
    simp only [vlist, ex, List.getD_cons_zero, List.getD_cons_succ] at e25
    have HC' := Lib.hid hC; clear hC hV
    simp only [List.drop_succ_cons, List.drop_zero]
    go_simp -- the frame
    rename World => w9
    clear p0 p1 p2 p3 p4 q0 q1 q2 q3 q4
    go_wp2_with fail
    go_loopw [12] (fun i wr => ∃ j : Nat, j ≤ n ∧ i = .int .i64 j ∧ Hid (Mod (fun q => W.heap.size ≤ q ∧ q < T) w9 wr ∧ ∃ xs : List UInt8, wr.ownsRow W.heap.size 5 1 (.slice oo n ocap) n (xs.map bv))) (fun i _ => n - (intOf i).toNat)
    case atStart => exact ⟨0, by omega, rfl, Lib.hid ⟨Mod.refl _ _, bl, owns_ext HOO.out HC'.out⟩⟩
    case round =>
      obtain ⟨j, hj, rfl, HR⟩ := hrel
      by_cases hlt : j < n
      · obtain ⟨hm9, xs, hxs⟩ := HR.out
        obtain ⟨g, cap', he, hg1, hg2⟩ := World.ownsRow.form hxs (by omega)
        simp only [Value.slice.injEq] at he
        obtain ⟨rfl, _, rfl⟩ := he
        have hgT : g < T := by rw [HT.out]; exact (owns_block HO2.out rfl).2
        have hjx : j < xs.length := by have := hxs.1; simp at this; omega
        have cj : wr.cell? ⟨g, j, none⟩ = some (.int .u8 ((xs[j]).toNat : Int)) := by
          rw [World.ownsRow.cellAt hxs j (by omega), List.getElem?_map, List.getElem?_eq_getElem hjx]; rfl
        have fj := World.ownsRow.frozenAt hxs j
        generalize (xs[j]).toNat = c at cj
        have HXB : Hid (Value.int .u8 (((c : Int) + 1) % 256) = bv (UInt8.ofNat (c + 1))) := Lib.hid (by rw [← bv_ofNat]; rfl)
        have HST := Lib.hid (World.ownsRow.stored hxs j (bv (UInt8.ofNat (c + 1)))).1
        have HM9 := Lib.hid hm9
        have HG : Hid (W.heap.size ≤ g ∧ g < T) := Lib.hid ⟨hg1, hgT⟩
        have hji : (j : Int) < (n : Int) := by omega
        clear hm9 hxs hjx hg1 hg2 hgT HR
        go_wp2_with fail
        go_roundw
        case rel =>
          refine ⟨j + 1, by omega, by go_num, Lib.hid ⟨?_, ?_⟩⟩
          · exact Mod.setCell HM9.out (fun _ => HG.out) _
          · have h := HST.out
            rw [← List.map_set] at h
            exact ⟨_, by rw [← HXB.out] at h; exact h⟩
        case measure => simp [intOf]; omega
      · have : j = n := by omega
        subst this
        rename World => wr
        have hm := HR.out.1
        have hx89 := HC'.out
        have hpb : wr.heap[pb]? = w9.heap[pb]? := hm.block pb (Nat.lt_of_lt_of_le (Array.getElem?_eq_some_iff.1 HB48.out).1 hx89.size) (fun h => by have := HTP.out; omega)
        have hqb : wr.heap[qb]? = w9.heap[qb]? := hm.block qb (Nat.lt_of_lt_of_le (Array.getElem?_eq_some_iff.1 HB68.out).1 hx89.size) (fun h => by have := HTQ.out; omega)
        have hb4 := hpb.trans ((hx89.block pb (Array.getElem?_eq_some_iff.1 HB48.out).1 id).trans HB48.out)
        have hb6 := hqb.trans ((hx89.block qb (Array.getElem?_eq_some_iff.1 HB68.out).1 id).trans HB68.out)
        have p0 : wr.cell? ⟨pb, 0, none⟩ = some (.int .u64 (ep : Int)) := by rw [cell_of_blk hb4]; rfl
        have p1 : wr.cell? ⟨pb, 1, none⟩ = some (.int .u64 (ct : Int)) := by rw [cell_of_blk hb4]; rfl
        have p2 : wr.cell? ⟨pb, 2, none⟩ = some (.bool fi) := by rw [cell_of_blk hb4]; rfl
        have p3 : wr.cell? ⟨pb, 3, none⟩ = some (.bool la) := by rw [cell_of_blk hb4]; rfl
        have p4 : wr.cell? ⟨pb, 4, none⟩ = some (.slice pao m pcap) := by rw [cell_of_blk hb4]; rfl
        have q0 : wr.cell? ⟨qb, 0, none⟩ = some (.int .u64 (ep : Int)) := by rw [cell_of_blk hb6]; rfl
        have q1 : wr.cell? ⟨qb, 1, none⟩ = some (.int .u64 (ct : Int)) := by rw [cell_of_blk hb6]; rfl
        have q2 : wr.cell? ⟨qb, 2, none⟩ = some (.bool fi) := by rw [cell_of_blk hb6]; rfl
        have q3 : wr.cell? ⟨qb, 3, none⟩ = some (.bool la) := by rw [cell_of_blk hb6]; rfl
        have q4 : wr.cell? ⟨qb, 4, none⟩ = some (.slice qao m qcap) := by rw [cell_of_blk hb6]; rfl
        have HPE : Hid (Bs wr (.slice pao m pcap) dl) := Lib.hid ((HPD.out.ext hx89).mod hm (fun q hq _ h => by have := (owns_block HPO.out hq).1; omega))
        have HQE : Hid (Bs wr (.slice qao m qcap) dl) := Lib.hid ((HQD.out.ext hx89).mod hm (fun q hq _ h => by have := (owns_block HQO.out hq).1; omega))
        have HWR : Hid (Below W.heap.size W wr) := Lib.hid ((HXW8.out.below.trans (hx89.below.mono HXW8.out.size)).trans (hm.below (HXW8.out.trans hx89).size (fun q hq => hq.1)))
        clear hm hx89 hpb hqb hb4 hb6
        go_wp2_with fail
        refine wp_region_rx 8 _
          [ex (.agg #[.int .u64 (ep : Int), .int .u64 (ct : Int), .bool fi, .bool la, .slice pao m pcap]),
            ex (.agg #[.int .u64 (ep : Int), .int .u64 (ct : Int), .bool fi, .bool la, .slice pao m pcap]),
            ex (.agg #[.int .u64 (ep : Int), .int .u64 (ct : Int), .bool fi, .bool la, .slice qao m qcap]),
            ex (.bool true),
            ex (.bool true),
            ex (.bool true),
            ex (.bool true),
            ex (.bool true)]
          (by kernel_rfl) (by kernel_rfl) (by kernel_rfl) rfl ⟨ex_st, ex_st, ex_st, ex_st, ex_st, ex_st, ex_st, ex_st, trivial⟩ ?_ ?_
        · simp only [List.take_succ_cons, List.take_zero]
          go_tidy
          refine RhOps.mk (RhOp.at (by decide) (.free rfl) ?_) ?_
          rotate_left
          refine RhOps.mk (RhOp.at (by decide) (.free rfl) ?_) ?_
          rotate_left
          refine RhOps.mk (RhOp.at (by decide) (.free rfl) ?_) ?_
          rotate_left
          refine RhOps.mk (RhOp.at (by decide) (.free rfl) ?_) ?_
          rotate_left
          refine RhOps.mk (RhOp.move (by decide) (.free rfl) 84 3 (fun _ w _ => Ext.refl w) rfl rfl rfl (fun _ _ h => h)) ?_
          refine RhOps.mk (RhOp.at (by decide) (.on 4 true rfl (fun _ _ h => h)) ?_) ?_
          rotate_left
          refine RhOps.mk (RhOp.at (by decide) (.free rfl) ?_) ?_
          rotate_left
          refine RhOps.mk (RhOp.move (by decide) (.free rfl) 87 6 (fun _ w _ => Ext.refl w) rfl rfl rfl (fun _ _ h => h)) ?_
          exact RhOps.done
          · intro bb vals ρ w' hC hd hS
            have r4 : ρ (.tmp 4) = .pointer (some ⟨pb, 0, none⟩) := hS.tmp 4
            refine (show givesR _ _ _ _ (fun v w'' => Ext w' w'' ∧ v = .agg #[.int .u64 (ep : Int), .int .u64 (ct : Int), .bool fi, .bool la, .slice pao m pcap]) from ?_)
            have q0 := hC.cell p0
            have q1 := hC.cell p1
            have q2 := hC.cell p2
            have q3 := hC.cell p3
            have q4 := hC.cell p4
            clear hC hd hS
            go_simp
            exact Ext.refl _
          · intro bb vals ρ w' hC hd hS
            have r81 : ρ (.tmp 81) = .agg #[.int .u64 (ep : Int), .int .u64 (ct : Int), .bool fi, .bool la, .slice pao m pcap] := (hS.tmp 81).trans (hd.at 0 rfl)
            have rf := hS.func
            refine (show givesR _ _ _ _ (fun v w'' => Ext w' w'' ∧ v = .agg #[.int .u64 (ep : Int), .int .u64 (ct : Int), .bool fi, .bool la, .slice pao m pcap]) from ?_)
            clear hC hd hS
            go_simp
            refine (plain_c _ _ _ _ _ _ _ w').mono ?_
            rintro e w'' ⟨rfl, hx⟩
            exact ⟨rfl, hx⟩
          · intro bb vals ρ w' hC hd hS
            have r6 : ρ (.tmp 6) = .pointer (some ⟨qb, 0, none⟩) := hS.tmp 6
            refine (show givesR _ _ _ _ (fun v w'' => Ext w' w'' ∧ v = .agg #[.int .u64 (ep : Int), .int .u64 (ct : Int), .bool fi, .bool la, .slice qao m qcap]) from ?_)
            have q0 := hC.cell q0
            have q1 := hC.cell q1
            have q2 := hC.cell q2
            have q3 := hC.cell q3
            have q4 := hC.cell q4
            clear hC hd hS
            go_simp
            exact Ext.refl _
          · intro bb vals ρ w' hC hd hS
            have r82 : ρ (.tmp 82) = .agg #[.int .u64 (ep : Int), .int .u64 (ct : Int), .bool fi, .bool la, .slice pao m pcap] := (hS.tmp 82).trans (hd.at 1 rfl)
            have r83 : ρ (.tmp 83) = .agg #[.int .u64 (ep : Int), .int .u64 (ct : Int), .bool fi, .bool la, .slice qao m qcap] := (hS.tmp 83).trans (hd.at 2 rfl)
            have rf := hS.func
            refine (show givesR _ _ _ _ (fun v w'' => Ext w' w'' ∧ v = .bool true) from ?_)
            have h1 := HPE.out.ext hC
            have h2 := HQE.out.ext hC
            have H1' := Lib.hid h1
            have H2' := Lib.hid h2
            clear hC hd hS h1 h2
            go_simp
            refine (psame_c _ _ _ _ _ _ dl w' H1'.out H2'.out).mono ?_
            rintro e w'' ⟨rfl, hx⟩
            exact ⟨rfl, hx⟩
          · intro bb vals ρ w' hC hd hS
            have rf := hS.func
            refine (show givesR _ _ _ _ (fun v w'' => Ext w' w'' ∧ v = .bool true) from ?_)
            clear hC hd hS
            go_simp
            refine (HL.out w').mono ?_
            rintro e w'' ⟨rfl, hx⟩
            exact ⟨rfl, hx⟩
          · intro bb vals ρ w' hC hd hS
            have r85 : ρ (.tmp 85) = .bool true := (hS.tmp 85).trans (hd.at 4 rfl)
            have r86 : ρ (.tmp 86) = .bool true := (hS.tmp 86).trans (hd.at 5 rfl)
            have rc := hS.const
            refine (show givesR _ _ _ _ (fun v w'' => Ext w' w'' ∧ v = .bool true) from ?_)
            clear hC hd hS
            go_simp
            exact Ext.refl _
        intro vals w' hC hV
        have e7 := hV 7 (by decide)
        simp only [vlist, ex, List.getD_cons_zero, List.getD_cons_succ] at e7
        have HC' := Lib.hid hC; clear hC hV
        simp only [List.drop_succ_cons, List.drop_zero]
        go_simp -- the frame
        go_wp2_with fail
        go_ret
        exact ⟨rfl, HWR.out.trans (HC'.out.below.mono HWR.out.size)⟩

end Go.Proofs.Ytcedfpckjdobpaa

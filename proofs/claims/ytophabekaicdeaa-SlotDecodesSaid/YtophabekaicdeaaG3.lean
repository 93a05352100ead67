/- Texts put together: R3 R4 R5 R6 R7 B17 B19 B20. -/
import Derived.Test.YtophabekaicdeaaG2
import Derived.Test.YtophabekaicdeaaG0
import Derived.Maps.AppendAt

set_option linter.unusedVariables false
set_option linter.unusedSimpArgs false
namespace Go.Proofs.Ytophabekaicdeaa
open Go.RowKit

/-- One bit more into the last byte. -/
theorem val_snoc (c : List Bool) (b : Bool) : val (c ++ [b]) = val c * 2 + b.toNat := by
  rw [val_append, val_cons, val_nil]; simp
theorem chunk_at (bl : List Bool) (i : Nat) (hi : i < bl.length) : ∃ a c, bl.take i = a ++ c ∧ a.length % 8 = 0 ∧ c.length = i % 8 ∧ bl.take (i + 1) = a ++ (c ++ [bl[i]]) ∧ a.length = i / 8 * 8 := by
  refine ⟨(bl.take i).take (i / 8 * 8), (bl.take i).drop (i / 8 * 8), (List.take_append_drop _ _).symm, ?_, ?_, ?_, ?_⟩
  · rw [List.length_take, List.length_take]; omega
  · rw [List.length_drop, List.length_take]; omega
  · rw [← List.append_assoc, List.take_append_drop, List.take_succ_eq_append_getElem hi]
  · rw [List.length_take, List.length_take]; omega
/-- The bytes so far: the last one not yet shifted. -/
def rawB (l : List Bool) : List UInt8 := packed (l.take (l.length / 8 * 8)) ++ if l.length % 8 = 0 then [] else [UInt8.ofNat (val (l.drop (l.length / 8 * 8)))]
theorem rawB_split {a c : List Bool} (ha : a.length % 8 = 0) (hc : c.length < 8) (h0 : c ≠ []) : rawB (a ++ c) = packed a ++ [UInt8.ofNat (val c)] := by
  have hp := List.length_pos_iff.2 h0
  unfold rawB
  rw [List.length_append, if_neg (by omega), show (a.length + c.length) / 8 * 8 = a.length by omega, List.take_left, List.drop_left]
theorem rawB_whole {a : List Bool} (ha : a.length % 8 = 0) : rawB a = packed a := by
  unfold rawB
  rw [if_pos ha, show a.length / 8 * 8 = a.length by omega, List.take_length, List.append_nil]
theorem rawB_eight {a c : List Bool} (ha : a.length % 8 = 0) (hc : c.length = 8) : rawB (a ++ c) = packed a ++ [UInt8.ofNat (val c)] := by
  rw [rawB_whole (by rw [List.length_append]; omega), packed_snoc ha (by omega) (by intro e; rw [e] at hc; cases hc)]
  simp [byteOf, byteN, hc]
theorem rawB_any {a c : List Bool} (ha : a.length % 8 = 0) (hc : c.length ≤ 8) (h0 : c ≠ []) : rawB (a ++ c) = packed a ++ [UInt8.ofNat (val c)] := by
  rcases Nat.lt_or_ge c.length 8 with h | h
  · exact rawB_split ha h h0
  · exact rawB_eight ha (by omega)

theorem rb_num {x y z : Nat} (hx : x * 2 < 256) (hz : z = x * 2 + y) (h : z < 256) : IntKind.u8.wrap ((x : Int) * 2) = (x : Int) * 2 ∧ IntKind.u8.wrap ((x : Int) * 2 + (y : Int)) = (z : Int) := by
  rw [IntKind.wrap_u8', IntKind.wrap_u8']
  omega

set_option maxRecDepth 100000 in
set_option maxHeartbeats 4000000 in
theorem rbytes_c (v : Value) (bl : List Bool) (w : World) (h : Bs w v (bbs bl)) (hl : bl.length ≤ 1000000) :
    Calls Try.prog 49 #[v] w fun e w' => ∃ ao cap, e = .returned (.slice ao (packed bl).length cap) ∧ Ext w w' ∧ w'.ownsRow w.heap.size 5 1 (.slice ao (packed bl).length cap) (packed bl).length ((packed bl).map bv) := by
  obtain ⟨lo, lcap, rfl, l1, l2, l3, l4⟩ := h.open
  clear h
  obtain ⟨n, hn⟩ : ∃ n, n = bl.length := ⟨_, rfl⟩
  rw [bbs_length, ← hn] at l1 l4 ⊢
  have HN := Lib.hid hn
  have HC := Lib.hid l4
  have HL3 := Lib.hid l3
  have hnb : n ≤ 1000000 := by omega
  clear hn l4 l3 hl
  go_enter Try.func49, Try.ntmps49
  go_wp2_with fail
  go_loopw [3, 4] (fun v i wr => ∃ (k : Nat) (ao : Option Addr) (cap m : Nat), k ≤ n ∧ i = .int .i64 k ∧ v = .slice ao m cap ∧ m = (k + 7) / 8 ∧ Ext w wr ∧ wr.ownsRow w.heap.size 5 1 (.slice ao m cap) m ((rawB (bl.take k)).map bv)) (fun _ i _ => n - (intOf i).toNat)
  case atStart => exact ⟨0, none, 0, 0, Nat.zero_le _, rfl, rfl, rfl, Ext.refl w, by rw [List.take_zero]; exact World.ownsRow_nil _ _ _ _⟩
  case round =>
    obtain ⟨i, ao, cap, m0, hk, rfl, rfl, hm0, hx, ho⟩ := hrel
    have HX := Lib.hid hx
    have HO := Lib.hid ho
    have HM0 := Lib.hid hm0
    clear hx ho hm0
    by_cases hlt : i < n
    · obtain ⟨la, rfl⟩ : ∃ a, lo = some a := by cases lo with | none => have := HL3.out rfl; omega | some a => exact ⟨a, rfl⟩
      obtain ⟨a, c, t1, t2, t3, t4, t5⟩ := chunk_at bl i (by rw [← HN.out]; exact hlt)
      obtain ⟨b, hb⟩ : ∃ b, b = bl[i]'(by rw [← HN.out]; exact hlt) := ⟨_, rfl⟩
      rw [← hb] at t4
      obtain ⟨m, hm⟩ : ∃ m, m = i / 8 := ⟨_, rfl⟩
      have hpa : (packed a).length = m := by rw [packed_length, t5]; omega
      have hki : (i : Int) < (n : Int) := by omega
      have hcl0 := HC.out la rfl i hlt
      have hcl : w.cell? (la.add i) = some (.int .u8 ((bb b).toNat : Int)) := by
        rw [hcl0, hb]
        simp [bbs, List.getD, List.getElem?_eq_getElem (show i < bl.length by rw [← HN.out]; exact hlt)]
      have HCL := Lib.hid hcl
      have HCH : Hid (bl.take i = a ++ c ∧ a.length % 8 = 0 ∧ c.length = i % 8 ∧ bl.take (i + 1) = a ++ (c ++ [b]) ∧ (packed a).length = m) := Lib.hid ⟨t1, t2, t3, t4, hpa⟩
      have HM := Lib.hid hm
      clear t1 t2 t3 t4 t5 hb hpa hcl0 hcl hm
      have HCH2 : Hid (c = [] ∨ c ≠ []) := Lib.hid (by by_cases h : c = []; exact .inl h; exact .inr h)
      by_cases h8 : i % 8 = 0
      focus
        have hr : (i : Int) % 8 = 0 := by omega
        have hm0 : m0 = m := by have := HM0.out; have := HM.out; omega
        have hc0 : c = [] := List.eq_nil_of_length_eq_zero (by rw [HCH.out.2.2.1]; exact h8)
        have ho := HO.out
        rw [HCH.out.1, hc0, List.append_nil, rawB_whole HCH.out.2.1, hm0] at ho
        have HOA := Lib.hid ho
        have HC0 := Lib.hid hc0
        have HSZ : Hid (w.heap.size ≤ wr.heap.size ∧ m ≤ 1000000) := Lib.hid ⟨HX.out.size, by have := HM.out; omega⟩
        rw [hm0]
        clear h8 hm0 hc0 ho
        go_upto_region 7 with (first | (at_builtin; go_loud (refine wpList_app rfl (.tmp 17) (.tmp 18) 26 rfl etBytes w.heap.size rfl (owns_ext HOA.out ((Ext.refl wr).alloc _)) rfl (Rs.of_owns (owns_lit (n := 1) (size := 1) (cs := #[bv 0]) rfl (Nat.le_refl _) (by decide))) (oneCell_bv [0]) (by have := HSZ.out; omega) (by have := HSZ.out; omega) (by have := HSZ.out; simp; omega) ?_); intro v' W8 hown hgr _) | fail)
        have hx8 : Ext w W8 := (HX.out.alloc _).grown hgr fun q hq => (owns_block HOA.out hq).1
        obtain ⟨g, cap1, he, hg1, hg2⟩ := World.ownsRow.form hown (by omega)
        subst he
        have HROW : Hid (W8.ownsRow w.heap.size 5 1 (.slice (some ⟨g, 0, none⟩) (m + 1) cap1) (m + 1) ((packed a ++ [UInt8.ofNat (val c)]).map bv)) := Lib.hid (by rw [HC0.out, List.map_append]; exact hown)
        have HX8 := Lib.hid hx8
        clear hown hgr hx8 hg1 hg2 hr
      rotate_left
      focus
        have hr : ((i : Int) % 8 == 0) = false := by rw [beq_eq_false_iff_ne]; omega
        have hm0 : m0 = m + 1 := by have := HM0.out; have := HM.out; omega
        have hc0 : c ≠ [] := fun e => by have := HCH.out.2.2.1; rw [e] at this; simp at this; omega
        have ho := HO.out
        rw [HCH.out.1, rawB_split HCH.out.2.1 (by rw [HCH.out.2.2.1]; omega) hc0, hm0] at ho
        obtain ⟨g, cap1, he, hg1, hg2⟩ := World.ownsRow.form ho (by omega)
        simp only [Value.slice.injEq] at he
        obtain ⟨rfl, _, hcc⟩ := he
        rw [hcc] at ho ⊢
        have HX8 := Lib.hid HX.out
        have HROW : Hid (wr.ownsRow w.heap.size 5 1 (.slice (some ⟨g, 0, none⟩) (m + 1) cap1) (m + 1) ((packed a ++ [UInt8.ofNat (val c)]).map bv)) := Lib.hid ho
        rw [hm0]
        clear h8 hm0 hc0 ho hg1 hg2 hcc
        go_upto_region 7 with fail
        clear hr
        clear HO HX
        rename World => W8
      all_goals
        obtain ⟨x, hx⟩ : ∃ x, x = val c := ⟨_, rfl⟩
        obtain ⟨y, hy⟩ : ∃ y, y = (bb b).toNat := ⟨_, rfl⟩
        obtain ⟨z, hz⟩ : ∃ z, z = val (c ++ [b]) := ⟨_, rfl⟩
        have hc7 : c.length ≤ 7 := by have := HCH.out.2.2.1; omega
        have hx7 : x < 128 := by
          have h1 := val_lt c
          have h2 : 2 ^ c.length ≤ 2 ^ 7 := Nat.pow_le_pow_right (by decide) hc7
          omega
        have hyb : y = b.toNat := by rw [hy]; cases b <;> rfl
        have hy1 : y ≤ 1 := by rw [hyb]; cases b <;> decide
        have hzz : z = x * 2 + y := by rw [hz, val_snoc, hx, hyb]
        have HXY := Lib.hid (rb_num (x := x) (y := y) (z := z) (by omega) hzz (by omega))
        have cl := HX8.out.cell HCL.out
        rw [← hy] at cl
        have cg : W8.cell? ⟨g, m, none⟩ = some (.int .u8 (x : Int)) := by
          rw [World.ownsRow.cellAt HROW.out _ (by omega), List.map_append, List.getElem?_append_right (by rw [List.length_map, HCH.out.2.2.2.2]; exact Nat.le_refl _), List.length_map, HCH.out.2.2.2.2, Nat.sub_self]
          simp only [List.map_cons, List.map_nil, List.getElem?_cons_zero, bv]
          rw [UInt8.toNat_ofNat', ← hx, Nat.mod_eq_of_lt (by omega)]
        have HZ := Lib.hid hz
        have HZB : Hid (z < 256) := Lib.hid (by omega)
        have hml : (m : Int) < (m : Int) + 1 := by omega
        have hmb : m ≤ 1000000 := by have := HM.out; omega
        clear hx hy hz hc7 hx7 hyb hy1 hzz
        go_wp2_with fail
        refine wp_region_rx 12 _
          [ex (.slice (some ⟨g, 0, none⟩) (m + 1) cap1),
            ex (.int .i64 (m : Int)),
            ex (.slice (some ⟨g, 0, none⟩) (m + 1) cap1),
            ex (.int .i64 (m : Int)),
            ex (.pointer (some ⟨g, m, none⟩)),
            ex (.int .u8 (x : Int)),
            ex (.int .u8 ((x * 2 : Nat) : Int)),
            ex (.slice (some la) n lcap),
            ex (.int .i64 (i : Int)),
            ex (.pointer (some (la.add i))),
            ex (.int .u8 (y : Int)),
            ex (.int .u8 (z : Int))]
          (by kernel_rfl) (by kernel_rfl) (by kernel_rfl) rfl ⟨ex_st, ex_st, ex_st, ex_st, ex_st, ex_st, ex_st, ex_st, ex_st, ex_st, ex_st, ex_st, trivial⟩ ?_ ?_
        · simp only [List.take_succ_cons, List.take_zero]
          go_tidy
          refine RhOps.mk (RhOp.moveA (by decide) (.free rfl) 3 (fun _ w _ => Ext.refl w) rfl rfl (.slice (some ⟨g, 0, none⟩) (m + 1) cap1) rfl (fun _ _ _ => rfl)) ?_
          refine RhOps.mk (RhOp.moveA (by decide) (.free rfl) 5 (fun _ w _ => Ext.refl w) rfl rfl (.int .i64 (m : Int)) rfl (fun _ _ _ => rfl)) ?_
          refine RhOps.mk (RhOp.moveA (by decide) (.free rfl) 3 (fun _ w _ => Ext.refl w) rfl rfl (.slice (some ⟨g, 0, none⟩) (m + 1) cap1) rfl (fun _ _ _ => rfl)) ?_
          refine RhOps.mk (RhOp.moveA (by decide) (.free rfl) 5 (fun _ w _ => Ext.refl w) rfl rfl (.int .i64 (m : Int)) rfl (fun _ _ _ => rfl)) ?_
          refine RhOps.mk (RhOp.at (by decide) (.free rfl) ?_) ?_
          rotate_left
          refine RhOps.mk (RhOp.at (by decide) (.free rfl) ?_) ?_
          rotate_left
          refine RhOps.mk (RhOp.at (by decide) (.free rfl) ?_) ?_
          rotate_left
          refine RhOps.mk (RhOp.moveA (by decide) (.free rfl) 0 (fun _ w _ => Ext.refl w) rfl rfl (.slice (some la) n lcap) rfl (fun _ _ _ => rfl)) ?_
          refine RhOps.mk (RhOp.moveA (by decide) (.free rfl) 4 (fun _ w _ => Ext.refl w) rfl rfl (.int .i64 (i : Int)) rfl (fun _ _ _ => rfl)) ?_
          refine RhOps.mk (RhOp.at (by decide) (.free rfl) ?_) ?_
          rotate_left
          refine RhOps.mk (RhOp.at (by decide) (.free rfl) ?_) ?_
          rotate_left
          refine RhOps.mk (RhOp.at (by decide) (.free rfl) ?_) ?_
          rotate_left
          exact RhOps.done
          · intro bb vals ρ w' hC hd hS
            have r25 : ρ (.tmp 25) = .slice (some ⟨g, 0, none⟩) (m + 1) cap1 := (hS.tmp 25).trans (hd.at 2 rfl)
            have r26 : ρ (.tmp 26) = .int .i64 (m : Int) := (hS.tmp 26).trans (hd.at 3 rfl)
            refine (show givesR _ _ _ _ (fun v w'' => Ext w' w'' ∧ v = .pointer (some ⟨g, m, none⟩)) from ?_)
            clear hC hd hS
            go_simp
            exact Ext.refl _
          · intro bb vals ρ w' hC hd hS
            have r27 : ρ (.tmp 27) = .pointer (some ⟨g, m, none⟩) := (hS.tmp 27).trans (hd.at 4 rfl)
            have qc := hC.cell cg
            refine (show givesR _ _ _ _ (fun v w'' => Ext w' w'' ∧ v = .int .u8 (x : Int)) from ?_)
            clear hC hd hS
            go_simp
            exact Ext.refl _
          · intro bb vals ρ w' hC hd hS
            have r28 : ρ (.tmp 28) = .int .u8 (x : Int) := (hS.tmp 28).trans (hd.at 5 rfl)
            have rc := hS.const
            refine (show givesR _ _ _ _ (fun v w'' => Ext w' w'' ∧ v = .int .u8 ((x * 2 : Nat) : Int)) from ?_)
            clear hC hd hS
            go_simp
            exact ⟨Ext.refl _, HXY.out.1⟩
          · intro bb vals ρ w' hC hd hS
            have r30 : ρ (.tmp 30) = .slice (some la) n lcap := (hS.tmp 30).trans (hd.at 7 rfl)
            have r31 : ρ (.tmp 31) = .int .i64 (i : Int) := (hS.tmp 31).trans (hd.at 8 rfl)
            refine (show givesR _ _ _ _ (fun v w'' => Ext w' w'' ∧ v = .pointer (some (la.add i))) from ?_)
            clear hC hd hS
            go_simp
            exact Ext.refl _
          · intro bb vals ρ w' hC hd hS
            have r32 : ρ (.tmp 32) = .pointer (some (la.add i)) := (hS.tmp 32).trans (hd.at 9 rfl)
            refine (show givesR _ _ _ _ (fun v w'' => Ext w' w'' ∧ v = .int .u8 (y : Int)) from ?_)
            have qq := hC.cell cl
            clear hC hd hS
            go_simp
            exact Ext.refl _
          · intro bb vals ρ w' hC hd hS
            have r29 : ρ (.tmp 29) = .int .u8 ((x * 2 : Nat) : Int) := (hS.tmp 29).trans (hd.at 6 rfl)
            have r33 : ρ (.tmp 33) = .int .u8 (y : Int) := (hS.tmp 33).trans (hd.at 10 rfl)
            refine (show givesR _ _ _ _ (fun v w'' => Ext w' w'' ∧ v = .int .u8 (z : Int)) from ?_)
            clear hC hd hS
            go_simp
            exact ⟨Ext.refl _, HXY.out.2⟩
        intro vals w' hC hV
        have e0 := hV 0 (by decide)
        have e1 := hV 1 (by decide)
        have e11 := hV 11 (by decide)
        simp only [vlist, ex, List.getD_cons_zero, List.getD_cons_succ] at e0 e1 e11
        have HC' := Lib.hid hC; clear hC hV
        simp only [List.drop_succ_cons, List.drop_zero]
        have hr2 := owns_ext HROW.out HC'.out
        have HR2 := Lib.hid hr2
        have HX9 := Lib.hid (HX8.out.trans HC'.out)
        have cg2 := HC'.out.cell cg
        have fg2 : w'.frozen? ⟨g, m, none⟩ = false := World.ownsRow.frozenAt hr2 _
        clear hr2 cg cl
        go_wp2_with fail
        go_roundw
        case rel =>
          refine ⟨i + 1, some ⟨g, 0, none⟩, cap1, m + 1, by omega, by go_num, rfl, by have := HM.out; omega, HX9.out.setCell (by have := (owns_block HR2.out (k := g) rfl).1; exact this) _, ?_⟩
          have h1 := (World.ownsRow.stored HR2.out m (.int .u8 (z : Int))).1
          rw [HCH.out.2.2.2.1, rawB_any HCH.out.2.1 (by have := HCH.out.2.2.1; rw [List.length_append]; simp; omega) (by simp)]
          have e : ((packed a ++ [UInt8.ofNat (val c)]).map bv).set m (.int .u8 (z : Int)) = (packed a ++ [UInt8.ofNat (val (c ++ [b]))]).map bv := by
            rw [List.map_append, List.set_append_right _ _ (by rw [List.length_map, HCH.out.2.2.2.2]; exact Nat.le_refl _), List.length_map, HCH.out.2.2.2.2, Nat.sub_self, List.map_append]
            have hzb := HZB.out
            simp only [List.map_cons, List.map_nil, List.set_cons_zero, bv]
            rw [UInt8.toNat_ofNat', ← HZ.out, Nat.mod_eq_of_lt (by omega)]
          rwa [e] at h1
        case measure => simp [intOf]; omega
    · have hin : i = n := by omega
      have htk : bl.take i = bl := List.take_of_length_le (by rw [hin, HN.out]; exact Nat.le_refl _)
      have ho := HO.out
      rw [htk] at ho
      have hki : ((i : Int) < (n : Int)) = False := eq_false (by omega)
      have hin2 : (i : Int) = (n : Int) := by omega
      have HIN := Lib.hid hin
      by_cases h8 : n % 8 = 0
      · have hpk : rawB bl = packed bl := rawB_whole (by rw [← HN.out]; exact h8)
        have hpl : (packed bl).length = m0 := by rw [packed_length, ← HN.out]; have := HM0.out; omega
        rw [hpk] at ho
        have HO2 := Lib.hid ho
        have HPL := Lib.hid hpl
        have hr : (n : Int) % 8 = 0 := by omega
        clear h8 hpk hpl ho htk hin hin2 hlt HO
        go_wp2_with fail
        go_loopw [6] (fun v w' => v = .int .i64 n ∧ wr = w') (fun _ _ => 0)
        case atStart => exact ⟨rfl, rfl⟩
        case round =>
          obtain ⟨rfl, rfl⟩ := hrel
          go_wp2_with fail
          go_ret
          rw [HPL.out]
          exact ⟨ao, cap, rfl, HX.out, HO2.out⟩
      · obtain ⟨a, c, e1, e2, e3⟩ : ∃ a c, bl = a ++ c ∧ a.length % 8 = 0 ∧ c.length = n % 8 :=
          ⟨bl.take (n / 8 * 8), bl.drop (n / 8 * 8), (List.take_append_drop _ _).symm, by rw [List.length_take, ← HN.out]; omega, by rw [List.length_drop, ← HN.out]; omega⟩
        have hc0 : c ≠ [] := fun e => by rw [e] at e3; simp at e3; omega
        have hal : a.length = n / 8 * 8 := by have := congrArg List.length e1; rw [List.length_append, ← HN.out] at this; omega
        obtain ⟨m, hm⟩ : ∃ m, m = (packed a).length := ⟨_, rfl⟩
        have hpm : m = n / 8 := by rw [hm, packed_length, hal]; omega
        have hm0 : m0 = m + 1 := by have := HM0.out; omega
        rw [e1, rawB_split e2 (by omega) hc0, hm0] at ho
        obtain ⟨g, cap1, he, hg1, hg2⟩ := World.ownsRow.form ho (by omega)
        simp only [Value.slice.injEq] at he
        obtain ⟨rfl, _, hcc⟩ := he
        rw [hcc] at ho ⊢
        rw [hm0]
        have HO2 := Lib.hid ho
        have HAC : Hid (bl = a ++ c ∧ a.length % 8 = 0 ∧ c.length = n % 8 ∧ c ≠ [] ∧ m = (packed a).length ∧ m ≤ 1000000) := Lib.hid ⟨e1, e2, e3, hc0, hm, by omega⟩
        clear e1 e2 e3 hc0 hal hm hpm hm0 ho hcc hg1 hg2 htk hlt hin hin2 HO h8
        go_wp2_with fail
        go_loopw [6] (fun v w' => ∃ j : Nat, c.length + j ≤ 8 ∧ v = .int .i64 ((n : Int) + (j : Int)) ∧ Ext w w' ∧ w'.ownsRow w.heap.size 5 1 (.slice (some ⟨g, 0, none⟩) (m + 1) cap1) (m + 1) ((packed a ++ [UInt8.ofNat (val c * 2 ^ j)]).map bv)) (fun v _ => 8 + n - (intOf v).toNat)
        case atStart => exact ⟨0, by have := HAC.out.2.2.1; omega, by simp, HX.out, by simpa using HO2.out⟩
        case round =>
          obtain ⟨j, hj, rfl, hx, ho⟩ := hrel
          have HXJ := Lib.hid hx
          have HOJ := Lib.hid ho
          have HJ := Lib.hid hj
          clear hx ho hj
          have hu := HAC.out.2.2.1
          by_cases hq : c.length + j = 8
          · have hr : ((n : Int) + (j : Int)) % 8 = 0 := by omega
            have hp : packed bl = packed a ++ [UInt8.ofNat (val c * 2 ^ j)] := by
              rw [HAC.out.1, packed_snoc HAC.out.2.1 (by omega) HAC.out.2.2.2.1, byteOf, byteN, show 8 - c.length = j by omega]
            have hpl : (packed bl).length = m + 1 := by rw [hp, List.length_append, ← HAC.out.2.2.2.2.1]; rfl
            have HP := Lib.hid hp
            have HPL := Lib.hid hpl
            clear hu hq hp hpl
            go_wp2_with fail
            go_ret
            rw [HPL.out]
            refine ⟨some ⟨g, 0, none⟩, cap1, rfl, HXJ.out, ?_⟩
            rw [HP.out]
            exact HOJ.out
          · have hr : ((n : Int) + (j : Int)) % 8 ≠ 0 := by have := HJ.out; have := List.length_pos_iff.2 HAC.out.2.2.2.1; omega
            have hr2 : (((n : Int) + (j : Int)) % 8 != 0) = true := by rw [bne_iff_ne]; exact hr
            obtain ⟨x, hx⟩ : ∃ x, x = val c * 2 ^ j := ⟨_, rfl⟩
            have hx2 : x * 2 < 256 := by
              have h1 : val c * 2 ^ (j + 1) < 2 ^ c.length * 2 ^ (j + 1) := Nat.mul_lt_mul_of_pos_right (val_lt c) (Nat.two_pow_pos _)
              rw [← Nat.pow_add] at h1
              have h2 : 2 ^ (c.length + (j + 1)) ≤ 2 ^ 8 := Nat.pow_le_pow_right (by decide) (by have := HJ.out; omega)
              rw [Nat.pow_succ, ← Nat.mul_assoc, ← hx] at h1
              omega
            have hxs : val c * 2 ^ (j + 1) = x * 2 := by rw [Nat.pow_succ, ← Nat.mul_assoc, ← hx]
            have cg : _ = some (Value.int .u8 (x : Int)) := (World.ownsRow.cellAt HOJ.out m (by omega)).trans (by
              rw [List.map_append, List.getElem?_append_right (by rw [List.length_map, ← HAC.out.2.2.2.2.1]; exact Nat.le_refl _), List.length_map, ← HAC.out.2.2.2.2.1, Nat.sub_self]
              simp only [List.map_cons, List.map_nil, List.getElem?_cons_zero, bv]
              rw [UInt8.toNat_ofNat', ← hx, Nat.mod_eq_of_lt (by omega)])
            have fg := World.ownsRow.frozenAt HOJ.out m
            have hml : (m : Int) < (m : Int) + 1 := by omega
            have hmb : m ≤ 1000000 := HAC.out.2.2.2.2.2
            have hw2 : (x : Int) * 2 % 256 = (x : Int) * 2 := by omega
            have hw3 : IntKind.u8.wrap ((x : Int) * 2) = (x : Int) * 2 := by rw [IntKind.wrap_u8']; omega
            have HXS := Lib.hid hxs
            have HX2 := Lib.hid hx2
            have hjb : j ≤ 8 := by have := HJ.out; omega
            have HQ := Lib.hid hq
            clear hu hq hr hx hxs hx2
            go_wp2_with fail
            go_roundw
            case rel =>
              have hj := HJ.out
              have hq := HQ.out
              refine ⟨j + 1, by omega, by refine congrArg (Value.int .i64) ?_; omega, HXJ.out.setCell (by have := (owns_block HOJ.out (k := g) rfl).1; exact this) _, ?_⟩
              have h1 := (World.ownsRow.stored HOJ.out m (.int .u8 ((x : Int) * 2))).1
              have e : ((packed a ++ [UInt8.ofNat (val c * 2 ^ j)]).map bv).set m (.int .u8 ((x : Int) * 2)) = (packed a ++ [UInt8.ofNat (val c * 2 ^ (j + 1))]).map bv := by
                rw [List.map_append, List.set_append_right _ _ (by rw [List.length_map, ← HAC.out.2.2.2.2.1]; exact Nat.le_refl _), List.length_map, ← HAC.out.2.2.2.2.1, Nat.sub_self, List.map_append, HXS.out]
                have h2 := HX2.out
                simp only [List.map_cons, List.map_nil, List.set_cons_zero, bv]
                rw [UInt8.toNat_ofNat', Nat.mod_eq_of_lt (by omega)]
                push_cast; rfl
              rwa [e] at h1
            case measure =>
              have hj := HJ.out
              have hp := List.length_pos_iff.2 HAC.out.2.2.2.1
              simp only [intOf]
              omega

end Go.Proofs.Ytophabekaicdeaa


set_option linter.unusedVariables false
set_option linter.unusedSimpArgs false
namespace Go.Proofs.Ytophabekaicdeaa
open Go.RowKit

set_option maxRecDepth 100000 in
set_option maxHeartbeats 4000000 in
theorem rof_c (v : Value) (l : List UInt8) (w : World) (h : Bs w v l) (hl : l.length ≤ 100000) :
    Calls Try.prog 54 #[v] w fun e w' => ∃ ao cap, e = .returned (.slice ao (8 * l.length) cap) ∧ Ext w w' ∧ w'.ownsRow w.heap.size 5 1 (.slice ao (8 * l.length) cap) (8 * l.length) ((bbs (bitsAll l)).map bv) := by
  obtain ⟨lo, lcap, rfl, l1, l2, l3, l4⟩ := h.open
  clear h
  obtain ⟨n, hn⟩ : ∃ n, n = l.length := ⟨_, rfl⟩
  rw [← hn] at l1 l4 ⊢
  have HN := Lib.hid hn
  have HC := Lib.hid l4
  have HL3 := Lib.hid l3
  have hnb : n ≤ 100000 := by omega
  clear hn l4 l3 hl
  go_enter Try.func54, Try.ntmps54
  go_wp2_with fail
  go_loopw [3, 4] (fun v i wr => ∃ (k : Nat) (ao : Option Addr) (cap : Nat), k ≤ n ∧ i = .int .i64 k ∧ v = .slice ao (8 * k) cap ∧ Ext w wr ∧ wr.ownsRow w.heap.size 5 1 (.slice ao (8 * k) cap) (8 * k) ((bbs (bitsAll (l.take k))).map bv)) (fun _ i _ => n - (intOf i).toNat)
  case atStart => exact ⟨0, none, 0, Nat.zero_le _, rfl, rfl, Ext.refl w, World.ownsRow_nil _ _ _ _⟩
  case round =>
    obtain ⟨k, ao, cap, hk, rfl, rfl, hx, ho⟩ := hrel
    have HX := Lib.hid hx
    have HO := Lib.hid ho
    clear hx ho
    by_cases hlt : k < n
    · obtain ⟨la, rfl⟩ : ∃ a, lo = some a := by cases lo with | none => have := HL3.out rfl; omega | some a => exact ⟨a, rfl⟩
      have hki : (k : Int) < (n : Int) := by omega
      have hcl := HX.out.cell (HC.out la rfl k hlt)
      have HKL : Hid (k < l.length) := Lib.hid (by rw [← HN.out]; exact hlt)
      have hbs := bitsAll_take_succ l k HKL.out
      generalize l.getD k 0 = b at hcl hbs
      have HBS := Lib.hid hbs
      have hb8 : b.toNat < 256 := UInt8.toNat_lt _
      have HB8 := Lib.hid hb8
      clear hbs hb8
      go_wp2_with fail
      rw [IntKind.wrap_u64, Int.emod_eq_of_lt (by omega) (by have := HB8.out; omega)]
      refine (rbits_c b.toNat 8 _ (by decide) (by have := HB8.out; omega)).mono ?_
      rintro e w2 ⟨bo, bcap, rfl, hx2, ho2⟩
      have HX2 := Lib.hid hx2
      have HO2 := Lib.hid ho2
      have HO3 := Lib.hid (owns_ext HO.out hx2)
      have HSZ : Hid (w.heap.size ≤ w2.heap.size ∧ k ≤ 100000) := Lib.hid ⟨Nat.le_trans HX.out.size hx2.size, by omega⟩
      clear hx2 ho2
      obtain ⟨q, hq⟩ : ∃ q, q = 8 * k := ⟨_, rfl⟩
      rw [← hq] at HO3 ⊢
      have HQ := Lib.hid hq
      clear hq
      go_wp2_with (first | (at_builtin; go_loud (refine wpList_app rfl (.tmp 11) (.tmp 17) 26 rfl etBytes w.heap.size rfl HO3.out rfl (Rs.of_owns HO2.out) (oneCell_bv _) (by have := HSZ.out; have := HQ.out; omega) (by have := HSZ.out; have := HQ.out; omega) (by have := HSZ.out; omega) ?_); intro v' w3 hown hgr _) | fail)
      have hx3 : Ext w w3 := (HX.out.trans HX2.out).grown hgr fun i hi => (owns_block HO3.out hi).1
      obtain ⟨no, ncap, rfl⟩ := owns_shape hown
      have HOWN := Lib.hid hown
      have HX3 := Lib.hid hx3
      clear hown hgr hx3
      go_roundw
      case rel =>
        have hq := HQ.out
        refine ⟨k + 1, no, ncap, by omega, by go_num, by rw [show 8 * (k + 1) = q + 8 by omega], HX3.out, ?_⟩
        rw [show 8 * (k + 1) = q + 8 by omega, HBS.out, bbs_append, List.map_append]
        exact HOWN.out
      case measure => simp [intOf]; omega
    · have hkn : k = n := by omega
      have hki : ((k : Int) < (n : Int)) = False := eq_false (by omega)
      subst hkn
      clear hlt
      go_wp2_with fail
      go_ret
      refine ⟨ao, cap, rfl, HX.out, ?_⟩
      have := HO.out
      rwa [List.take_of_length_le (by rw [← HN.out]; exact Nat.le_refl _)] at this

theorem num_step {x y n : Nat} (hx : x * 2 + y < 2 ^ n) (hn : n ≤ 64) : IntKind.u64.wrap (IntKind.u64.wrap ((x : Int) * 2) + (y : Int)) = ((x * 2 + y : Nat) : Int) := by
  have h : 2 ^ n ≤ 2 ^ 64 := Nat.pow_le_pow_right (by decide) hn
  have h2 : x * 2 + y < 18446744073709551616 := Nat.lt_of_lt_of_le hx h
  rw [IntKind.wrap_u64, IntKind.wrap_u64]
  omega

set_option maxRecDepth 100000 in
set_option maxHeartbeats 4000000 in
theorem rnum_c (v : Value) (bl : List Bool) (w : World) (h : Bs w v (bbs bl)) (hl : bl.length ≤ 64) :
    Calls Try.prog 55 #[v] w fun e w' => e = .returned (.int .u64 (val bl : Int)) ∧ w = w' := by
  obtain ⟨lo, lcap, rfl, l1, l2, l3, l4⟩ := h.open
  clear h
  obtain ⟨n, hn⟩ : ∃ n, n = bl.length := ⟨_, rfl⟩
  rw [bbs_length, ← hn] at l1 l4 ⊢
  have HN := Lib.hid hn
  have HC := Lib.hid l4
  have HL3 := Lib.hid l3
  have hnb : n ≤ 64 := by omega
  clear hn l4 l3 hl
  go_enter Try.func55, Try.ntmps55
  go_wp2_with fail
  go_loopw [3, 4] (fun x i wr => ∃ k : Nat, k ≤ n ∧ i = .int .i64 k ∧ x = .int .u64 (val (bl.take k) : Int) ∧ w = wr) (fun _ i _ => n - (intOf i).toNat)
  case atStart => exact ⟨0, Nat.zero_le _, rfl, rfl, rfl⟩
  case round =>
    obtain ⟨k, hk, rfl, rfl, rfl⟩ := hrel
    by_cases hlt : k < n
    · obtain ⟨la, rfl⟩ : ∃ a, lo = some a := by cases lo with | none => have := HL3.out rfl; omega | some a => exact ⟨a, rfl⟩
      have hki : (k : Int) < (n : Int) := by omega
      have hkl : k < bl.length := by rw [← HN.out]; exact hlt
      have hcl := HC.out la rfl k hlt
      have hb : ((bbs bl).getD k 0).toNat = (bl[k]'hkl).toNat := by
        simp [bbs, List.getD, List.getElem?_eq_getElem hkl]
        cases bl[k]'hkl <;> rfl
      rw [hb] at hcl
      have hv : val (bl.take (k + 1)) = val (bl.take k) * 2 + (bl[k]'hkl).toNat := by
        rw [List.take_succ_eq_append_getElem hkl, val_append, val_cons, val_nil]; simp
      have hlt2 := val_lt (bl.take (k + 1))
      rw [hv, List.length_take] at hlt2
      generalize (bl[k]'hkl).toNat = y at hcl hv hlt2
      generalize val (bl.take k) = x at hv hlt2 ⊢
      have hst := num_step hlt2 (by omega)
      have HV := Lib.hid hv
      have hy : IntKind.u64.wrap (y : Int) = (y : Int) := by
        have h : 2 ^ min (k + 1) bl.length ≤ 2 ^ 64 := Nat.pow_le_pow_right (by decide) (by omega)
        have h2 : x * 2 + y < 18446744073709551616 := Nat.lt_of_lt_of_le hlt2 h
        rw [IntKind.wrap_u64]; omega
      clear hv hlt2 hb hkl
      go_wp2_with fail
      go_roundw
      case rel =>
        refine ⟨k + 1, by omega, by go_num, ?_, trivial⟩
        rw [HV.out]
        first | rfl | exact congrArg (Value.int .u64) hst
      case measure => simp [intOf]; omega
    · have hkn : k = n := by omega
      have hki : ((k : Int) < (n : Int)) = False := eq_false (by omega)
      have htk : bl.take k = bl := List.take_of_length_le (by rw [← HN.out]; omega)
      rw [htk]
      clear hlt hkn htk
      go_wp2_with fail
      go_ret
      exact ⟨rfl, rfl⟩

end Go.Proofs.Ytophabekaicdeaa


set_option linter.unusedVariables false
set_option linter.unusedSimpArgs false
namespace Go.Proofs.Ytophabekaicdeaa
open Go.RowKit

/-- The document's reader: the bits that are left, an error. -/
def RRd (w : World) (B xb : Nat) (bs : List Bool) (err : Int) : Prop :=
  ∃ ao cap, w.heap[xb]? = some (.cells #[.slice ao bs.length cap, .int .i64 err] 107 (0, 0)) ∧ B ≤ xb ∧ Bs w (.slice ao bs.length cap) (bbs bs) ∧ ∀ k, (Value.slice ao bs.length cap).ownBlock = some k → B ≤ k ∧ k < xb
section
variable {w w' : World} {B xb : Nat} {bs : List Bool} {err : Int}
theorem RRd.lt (h : RRd w B xb bs err) : xb < w.heap.size := by
  obtain ⟨ao, cap, h1, _⟩ := h
  exact (Array.getElem?_eq_some_iff.1 h1).1
theorem RRd.mod {F : Nat → Prop} (h : RRd w B xb bs err) (hm : Mod F w w') (hF : ∀ k, B ≤ k → k ≤ xb → ¬ F k) : RRd w' B xb bs err := by
  obtain ⟨ao, cap, h1, h2, h3, h4⟩ := h
  exact ⟨ao, cap, (hm.block xb (Array.getElem?_eq_some_iff.1 h1).1 (hF _ h2 (Nat.le_refl _))).trans h1, h2, h3.mod hm (fun k hk _ => hF k (h4 k hk).1 (Nat.le_of_lt (h4 k hk).2)), h4⟩
theorem RRd.ext (h : RRd w B xb bs err) (hx : Ext w w') : RRd w' B xb bs err := h.mod hx fun _ _ _ => id
theorem RRd.c1 (h : RRd w B xb bs err) : w.cell? ⟨xb, 1, none⟩ = some (.int .i64 err) := by
  obtain ⟨ao, cap, h1, _⟩ := h
  rw [cell_of_blk h1]; rfl
theorem RRd.fz (h : RRd w B xb bs err) (j : Nat) : w.frozen? ⟨xb, j, none⟩ = false := by
  obtain ⟨ao, cap, h1, _⟩ := h
  exact frozen_of_blk h1 j
theorem RRd.setErr (h : RRd w B xb bs err) (e : Int) : RRd (w.setCell ⟨xb, 1, none⟩ (.int .i64 e)) B xb bs e := by
  obtain ⟨ao, cap, h1, h2, h3, h4⟩ := h
  refine ⟨ao, cap, setCell_blk (j := 1) (v := .int .i64 e) h1, h2, h3.mod (Mod.setCell (F := fun k => k = xb) (p := ⟨xb, 1, none⟩) (Mod.refl _ w) (fun _ => rfl) _) fun k hk e => ?_, h4⟩
  have := (h4 k hk).2
  omega
end

theorem RRd.drop {w : World} {B xb p cap cap' n : Nat} {bs : List Bool} {ao ao' : Option Addr} (h1 : w.heap[xb]? = some (.cells #[.slice ao p cap, .int .i64 0] 107 (0, 0))) (hge : B ≤ xb) (h3 : Bs w (.slice ao p cap) (bbs bs)) (h4 : ∀ k, (Value.slice ao p cap).ownBlock = some k → B ≤ k ∧ k < xb)
    (hp : p = bs.length) (hn : n ≤ p) (hc : p - n ≤ cap') (hcm : cap' ≤ 9223372036854775807) (hnone : ao' = none → cap' = 0) (hao : ∀ a', ao' = some a' → n < p → ∃ a, ao = some a ∧ a' = a.add n) (hob : ∀ k, ao'.map (·.block) = some k → ao.map (·.block) = some k) :
    RRd (w.setCell ⟨xb, 0, none⟩ (.slice ao' (p - n) cap')) B xb (bs.drop n) 0 ∧ Mod (fun k => k = xb) w (w.setCell ⟨xb, 0, none⟩ (.slice ao' (p - n) cap')) := by
  have hm := Mod.setCell (F := fun k => k = xb) (p := ⟨xb, 0, none⟩) (Mod.refl _ w) (fun _ => rfl) (.slice ao' (p - n) cap')
  have hl : (bs.drop n).length = p - n := by rw [List.length_drop, hp]
  have h4' : ∀ k, (Value.slice ao' (p - n) cap').ownBlock = some k → B ≤ k ∧ k < xb := fun k hk => h4 k (by rw [ownBlock_slice] at hk ⊢; exact hob k hk)
  refine ⟨⟨ao', cap', ?_, hge, ?_, ?_⟩, hm⟩
  · rw [hl]; exact setCell_blk (j := 0) (v := .slice ao' (p - n) cap') h1
  · rw [hl]
    have h5 : Rs w 1 (.slice ao' (p - n) cap') (p - n) ((((bbs bs).map bv).drop (n * 1)).take ((p - n) * 1)) := by
      have h6 : Rs w 1 (.slice ao p cap) p ((bbs bs).map bv) := by unfold Bs at h3; rwa [bbs_length, ← hp] at h3
      exact Rs.cut h6 hn (Nat.le_refl _) hc (by simpa [maxLen] using hcm) hnone fun a' ha hk => by
        obtain ⟨a, e1, e2⟩ := hao a' ha hk
        exact ⟨a, e1, by rw [Nat.mul_one]; exact e2⟩
    have e : (((bbs bs).map bv).drop (n * 1)).take ((p - n) * 1) = (bbs (bs.drop n)).map bv := by
      rw [Nat.mul_one, Nat.mul_one, List.take_of_length_le (by rw [List.length_drop, List.length_map, bbs_length]; omega)]
      unfold bbs
      rw [List.map_drop, List.map_drop]
    rw [e] at h5
    have h7 : Bs w (.slice ao' (p - n) cap') (bbs (bs.drop n)) := by unfold Bs; rw [bbs_length, hl]; exact h5
    exact h7.mod hm fun k hk _ e => by have := (h4' k hk).2; omega
  · rw [hl]; exact h4'

/-- What the next bits are, and what stays. -/
def rgetOk (bs : List Bool) (err n : Int) : Prop := err = 0 ∧ 0 ≤ n ∧ n ≤ 64 ∧ n ≤ (bs.length : Int)
instance (bs : List Bool) (err n : Int) : Decidable (rgetOk bs err n) := by unfold rgetOk; infer_instance
def rgetV (bs : List Bool) (err n : Int) : Nat := if rgetOk bs err n then val (bs.take n.toNat) else 0
def rgetL (bs : List Bool) (err n : Int) : List Bool := if rgetOk bs err n then bs.drop n.toNat else bs
def rgetE (bs : List Bool) (err n : Int) : Int := if err ≠ 0 then err else if n < 0 ∨ 64 < n then 2 else if (bs.length : Int) < n then 3 else 0

set_option maxHeartbeats 2000000 in
theorem rrget_ok (xb B : Nat) (bs : List Bool) (n : Nat) (w : World) (h : RRd w B xb bs 0) (hn : n ≤ 64) (hf : n ≤ bs.length) :
    Calls Try.prog 63 #[.pointer (some ⟨xb, 0, none⟩), .int .i64 n] w fun e w' => e = .returned (.int .u64 (val (bs.take n) : Int)) ∧ RRd w' B xb (bs.drop n) 0 ∧ Mod (fun k => k = xb) w w' := by
  have c1 := h.c1
  have H := Lib.hid h
  obtain ⟨ao, cap, h1, h2, h3, h4⟩ := h
  obtain ⟨p, hp⟩ : ∃ p, p = bs.length := ⟨_, rfl⟩
  have c0 : w.cell? ⟨xb, 0, none⟩ = some (.slice ao p cap) := by rw [cell_of_blk h1, hp]; rfl
  have f0 := frozen_of_blk h1 0
  rw [← hp] at h1 h3 h4 hf
  have h3' := h3
  obtain ⟨ao2, cap2, he, r1, r2, r3, r4⟩ := h3'.open
  rw [bbs_length, ← hp] at he r1 r4
  simp only [Value.slice.injEq] at he
  obtain ⟨rfl, _, rfl⟩ := he
  have H1 := Lib.hid h1
  have H3 := Lib.hid h3
  have H4 := Lib.hid h4
  have HP := Lib.hid hp
  have HGE := Lib.hid h2
  have HR3 := Lib.hid r3
  clear h1 h2 h3 h3' h4 hp r4 r3
  go_enter Try.func63, Try.ntmps63
  go_wp2_with fail
  have htk : Bs w (.slice ao n cap) (bbs (bs.take n)) := by
    have := Bs.take H3.out hf
    unfold bbs at this ⊢
    rwa [List.map_take]
  have HNUM := Lib.hid (rnum_c _ (bs.take n) w htk (by rw [List.length_take]; omega))
  clear htk
  refine HNUM.out.mono ?_
  rintro e w1 ⟨rfl, rfl⟩
  have HF := Lib.hid hf
  have HR1 := Lib.hid r1
  have HR2 := Lib.hid r2
  clear r1 r2
  go_wp2_with fail
  all_goals
    go_ret
    have hf := HF.out
    have hr1 := HR1.out
    have hr2 := HR2.out
  · have hd := RRd.drop (ao' := ao) (cap' := 0) (n := n) H1.out HGE.out H3.out H4.out HP.out hf (by omega) (by decide) (fun _ => rfl) (fun a' _ hk => by omega) (fun k hk => hk)
    exact ⟨rfl, hd.1, hd.2⟩
  · have hd := RRd.drop (ao' := ao.map fun x => x.add n) (cap' := cap - n) (n := n) H1.out HGE.out H3.out H4.out HP.out hf (by omega) (by omega) (fun h => by
      have h0 : ao = none := by cases ao with | none => rfl | some a => cases h
      have := HR3.out h0
      omega) (fun a' ha _ => by
      cases ao with
      | none => cases ha
      | some a => simp only [Option.map_some, Option.some.injEq] at ha; exact ⟨a, rfl, ha.symm⟩) (fun k hk => by
      cases ao with
      | none => cases hk
      | some a => simpa [add_block] using hk)
    exact ⟨rfl, hd.1, hd.2⟩

set_option maxHeartbeats 1000000 in
theorem rrget_c (xb B : Nat) (bs : List Bool) (err n : Int) (w : World) (h : RRd w B xb bs err) (hl : bs.length ≤ 1000000) :
    Calls Try.prog 63 #[.pointer (some ⟨xb, 0, none⟩), .int .i64 n] w fun e w' => e = .returned (.int .u64 (rgetV bs err n : Int)) ∧ RRd w' B xb (rgetL bs err n) (rgetE bs err n) ∧ Mod (fun k => k = xb) w w' := by
  by_cases hok : rgetOk bs err n
  · have hok' := hok
    obtain ⟨h0, h1, h2, h3⟩ := hok
    subst h0
    obtain ⟨m, rfl⟩ := Int.eq_ofNat_of_zero_le h1
    rw [rgetV, rgetL, rgetE, if_pos hok', if_pos hok', if_neg (by simp), if_neg (by omega), if_neg (by omega), Int.toNat_natCast]
    exact rrget_ok xb B bs m w h (by omega) (by omega)
  · rw [rgetV, rgetL, if_neg hok, if_neg hok]
    have c1 := h.c1
    have f1 := h.fz 1
    have H := Lib.hid h
    by_cases h0 : err = 0
    · subst h0
      by_cases h1 : n < 0 ∨ 64 < n
      · rw [rgetE, if_neg (by simp), if_pos h1]
        clear h hok
        rcases h1 with h1 | h1
        all_goals
          go_enter Try.func63, Try.ntmps63
          go_wp2
          go_ret
          exact ⟨rfl, H.out.setErr 2, Mod.setCell (F := fun k => k = xb) (p := ⟨xb, 1, none⟩) (Mod.refl _ w) (fun _ => rfl) _⟩
      · have h3 : (bs.length : Int) < n := by unfold rgetOk at hok; omega
        rw [rgetE, if_neg (by simp), if_neg h1, if_pos h3]
        obtain ⟨ao, cap, g1, g2, g3, g4⟩ := h
        obtain ⟨p, hp⟩ : ∃ p, p = bs.length := ⟨_, rfl⟩
        have c0 : w.cell? ⟨xb, 0, none⟩ = some (.slice ao p cap) := by rw [cell_of_blk g1, hp]; rfl
        rw [← hp] at h3
        have hn0 : 0 ≤ n := by omega
        have hn1 : n ≤ 64 := by omega
        clear hok g1 g2 g3 g4 hp h1
        go_enter Try.func63, Try.ntmps63
        go_wp2
        go_ret
        exact ⟨rfl, H.out.setErr 3, Mod.setCell (F := fun k => k = xb) (p := ⟨xb, 1, none⟩) (Mod.refl _ w) (fun _ => rfl) _⟩
    · rw [rgetE, if_pos h0]
      have hb : (err != 0) = true := by simpa using h0
      clear h hok h0
      go_enter Try.func63, Try.ntmps63
      go_wp2
      go_ret
      exact ⟨rfl, H.out, Mod.refl _ w⟩

end Go.Proofs.Ytophabekaicdeaa



set_option linter.unusedVariables false
set_option linter.unusedSimpArgs false
namespace Go.Proofs.Ytophabekaicdeaa
open Go.RowKit

def rleftI (bs : List Bool) (err : Int) : Int := if err = 0 then (bs.length : Int) else 0

def rendI (bs : List Bool) (err : Int) : Int := if err ≠ 0 then err else if bs.length < 8 ∧ val bs = 0 then 0 else 6

end Go.Proofs.Ytophabekaicdeaa


set_option linter.unusedVariables false
set_option linter.unusedSimpArgs false
namespace Go.Proofs.Ytophabekaicdeaa
open Go.RowKit

set_option maxRecDepth 100000 in
set_option maxHeartbeats 2000000 in
theorem rrtext_err (xb B : Nat) (bs : List Bool) (err : Int) (w : World) (h : RRd w B xb bs err) (hl : bs.length ≤ 1000000) (he : rgetE bs err 16 ≠ 0) :
    Calls Try.prog 64 #[.pointer (some ⟨xb, 0, none⟩)] w fun e w' => e = .returned (.string ⟨#[]⟩) ∧ RRd w' B xb (rgetL bs err 16) (rgetE bs err 16) ∧ Mod (fun k => k = xb) w w' := by
  have hg := rrget_c xb B bs err 16 w h hl
  have hv : rgetV bs err 16 = 0 := by
    unfold rgetV rgetE at *
    rw [if_neg]
    rintro ⟨h0, _, _, h3⟩
    apply he
    rw [if_neg (by simp [h0]), if_neg (by omega), if_neg (by omega)]
  rw [hv] at hg
  generalize rgetE bs err 16 = e1 at he hg ⊢
  generalize rgetL bs err 16 = b1 at hg ⊢
  have HG := Lib.hid hg
  have hb : (e1 != 0) = true := by simpa using he
  have hb2 : (e1 == 0) = false := by simpa using he
  clear hg he h hv hl
  go_enter Try.func64, Try.ntmps64
  go_wp2_with fail
  refine HG.out.mono ?_
  rintro e w1 ⟨rfl, h1, hm1⟩
  have c1 := h1.c1
  have H1 := Lib.hid h1
  have HM1 := Lib.hid hm1
  clear h1 hm1
  go_wp2
  go_ret
  exact ⟨rfl, H1.out, HM1.out⟩

set_option maxRecDepth 100000 in
set_option maxHeartbeats 4000000 in
theorem rrtext_short (xb B : Nat) (bs : List Bool) (n : Nat) (w : World) (h : RRd w B xb bs 0) (hl : bs.length ≤ 1000000) (ha : 16 ≤ bs.length) (hn : n = val (bs.take 16)) (hf : bs.length < 16 + 8 * n) :
    Calls Try.prog 64 #[.pointer (some ⟨xb, 0, none⟩)] w fun e w' => e = .returned (.string ⟨#[]⟩) ∧ RRd w' B xb (bs.drop 16) 3 ∧ Mod (fun k => k = xb) w w' := by
  have hn16 : n < 65536 := by
    have h1 := val_lt (bs.take 16)
    rw [List.length_take, Nat.min_eq_left ha] at h1
    omega
  have hg := rrget_ok xb B bs 16 w h (by decide) ha
  rw [← hn] at hg
  have HG := Lib.hid hg
  have hcv : IntKind.i64.wrap (n : Int) = (n : Int) := by rw [IntKind.wrap_i64]; omega
  have hmul : IntKind.i64.wrap (8 * (n : Int)) = 8 * (n : Int) := by rw [IntKind.wrap_i64]; omega
  have hnb : n ≤ 9223372036854775806 := by omega
  obtain ⟨p, hp⟩ : ∃ p, p = (bs.drop 16).length := ⟨_, rfl⟩
  have hlt : ((p : Int) < 8 * (n : Int)) = True := eq_true (by rw [List.length_drop] at hp; omega)
  have HP := Lib.hid hp
  clear hg hn hn16 h hf ha hl hp
  go_enter Try.func64, Try.ntmps64
  go_wp2_with fail
  refine HG.out.mono ?_
  rintro e w1 ⟨rfl, h1, hm1⟩
  have c1 := h1.c1
  have f1 := h1.fz 1
  have H1 := Lib.hid h1
  have HM1 := Lib.hid hm1
  obtain ⟨ao, cap, g1, g2, g3, g4⟩ := h1
  have c0 : w1.cell? ⟨xb, 0, none⟩ = some (.slice ao p cap) := by rw [cell_of_blk g1, HP.out]; rfl
  clear hm1 g1 g2 g3 g4
  go_wp2
  go_ret
  exact ⟨rfl, H1.out.setErr 3, Mod.setCell (F := fun k => k = xb) (p := ⟨xb, 1, none⟩) HM1.out (fun _ => rfl) _⟩

/-- So many bytes of these bits. -/
def bytesL (bs : List Bool) (n : Nat) : List UInt8 := (List.range n).map fun i => UInt8.ofNat (val ((bs.drop (8 * i)).take 8))
theorem bytesL_length (bs : List Bool) (n : Nat) : (bytesL bs n).length = n := by simp [bytesL]
theorem bytesL_succ (bs : List Bool) (n : Nat) : bytesL bs (n + 1) = bytesL bs n ++ [UInt8.ofNat (val ((bs.drop (8 * n)).take 8))] := by simp [bytesL, List.range_succ]

set_option maxRecDepth 100000 in
set_option maxHeartbeats 4000000 in
theorem rrtext_ok (xb B : Nat) (bs : List Bool) (n : Nat) (w : World) (h : RRd w B xb bs 0) (hl : bs.length ≤ 1000000) (hn : n = val (bs.take 16)) (hf : 16 + 8 * n ≤ bs.length) :
    Calls Try.prog 64 #[.pointer (some ⟨xb, 0, none⟩)] w fun e w' => e = .returned (.string ⟨(bytesL (bs.drop 16) n).toArray⟩) ∧ RRd w' B xb (bs.drop (16 + 8 * n)) 0 ∧ Mod (fun k => k = xb) w w' := by
  have hn16 : n < 65536 := by
    have h1 := val_lt (bs.take 16)
    rw [List.length_take, Nat.min_eq_left (by omega)] at h1
    omega
  have hg := rrget_ok xb B bs 16 w h (by decide) (by omega)
  rw [← hn] at hg
  have HG := Lib.hid hg
  have HF := Lib.hid hf
  have HL := Lib.hid hl
  have HN16 := Lib.hid hn16
  have HLT := Lib.hid h.lt
  have hcv : IntKind.i64.wrap (n : Int) = (n : Int) := by rw [IntKind.wrap_i64]; omega
  have hmul : IntKind.i64.wrap (8 * (n : Int)) = 8 * (n : Int) := by rw [IntKind.wrap_i64]; omega
  have hnb : n ≤ 9223372036854775806 := by omega
  obtain ⟨p, hp⟩ : ∃ p, p = (bs.drop 16).length := ⟨_, rfl⟩
  have hlt : ((p : Int) < 8 * (n : Int)) = False := eq_false (by rw [List.length_drop] at hp; omega)
  have HP := Lib.hid hp
  clear hg hn hn16 h hf hl hp
  go_enter Try.func64, Try.ntmps64
  go_wp2_with fail
  refine HG.out.mono ?_
  rintro e w1 ⟨rfl, h1, hm1⟩
  have c1 := h1.c1
  have H1 := Lib.hid h1
  have HM1 := Lib.hid hm1
  obtain ⟨ao, cap, g1, g2, g3, g4⟩ := h1
  have c0 : w1.cell? ⟨xb, 0, none⟩ = some (.slice ao p cap) := by rw [cell_of_blk g1, HP.out]; rfl
  clear hm1 g1 g2 g3 g4
  go_wp2_with fail
  clear c0 c1
  go_loopw [4, 5] (fun v i wr => ∃ (k : Nat) (ao : Option Addr) (cap : Nat), k ≤ n ∧ i = .int .i64 k ∧ v = .slice ao k cap ∧ RRd wr B xb (bs.drop (16 + 8 * k)) 0 ∧ Mod (fun k => k = xb) w wr ∧ wr.ownsRow w.heap.size 5 1 (.slice ao k cap) k ((bytesL (bs.drop 16) k).map bv)) (fun _ i _ => n - (intOf i).toNat)
  case atStart => exact ⟨0, none, 0, Nat.zero_le _, rfl, rfl, H1.out, HM1.out, World.ownsRow_nil _ _ _ _⟩
  case round =>
    obtain ⟨k, ao, cap, hk, rfl, rfl, hr, hm, ho⟩ := hrel
    have HR := Lib.hid hr
    have HM := Lib.hid hm
    have HO := Lib.hid ho
    clear hr hm ho
    by_cases hlk : k < n
    · have hgt := rrget_ok xb B (bs.drop (16 + 8 * k)) 8 _ HR.out (by decide) (by rw [List.length_drop]; have := HF.out; omega)
      have hbs := bytesL_succ (bs.drop 16) k
      rw [List.drop_drop] at hbs
      rw [List.drop_drop, show 16 + 8 * k + 8 = 16 + 8 * (k + 1) by omega] at hgt
      generalize val ((bs.drop (16 + 8 * k)).take 8) = y at hgt hbs
      have HGT := Lib.hid hgt
      have HBS := Lib.hid hbs
      have hki : (k : Int) < (n : Int) := by omega
      clear hgt hbs
      go_wp2_with fail
      refine HGT.out.mono ?_
      rintro e w5 ⟨rfl, h5, hm5⟩
      have H5 := Lib.hid h5
      have HM5 := Lib.hid (HM.out.trans hm5 fun _ h _ => h)
      have HO5 := Lib.hid (owns_mod HO.out hm5 fun q hq e => by
        have := (owns_block HO.out hq).1
        have := HLT.out
        omega)
      have HSZ : Hid (w.heap.size ≤ w5.heap.size ∧ k ≤ 65536) := Lib.hid ⟨HM5.out.size, by have := HN16.out; omega⟩
      clear h5 hm5
      go_wp2_with (first | (at_builtin; go_loud (refine wpList_app rfl (.tmp 37) (.tmp 41) 26 rfl etBytes w.heap.size rfl (owns_ext HO5.out ((Ext.refl w5).alloc _)) rfl (Rs.of_owns (owns_lit (n := 1) (size := 1) (cs := #[.int .u8 ((y : Int) % 256)]) rfl (Nat.le_refl _) (by decide))) (by simp [Value.oneCell']) (by have := HSZ.out; omega) (by have := HSZ.out; omega) (by have := HSZ.out; simp; omega) ?_); intro v' w6 hown hgr _) | fail)
      obtain ⟨no, ncap, rfl⟩ := owns_shape hown
      have hge : ∀ q, (Value.slice ao k cap).ownBlock = some q → w.heap.size ≤ q := fun q hq => (owns_block HO5.out hq).1
      have hm6 : Mod (fun q => (Value.slice ao k cap).ownBlock = some q) w5 w6 := Mod.trans ((Ext.refl w5).alloc _).mod (Mod.grown_row hgr) fun i hi _ => hi
      have HR6 := Lib.hid (H5.out.mod hm6 fun q h1 h2 h3 => by have := hge q h3; have := HLT.out; omega)
      have HM6 : Hid (Mod (fun k => k = xb) w w6) := Lib.hid (HM5.out.trans hm6 fun q hq hl => by have := hge q hq; omega)
      have HOWN := Lib.hid hown
      clear hown hgr hge hm6
      go_roundw
      case rel =>
        refine ⟨k + 1, no, ncap, by omega, by go_num, rfl, HR6.out, HM6.out, ?_⟩
        rw [HBS.out, List.map_append]
        have h9 := HOWN.out
        rw [byte_wrap (v := y)] at h9
        exact h9
      case measure => simp [intOf]; omega
    · have hkn : k = n := by omega
      have hki : ((k : Int) < (n : Int)) = False := eq_false (by omega)
      have hconv := convert_bytes (v := .slice ao k cap) (l := bytesL (bs.drop 16) k) (w := wr) (by
        have := Rs.of_owns HO.out
        unfold Bs
        rwa [bytesL_length])
      subst hkn
      clear hlk
      go_wp2_with fail
      go_ret
      exact ⟨rfl, HR.out, HM.out⟩

end Go.Proofs.Ytophabekaicdeaa




set_option linter.unusedVariables false
set_option linter.unusedSimpArgs false
namespace Go.Proofs.Ytophabekaicdeaa
open Go.RowKit

section
variable {P : Program}
/-- append as one operation. -/
theorem run_app_at {w : World} {t ty e : TypeId} {size bytes base : Nat} (hE : ElemT P t e size bytes) {v : Value} {n : Nat} {xs : List Value} (hown : w.ownsRow base e size v n xs)
    {u : Value} {m : Nat} {news : List Value} (hR : Rs w size u m news) (h1 : ∀ u ∈ news, u.oneCell' = true)
    (h63 : n + m ≤ 9223372036854775807) (hbytes : (n + m) * bytes ≤ 140737488355328) (hbase : base ≤ w.heap.size) :
    ∃ v' w', (Builtin.append_ #[t, t] ty #[v, u]).run P w = .ok v' w' ∧ w'.ownsRow base e size v' (n + m) (xs ++ news) ∧ w.grownBy w' v.ownBlock ∧ (v'.ownBlock = v.ownBlock ∨ v'.ownBlock = some w.heap.size) := by
  obtain ⟨i, z, h2, h3, h4, h5, h6, h7, h8⟩ := hE
  obtain ⟨ao, cap, rfl, r1, r2, r3, r4, r5⟩ := hR.open
  cases ao with
  | none =>
    have hc := r3 rfl
    subst hc
    have hm : m = 0 := by omega
    subst hm
    have hn : news = [] := List.eq_nil_of_length_eq_zero (by simpa using r4)
    subst hn
    exact ⟨v, w, run_append_owned_none (P := P) (w := w) base t ty e i size h2 h3 v n xs hown, by simpa using hown, ⟨rfl, rfl, rfl, Nat.le_refl _, fun _ _ _ => rfl⟩, .inl rfl⟩
  | some ad =>
    obtain ⟨v', w', hr, q2, q3, _, q5⟩ := run_append_own_at (P := P) w base t ty e i z size bytes h2 h3 h4 h5 h6 h7 h8 v n xs hown ad m cap news r4 (r5 ad rfl) h1 (by simpa [maxLen] using h63) hbytes hbase
    exact ⟨v', w', hr, q2, q3, q5⟩
theorem givesR_app {o : Oper} {ρ : Operand → Value} {w : World} {Post : Value → World → Prop} (s x : Operand) (t : TypeId)
    (ho : o.op = .call { callee := .builtin .append, args := #[s, x], argTypes := #[t, t] }) {e : TypeId} {size bytes : Nat} (hE : ElemT P t e size bytes) (base : Nat)
    {v : Value} {n : Nat} {xs : List Value} (hs : ρ s = v) (hown : w.ownsRow base e size v n xs)
    {u : Value} {m : Nat} {news : List Value} (hx : ρ x = u) (hR : Rs w size u m news) (h1 : ∀ u ∈ news, u.oneCell' = true)
    (h63 : n + m ≤ 9223372036854775807) (hbytes : (n + m) * bytes ≤ 140737488355328) (hbase : base ≤ w.heap.size)
    (h : ∀ v' w', w'.ownsRow base e size v' (n + m) (xs ++ news) → w.grownBy w' v.ownBlock → (v'.ownBlock = v.ownBlock ∨ v'.ownBlock = some w.heap.size) → Post v' w') : givesR P o ρ w Post := by
  obtain ⟨v', w', hr, q2, q3, q4⟩ := run_app_at (P := P) (ty := o.type) hE hown hR h1 h63 hbytes hbase
  rw [givesR_eq]
  unfold execOp
  simp only [ho, resolve, invoke, builtin, Sem.run_bind, Sem.run_pure, Result.andThen_ok, List.map_toArray, List.map_cons, List.map_nil, hs, hx, hr]
  exact h v' w' q2 q3 q4
theorem wpList_app_at {ops : Array Oper} {rest : List Oper} {o : Oper} {a : Act} {w : World} {Q : Exit → Act → World → Prop} (hgd : o.guard = none) (s x : Operand) (t : TypeId)
    (ho : o.op = .call { callee := .builtin .append, args := #[s, x], argTypes := #[t, t] }) {e : TypeId} {size bytes : Nat} (hE : ElemT P t e size bytes) (base : Nat)
    {v : Value} {n : Nat} {xs : List Value} (hs : a.eval s = v) (hown : w.ownsRow base e size v n xs)
    {u : Value} {m : Nat} {news : List Value} (hx : a.eval x = u) (hR : Rs w size u m news) (h1 : ∀ u ∈ news, u.oneCell' = true)
    (h63 : n + m ≤ 9223372036854775807) (hbytes : (n + m) * bytes ≤ 140737488355328) (hbase : base ≤ w.heap.size)
    (h : ∀ v' w', w'.ownsRow base e size v' (n + m) (xs ++ news) → w.grownBy w' v.ownBlock → (v'.ownBlock = v.ownBlock ∨ v'.ownBlock = some w.heap.size) → wpList P ops Q rest (a.put o.dst v') w') : wpList P ops Q (o :: rest) a w :=
  wpList_via hgd (fun v' w' => w'.ownsRow base e size v' (n + m) (xs ++ news) ∧ w.grownBy w' v.ownBlock ∧ (v'.ownBlock = v.ownBlock ∨ v'.ownBlock = some w.heap.size)) (by
    have := givesR_app (P := P) (o := o) (ρ := a.eval) s x t ho hE base hs hown hx hR h1 h63 hbytes hbase (Post := fun v' w' => w'.ownsRow base e size v' (n + m) (xs ++ news) ∧ w.grownBy w' v.ownBlock ∧ (v'.ownBlock = v.ownBlock ∨ v'.ownBlock = some w.heap.size)) fun v' w' a b c => ⟨a, b, c⟩
    rw [givesR_eq] at this
    rw [gives_eq]
    exact this) fun v' w' ⟨h1, h2, h3⟩ => h v' w' h1 h2 h3
end

/-- A row of bytes beside a writer. -/
def Beside (w : World) (wb : Nat) (v : Value) : Prop := ∀ q, v.ownBlock = some q → ¬ WrF w wb q
/-- The writer does. -/
theorem beside_wr {w w' : World} {B wb n : Nat} {e : TypeId} {v : Value} {xs : List Value} (h : Beside w wb v) (ho : w.ownsRow B e 1 v n xs) (hm : WrMod wb w w') : Beside w' wb v ∧ w'.ownsRow B e 1 v n xs :=
  ⟨fun q hq hF => h q hq (hm.2 q hF (owns_block ho hq).2), owns_mod ho hm.1 h⟩
theorem WrF.lt {w : World} {B wb : Nat} {l : List Bool} {err : Int} (h : WrIs w B wb l err) {q : Nat} (hq : WrF w wb q) : q < w.heap.size := by
  have hlt := h.lt
  obtain ⟨ao, cap, h1, h2, h3⟩ := h
  rcases hq with rfl | ⟨v, q1, q2⟩
  · exact hlt
  · rw [cell_of_blk h1] at q1
    simp only [List.size_toArray, List.getElem?_toArray, List.getElem?_cons_succ, List.getElem?_cons_zero, Option.some.injEq] at q1
    subst q1
    exact (owns_block h3 q2).2
/-- The row grows. -/
theorem beside_row {w w' : World} {B wb : Nat} {l : List Bool} {err : Int} {v v' : Value} (h : Beside w wb v) (hw : WrIs w B wb l err) (hg : w.grownBy w' v.ownBlock) (hat : v'.ownBlock = v.ownBlock ∨ v'.ownBlock = some w.heap.size) :
    Beside w' wb v' ∧ WrIs w' B wb l err := by
  have hm := Mod.grown_row hg
  have hlt := hw.lt
  have hwb : ¬ v.ownBlock = some wb := fun e => h wb e (.inl rfl)
  have hF : ∀ q, WrF w' wb q → WrF w wb q := by
    rintro q (rfl | ⟨u, h1, h2⟩)
    · exact .inl rfl
    · refine .inr ⟨u, ?_, h2⟩
      unfold World.cell? at h1 ⊢
      rwa [hm.block wb hlt hwb] at h1
  refine ⟨fun q hq hF' => ?_, ?_⟩
  · rcases hat with e | e
    · exact h q (by rw [← e]; exact hq) (hF q hF')
    · rw [e] at hq
      have := WrF.lt hw (hF q hF')
      simp only [Option.some.injEq] at hq
      omega
  · have hF2 := h
    obtain ⟨ao, cap, h1, h2, h3⟩ := hw
    refine ⟨ao, cap, (hm.block wb hlt hwb).trans h1, h2, owns_mod h3 hm fun q hq e => hF2 q e (.inr ⟨_, by rw [cell_of_blk h1]; rfl, hq⟩)⟩
theorem beside_ext {w w' : World} {B wb : Nat} {l : List Bool} {err : Int} {v : Value} (h : Beside w wb v) (hw : WrIs w B wb l err) (hx : Ext w w') : Beside w' wb v := fun q hq hF => h q hq (hF.ext hx hw.lt)


end Go.Proofs.Ytophabekaicdeaa


set_option linter.unusedVariables false
set_option linter.unusedSimpArgs false
namespace Go.Proofs.Ytophabekaicdeaa
open Go.RowKit

set_option maxRecDepth 100000 in
set_option maxHeartbeats 2000000 in
theorem rtext_err (rb B : Nat) (l : List UInt8) (at' : Nat) (err : Int) (w : World) (h : RdIs w B rb l at' err) (hl : l.length ≤ 100000) (ha : at' ≤ 8 * l.length) (he : getE l at' err 16 ≠ 0) :
    Calls Try.prog 62 #[.pointer (some ⟨rb, 0, none⟩)] w fun e w' => e = .returned (.string ⟨#[]⟩) ∧ RdIs w' B rb l (getAt l at' err 16) (getE l at' err 16) ∧ Mod (fun k => k = rb) w w' := by
  have hg := rget_c rb B l at' err 16 w h (by omega) ha
  have hv : getV l at' err 16 = 0 := by
    unfold getV getE at *
    rw [if_neg]
    rintro ⟨h0, _, _, h3⟩
    apply he
    rw [if_neg (by simp [h0]), if_neg (by omega), if_neg (by omega)]
  rw [hv] at hg
  generalize getE l at' err 16 = e1 at he hg ⊢
  generalize getAt l at' err 16 = a1 at hg ⊢
  have HG := Lib.hid hg
  have hb : (e1 != 0) = true := by simpa using he
  have hb2 : (e1 == 0) = false := by simpa using he
  clear hg he h hv ha hl
  go_enter Try.func62, Try.ntmps62
  go_wp2_with fail
  refine HG.out.mono ?_
  rintro e w1 ⟨rfl, h1, hm1⟩
  have H1 := Lib.hid h1
  have HM1 := Lib.hid hm1
  clear h1 hm1
  go_wp2_with fail
  refine (rerr_c rb B l a1 e1 w1 H1.out).mono ?_
  rintro e w2 ⟨rfl, rfl⟩
  go_wp2_with fail
  refine (rerr_c rb B l a1 e1 w1 H1.out).mono ?_
  rintro e w2 ⟨rfl, rfl⟩
  go_wp2
  go_ret
  exact ⟨rfl, H1.out, HM1.out⟩

set_option maxRecDepth 100000 in
set_option maxHeartbeats 2000000 in
theorem rtext_short (rb B : Nat) (l : List UInt8) (at' n : Nat) (w : World) (h : RdIs w B rb l at' 0) (hl : l.length ≤ 100000) (ha : at' + 16 ≤ 8 * l.length) (hn : n = val (bitsFrom l at' 16)) (hf : 8 * l.length < at' + 16 + 8 * n) :
    Calls Try.prog 62 #[.pointer (some ⟨rb, 0, none⟩)] w fun e w' => e = .returned (.string ⟨#[]⟩) ∧ RdIs w' B rb l (at' + 16) 3 ∧ Mod (fun k => k = rb) w w' := by
  have hn16 : n < 65536 := by
    have h1 := val_lt (bitsFrom l at' 16)
    rw [bitsFrom_length (by omega)] at h1
    omega
  have hg := rget_ok rb B l at' 16 w h (by decide) ha (by omega)
  rw [← hn] at hg
  have HG := Lib.hid hg
  have HA := Lib.hid ha
  have HL := Lib.hid hl
  have hcv : IntKind.i64.wrap (n : Int) = (n : Int) := by rw [IntKind.wrap_i64]; omega
  have hmul : IntKind.i64.wrap (8 * (n : Int)) = 8 * (n : Int) := by rw [IntKind.wrap_i64]; omega
  have hnb : n ≤ 9223372036854775806 := by omega
  have hlt : (leftI l (at' + 16) 0 < 8 * (n : Int)) = True := eq_true (by rw [leftI_zero]; omega)
  clear hg hn hn16 h hf ha hl
  go_enter Try.func62, Try.ntmps62
  go_wp2_with fail
  refine HG.out.mono ?_
  rintro e w1 ⟨rfl, h1, hm1⟩
  have H1 := Lib.hid h1
  have HM1 := Lib.hid hm1
  clear h1 hm1
  go_wp2_with fail
  refine (rerr_c rb B l (at' + 16) 0 w1 H1.out).mono ?_
  rintro e w2 ⟨rfl, rfl⟩
  have hlf := rleft_c rb B l (at' + 16) 0 w1 H1.out (by have := HL.out; omega) HA.out
  generalize leftI l (at' + 16) 0 = lf at hlf hlt
  have HLF := Lib.hid hlf
  clear hlf
  go_wp2_with fail
  refine HLF.out.mono ?_
  rintro e w2 ⟨rfl, nd, rfl⟩
  have HX2 := Lib.hid (H1.out.ext ((Ext.refl w1).drewN nd))
  have HM2 := Lib.hid (HM1.out.drewN nd)
  generalize w1.drewN nd = w2 at HX2 HM2 ⊢
  have c3 := HX2.out.c3
  have f3 := HX2.out.fz 3
  have HE := Lib.hid (HX2.out.setErr 3)
  have HME : Hid (Mod (fun k => k = rb) w (w2.setCell ⟨rb, 3, none⟩ (.int .i64 3))) := Lib.hid (Mod.setCell (F := fun k => k = rb) (p := ⟨rb, 3, none⟩) HM2.out (fun _ => rfl) _)
  go_upto_region 4 with fail
  generalize w2.setCell ⟨rb, 3, none⟩ (.int .i64 3) = w3 at HE HME ⊢
  go_wp2_with fail
  refine (rerr_c rb B l (at' + 16) 3 w3 HE.out).mono ?_
  rintro e w4 ⟨rfl, rfl⟩
  go_wp2
  go_ret
  exact ⟨rfl, HE.out, HME.out⟩

end Go.Proofs.Ytophabekaicdeaa





set_option linter.unusedVariables false
set_option linter.unusedSimpArgs false
namespace Go.Proofs.Ytophabekaicdeaa
open Go.RowKit

theorem getV_eq (l : List UInt8) (at' : Nat) (err n : Int) (ha : at' ≤ 8 * l.length) : rgetV ((bitsAll l).drop at') err n = getV l at' err n ∧ rgetL ((bitsAll l).drop at') err n = (bitsAll l).drop (getAt l at' err n) ∧ rgetE ((bitsAll l).drop at') err n = getE l at' err n := by
  have hl : ((bitsAll l).drop at').length = 8 * l.length - at' := by rw [List.length_drop, bitsAll_length]
  have hc : rgetOk ((bitsAll l).drop at') err n ↔ (err = 0 ∧ 0 ≤ n ∧ n ≤ 64 ∧ (at' : Int) + n ≤ 8 * (l.length : Int)) := by
    unfold rgetOk
    rw [hl]
    omega
  refine ⟨?_, ?_, ?_⟩
  · unfold rgetV getV
    by_cases h : rgetOk ((bitsAll l).drop at') err n
    · rw [if_pos h, if_pos (hc.1 h)]; rfl
    · rw [if_neg h, if_neg (fun h' => h (hc.2 h'))]
  · unfold rgetL getAt
    by_cases h : rgetOk ((bitsAll l).drop at') err n
    · rw [if_pos h, if_pos (hc.1 h), List.drop_drop]
    · rw [if_neg h, if_neg (fun h' => h (hc.2 h'))]
  · unfold rgetE getE
    rw [hl]
    by_cases h0 : err ≠ 0
    · rw [if_pos h0, if_pos h0]
    · rw [if_neg h0, if_neg h0]
      by_cases h1 : n < 0 ∨ 64 < n
      · rw [if_pos h1, if_pos h1]
      · rw [if_neg h1, if_neg h1]
        by_cases h2 : 8 * (l.length : Int) < (at' : Int) + n
        · rw [if_pos h2, if_pos (by omega)]
        · rw [if_neg h2, if_neg (by omega)]
theorem getAt_le (l : List UInt8) (at' : Nat) (err n : Int) (ha : at' ≤ 8 * l.length) : getAt l at' err n ≤ 8 * l.length := by
  unfold getAt
  split <;> omega
theorem endI_eq (l : List UInt8) (at' : Nat) (err : Int) (ha : at' ≤ 8 * l.length) : rendI ((bitsAll l).drop at') err = endI l at' err := by
  have hl : ((bitsAll l).drop at').length = 8 * l.length - at' := by rw [List.length_drop, bitsAll_length]
  unfold rendI endI endB
  by_cases h0 : err ≠ 0
  · rw [if_pos h0, if_pos h0]
  · rw [if_neg h0, if_neg h0]
    have hv : val (bitsFrom l at' (8 * l.length - at')) = val ((bitsAll l).drop at') := by
      unfold bitsFrom
      rw [List.take_of_length_le (by rw [hl]; exact Nat.le_refl _)]
    rw [hv, hl]
    by_cases h1 : 8 * l.length - at' < 8 ∧ val ((bitsAll l).drop at') = 0
    · rw [if_pos h1, if_pos (by rw [decide_eq_true_eq]; exact ⟨by omega, h1.2⟩)]
    · rw [if_neg h1, if_neg (by rw [decide_eq_true_eq]; exact fun h => h1 ⟨by omega, h.2⟩)]
theorem leftI_eq (l : List UInt8) (at' : Nat) (err : Int) (ha : at' ≤ 8 * l.length) : rleftI ((bitsAll l).drop at') err = leftI l at' err := by
  unfold rleftI leftI
  rw [List.length_drop, bitsAll_length]
  split <;> omega
theorem bytesL_eq (l : List UInt8) (at' n : Nat) : bytesL ((bitsAll l).drop (at' + 16)) n = bytesFrom l (at' + 16) n := by
  unfold bytesL bytesFrom bitsFrom
  simp only [List.drop_drop]

/-- What a Text answers, and what stays. -/
theorem text_both (rb xb B B' : Nat) (l : List UInt8) (at' : Nat) (err : Int) (hl : l.length ≤ 100000) (ha : at' ≤ 8 * l.length) : ∃ (s : ByteArray) (at2 : Nat) (err2 : Int), at2 ≤ 8 * l.length ∧
    (∀ w, RdIs w B rb l at' err → Calls Try.prog 62 #[.pointer (some ⟨rb, 0, none⟩)] w fun e w' => e = .returned (.string s) ∧ RdIs w' B rb l at2 err2 ∧ Mod (fun k => k = rb) w w') ∧
    (∀ w, RRd w B' xb ((bitsAll l).drop at') err → Calls Try.prog 64 #[.pointer (some ⟨xb, 0, none⟩)] w fun e w' => e = .returned (.string s) ∧ RRd w' B' xb ((bitsAll l).drop at2) err2 ∧ Mod (fun k => k = xb) w w') := by
  have hbl : ((bitsAll l).drop at').length = 8 * l.length - at' := by rw [List.length_drop, bitsAll_length]
  obtain ⟨g1, g2, g3⟩ := getV_eq l at' err 16 ha
  by_cases he : getE l at' err 16 = 0
  · have he' := he
    unfold getE at he'
    have h0 : err = 0 := by
      by_cases h : err = 0
      · exact h
      · rw [if_pos h] at he'; exact absurd he' h
    subst h0
    have h16 : at' + 16 ≤ 8 * l.length := by
      rw [if_neg (by simp), if_neg (by omega)] at he'
      by_cases h : 8 * (l.length : Int) < (at' : Int) + 16
      · rw [if_pos h] at he'; exact absurd he' (by decide)
      · omega
    have hv : val (((bitsAll l).drop at').take 16) = val (bitsFrom l at' 16) := rfl
    by_cases hf : at' + 16 + 8 * val (bitsFrom l at' 16) ≤ 8 * l.length
    · refine ⟨_, at' + 16 + 8 * val (bitsFrom l at' 16), 0, hf, fun w h => rtext_ok rb B l at' _ w h rfl hf (by omega), fun w h => ?_⟩
      have := rrtext_ok xb B' ((bitsAll l).drop at') (val (bitsFrom l at' 16)) w h (by omega) hv.symm (by omega)
      rw [List.drop_drop, List.drop_drop, bytesL_eq, show at' + (16 + 8 * val (bitsFrom l at' 16)) = at' + 16 + 8 * val (bitsFrom l at' 16) by omega] at this
      exact this
    · refine ⟨⟨#[]⟩, at' + 16, 3, h16, fun w h => rtext_short rb B l at' _ w h hl h16 rfl (by omega), fun w h => ?_⟩
      have := rrtext_short xb B' ((bitsAll l).drop at') (val (bitsFrom l at' 16)) w h (by omega) (by omega) hv.symm (by omega)
      rw [List.drop_drop] at this
      exact this
  · refine ⟨⟨#[]⟩, getAt l at' err 16, getE l at' err 16, getAt_le l at' err 16 ha, fun w h => rtext_err rb B l at' err w h hl ha he, fun w h => ?_⟩
    have := rrtext_err xb B' ((bitsAll l).drop at') err w h (by omega) (by rw [g3]; exact he)
    rw [g2, g3] at this
    exact this

end Go.Proofs.Ytophabekaicdeaa


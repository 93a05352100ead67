/- lap.Join. -/
import Derived.Test.YtcedfpckjdobpaaL18
set_option linter.unusedVariables false
set_option linter.unusedSimpArgs false
namespace Go.Proofs.Ytcedfpckjdobpaa
open Go.RowKit

def joinN (ps : List Pc) : Nat := if joinOk ps then 0 else 4
def joinL (ps : List Pc) : List UInt8 := if joinOk ps then catP ps else []
theorem catP_take_succ {ps : List Pc} {j : Nat} {p : Pc} (h : ps[j]? = some p) : catP (ps.take (j + 1)) = catP (ps.take j) ++ p.d := by
  obtain ⟨hj, rfl⟩ := List.getElem?_eq_some_iff.1 h
  unfold catP
  rw [List.take_succ_eq_append_getElem hj, List.flatMap_append]
  simp
theorem catP_take_le (ps : List Pc) (j : Nat) : (catP (ps.take j)).length ≤ (catP ps).length := by
  have : catP ps = catP (ps.take j) ++ catP (ps.drop j) := by
    unfold catP; rw [← List.flatMap_append, List.take_append_drop]
  rw [this, List.length_append]
  omega

set_option maxRecDepth 100000 in
set_option maxHeartbeats 8000000 in
theorem ljoin_c (ps : List Pc) (v : Value) (B : Nat) (w : World) (h : PRow w B 34 v ps) (hb : (catP ps).length ≤ 100000) (hw : ∀ p ∈ ps, p.wf) :
    Calls Try.prog 28 #[v] w fun r w' => ∃ vb, r = .returned (.tuple #[vb, .int .i64 (joinN ps : Int)]) ∧ Ext w w' ∧ Bs w' vb (joinL ps) := by
  obtain ⟨ao, cap, rfl⟩ := h.shape
  have hmax := h.le
  obtain ⟨n, hn⟩ : ∃ x, x = ps.length := ⟨_, rfl⟩
  rw [← hn] at h hmax ⊢
  have HP := Lib.hid h
  have HN := Lib.hid hn
  have HCB := Lib.hid hb
  have HWF := Lib.hid hw
  clear h hn hb hw
  go_enter Try.func28, Try.ntmps28
  go_wp2_with fail
  go_loopw [14, 4] (fun i a wr => ∃ j : Nat, j ≤ n ∧ i = .int .i64 j ∧ ∃ aao acap q, a = .slice aao q acap ∧ Hid (Ext w wr ∧ q = (catP (ps.take j)).length ∧ wr.ownsRow w.heap.size 5 1 (.slice aao q acap) q ((catP (ps.take j)).map bv))) (fun i _ _ => n - (intOf i).toNat)
  case atStart => exact ⟨0, by omega, rfl, none, 0, 0, rfl, Lib.hid ⟨Ext.refl _, rfl, World.ownsRow_nil _ _ _ _⟩⟩
  case round =>
    obtain ⟨j, hj, rfl, aao, acap, q, rfl, HR⟩ := hrel
    by_cases hlt : j < n
    · obtain ⟨p, hp⟩ : ∃ p, ps[j]? = some p := ⟨_, List.getElem?_eq_getElem (by rw [← HN.out]; exact hlt)⟩
      obtain ⟨g, dao, dcap, rfl, _, _, hbs, _, hc⟩ := (HP.out.ext HR.out.1).at hp
      have hcs := catP_take_succ hp
      have hcl := catP_take_le ps (j + 1)
      obtain ⟨ep, ct, fi, la, pd⟩ := p
      simp only at hbs hc hcs
      obtain ⟨m, hm⟩ : ∃ x, x = pd.length := ⟨_, rfl⟩
      rw [← hm] at hbs hc
      have c0 : wr.cell? ⟨g, j * 5, none⟩ = some (.int .u64 (ep : Int)) := hc 0 (by decide)
      have c1 : wr.cell? ⟨g, j * 5 + 1, none⟩ = some (.int .u64 (ct : Int)) := hc 1 (by decide)
      have c2 : wr.cell? ⟨g, j * 5 + 2, none⟩ = some (.bool fi) := hc 2 (by decide)
      have c3 : wr.cell? ⟨g, j * 5 + 3, none⟩ = some (.bool la) := hc 3 (by decide)
      have c4 : wr.cell? ⟨g, j * 5 + 4, none⟩ = some (.slice dao m dcap) := hc 4 (by decide)
      have HLT := Lib.hid hlt
      have HQM : Hid (q + m ≤ 100000 ∧ q + m = (catP (ps.take (j + 1))).length) := Lib.hid (by
        have e : (catP (ps.take (j + 1))).length = q + m := by rw [hcs, List.length_append, ← HR.out.2.1, hm]
        have := HCB.out
        exact ⟨by omega, e.symm⟩)
      have HCS := Lib.hid hcs
      have HBS : Hid (Rs wr 1 (.slice dao m dcap) m (pd.map bv)) := Lib.hid (by have h := hbs; unfold Bs at h; rw [← hm] at h; exact h)
      have hi1 : (0 : Int) ≤ (j : Int) := by omega
      have hi2 : (j : Int) < (n : Int) := by omega
      clear hp hbs hc hcs hcl hm
      go_wp2_with (first
        | (at_builtin; refine wpList_app rfl (.tmp 18) (.tmp 20) 29 rfl etBytes w.heap.size rfl (owns_ext HR.out.2.2 ((Ext.refl wr).alloc _)) rfl (HBS.out.ext ((Ext.refl wr).alloc _)) (oneCell_bv _) (by have := HQM.out.1; omega) (by have := HQM.out.1; omega) (by have := HR.out.1.size; simp; omega) ?_; intro v' w4 ho hg _)
        | fail)
      obtain ⟨ao', cap', rfl⟩ := owns_shape ho
      have HO := Lib.hid ho
      have HG := Lib.hid hg
      clear ho hg
      go_roundw
      case rel =>
        refine ⟨j + 1, HLT.out, by go_num, ao', cap', q + m, rfl, Lib.hid ⟨?_, HQM.out.2, ?_⟩⟩
        · exact (HR.out.1.alloc _).grown HG.out fun i hi => (owns_block HR.out.2.2 hi).1
        · rw [HCS.out, List.map_append]
          exact HO.out
      case measure => have := HLT.out; simp [intOf]; omega
    · obtain rfl : n = j := by omega
      have hcat : catP (ps.take n) = catP ps := by rw [List.take_of_length_le (by rw [← HN.out]; exact Nat.le_refl _)]
      rw [hcat] at HR
      clear hcat
      by_cases hn0 : n = 0
      · have hnil : ps = [] := List.eq_nil_of_length_eq_zero (by rw [← HN.out]; exact hn0)
        have HNO : Hid (joinN ps = 4 ∧ joinL ps = []) := Lib.hid (by
          have : ¬ joinOk ps := fun h => h.1 hnil
          exact ⟨by unfold joinN; rw [if_neg this], by unfold joinL; rw [if_neg this]⟩)
        have ht : ((n : Int) == 0) = true := by simp; omega
        clear hnil hn0
        go_wp2_with fail
        rw [HNO.out.1, HNO.out.2]
        exact bodyPost_ret (v := .tuple #[.slice none 0 0, .int .i64 4]) (by simp [results, Try.results28, go_sem]) rfl ⟨_, rfl, HR.out.1, Bs.nil _⟩
      · have ht : ((n : Int) == 0) = false := by simp; omega
        obtain ⟨p, hp⟩ : ∃ p, ps[0]? = some p := ⟨_, List.getElem?_eq_getElem (by rw [← HN.out]; omega)⟩
        obtain ⟨g, dao, dcap, rfl, _, _, hbs, _, hc⟩ := (HP.out.ext HR.out.1).at hp
        have hhead : headP ps = p := by
          cases ps with
          | nil => simp at hp
          | cons a r => simp at hp; subst hp; rfl
        have hwf := HWF.out p (List.mem_of_getElem? hp)
        obtain ⟨ep, ct, fi, la, pd⟩ := p
        obtain ⟨all, hall⟩ : ∃ x, x = catP ps := ⟨_, rfl⟩
        obtain ⟨K, hK⟩ : ∃ x, x = cutN ep ct all.length := ⟨_, rfl⟩
        obtain ⟨PL, hPL⟩ : ∃ x, x = cutL ep ct all := ⟨_, rfl⟩
        have c0 : wr.cell? ⟨g, 0, none⟩ = some (.int .u64 (ep : Int)) := by have := hc 0 (by decide); rw [Nat.zero_mul, Nat.zero_add] at this; exact this
        have c1 : wr.cell? ⟨g, 1, none⟩ = some (.int .u64 (ct : Int)) := by have := hc 1 (by decide); rw [Nat.zero_mul, Nat.zero_add] at this; exact this
        obtain ⟨vall, hvall⟩ : ∃ x, x = Value.slice aao q acap := ⟨_, rfl⟩
        have HALL : Hid (Bs wr vall all) := Lib.hid (by have h := Rs.of_owns HR.out.2.2; unfold Bs; rw [hvall, hall, ← HR.out.2.1]; exact h)
        have HBD : Hid (all.length ≤ 100000 ∧ ep < 18446744073709551616 ∧ ct < 18446744073709551616) := Lib.hid ⟨by rw [hall]; exact HCB.out, hwf.1, hwf.2⟩
        have HKP := Lib.hid (And.intro hK hPL)
        have HJ : Hid (joinOk ps ↔ PL = ps) := Lib.hid (by
          unfold joinOk
          rw [hhead, ← hall, ← hPL]
          exact ⟨fun h => h.2, fun h => ⟨fun e => by rw [e] at hp; simp at hp, h⟩⟩)
        have HKL : Hid (K ≠ 0 → PL = []) := Lib.hid (fun h => by rw [hPL]; unfold cutL; rw [if_neg (by rw [← hK]; exact h)])
        have HA := Lib.hid hall
        have HWZ : Hid (w.heap.size ≤ wr.heap.size) := Lib.hid HR.out.1.size
        have hj1 : (0 : Int) < (n : Int) := by omega
        have hj0 : 0 < n := by omega
        have HXR : Hid (Ext w wr) := Lib.hid HR.out.1
        rw [← hvall]
        clear hp hbs hc hhead hwf hall hK hPL hvall hn0
        go_wp2_with fail
        refine wp_region_rx 15 _
          [ex (.slice (some ⟨g, 0, none⟩) n cap),
            ex (.pointer (some ⟨g, 0, none⟩)),
            ex (.pointer (some ⟨g, 0, none⟩)),
            ex (.int .u64 (ep : Int)),
            ex (.slice (some ⟨g, 0, none⟩) n cap),
            ex (.pointer (some ⟨g, 0, none⟩)),
            ex (.pointer (some ⟨g, 1, none⟩)),
            ex (.int .u64 (ct : Int)),
            ex vall,
            (fun v w' => ∃ vr, v = .tuple #[vr, .int .i64 (K : Int)] ∧ PRow w' w.heap.size 34 vr PL),
            (fun v w' => ∃ vr, v = .tuple #[vr, .int .i64 (K : Int)] ∧ PRow w' w.heap.size 34 vr PL),
            (fun v w' => PRow w' w.heap.size 34 v PL),
            ex (.int .i64 (K : Int)),
            (fun v w' => PRow w' w.heap.size 34 v PL),
            ex (.int .i64 (K : Int))]
          (by kernel_rfl) (by kernel_rfl) (by kernel_rfl) rfl ⟨ex_st, ex_st, ex_st, ex_st, ex_st, ex_st, ex_st, ex_st, ex_st, (fun v w1 w2 h hx => by obtain ⟨x, h1, h2⟩ := h; exact ⟨x, h1, h2.ext hx⟩), (fun v w1 w2 h hx => by obtain ⟨x, h1, h2⟩ := h; exact ⟨x, h1, h2.ext hx⟩), (fun v w1 w2 h hx => h.ext hx), ex_st, (fun v w1 w2 h hx => h.ext hx), ex_st, trivial⟩ ?_ ?_
        · simp only [List.take_succ_cons, List.take_zero]
          go_tidy
          refine RhOps.mk (RhOp.moveA (by decide) (.free rfl) 0 (fun _ w _ => Ext.refl w) rfl rfl (.slice (some ⟨g, 0, none⟩) n cap) rfl (fun _ _ _ => rfl)) ?_
          refine RhOps.mk (RhOp.at (by decide) (.free rfl) ?_) ?_
          rotate_left
          refine RhOps.mk (RhOp.at (by decide) (.free rfl) ?_) ?_
          rotate_left
          refine RhOps.mk (RhOp.at (by decide) (.free rfl) ?_) ?_
          rotate_left
          refine RhOps.mk (RhOp.moveA (by decide) (.free rfl) 0 (fun _ w _ => Ext.refl w) rfl rfl (.slice (some ⟨g, 0, none⟩) n cap) rfl (fun _ _ _ => rfl)) ?_
          refine RhOps.mk (RhOp.at (by decide) (.free rfl) ?_) ?_
          rotate_left
          refine RhOps.mk (RhOp.at (by decide) (.free rfl) ?_) ?_
          rotate_left
          refine RhOps.mk (RhOp.at (by decide) (.free rfl) ?_) ?_
          rotate_left
          refine RhOps.mk (RhOp.moveA (by decide) (.free rfl) 4 (fun _ w _ => Ext.refl w) rfl rfl vall rfl (fun _ _ _ => rfl)) ?_
          refine RhOps.mk (RhOp.at (by decide) (.free rfl) ?_) ?_
          rotate_left
          refine RhOps.mk (RhOp.move (by decide) (.free rfl) 36 9 (fun _ w _ => Ext.refl w) rfl rfl rfl (fun _ _ h => h)) ?_
          refine RhOps.mk (RhOp.at (by decide) (.free rfl) ?_) ?_
          rotate_left
          refine RhOps.mk (RhOp.at (by decide) (.free rfl) ?_) ?_
          rotate_left
          refine RhOps.mk (RhOp.move (by decide) (.free rfl) 37 11 (fun _ w _ => Ext.refl w) rfl rfl rfl (fun _ _ h => h)) ?_
          refine RhOps.mk (RhOp.move (by decide) (.free rfl) 38 12 (fun _ w _ => Ext.refl w) rfl rfl rfl (fun _ _ h => h)) ?_
          exact RhOps.done
          · intro bb vals ρ w' hC hd hS
            have r27 : ρ (.tmp 27) = .slice (some ⟨g, 0, none⟩) n cap := (hS.tmp 27).trans (hd.at 0 rfl)
            have rc := hS.const
            refine (show givesR _ _ _ _ (fun v w'' => Ext w' w'' ∧ v = .pointer (some ⟨g, 0, none⟩)) from ?_)
            clear hC hd hS
            go_simp
            exact Ext.refl _
          · intro bb vals ρ w' hC hd hS
            have r28 : ρ (.tmp 28) = .pointer (some ⟨g, 0, none⟩) := (hS.tmp 28).trans (hd.at 1 rfl)
            refine (show givesR _ _ _ _ (fun v w'' => Ext w' w'' ∧ v = .pointer (some ⟨g, 0, none⟩)) from ?_)
            clear hC hd hS
            go_simp
            exact Ext.refl _
          · intro bb vals ρ w' hC hd hS
            have r29 : ρ (.tmp 29) = .pointer (some ⟨g, 0, none⟩) := (hS.tmp 29).trans (hd.at 2 rfl)
            have qc := hC.cell c0
            refine (show givesR _ _ _ _ (fun v w'' => Ext w' w'' ∧ v = .int .u64 (ep : Int)) from ?_)
            clear hC hd hS
            go_simp
            exact Ext.refl _
          · intro bb vals ρ w' hC hd hS
            have r31 : ρ (.tmp 31) = .slice (some ⟨g, 0, none⟩) n cap := (hS.tmp 31).trans (hd.at 4 rfl)
            have rc := hS.const
            refine (show givesR _ _ _ _ (fun v w'' => Ext w' w'' ∧ v = .pointer (some ⟨g, 0, none⟩)) from ?_)
            clear hC hd hS
            go_simp
            exact Ext.refl _
          · intro bb vals ρ w' hC hd hS
            have r32 : ρ (.tmp 32) = .pointer (some ⟨g, 0, none⟩) := (hS.tmp 32).trans (hd.at 5 rfl)
            refine (show givesR _ _ _ _ (fun v w'' => Ext w' w'' ∧ v = .pointer (some ⟨g, 1, none⟩)) from ?_)
            clear hC hd hS
            go_simp
            exact Ext.refl _
          · intro bb vals ρ w' hC hd hS
            have r33 : ρ (.tmp 33) = .pointer (some ⟨g, 1, none⟩) := (hS.tmp 33).trans (hd.at 6 rfl)
            have qc := hC.cell c1
            refine (show givesR _ _ _ _ (fun v w'' => Ext w' w'' ∧ v = .int .u64 (ct : Int)) from ?_)
            clear hC hd hS
            go_simp
            exact Ext.refl _
          · intro bb vals ρ w' hC hd hS
            have r30 : ρ (.tmp 30) = .int .u64 (ep : Int) := (hS.tmp 30).trans (hd.at 3 rfl)
            have r34 : ρ (.tmp 34) = .int .u64 (ct : Int) := (hS.tmp 34).trans (hd.at 7 rfl)
            have r35 : ρ (.tmp 35) = vall := (hS.tmp 35).trans (hd.at 8 rfl)
            have rf := hS.func
            refine (show givesR _ _ _ _ (fun v w'' => Ext w' w'' ∧ (fun v w' => ∃ vr, v = .tuple #[vr, .int .i64 (K : Int)] ∧ PRow w' w.heap.size 34 vr PL) v w'') from ?_)
            have hb := HALL.out.ext hC
            have HBB := Lib.hid hb
            have hz := hC.size
            have HZ := Lib.hid hz
            clear hC hd hS hb hz
            go_simp
            refine (lcut_c ep ct vall all w' HBB.out HBD.out.1 HBD.out.2.1 HBD.out.2.2).mono ?_
            rintro e w'' ⟨vr, rfl, hx, hp⟩
            rw [← HKP.out.1, ← HKP.out.2] at *
            exact ⟨_, rfl, hx, vr, rfl, hp.base (by have := HZ.out; have := HWZ.out; omega)⟩
          · intro bb vals ρ w' hC hd hS
            have d10 := hd.at 10 rfl
            have r26 : ρ (.tmp 26) = vals 10 := hS.tmp 26
            refine (show givesR _ _ _ _ (fun v w'' => Ext w' w'' ∧ (fun v w' => PRow w' w.heap.size 34 v PL) v w'') from ?_)
            obtain ⟨vr, e10, p10⟩ := d10
            rw [e10] at r26
            have HP' := Lib.hid p10
            clear hC hd hS e10 p10
            go_simp
            exact ⟨Ext.refl _, HP'.out⟩
          · intro bb vals ρ w' hC hd hS
            have d10 := hd.at 10 rfl
            have r26 : ρ (.tmp 26) = vals 10 := hS.tmp 26
            refine (show givesR _ _ _ _ (fun v w'' => Ext w' w'' ∧ v = .int .i64 (K : Int)) from ?_)
            obtain ⟨vr, e10, p10⟩ := d10
            rw [e10] at r26
            clear hC hd hS e10 p10
            go_simp
            exact Ext.refl _
        intro vals w' hC hV
        have e13 := hV 13 (by decide)
        have e14 := hV 14 (by decide)
        simp only [vlist, ex, List.getD_cons_zero, List.getD_cons_succ] at e13 e14
        have HC' := Lib.hid hC; clear hC hV
        simp only [List.drop_succ_cons, List.drop_zero]
        go_simp -- the frame
        obtain ⟨lao, lcap, hsh⟩ := PRow.shape e13
        have HPL := Lib.hid e13
        have HX5 : Hid (Ext w w') := Lib.hid (HXR.out.trans HC'.out)
        clear e13
        go_simp -- the frame
        rename World => w5
        obtain ⟨L, hL⟩ : ∃ x, x = PL.length := ⟨_, rfl⟩
        have hpl0 := HPL.out
        rw [hsh] at hpl0
        rw [← hL] at hsh hpl0 ⊢
        have HP5 := Lib.hid hpl0
        have HPS5 := Lib.hid (HP.out.ext HX5.out)
        have HALL5 := Lib.hid (HALL.out.ext HC'.out)
        have HLL := Lib.hid hL
        have hLmax : L ≤ 9223372036854775807 := by rw [hL]; exact HPL.out.le
        have HSH := Lib.hid hsh
        clear hpl0 hL hsh e14 HR HALL hj1 ht c0 c1
        by_cases hk : K ≠ 0 ∨ L ≠ n
        · have HNO : Hid (joinN ps = 4 ∧ joinL ps = []) := Lib.hid (by
            have hno : ¬ joinOk ps := by
              rw [HJ.out]
              intro e
              have e2 : L = n := by rw [HLL.out, HN.out, e]
              rcases hk with hk | hk
              · have := HKL.out hk
                rw [this] at e
                have := HN.out
                rw [← e] at this
                simp at this
                omega
              · exact hk e2
            exact ⟨by unfold joinN; rw [if_neg hno], by unfold joinL; rw [if_neg hno]⟩)
          have hd : ((K : Int) != 0) = true ∨ (((K : Int) != 0) = false ∧ ((L : Int) != (n : Int)) = true) := by
            simp only [bne_iff_ne, ne_eq, bne_eq_false_iff_eq]; omega
          clear hk
          rcases hd with d1 | ⟨d1, d2⟩
          all_goals
            go_wp2_with fail
            rw [HNO.out.1, HNO.out.2]
            exact bodyPost_ret (v := .tuple #[.slice none 0 0, .int .i64 4]) (by simp [results, Try.results28, go_sem]) rfl ⟨_, rfl, HX5.out, Bs.nil _⟩
        · have hk0 : ((K : Int) != 0) = false := by simp; omega
          obtain rfl : n = L := by omega
          have hnn : ((n : Int) != (n : Int)) = false := by simp
          clear hk
          go_wp2_with fail
          go_loopw [50] (fun i wr => ∃ j : Nat, j ≤ n ∧ i = .int .i64 j ∧ Hid (Ext w5 wr ∧ ∀ i, i < j → PL[i]? = ps[i]?)) (fun i _ => n - (intOf i).toNat)
          case atStart => exact ⟨0, by omega, rfl, Lib.hid ⟨Ext.refl _, fun i hi => absurd hi (by omega)⟩⟩
          case round =>
            obtain ⟨j, hj, rfl, HR⟩ := hrel
            by_cases hlt : j < n
            · obtain ⟨p, hp⟩ : ∃ p, PL[j]? = some p := ⟨_, List.getElem?_eq_getElem (by rw [← HLL.out]; exact hlt)⟩
              obtain ⟨q, hq⟩ : ∃ q, ps[j]? = some q := ⟨_, List.getElem?_eq_getElem (by rw [← HN.out]; exact hlt)⟩
              obtain ⟨g1, d1, k1, rfl, _, hg1, hb1, _, hc1⟩ := (HP5.out.ext HR.out.1).at hp
              obtain ⟨g2, d2, k2, he2, _, hg2, hb2, _, hc2⟩ := (HPS5.out.ext HR.out.1).at hq
              simp only [Option.some.injEq, Addr.mk.injEq] at he2
              obtain ⟨rfl, -, -⟩ := he2
              have HPQ := Lib.hid (And.intro hp hq)
              have HLT := Lib.hid hlt
              have hi1 : (0 : Int) ≤ (j : Int) := by omega
              have hi2 : (j : Int) < (n : Int) := by omega
              clear hp hq
              have HG : Hid (g1 < wr.heap.size ∧ g < wr.heap.size) := Lib.hid ⟨hg1, hg2⟩
              clear hg1 hg2
              obtain ⟨ep1, ct1, fi1, la1, pd1⟩ := p
              obtain ⟨ep2, ct2, fi2, la2, pd2⟩ := q
              obtain ⟨m1, hm1⟩ : ∃ x, x = pd1.length := ⟨_, rfl⟩
              obtain ⟨m2, hm2⟩ : ∃ x, x = pd2.length := ⟨_, rfl⟩
              simp only at hb1 hb2 hc1 hc2
              rw [← hm1] at hb1 hc1
              rw [← hm2] at hb2 hc2
              have p0 : wr.cell? ⟨g1, j * 5, none⟩ = some (.int .u64 (ep1 : Int)) := hc1 0 (by decide)
              have p1 : wr.cell? ⟨g1, j * 5 + 1, none⟩ = some (.int .u64 (ct1 : Int)) := hc1 1 (by decide)
              have p2 : wr.cell? ⟨g1, j * 5 + 2, none⟩ = some (.bool fi1) := hc1 2 (by decide)
              have p3 : wr.cell? ⟨g1, j * 5 + 3, none⟩ = some (.bool la1) := hc1 3 (by decide)
              have p4 : wr.cell? ⟨g1, j * 5 + 4, none⟩ = some (.slice d1 m1 k1) := hc1 4 (by decide)
              have hw1 : Ext wr (wr.alloc (.cells #[.int .u64 (ep1 : Int), .int .u64 (ct1 : Int), .bool fi1, .bool la1, .slice d1 m1 k1] 34)) := (Ext.refl wr).alloc _
              have q0 : (wr.alloc (.cells #[.int .u64 (ep1 : Int), .int .u64 (ct1 : Int), .bool fi1, .bool la1, .slice d1 m1 k1] 34)).cell? ⟨g, j * 5, none⟩ = some (.int .u64 (ep2 : Int)) := hw1.cell (hc2 0 (by decide))
              have q1 : (wr.alloc (.cells #[.int .u64 (ep1 : Int), .int .u64 (ct1 : Int), .bool fi1, .bool la1, .slice d1 m1 k1] 34)).cell? ⟨g, j * 5 + 1, none⟩ = some (.int .u64 (ct2 : Int)) := hw1.cell (hc2 1 (by decide))
              have q2 : (wr.alloc (.cells #[.int .u64 (ep1 : Int), .int .u64 (ct1 : Int), .bool fi1, .bool la1, .slice d1 m1 k1] 34)).cell? ⟨g, j * 5 + 2, none⟩ = some (.bool fi2) := hw1.cell (hc2 2 (by decide))
              have q3 : (wr.alloc (.cells #[.int .u64 (ep1 : Int), .int .u64 (ct1 : Int), .bool fi1, .bool la1, .slice d1 m1 k1] 34)).cell? ⟨g, j * 5 + 3, none⟩ = some (.bool la2) := hw1.cell (hc2 3 (by decide))
              have q4 : (wr.alloc (.cells #[.int .u64 (ep1 : Int), .int .u64 (ct1 : Int), .bool fi1, .bool la1, .slice d1 m1 k1] 34)).cell? ⟨g, j * 5 + 4, none⟩ = some (.slice d2 m2 k2) := hw1.cell (hc2 4 (by decide))
              have HB1 := Lib.hid hb1
              have HB2 := Lib.hid hb2
              have HNE : Hid (¬ (ep1 = ep2 ∧ ct1 = ct2 ∧ fi1 = fi2 ∧ la1 = la2 ∧ pd1 = pd2) → joinN ps = 4 ∧ joinL ps = []) := Lib.hid (fun hne => by
                have hno : ¬ joinOk ps := by
                  rw [HJ.out]
                  intro e
                  have h1 := HPQ.out.1
                  rw [e, HPQ.out.2] at h1
                  simp at h1
                  obtain ⟨rfl, rfl, rfl, rfl, rfl⟩ := h1
                  simp at hne
                exact ⟨by unfold joinN; rw [if_neg hno], by unfold joinL; rw [if_neg hno]⟩)
              clear hb1 hb2 hc1 hc2 hm1 hm2 hw1
              by_cases e1 : ep1 = ep2
              · have x1 : ((ep1 : Int) != (ep2 : Int)) = false := by simp; omega
                have E1 := Lib.hid e1
                clear e1
                by_cases e2 : ct1 = ct2
                · have x2 : ((ct1 : Int) != (ct2 : Int)) = false := by simp; omega
                  have E2 := Lib.hid e2
                  clear e2
                  by_cases e3 : fi1 = fi2
                  · subst e3
                    by_cases e4 : la1 = la2
                    · subst e4
                      go_wp2_with fail
                      refine (equal_c _ _ pd1 pd2 _ (HB1.out.ext (((Ext.refl wr).alloc _).alloc _)) (HB2.out.ext (((Ext.refl wr).alloc _).alloc _))).mono ?_
                      rintro e wq ⟨rfl, rfl⟩
                      by_cases e5 : pd1 = pd2
                      · have E5 := Lib.hid e5
                        rw [decide_eq_true e5]
                        clear e5
                        go_wp2_with fail
                        go_roundw
                        case rel =>
                          refine ⟨j + 1, HLT.out, by go_num, Lib.hid ⟨(HR.out.1.alloc _).alloc _, fun i hi => ?_⟩⟩
                          by_cases hij : i < j
                          · exact HR.out.2 i hij
                          · obtain rfl : i = j := by omega
                            rw [HPQ.out.1, HPQ.out.2, E1.out, E2.out, E5.out]
                        case measure => have := HLT.out; simp [intOf]; omega
                      · have hno := HNE.out (fun h => e5 h.2.2.2.2)
                        have HNO := Lib.hid hno
                        rw [decide_eq_false e5]
                        clear hno e5
                        go_wp2_with fail
                        rw [HNO.out.1, HNO.out.2]
                        exact bodyPost_ret (v := .tuple #[.slice none 0 0, .int .i64 4]) (by simp [results, Try.results28, go_sem]) rfl ⟨_, rfl, ((HX5.out.trans HR.out.1).alloc _).alloc _, Bs.nil _⟩
                    · have hno := HNE.out (fun h => e4 h.2.2.2.1)
                      have HNO := Lib.hid hno
                      clear hno
                      cases la1 <;> cases la2 <;> first
                        | exact absurd rfl e4
                        | (clear e4
                           go_wp2_with fail
                           rw [HNO.out.1, HNO.out.2]
                           exact bodyPost_ret (v := .tuple #[.slice none 0 0, .int .i64 4]) (by simp [results, Try.results28, go_sem]) rfl ⟨_, rfl, ((HX5.out.trans HR.out.1).alloc _).alloc _, Bs.nil _⟩)
                  · have hno := HNE.out (fun h => e3 h.2.2.1)
                    have HNO := Lib.hid hno
                    clear hno
                    cases fi1 <;> cases fi2 <;> first
                      | exact absurd rfl e3
                      | (clear e3
                         go_wp2_with fail
                         rw [HNO.out.1, HNO.out.2]
                         exact bodyPost_ret (v := .tuple #[.slice none 0 0, .int .i64 4]) (by simp [results, Try.results28, go_sem]) rfl ⟨_, rfl, ((HX5.out.trans HR.out.1).alloc _).alloc _, Bs.nil _⟩)
                · have x2 : ((ct1 : Int) != (ct2 : Int)) = true := by simp; omega
                  have hno := HNE.out (fun h => e2 h.2.1)
                  have HNO := Lib.hid hno
                  clear hno e2
                  go_wp2_with fail
                  rw [HNO.out.1, HNO.out.2]
                  exact bodyPost_ret (v := .tuple #[.slice none 0 0, .int .i64 4]) (by simp [results, Try.results28, go_sem]) rfl ⟨_, rfl, ((HX5.out.trans HR.out.1).alloc _).alloc _, Bs.nil _⟩
              · have x1 : ((ep1 : Int) != (ep2 : Int)) = true := by simp; omega
                have hno := HNE.out (fun h => e1 h.1)
                have HNO := Lib.hid hno
                clear hno e1
                go_wp2_with fail
                rw [HNO.out.1, HNO.out.2]
                exact bodyPost_ret (v := .tuple #[.slice none 0 0, .int .i64 4]) (by simp [results, Try.results28, go_sem]) rfl ⟨_, rfl, ((HX5.out.trans HR.out.1).alloc _).alloc _, Bs.nil _⟩
            · obtain rfl : n = j := by omega
              have HJO : Hid (joinN ps = 0 ∧ joinL ps = all) := Lib.hid (by
                have hyes : joinOk ps := HJ.out.2 (List.ext_getElem? fun i => by
                  by_cases hi : i < n
                  · exact HR.out.2 i hi
                  · rw [List.getElem?_eq_none (by rw [← HLL.out]; omega), List.getElem?_eq_none (by rw [← HN.out]; omega)])
                exact ⟨by unfold joinN; rw [if_pos hyes], by unfold joinL; rw [if_pos hyes, HA.out]⟩)
              have HXF : Hid (Ext w wr) := Lib.hid (HX5.out.trans HR.out.1)
              have HAF : Hid (Bs wr vall all) := Lib.hid (HALL5.out.ext HR.out.1)
              go_wp2_with fail
              rw [HJO.out.1, HJO.out.2]
              exact bodyPost_ret (by simp [results, Try.results28, go_sem]) rfl ⟨_, rfl, HXF.out, HAF.out⟩

end Go.Proofs.Ytcedfpckjdobpaa

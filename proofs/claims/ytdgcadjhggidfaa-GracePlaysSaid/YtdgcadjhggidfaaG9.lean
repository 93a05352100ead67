/- The law GraceEnds, walked. -/
import Derived.Test.YtdgcadjhggidfaaG7
import Derived.Test.YtdgcadjhggidfaaG5
import Derived.Deep.DeepCutAuto
import Derived.Deep.CutBlock
set_option linter.unusedVariables false
set_option linter.unusedSimpArgs false
namespace Go.Proofs.Ytdgcadjhggidfaa
open Go.RowKit

/-- One call of the law's row. -/
structure GDo where
  kind : Int
  c : Int
  s : Int

/-- A row of calls that reads. -/
def GDos (W : World) (v : Value) (ds : List GDo) : Prop :=
  ∃ ao cap, v = .slice ao ds.length cap ∧ ds.length ≤ cap ∧ cap ≤ 9223372036854775807 ∧
    ∀ (k : Nat) d, ds[k]? = some d → ∃ b o, ao = some ⟨b, o, none⟩ ∧ W.cell? ⟨b, o + k * 3, none⟩ = some (.int .i64 d.kind) ∧ W.cell? ⟨b, o + k * 3 + 1, none⟩ = some (.int .i64 d.c) ∧ W.cell? ⟨b, o + k * 3 + 2, none⟩ = some (.int .u64 d.s)

/-- The state of the law's loop. -/
structure EndsInv (W w : World) (gb : Nat) (R : GRec) (left : List Int) (span spent : Int) (f : Bool) (t : Nat) : Prop where
  g : GraceIs w W.heap.size gb R left span spent
  below : Below W.heap.size W w
  rng : ∀ x ∈ left, 0 ≤ x ∧ x < 8
  len : left.length ≤ 8
  spd : spent = if (t : Int) < span then (t : Int) else span
  ovr : f = true → overB left span spent = true

theorem overB_tick {left : List Int} {span spent : Int} (h : overB left span spent = true) : overB left span (tickN span spent) = true := by
  unfold overB tickN at *
  simp only [decide_eq_true_eq] at *
  rcases h with h | h | h
  · exact .inl h
  · exact .inr (.inl h)
  · rw [if_neg (by omega)]; exact .inr (.inr h)
theorem overB_erase {left : List Int} {span spent c : Int} (h : overB left span spent = true) : overB (left.erase c) span spent = true := by
  unfold overB at *
  simp only [decide_eq_true_eq] at *
  rcases h with h | h | h
  · exact .inl h
  · subst h; exact .inr (.inl rfl)
  · exact .inr (.inr h)
theorem EndsInv.tick {W w w' : World} {gb : Nat} {R : GRec} {left : List Int} {span spent : Int} {f : Bool} {t : Nat} (h : EndsInv W w gb R left span spent f t)
    (hm : Mod (TyF w W.heap.size [53, 3]) w w') (hg : GraceIs w' W.heap.size gb R left span (tickN span spent)) (hs : 0 < span) : EndsInv W w' gb R left span (tickN span spent) f (t + 1) := by
  refine ⟨hg, h.below.trans (tyF_below hm h.below.size), h.rng, h.len, ?_, fun hf => overB_tick (h.ovr hf)⟩
  have := h.spd
  unfold tickN
  split at this <;> split <;> split <;> omega
theorem EndsInv.done {W w w' : World} {gb : Nat} {R : GRec} {left : List Int} {span spent c : Int} {f : Bool} {t : Nat} (h : EndsInv W w gb R left span spent f t)
    (hm : Mod (TyF w W.heap.size [53, 3]) w w') (hg : GraceIs w' W.heap.size gb R (left.erase c) span spent) : EndsInv W w' gb R (left.erase c) span spent f t :=
  ⟨hg, h.below.trans (tyF_below hm h.below.size), fun x hx => h.rng x (List.mem_of_mem_erase hx), by have := List.length_erase_le (l := left) (a := c); have := h.len; omega, h.spd, fun hf => overB_erase (h.ovr hf)⟩
theorem EndsInv.drewN {W w : World} {gb : Nat} {R : GRec} {left : List Int} {span spent : Int} {f : Bool} {t : Nat} (h : EndsInv W w gb R left span spent f t) (n : Nat) (f' : Bool) (hf : f' = true → overB left span spent = true) : EndsInv W (w.drewN n) gb R left span spent f' t :=
  ⟨h.g.ext ((Ext.refl w).drewN n), h.below.trans (((Ext.refl w).drewN n).below.mono h.below.size), h.rng, h.len, h.spd, hf⟩

theorem hol_rng (R : GRec) : ∀ x ∈ hol R 8, 0 ≤ x ∧ x < 8 := fun x hx => by
  obtain ⟨i, h1, _, rfl⟩ := mem_hol.1 hx; omega

set_option maxRecDepth 100000 in
set_option maxHeartbeats 8000000 in
theorem graceEnds_calls (R : GRec) (span : Int) (v : Value) (ds : List GDo) (W : World) (_ : True) (hspan : 0 ≤ span ∧ span ≤ 18446744073709551615) (h : GDos W v ds) :
    Calls Try.prog 3 #[.agg (xcells R), .int .u64 span, v] W fun e w' => e = .returned (.bool true) ∧ Below W.heap.size W w' := by
  obtain ⟨ao, cap, rfl, h1, h2, hcells⟩ := h
  obtain ⟨n, hn⟩ : ∃ n, n = ds.length := ⟨_, rfl⟩
  rw [← hn] at h1 ⊢
  have HN := Lib.hid hn; clear hn
  have HC := Lib.hid hcells; clear hcells
  go_enter Try.func3, Try.ntmps3
  go_upto_region 1 with fail
  go_cut [17] (fun s17 wx => wx = W.alloc (.cells (xcells R) 26) ∧ s17 = .bool (decide (span < 1 ∨ 200 < span)))
  case first =>
    rcases (show span < 1 ∨ (¬ span < 1 ∧ 200 < span) ∨ (¬ span < 1 ∧ ¬ 200 < span) by omega) with hs | ⟨hs, hs'⟩ | ⟨hs, hs'⟩
    · go_wp2
      go_meet
      case rel => exact ⟨rfl, by simp [hs]⟩
    · go_wp2
      go_meet
      case rel => exact ⟨rfl, by simp [hs']⟩
    · go_wp2
      go_meet
      case rel => exact ⟨rfl, by simp [hs, hs']⟩
  case rest =>
    obtain ⟨rfl, rfl⟩ := hcut
    go_upto_if 17 with fail
    go_cut [1] (fun s1 wx => wx = W.alloc (.cells (xcells R) 26) ∧ ∃ sp : Int, s1 = .int .u64 sp ∧ 1 ≤ sp ∧ sp ≤ 200)
    case first =>
      by_cases hs : span < 1 ∨ 200 < span
      · have hd : decide (span < 1 ∨ 200 < span) = true := by simpa using hs
        have e1 := Int.emod_nonneg span (show (200 : Int) ≠ 0 by decide)
        have e2 := Int.emod_lt_of_pos span (show (0 : Int) < 200 by decide)
        have e3 : span.tmod 200 = span % 200 := Int.tmod_eq_emod_of_nonneg hspan.1
        rw [hd]
        clear hd hs
        go_wp2
        go_meet
        case rel => exact ⟨rfl, _, rfl, by omega, by omega⟩
      · have hd : decide (span < 1 ∨ 200 < span) = false := by simpa using hs
        rw [hd]
        go_wp2
        go_meet
        case rel => exact ⟨rfl, span, rfl, by omega, by omega⟩
    case rest =>
      obtain ⟨rfl, sp, rfl, hsp1, hsp2⟩ := hcut
      have hr := range_of_blk (heap_alloc_new W (.cells (xcells R) 26))
      have HR := Lib.hid hr; clear hr
      have hxa := (Ext.refl W).alloc (.cells (xcells R) 26)
      have HXA := Lib.hid hxa; clear hxa
      go_wp2_with (first
        | (refine wpList_load_mid rfl 26 (.tmp 3) rfl W.heap.size 0 rfl _ _ HR.out Try.underlying26 rfl (by kernel_rfl) ?_)
        | fail)
      refine (program_c R _).mono ?_
      rintro e w1 ⟨rfl, hx1⟩
      have HX1 := Lib.hid hx1; clear hx1
      go_wp2_with fail
      refine (new_c R sp w1 (by omega) (by omega)).mono ?_
      rintro e w2 ⟨gb, rfl, hx2, hg2⟩
      have HX2 := Lib.hid (HXA.out.trans (HX1.out.trans hx2)); clear hx2
      have hsz2 := (HXA.out.trans HX1.out).size
      go_wp2_with fail
      go_loopw [9, 10, 11] (fun ov tk i wr => ∃ (k : Nat) (f : Bool) (t : Nat) (left : List Int) (spent : Int), k ≤ n ∧ k ≤ 400 ∧ t ≤ k ∧ i = .int .i64 k ∧ ov = .bool f ∧ tk = .int .u64 t ∧ EndsInv W wr gb R left sp spent f t) (fun _ _ i _ => 400 - (intOf i).toNat)
      case atStart =>
        refine ⟨0, false, 0, hol R 8, 0, by omega, by omega, by omega, rfl, rfl, rfl, ?_, HX2.out.below, hol_rng R, hol_le R 8, by rw [if_pos (by simp; omega)]; rfl, fun h => by cases h⟩
        exact hg2.base hsz2
      case round =>
        obtain ⟨k, f, t, left, spent, hk1, hk2, hk3, rfl, rfl, rfl, hI⟩ := hrel
        have HI := Lib.hid hI
        have hsz := hI.below.size
        clear hI
        by_cases hlt : k < n ∧ k < 400
        · obtain ⟨hlt1, hlt2⟩ := hlt
          obtain ⟨d, hd⟩ : ∃ d, ds[k]? = some d := ⟨_, List.getElem?_eq_getElem (by rw [← HN.out]; exact hlt1)⟩
          obtain ⟨b, o, rfl, c0, c1, c2⟩ := HC.out k d hd
          have c0 := Below.cellw HI.out.below c0
          have c1 := Below.cellw HI.out.below c1
          have c2 := Below.cellw HI.out.below c2
          have HD0 := Lib.hid hd; clear hd
          go_upto_block 2 with fail
          go_cut [10] (fun s10 wx => ∃ (t' : Nat) (left' : List Int) (spent' : Int), t' ≤ k + 1 ∧ s10 = .int .u64 t' ∧ EndsInv W wx gb R left' sp spent' f t')
          case first =>
            by_cases hk0 : d.kind = 0
            · have k0 : (d.kind == 0) = true := by simp [hk0]
              clear hk0
              have hsp := HI.out.spd
              have hs0 : 0 ≤ spent := by split at hsp <;> omega
              clear hsp
              go_wp2_with fail
              refine (tick_c gb W.heap.size R left sp spent wr HI.out.g hs0 (by omega)).mono ?_
              rintro e w3 ⟨rfl, hm3, hg3⟩
              have HI3 := Lib.hid (HI.out.tick hm3 hg3 (by omega)); clear hm3 hg3
              go_wp2
              go_meet
              case rel => exact ⟨t + 1, left, _, by omega, by go_num, HI3.out⟩
            · have k0 : (d.kind == 0) = false := by simp [hk0]
              clear hk0
              by_cases hk2 : d.kind = 2
              · have k2 : (d.kind == 2) = true := by simp [hk2]
                clear hk2
                by_cases hc : d.c ∈ left
                · have HD := Lib.hid (done_yes gb W.heap.size R left sp spent d.c wr HI.out.g (by omega) hc HI.out.len)
                  clear hc
                  go_wp2_with fail
                  refine HD.out.mono ?_
                  rintro e w3 ⟨rfl, hm3, hg3⟩
                  have HI3 := Lib.hid (HI.out.done hm3 hg3); clear hm3 hg3
                  go_wp2
                  go_meet
                  case rel => exact ⟨t, _, _, by omega, rfl, HI3.out⟩
                · have HD := Lib.hid (done_no gb W.heap.size R left sp spent d.c wr HI.out.g (by omega) hc)
                  clear hc
                  go_wp2_with fail
                  refine HD.out.mono ?_
                  rintro e w3 ⟨rfl, rfl⟩
                  go_wp2
                  go_meet
                  case rel => exact ⟨t, _, _, by omega, rfl, HI.out⟩
              · have k2 : (d.kind == 2) = false := by simp [hk2]
                clear hk2
                go_wp2
                go_meet
                case rel => exact ⟨t, _, _, by omega, rfl, HI.out⟩
          case rest =>
            clear c0 c1 c2 HI hsz
            obtain ⟨t', left', spent', ht, rfl, hI⟩ := hcut
            obtain ⟨b', o', e, c0, c1, c2⟩ := HC.out k d HD0.out
            simp only [Option.some.injEq, Addr.mk.injEq, and_true] at e
            obtain ⟨rfl, rfl⟩ := e
            have c1 := Below.cellw hI.below c1
            have c2 := Below.cellw hI.below c2
            clear c0
            have HI := Lib.hid hI
            have hsz := hI.below.size
            have HX' := Lib.hid (fun n => hI.g.ext ((Ext.refl wc).drewN n))
            have hov : f = true ∨ sp ≤ t' → overB left' sp spent' = true := by
              intro h
              rcases h with h | h
              · exact hI.ovr h
              · have := hI.spd
                rw [if_neg (by omega)] at this
                rw [this]; simp [overB]
            have HOV := Lib.hid hov
            clear hI hov
            have k0 : (0 : Int) ≤ (k : Int) := by omega
            have kn : (k : Int) < (n : Int) := by omega
            cases f with
            | true =>
              have HB : Hid (overB left' sp spent' = true) := Lib.hid (HOV.out (.inl rfl))
              by_cases hts : sp ≤ (t' : Int)
              · go_wp2_with fail
                refine (over_c gb W.heap.size R left' sp spent' _ (by first | exact HI.out.g | exact HX'.out _)).mono ?_
                rintro e w5 ⟨he, m, rfl⟩
                rw [HB.out] at he
                subst he
                go_wp2_with fail
                refine (over_c gb W.heap.size R left' sp spent' _ (by first | exact HI.out.g | exact HX'.out _)).mono ?_
                rintro e w5 ⟨he, m, rfl⟩
                rw [HB.out] at he
                subst he
                go_wp2_with fail
                refine (over_c gb W.heap.size R left' sp spent' _ (by first | exact HI.out.g | exact HX'.out _)).mono ?_
                rintro e w5 ⟨he, m, hw5⟩
                rw [HB.out] at he
                subst he
                have hx5 : ∃ q, w5 = wc.drewN q := by first | exact ⟨_, hw5⟩ | exact ⟨_, hw5.trans (World.drewN_drewN _ _ _)⟩
                clear hw5
                obtain ⟨q, hw5⟩ := hx5
                have c1' : w5.cell? ⟨b, o + k * 3 + 1, none⟩ = some (.int .i64 d.c) := by rw [hw5]; exact c1
                have c2' : w5.cell? ⟨b, o + k * 3 + 2, none⟩ = some (.int .u64 d.s) := by rw [hw5]; exact c2
                have HI5 := Lib.hid (show EndsInv W w5 gb R left' sp spent' true t' by rw [hw5]; exact HI.out.drewN q _ (fun _ => HB.out))
                have HX5 := Lib.hid (fun n => HI5.out.g.ext ((Ext.refl w5).drewN n))
                clear hw5 c1 c2 m
                have hm : mayB R left' sp spent' d.c d.s = false := by simp [mayB, HB.out]
                have hMay := fun n => may_c gb W.heap.size R left' sp spent' d.c d.s _ (HX5.out n) HI5.out.rng
                rw [hm] at hMay
                have HMay := Lib.hid hMay; clear hMay hm
                go_wp2_with fail
                go_quiet ((go_at_call 11; exact Calls.quiet_of (HMay.out _)))
                go_wp2
                go_roundw
                case rel => exact ⟨k + 1, true, t', left', spent', by omega, by omega, by omega, by go_num, rfl, rfl, HI5.out.drewN _ _ (fun h => HB.out)⟩
                case measure => simp [intOf]; omega
              · go_wp2_with fail
                refine (over_c gb W.heap.size R left' sp spent' _ (by first | exact HI.out.g | exact HX'.out _)).mono ?_
                rintro e w5 ⟨he, m, rfl⟩
                rw [HB.out] at he
                subst he
                go_wp2_with fail
                refine (over_c gb W.heap.size R left' sp spent' _ (by first | exact HI.out.g | exact HX'.out _)).mono ?_
                rintro e w5 ⟨he, m, hw5⟩
                rw [HB.out] at he
                subst he
                have hx5 : ∃ q, w5 = wc.drewN q := by first | exact ⟨_, hw5⟩ | exact ⟨_, hw5.trans (World.drewN_drewN _ _ _)⟩
                clear hw5
                obtain ⟨q, hw5⟩ := hx5
                have c1' : w5.cell? ⟨b, o + k * 3 + 1, none⟩ = some (.int .i64 d.c) := by rw [hw5]; exact c1
                have c2' : w5.cell? ⟨b, o + k * 3 + 2, none⟩ = some (.int .u64 d.s) := by rw [hw5]; exact c2
                have HI5 := Lib.hid (show EndsInv W w5 gb R left' sp spent' true t' by rw [hw5]; exact HI.out.drewN q _ (fun _ => HB.out))
                have HX5 := Lib.hid (fun n => HI5.out.g.ext ((Ext.refl w5).drewN n))
                clear hw5 c1 c2 m
                have hm : mayB R left' sp spent' d.c d.s = false := by simp [mayB, HB.out]
                have hMay := fun n => may_c gb W.heap.size R left' sp spent' d.c d.s _ (HX5.out n) HI5.out.rng
                rw [hm] at hMay
                have HMay := Lib.hid hMay; clear hMay hm
                go_wp2_with fail
                go_quiet ((go_at_call 11; exact Calls.quiet_of (HMay.out _)))
                go_wp2
                go_roundw
                case rel => exact ⟨k + 1, true, t', left', spent', by omega, by omega, by omega, by go_num, rfl, rfl, HI5.out.drewN _ _ (fun h => HB.out)⟩
                case measure => simp [intOf]; omega
            | false =>
              by_cases hts : sp ≤ (t' : Int)
              · have HB : Hid (overB left' sp spent' = true) := Lib.hid (HOV.out (.inr hts))
                go_wp2_with fail
                refine (over_c gb W.heap.size R left' sp spent' _ (by first | exact HI.out.g | exact HX'.out _)).mono ?_
                rintro e w5 ⟨he, m, rfl⟩
                rw [HB.out] at he
                subst he
                go_wp2_with fail
                refine (over_c gb W.heap.size R left' sp spent' _ (by first | exact HI.out.g | exact HX'.out _)).mono ?_
                rintro e w5 ⟨he, m, hw5⟩
                rw [HB.out] at he
                subst he
                have hx5 : ∃ q, w5 = wc.drewN q := by first | exact ⟨_, hw5⟩ | exact ⟨_, hw5.trans (World.drewN_drewN _ _ _)⟩
                clear hw5
                obtain ⟨q, hw5⟩ := hx5
                have c1' : w5.cell? ⟨b, o + k * 3 + 1, none⟩ = some (.int .i64 d.c) := by rw [hw5]; exact c1
                have c2' : w5.cell? ⟨b, o + k * 3 + 2, none⟩ = some (.int .u64 d.s) := by rw [hw5]; exact c2
                have HI5 := Lib.hid (show EndsInv W w5 gb R left' sp spent' true t' by rw [hw5]; exact HI.out.drewN q _ (fun _ => HB.out))
                have HX5 := Lib.hid (fun n => HI5.out.g.ext ((Ext.refl w5).drewN n))
                clear hw5 c1 c2 m
                have hm : mayB R left' sp spent' d.c d.s = false := by simp [mayB, HB.out]
                have hMay := fun n => may_c gb W.heap.size R left' sp spent' d.c d.s _ (HX5.out n) HI5.out.rng
                rw [hm] at hMay
                have HMay := Lib.hid hMay; clear hMay hm
                go_wp2_with fail
                go_quiet ((go_at_call 11; exact Calls.quiet_of (HMay.out _)))
                go_wp2
                go_roundw
                case rel => exact ⟨k + 1, true, t', left', spent', by omega, by omega, by omega, by go_num, rfl, rfl, HI5.out.drewN _ _ (fun h => HB.out)⟩
                case measure => simp [intOf]; omega
              · cases hB : overB left' sp spent' with
                | true =>
                  have HB := Lib.hid hB; clear hB
                  go_wp2_with fail
                  refine (over_c gb W.heap.size R left' sp spent' _ (by first | exact HI.out.g | exact HX'.out _)).mono ?_
                  rintro e w5 ⟨he, m, hw5⟩
                  rw [HB.out] at he
                  subst he
                  have hx5 : ∃ q, w5 = wc.drewN q := by first | exact ⟨_, hw5⟩ | exact ⟨_, hw5.trans (World.drewN_drewN _ _ _)⟩
                  clear hw5
                  obtain ⟨q, hw5⟩ := hx5
                  have c1' : w5.cell? ⟨b, o + k * 3 + 1, none⟩ = some (.int .i64 d.c) := by rw [hw5]; exact c1
                  have c2' : w5.cell? ⟨b, o + k * 3 + 2, none⟩ = some (.int .u64 d.s) := by rw [hw5]; exact c2
                  have HI5 := Lib.hid (show EndsInv W w5 gb R left' sp spent' true t' by rw [hw5]; exact HI.out.drewN q _ (fun _ => HB.out))
                  have HX5 := Lib.hid (fun n => HI5.out.g.ext ((Ext.refl w5).drewN n))
                  clear hw5 c1 c2 m
                  have hm : mayB R left' sp spent' d.c d.s = false := by simp [mayB, HB.out]
                  have hMay := fun n => may_c gb W.heap.size R left' sp spent' d.c d.s _ (HX5.out n) HI5.out.rng
                  rw [hm] at hMay
                  have HMay := Lib.hid hMay; clear hMay hm
                  go_wp2_with fail
                  go_quiet ((go_at_call 11; exact Calls.quiet_of (HMay.out _)))
                  go_wp2
                  go_roundw
                  case rel => exact ⟨k + 1, true, t', left', spent', by omega, by omega, by omega, by go_num, rfl, rfl, HI5.out.drewN _ _ (fun h => HB.out)⟩
                  case measure => simp [intOf]; omega
                | false =>
                  have HB := Lib.hid hB; clear hB
                  go_wp2_with fail
                  refine (over_c gb W.heap.size R left' sp spent' _ (by first | exact HI.out.g | exact HX'.out _)).mono ?_
                  rintro e w5 ⟨he, m, hw5⟩
                  rw [HB.out] at he
                  subst he
                  have hx5 : ∃ q, w5 = wc.drewN q := by first | exact ⟨_, hw5⟩ | exact ⟨_, hw5.trans (World.drewN_drewN _ _ _)⟩
                  clear hw5
                  obtain ⟨q, hw5⟩ := hx5
                  have c1' : w5.cell? ⟨b, o + k * 3 + 1, none⟩ = some (.int .i64 d.c) := by rw [hw5]; exact c1
                  have c2' : w5.cell? ⟨b, o + k * 3 + 2, none⟩ = some (.int .u64 d.s) := by rw [hw5]; exact c2
                  have HI5 := Lib.hid (show EndsInv W w5 gb R left' sp spent' false t' by rw [hw5]; exact HI.out.drewN q _ (fun h => by cases h))
                  have HX5 := Lib.hid (fun n => HI5.out.g.ext ((Ext.refl w5).drewN n))
                  clear hw5 c1 c2 m
                  go_wp2_with fail
                  go_quiet (fail)
                  go_wp2
                  go_roundw
                  case rel => exact ⟨k + 1, false, t', left', spent', by omega, by omega, by omega, by go_num, rfl, rfl, HI5.out.drewN _ _ (fun h => by cases h)⟩
                  case measure => simp [intOf]; omega
        · have hno : n ≤ k ∨ (k < n ∧ 400 ≤ k) := by omega
          rcases hno with hno | ⟨hno, hno'⟩
          all_goals
            go_wp2_with fail
            refine (lives_c _).mono ?_
            rintro e w2 ⟨rfl, hx⟩
            go_wp2
            go_ret
            exact ⟨rfl, HI.out.below.trans (hx.mono hsz)⟩

end Go.Proofs.Ytdgcadjhggidfaa

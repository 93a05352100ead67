/- The reader of bits: Get. -/
import Derived.Test.YtlfnpbpbgncbpaaB6
set_option linter.unusedVariables false
set_option linter.unusedSimpArgs false
namespace Go.Proofs.Ytlfnpbpbgncbpaa
open Go.RowKit

theorem i64_and7 (a : Nat) (ha : a < 4611686018427387904) : bits .and .i64 (a : Int) 7 = ((a % 8 : Nat) : Int) := by
  show IntKind.i64.wrap ((BitVec.ofInt 64 (a : Int) &&& BitVec.ofInt 64 ((7 : Nat) : Int)).toNat : Int) = _
  rw [BitVec.toNat_and, ofInt_u64 a (by omega), ofInt_u64 7 (by decide), IntKind.wrap_i64, show (7 : Nat) = 2 ^ 3 - 1 by decide, Nat.and_two_pow_sub_one_eq_mod]
  omega
theorem p_and2 {b s k : Nat} (hb : b < 256) (h8 : k ≤ 8) : bits .and .u8 ((b : Int) / 2 ^ s) ((2 ^ k - 1 : Nat) : Int) = ((b : Int) / 2 ^ s % 2 ^ k) := by
  have h0 : b / 2 ^ s < 256 := Nat.lt_of_le_of_lt (Nat.div_le_self _ _) hb
  have h1 := p_and (b / 2 ^ s) h8
  have e : (((b / 2 ^ s : Nat) : Int)) = (b : Int) / 2 ^ s := by push_cast; rfl
  generalize b / 2 ^ s = z at *
  rw [show (z : Int) % 256 = (z : Int) by omega, e] at h1
  exact h1
theorem p_join {x k p : Nat} (hx : x * 2 ^ k < 18446744073709551616) (hk : k ≤ 8) (hp : p < 2 ^ k) :
    bits .or .u64 (IntKind.u64.wrap ((x : Int) * 2 ^ k)) (IntKind.u64.wrap (p : Int)) = ((x * 2 ^ k + p : Nat) : Int) := by
  have h8 := p_pow8 hk
  rw [show (x : Int) * 2 ^ k = ((x * 2 ^ k : Nat) : Int) by push_cast; rfl, IntKind.wrap_u64, IntKind.wrap_u64, Int.emod_eq_of_lt (by omega) (by omega), Int.emod_eq_of_lt (by omega) (by omega), u64_or_nat _ _ hx (by omega),
    ← Nat.shiftLeft_eq, Nat.shiftLeft_add_eq_or_of_lt hp]

/-- The bits from here, so many. -/
def bitsFrom (l : List UInt8) (at' n : Nat) : List Bool := ((bitsAll l).drop at').take n
theorem bitsFrom_length {l : List UInt8} {at' n : Nat} (h : at' + n ≤ 8 * l.length) : (bitsFrom l at' n).length = n := by
  unfold bitsFrom
  rw [List.length_take, List.length_drop, bitsAll_length]; omega
theorem bitsFrom_add (l : List UInt8) (at' i j : Nat) : bitsFrom l at' (i + j) = bitsFrom l at' i ++ bitsFrom l (at' + i) j := by
  unfold bitsFrom
  rw [List.take_add, List.drop_drop]
theorem bitsFrom_piece {l : List UInt8} {at' k : Nat} (h : at' / 8 < l.length) (hk : at' % 8 + k ≤ 8) : val (bitsFrom l at' k) = (l.getD (at' / 8) 0).toNat / 2 ^ (8 - at' % 8 - k) % 2 ^ k := by
  unfold bitsFrom
  rw [bitsAll_piece l at' k h hk, val_bitsOf, Nat.shiftRight_eq_div_pow]

set_option maxRecDepth 100000 in
set_option maxHeartbeats 4000000 in
theorem rget_ok (rb B : Nat) (l : List UInt8) (at' n : Nat) (w : World) (h : RdIs w B rb l at' 0) (hn : n ≤ 64) (hf : at' + n ≤ 8 * l.length) (hl : l.length ≤ 140737488355328) :
    Calls Try.prog 24 #[.pointer (some ⟨rb, 0, none⟩), .int .i64 n] w fun e w' => e = .returned (.int .u64 (val (bitsFrom l at' n) : Int)) ∧ RdIs w' B rb l (at' + n) 0 ∧ Mod (fun k => k = rb) w w' := by
  have H := Lib.hid h; clear h
  have HF := Lib.hid hf
  have HL := Lib.hid hl
  have hleft : (n : Int) ≤ leftI l at' 0 := by rw [leftI_zero]; omega
  have hlb : leftI l at' 0 ≤ 9223372036854775807 := by rw [leftI_zero]; omega
  generalize hlf : leftI l at' 0 = lf at hleft hlb
  have HLF := Lib.hid hlf
  clear hlf hf hl
  go_enter Try.func24, Try.ntmps24
  go_wp2_with fail
  refine (rerr_c rb B l at' 0 w H.out).mono ?_
  rintro e w1 ⟨rfl, rfl⟩
  go_wp2_with fail
  refine (rleft_c rb B l at' 0 w H.out HL.out (by have := HF.out; omega)).mono ?_
  rintro e w1 ⟨rfl, nd, rfl⟩
  rw [HLF.out]
  go_wp2_with fail
  go_loopw [1, 5] (fun i x wr => ∃ m : Nat, m ≤ n ∧ i = .int .i64 m ∧ x = .int .u64 (val (bitsFrom l at' (n - m)) : Int) ∧ RdIs wr B rb l (at' + (n - m)) 0 ∧ Mod (fun k => k = rb) w wr) (fun i _ _ => (intOf i).toNat)
  case atStart => exact ⟨n, Nat.le_refl _, rfl, by simp [bitsFrom, val_nil], by simpa using H.out.ext ((Ext.refl w).drewN nd), ((Ext.refl w).drewN nd).mod⟩
  case round =>
    obtain ⟨m, hm, rfl, rfl, hr, hmod⟩ := hrel
    have HR := Lib.hid hr
    have HM := Lib.hid hmod
    clear hr hmod
    by_cases h0 : m = 0
    · subst h0
      go_wp2_with fail
      go_ret
      exact ⟨rfl, by simpa using HR.out, HM.out⟩
    · obtain ⟨q, hq⟩ : ∃ q, q = at' + (n - m) := ⟨_, rfl⟩
      obtain ⟨r, hrr⟩ : ∃ r, r = 8 - q % 8 := ⟨_, rfl⟩
      obtain ⟨k, hk⟩ : ∃ k, k = min m r := ⟨_, rfl⟩
      have c2 := HR.out.c2
      have f2 := HR.out.fz 2
      rw [← hq] at c2
      have hand := i64_and7 q (by have := HF.out; have := HL.out; omega)
      have hrw : IntKind.i64.wrap (8 - ((q % 8 : Nat) : Int)) = (r : Int) := by rw [IntKind.wrap_i64, hrr]; omega
      have HQ := Lib.hid hq
      have HRR := Lib.hid hrr
      have hr8 : 0 < r ∧ r ≤ 8 := by omega
      have HKD := Lib.hid hk
      clear hq hrr hk
      go_wp2_with fail
      all_goals
        have hk := HKD.out
        first
          | (have hk7 : 8 - (q : Int) % 8 = (k : Int) := by have := HRR.out; rw [hk, Nat.min_eq_right (by omega)]; omega
             have HK7 := Lib.hid hk7; clear hk7)
          | (have hk7 : (m : Int) = (k : Int) := by have := HRR.out; rw [hk, Nat.min_eq_left (by omega)]
             have HK7 := Lib.hid hk7; clear hk7)
        have HR6 : Hid (8 - (q : Int) % 8 = (r : Int)) := Lib.hid (by have := HRR.out; omega)
        have HKM : Hid (k ≤ m ∧ k ≤ r) := Lib.hid (by rw [hk]; exact ⟨Nat.min_le_left _ _, Nat.min_le_right _ _⟩)
        have HK8 : Hid (0 < k ∧ k ≤ 8) := Lib.hid (by omega)
        have hk8 : k ≤ 8 := HK8.out.2
        have hqf : q + m ≤ 8 * l.length := by have := HF.out; have := HQ.out; omega
        clear c2 f2 hk hand hrw
        obtain ⟨ao, cap, hb1, hb2, hb3, hb4⟩ := HR.out
        obtain ⟨g, cap', he, hg1, hg2⟩ := World.ownsRow.form hb3 (by omega)
        simp only [Value.slice.injEq] at he
        obtain ⟨rfl, _, rfl⟩ := he
        rw [← HQ.out] at hb1
        obtain ⟨ln, hln⟩ : ∃ ln, ln = l.length := ⟨_, rfl⟩
        obtain ⟨j, hj⟩ : ∃ j, j = q / 8 := ⟨_, rfl⟩
        obtain ⟨b, hb⟩ : ∃ b, b = (l.getD j 0).toNat := ⟨_, rfl⟩
        obtain ⟨s, hs⟩ : ∃ s, s = r - k := ⟨_, rfl⟩
        have hjl : j < l.length := by omega
        have c1 : wr.cell? ⟨rb, 1, none⟩ = some (.slice (some ⟨g, 0, none⟩) ln cap) := by rw [cell_of_blk hb1, hln]; rfl
        have c2 : wr.cell? ⟨rb, 2, none⟩ = some (.int .i64 (q : Int)) := by rw [cell_of_blk hb1]; rfl
        have cg : wr.cell? ⟨g, j, none⟩ = some (.int .u8 (b : Int)) := by
          rw [World.ownsRow.cellAt hb3 _ (by omega), hb]
          simp [bv, List.getD, List.getElem?_eq_getElem hjl]
        have HA : Hid ((q : Int) / 8 = (j : Int) ∧ (j : Int) < (ln : Int) ∧ IntKind.i64.wrap ((r : Int) - (k : Int)) = (s : Int) ∧ (b : Int) / 2 ^ min s 8 = (b : Int) / 2 ^ s) :=
          Lib.hid ⟨by omega, by omega, by rw [IntKind.wrap_i64]; have := HKM.out; omega, by rw [Nat.min_eq_left (by omega)]⟩
        have HB8 : Hid (b < 256) := Lib.hid (by rw [hb]; exact UInt8.toNat_lt _)
        have HPV : Hid (val (bitsFrom l q k) = b / 2 ^ s % 2 ^ k) := Lib.hid (by
          have := HRR.out; have := HKM.out
          rw [bitsFrom_piece (by omega) (by omega), hb, hj, hs, show 8 - q % 8 - k = r - k by omega])
        have HSD := Lib.hid hs
        clear hb1 hb2 hb3 hb4 hg1 hg2 hln hj hb hs hjl hqf
        refine wp_region_rx 19 _
          [ex (.pointer (some ⟨rb, 0, none⟩)),
            ex (.pointer (some ⟨rb, 0, none⟩)),
            ex (.pointer (some ⟨rb, 1, none⟩)),
            ex (.slice (some ⟨g, 0, none⟩) ln cap),
            ex (.pointer (some ⟨rb, 0, none⟩)),
            ex (.pointer (some ⟨rb, 0, none⟩)),
            ex (.pointer (some ⟨rb, 2, none⟩)),
            ex (.int .i64 (q : Int)),
            ex (.int .i64 (j : Int)),
            ex (.pointer (some ⟨g, j, none⟩)),
            ex (.int .u8 (b : Int)),
            ex (.int .i64 (r : Int)),
            ex (.int .i64 (k : Int)),
            ex (.int .i64 (s : Int)),
            ex (.int .u8 ((b / 2 ^ s : Nat) : Int)),
            ex (.int .i64 (k : Int)),
            ex (.int .u8 ((2 ^ k % 256 : Nat) : Int)),
            ex (.int .u8 ((2 ^ k - 1 : Nat) : Int)),
            ex (.int .u8 ((b / 2 ^ s % 2 ^ k : Nat) : Int))]
          (by kernel_rfl) (by kernel_rfl) (by kernel_rfl) rfl ⟨ex_st, ex_st, ex_st, ex_st, ex_st, ex_st, ex_st, ex_st, ex_st, ex_st, ex_st, ex_st, ex_st, ex_st, ex_st, ex_st, ex_st, ex_st, ex_st, trivial⟩ ?_ ?_
        · simp only [List.take_succ_cons, List.take_zero]
          go_tidy
          refine RhOps.mk (RhOp.moveA (by decide) (.free rfl) 0 (fun _ w _ => Ext.refl w) rfl rfl (.pointer (some ⟨rb, 0, none⟩)) rfl (fun _ _ _ => rfl)) ?_
          refine RhOps.mk (RhOp.at (by decide) (.free rfl) ?_) ?_
          rotate_left
          refine RhOps.mk (RhOp.at (by decide) (.free rfl) ?_) ?_
          rotate_left
          refine RhOps.mk (RhOp.at (by decide) (.free rfl) ?_) ?_
          rotate_left
          refine RhOps.mk (RhOp.moveA (by decide) (.free rfl) 0 (fun _ w _ => Ext.refl w) rfl rfl (.pointer (some ⟨rb, 0, none⟩)) rfl (fun _ _ _ => rfl)) ?_
          refine RhOps.mk (RhOp.at (by decide) (.free rfl) ?_) ?_
          rotate_left
          refine RhOps.mk (RhOp.at (by decide) (.free rfl) ?_) ?_
          rotate_left
          refine RhOps.mk (RhOp.at (by decide) (.free rfl) ?_) ?_
          rotate_left
          refine RhOps.mk (RhOp.at (by decide) (.free rfl) ?_) ?_
          rotate_left
          refine RhOps.mk (RhOp.at (by decide) (.free rfl) ?_) ?_
          rotate_left
          refine RhOps.mk (RhOp.at (by decide) (.free rfl) ?_) ?_
          rotate_left
          refine RhOps.mk (RhOp.moveA (by decide) (.free rfl) 6 (fun _ w _ => Ext.refl w) rfl rfl (.int .i64 (r : Int)) (congrArg (Value.int .i64) HR6.out) (fun _ _ _ => rfl)) ?_
          refine RhOps.mk (RhOp.moveA (by decide) (.free rfl) 7 (fun _ w _ => Ext.refl w) rfl rfl (.int .i64 (k : Int)) (congrArg (Value.int .i64) HK7.out) (fun _ _ _ => rfl)) ?_
          refine RhOps.mk (RhOp.at (by decide) (.free rfl) ?_) ?_
          rotate_left
          refine RhOps.mk (RhOp.at (by decide) (.free rfl) ?_) ?_
          rotate_left
          refine RhOps.mk (RhOp.moveA (by decide) (.free rfl) 7 (fun _ w _ => Ext.refl w) rfl rfl (.int .i64 (k : Int)) (congrArg (Value.int .i64) HK7.out) (fun _ _ _ => rfl)) ?_
          refine RhOps.mk (RhOp.at (by decide) (.free rfl) ?_) ?_
          rotate_left
          refine RhOps.mk (RhOp.at (by decide) (.free rfl) ?_) ?_
          rotate_left
          refine RhOps.mk (RhOp.at (by decide) (.free rfl) ?_) ?_
          rotate_left
          exact RhOps.done
          · intro bb vals ρ w' hC hd hS
            have r42 : ρ (.tmp 42) = .pointer (some ⟨rb, 0, none⟩) := (hS.tmp 42).trans (hd.at 0 rfl)
            refine (show givesR _ _ _ _ (fun v w'' => Ext w' w'' ∧ v = .pointer (some ⟨rb, 0, none⟩)) from ?_)
            clear hC hd hS
            go_simp
            exact Ext.refl _
          · intro bb vals ρ w' hC hd hS
            have r43 : ρ (.tmp 43) = .pointer (some ⟨rb, 0, none⟩) := (hS.tmp 43).trans (hd.at 1 rfl)
            refine (show givesR _ _ _ _ (fun v w'' => Ext w' w'' ∧ v = .pointer (some ⟨rb, 1, none⟩)) from ?_)
            clear hC hd hS
            go_simp
            exact Ext.refl _
          · intro bb vals ρ w' hC hd hS
            have r44 : ρ (.tmp 44) = .pointer (some ⟨rb, 1, none⟩) := (hS.tmp 44).trans (hd.at 2 rfl)
            have qc := hC.cell c1
            refine (show givesR _ _ _ _ (fun v w'' => Ext w' w'' ∧ v = .slice (some ⟨g, 0, none⟩) ln cap) from ?_)
            clear hC hd hS
            go_simp
            exact Ext.refl _
          · intro bb vals ρ w' hC hd hS
            have r46 : ρ (.tmp 46) = .pointer (some ⟨rb, 0, none⟩) := (hS.tmp 46).trans (hd.at 4 rfl)
            refine (show givesR _ _ _ _ (fun v w'' => Ext w' w'' ∧ v = .pointer (some ⟨rb, 0, none⟩)) from ?_)
            clear hC hd hS
            go_simp
            exact Ext.refl _
          · intro bb vals ρ w' hC hd hS
            have r47 : ρ (.tmp 47) = .pointer (some ⟨rb, 0, none⟩) := (hS.tmp 47).trans (hd.at 5 rfl)
            refine (show givesR _ _ _ _ (fun v w'' => Ext w' w'' ∧ v = .pointer (some ⟨rb, 2, none⟩)) from ?_)
            clear hC hd hS
            go_simp
            exact Ext.refl _
          · intro bb vals ρ w' hC hd hS
            have r48 : ρ (.tmp 48) = .pointer (some ⟨rb, 2, none⟩) := (hS.tmp 48).trans (hd.at 6 rfl)
            have qc := hC.cell c2
            refine (show givesR _ _ _ _ (fun v w'' => Ext w' w'' ∧ v = .int .i64 (q : Int)) from ?_)
            clear hC hd hS
            go_simp
            exact Ext.refl _
          · intro bb vals ρ w' hC hd hS
            have r49 : ρ (.tmp 49) = .int .i64 (q : Int) := (hS.tmp 49).trans (hd.at 7 rfl)
            have rc := hS.const
            refine (show givesR _ _ _ _ (fun v w'' => Ext w' w'' ∧ v = .int .i64 (j : Int)) from ?_)
            clear hC hd hS
            go_simp
            exact ⟨Ext.refl _, HA.out.1⟩
          · intro bb vals ρ w' hC hd hS
            have r45 : ρ (.tmp 45) = .slice (some ⟨g, 0, none⟩) ln cap := (hS.tmp 45).trans (hd.at 3 rfl)
            have r50 : ρ (.tmp 50) = .int .i64 (j : Int) := (hS.tmp 50).trans (hd.at 8 rfl)
            refine (show givesR _ _ _ _ (fun v w'' => Ext w' w'' ∧ v = .pointer (some ⟨g, j, none⟩)) from ?_)
            have hjl : (j : Int) < (ln : Int) := HA.out.2.1
            clear hC hd hS
            go_simp
            exact Ext.refl _
          · intro bb vals ρ w' hC hd hS
            have r51 : ρ (.tmp 51) = .pointer (some ⟨g, j, none⟩) := (hS.tmp 51).trans (hd.at 9 rfl)
            have qc := hC.cell cg
            refine (show givesR _ _ _ _ (fun v w'' => Ext w' w'' ∧ v = .int .u8 (b : Int)) from ?_)
            clear hC hd hS
            go_simp
            exact Ext.refl _
          · intro bb vals ρ w' hC hd hS
            have r53 : ρ (.tmp 53) = .int .i64 (r : Int) := (hS.tmp 53).trans (hd.at 11 rfl)
            have r54 : ρ (.tmp 54) = .int .i64 (k : Int) := (hS.tmp 54).trans (hd.at 12 rfl)
            refine (show givesR _ _ _ _ (fun v w'' => Ext w' w'' ∧ v = .int .i64 (s : Int)) from ?_)
            clear hC hd hS
            go_simp
            exact ⟨Ext.refl _, HA.out.2.2.1⟩
          · intro bb vals ρ w' hC hd hS
            have r52 : ρ (.tmp 52) = .int .u8 (b : Int) := (hS.tmp 52).trans (hd.at 10 rfl)
            have r55 : ρ (.tmp 55) = .int .i64 (s : Int) := (hS.tmp 55).trans (hd.at 13 rfl)
            refine (show givesR _ _ _ _ (fun v w'' => Ext w' w'' ∧ v = .int .u8 ((b / 2 ^ s : Nat) : Int)) from ?_)
            clear hC hd hS
            go_simp
            exact ⟨Ext.refl _, HA.out.2.2.2⟩
          · intro bb vals ρ w' hC hd hS
            have r57 : ρ (.tmp 57) = .int .i64 (k : Int) := (hS.tmp 57).trans (hd.at 15 rfl)
            have rc := hS.const
            refine (show givesR _ _ _ _ (fun v w'' => Ext w' w'' ∧ v = .int .u8 ((2 ^ k % 256 : Nat) : Int)) from ?_)
            clear hC hd hS
            go_simp
            exact ⟨Ext.refl _, p_wrap8' k⟩
          · intro bb vals ρ w' hC hd hS
            have r58 : ρ (.tmp 58) = .int .u8 ((2 ^ k % 256 : Nat) : Int) := (hS.tmp 58).trans (hd.at 16 rfl)
            have rc := hS.const
            refine (show givesR _ _ _ _ (fun v w'' => Ext w' w'' ∧ v = .int .u8 ((2 ^ k - 1 : Nat) : Int)) from ?_)
            clear hC hd hS
            go_simp
            exact ⟨Ext.refl _, p_mask HK8.out.1 HK8.out.2⟩
          · intro bb vals ρ w' hC hd hS
            have r56 : ρ (.tmp 56) = .int .u8 ((b / 2 ^ s : Nat) : Int) := (hS.tmp 56).trans (hd.at 14 rfl)
            have r59 : ρ (.tmp 59) = .int .u8 ((2 ^ k - 1 : Nat) : Int) := (hS.tmp 59).trans (hd.at 17 rfl)
            refine (show givesR _ _ _ _ (fun v w'' => Ext w' w'' ∧ v = .int .u8 ((b / 2 ^ s % 2 ^ k : Nat) : Int)) from ?_)
            clear hC hd hS
            go_simp
            exact ⟨Ext.refl _, p_and2 HB8.out HK8.out.2⟩
        · intro vals w' hC hV
          have e18 := hV 18 (by decide)
          simp only [vlist, ex, List.getD_cons_zero, List.getD_cons_succ] at e18
          have HC' := Lib.hid hC; clear hC hV
          simp only [List.drop_succ_cons, List.drop_zero]
          have hr' := HR.out.ext HC'.out
          have hm' := HM.out.ext HC'.out
          rw [← HQ.out] at hr'
          clear c1 c2 cg
          have c2 := hr'.c2
          have f2 := hr'.fz 2
          have HR' := Lib.hid hr'
          have HM' := Lib.hid hm'
          clear hr' hm'
          have hqb : (q : Int) ≤ 9223372036854775000 := by have := HF.out; have := HL.out; have := HQ.out; omega
          go_wp2_with fail
          go_roundw
          case rel =>
            have h1 := HKM.out.1
            have h2 := HK7.out
            have hpp : b / 2 ^ s % 2 ^ k < 2 ^ k := Nat.mod_lt _ (Nat.two_pow_pos _)
            have hadd := bitsFrom_add l at' (n - m) k
            rw [show n - m + k = n - (m - k) by omega, ← HQ.out] at hadd
            have hlen : (bitsFrom l q k).length = k := bitsFrom_length (by have := HF.out; have := HQ.out; omega)
            have hval : val (bitsFrom l at' (n - (m - k))) = val (bitsFrom l at' (n - m)) * 2 ^ k + b / 2 ^ s % 2 ^ k := by rw [hadd, val_append, hlen, HPV.out]
            have hlt : val (bitsFrom l at' (n - m)) * 2 ^ k < 18446744073709551616 := by
              have h3 := val_lt (bitsFrom l at' (n - (m - k)))
              rw [bitsFrom_length (by have := HF.out; omega)] at h3
              have h4 : 2 ^ (n - (m - k)) ≤ 2 ^ 64 := Nat.pow_le_pow_right (by decide) (by omega)
              rw [hval] at h3
              omega
            have hj := p_join hlt HK8.out.2 hpp
            rw [← hval] at hj
            have e1 : q + k = at' + (n - (m - k)) := by have := HQ.out; omega
            have hset := HR'.out.setAt (q + k)
            have hms := Mod.setCell (F := fun i => i = rb) (p := ⟨rb, 2, none⟩) HM'.out (fun _ => rfl) (.int .i64 ((q + k : Nat) : Int))
            refine ⟨m - k, by omega, ?_, ?_, ?_, ?_⟩
            · refine congrArg (Value.int .i64) ?_
              omega
            · refine congrArg (Value.int .u64) ?_
              have hj' : bits .or .u64 (IntKind.u64.wrap ((val (bitsFrom l at' (n - m)) : Int) * 2 ^ k)) (IntKind.u64.wrap ((b : Int) / 2 ^ s % 2 ^ k)) = (val (bitsFrom l at' (n - (m - k))) : Int) := by
                have h5 := hj
                rw [show ((b / 2 ^ s % 2 ^ k : Nat) : Int) = (b : Int) / 2 ^ s % 2 ^ k by push_cast; rfl] at h5
                exact h5
              first
                | (rw [show 8 - q % 8 = k by omega]; exact hj')
                | (rw [show m = k by omega] at hj' ⊢; exact hj')
            · rw [← e1]
              first
                | rw [show (q : Int) + (8 - (q : Int) % 8) = ((q + k : Nat) : Int) by omega]
                | rw [show (q : Int) + (m : Int) = ((q + k : Nat) : Int) by omega]
              exact hset
            · first
                | rw [show (q : Int) + (8 - (q : Int) % 8) = ((q + k : Nat) : Int) by omega]
                | rw [show (q : Int) + (m : Int) = ((q + k : Nat) : Int) by omega]
              exact hms
          case measure =>
            simp only [intOf]
            have := HK7.out
            have := HK8.out
            omega

end Go.Proofs.Ytlfnpbpbgncbpaa

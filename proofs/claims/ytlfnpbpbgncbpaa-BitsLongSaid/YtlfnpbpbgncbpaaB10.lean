/- A text just up to 65535 bytes: the law BitsLong, walked. -/
import Derived.Test.YtlfnpbpbgncbpaaB9
import Derived.Test.YtlfnpbpbgncbpaaRs
import Derived.Test.YtlfnpbpbgncbpaaMake
set_option linter.unusedVariables false
set_option linter.unusedSimpArgs false
namespace Go.Proofs.Ytlfnpbpbgncbpaa
open Go.RowKit

/-- What the three calls leave. -/
def blW (B m len : Nat) (e : Int) : Nat → Nat → Value → World → Prop := fun q k v w => match q with
  | 0 => k = 1 → ∃ wb, v = .pointer (some ⟨wb, 0, none⟩) ∧ WrIs w B wb [] 0
  | 1 => k = 2 → ∃ wb, v = .pointer (some ⟨wb, 0, none⟩) ∧ ((65535 < m ∧ WrIs w B wb [] 2) ∨ (m ≤ 65535 ∧ ∃ l, l.length = 16 + 8 * m ∧ WrIs w B wb l 0))
  | _ => ∃ ao cap, v = .tuple #[.slice ao len cap, .int .i64 e]
theorem blW_ext {B m len : Nat} {e : Int} : ∀ q k v w w', blW B m len e q k v w → Ext w w' → blW B m len e q k v w'
  | 0, _, _, _, _, h, hx => fun hk => by obtain ⟨wb, h1, h2⟩ := h hk; exact ⟨wb, h1, h2.ext hx⟩
  | 1, _, _, _, _, h, hx => fun hk => by
    obtain ⟨wb, h1, h2⟩ := h hk
    exact ⟨wb, h1, h2.imp (fun h => ⟨h.1, h.2.ext hx⟩) fun ⟨h3, l, h4, h5⟩ => ⟨h3, l, h4, h5.ext hx⟩⟩
  | _ + 2, _, _, _, _, h, _ => h
theorem blW_next {B m len : Nat} {e : Int} {w w' : World} {k : Nat} : ∀ q v, q < k → blW B m len e q k v w → blW B m len e q (k + 1) v w'
  | 0, _, hq, _ => fun hk => absurd hk (by omega)
  | 1, _, hq, _ => fun hk => absurd hk (by omega)
  | _ + 2, _, _, h => h

set_option maxRecDepth 100000 in
set_option maxHeartbeats 4000000 in
theorem bitsLong_calls (n : Int) (W : World) (hn : -9223372036854775808 ≤ n ∧ n ≤ 9223372036854775807) :
    Calls Try.prog 4 #[.int .i64 n] W fun e w' => e = .returned (.bool true) ∧ Below W.heap.size W w' := by
  go_enter Try.func4, Try.ntmps4
  go_wp2_with fail
  refine (within_c n 65530 65540 W).mono ?_
  rintro e w1 ⟨rfl, rfl⟩
  obtain ⟨m, hm⟩ : ∃ m : Nat, clampI n 65530 65540 = m := Int.eq_ofNat_of_zero_le (by unfold clampI; split; decide; split; decide; omega)
  have hm1 : 65530 ≤ m ∧ m ≤ 65540 := by
    unfold clampI at hm
    split at hm
    · omega
    · split at hm <;> omega
  rw [hm]
  have HM := Lib.hid hm1
  clear hm hm1
  obtain ⟨len, e, hle⟩ : ∃ (len : Nat) (e : Int), (65535 < m ∧ len = 0 ∧ e = 2) ∨ (m ≤ 65535 ∧ len = m + 2 ∧ e = 0) := by
    by_cases h : 65535 < m
    · exact ⟨0, 2, .inl ⟨h, rfl, rfl⟩⟩
    · exact ⟨m + 2, 0, .inr ⟨by omega, rfl, rfl⟩⟩
  have HLE := Lib.hid hle
  clear hle
  go_wp2_with fail
  refine wp_region_rs 11 _ [0, 4, 5]
    (fun _ w => Below W.heap.size W w) Ext
    (svl [(fun _ _ _ => True),
      exk (.int .i64 (m : Int)),
      (fun k v w => k ≤ 1 → Bs w v (List.replicate m 0)),
      (fun _ v _ => ∃ s, v = .string s ∧ s.size = m),
      (fun _ _ _ => True),
      (fun _ _ _ => True),
      (fun _ v _ => ∃ ao cap, v = .tuple #[.slice ao len cap, .int .i64 e]),
      (fun _ v _ => ∃ ao cap, v = .slice ao len cap),
      exk (.int .i64 e),
      (fun _ v _ => ∃ ao cap, v = .slice ao len cap),
      exk (.int .i64 e)]
      [0, 4, 5] (blW W.heap.size m len e))
    (by kernel_rfl) (by kernel_rfl) (by kernel_rfl) (by kernel_rfl) rfl (Ext.refl W).drew.below (fun _ w _ => Ext.refl w) (fun _ w1 w2 h hx => h.trans (hx.below.mono h.size))
    (fun b i v w1 w2 _ _ hV hx => svl_stays (R := Ext) (by exact ⟨(fun _ _ _ _ _ _ => trivial), exk_st, (fun k v w w' h hx hk => (h hk).ext hx), (fun _ _ _ _ h _ => h), (fun _ _ _ _ _ _ => trivial), (fun _ _ _ _ _ _ => trivial), (fun _ _ _ _ h _ => h), (fun _ _ _ _ h _ => h), exk_st, (fun _ _ _ _ h _ => h), exk_st, trivial⟩) blW_ext b i v w1 w2 hV hx) ?_ ?_
  · simp only [List.take_succ_cons, List.take_zero]
    go_tidy
    refine RsOps.mk (RsOp.chain 0 rfl (fun b => .free rfl) ?_) ?_
    rotate_left
    refine RsOps.mk (RsOp.moveA rfl (fun b => .free rfl) 0 (fun _ w _ => Ext.refl w) rfl rfl (.int .i64 (m : Int)) rfl (fun _ _ _ => rfl)) ?_
    refine RsOps.mk (RsOp.at rfl (fun b => .free rfl) ?_) ?_
    rotate_left
    refine RsOps.mk (RsOp.early 1 4 rfl rfl rfl rfl (fun b => .free rfl) ?_) ?_
    rotate_left
    refine RsOps.mk (RsOp.chain 1 rfl (fun b => .free rfl) ?_) ?_
    rotate_left
    refine RsOps.mk (RsOp.chain 2 rfl (fun b => .free rfl) ?_) ?_
    rotate_left
    refine RsOps.mk (RsOp.at rfl (fun b => .free rfl) ?_) ?_
    rotate_left
    refine RsOps.mk (RsOp.at rfl (fun b => .free rfl) ?_) ?_
    rotate_left
    refine RsOps.mk (RsOp.at rfl (fun b => .free rfl) ?_) ?_
    rotate_left
    refine RsOps.mk (RsOp.move rfl (fun b => .free rfl) 14 7 (fun _ w _ => Ext.refl w) rfl rfl rfl (fun b => fun _ _ h => h)) ?_
    refine RsOps.mk (RsOp.move rfl (fun b => .free rfl) 15 8 (fun _ w _ => Ext.refl w) rfl rfl rfl (fun b => fun _ _ h => h)) ?_
    exact RsOps.done
    · intro vals ρ w' hC hd hS
      have rf := hS.func
      refine gives_call rfl (hS.func _) (by go_simp) ?_
      rw [show Array.map ρ #[] = #[] by simp]
      refine ((wnew_c W.heap.size w' hC.size).mono ?_)
      rintro r w'' ⟨wb, rfl, hwb, hx, h⟩
      exact ⟨_, rfl, hC.trans (hx.below.mono hC.size), fun _ => ⟨wb, rfl, h⟩, svl_next rfl ⟨(fun _ _ => trivial), exk_nx, (fun v h k => (h (by omega)).ext hx), (fun _ h => h), (fun _ _ => trivial), (fun _ _ => trivial), (fun _ h => h), (fun _ h => h), exk_nx, (fun _ h => h), exk_nx, trivial⟩ (fun q v hm => absurd hm (by omega))⟩
    · intro bb vals ρ w' hC hd hS
      have r9 : ρ (.tmp 9) = .int .i64 (m : Int) := (hS.tmp 9).trans (hd.at 1 rfl)
      refine (show givesR _ _ _ _ (fun v w'' => Ext w' w'' ∧ (fun k v w => k ≤ 1 → Bs w v (List.replicate m 0)) bb v w'') from ?_)
      obtain ⟨w2, hr, ho, hx⟩ := make_bytes m (by have := HM.out; omega) w'
      clear hC hd hS
      go_simp
      intro _
      have := Rs.of_owns ho
      unfold Bs
      rw [List.length_replicate]
      exact this
    · intro bb vals ρ w' hb hC hd hS
      have d2 := hd.at 2 rfl
      have r10 : ρ (.tmp 10) = vals 2 := hS.tmp 10
      refine (show givesR _ _ _ _ (fun v w'' => Ext w' w'' ∧ (fun _ v _ => ∃ s, v = .string s ∧ s.size = m) bb v w'') from ?_)
      have hb2 := d2 hb
      have hr := convert_bytes hb2
      clear hC hd hS d2
      go_simp
      exact Ext.refl _
    · intro vals ρ w' hC hd hS
      have d0 := hd.at 0 rfl
      have r8 : ρ (.tmp 8) = vals 0 := hS.tmp 8
      have d3 := hd.at 3 rfl
      have r11 : ρ (.tmp 11) = vals 3 := hS.tmp 11
      have rf := hS.func
      obtain ⟨wb, e0, hw⟩ := (svl_done (m := 0) rfl d0).2 rfl
      obtain ⟨s, e3, hs⟩ := d3
      rw [e0] at r8
      rw [e3] at r11
      refine gives_call rfl (hS.func _) (by go_simp) ?_
      rw [show Array.map ρ #[Operand.tmp 8, Operand.tmp 11] = #[.pointer (some ⟨wb, 0, none⟩), .string s] by simp [r8, r11]]
      have hmm := HM.out
      by_cases hlong : 65536 ≤ s.size
      · refine (wtext_long wb W.heap.size [] 0 s w' hw hlong (by omega)).mono ?_
        rintro r w'' ⟨rfl, h, hm⟩
        exact ⟨_, rfl, hC.trans (hw.below hm), fun _ => ⟨wb, rfl, .inl ⟨by omega, h⟩⟩, svl_next rfl ⟨(fun _ _ => trivial), exk_nx, (fun v h k => absurd k (by omega)), (fun _ h => h), (fun _ _ => trivial), (fun _ _ => trivial), (fun _ h => h), (fun _ h => h), exk_nx, (fun _ h => h), exk_nx, trivial⟩ blW_next⟩
      · refine (wtext_ok wb W.heap.size [] s w' hw (by omega) (by decide)).mono ?_
        rintro r w'' ⟨rfl, h, hm⟩
        exact ⟨_, rfl, hC.trans (hw.below hm), fun _ => ⟨wb, rfl, .inr ⟨by omega, _, by rw [List.nil_append, textBits, List.length_append, bitsOf_length, bitsAll_length, Array.length_toList]; show 16 + 8 * s.size = _; omega, h⟩⟩, svl_next rfl ⟨(fun _ _ => trivial), exk_nx, (fun v h k => absurd k (by omega)), (fun _ h => h), (fun _ _ => trivial), (fun _ _ => trivial), (fun _ h => h), (fun _ h => h), exk_nx, (fun _ h => h), exk_nx, trivial⟩ blW_next⟩
    · intro vals ρ w' hC hd hS
      have d4 := hd.at 4 rfl
      have r12 : ρ (.tmp 12) = vals 4 := hS.tmp 12
      have rf := hS.func
      obtain ⟨wb, e4, hw⟩ := (svl_done (m := 1) rfl d4).2 rfl
      rw [e4] at r12
      refine gives_call rfl (hS.func _) (by go_simp) ?_
      rw [show Array.map ρ #[Operand.tmp 12] = #[.pointer (some ⟨wb, 0, none⟩)] by simp [r12]]
      have hle := HLE.out
      rcases hw with ⟨hm, hw⟩ | ⟨hm, l, hl, hw⟩
      · refine (done_err wb W.heap.size [] 2 w' hw (by decide)).mono ?_
        rintro r w'' ⟨rfl, nn, rfl⟩
        obtain ⟨_, rfl, rfl⟩ | h := hle
        · exact ⟨_, rfl, hC.trans (((Ext.refl w').drewN nn).below.mono hC.size), ⟨none, 0, rfl⟩, svl_next rfl ⟨(fun _ _ => trivial), exk_nx, (fun v h k => absurd k (by omega)), (fun _ h => h), (fun _ _ => trivial), (fun _ _ => trivial), (fun _ h => h), (fun _ h => h), exk_nx, (fun _ h => h), exk_nx, trivial⟩ blW_next⟩
        · omega
      · have hmm := HM.out
        refine (done_ok wb W.heap.size l w' hw (by omega)).mono ?_
        rintro r w'' ⟨ao, cap, rfl, hx, _⟩
        have hpl := packed_length l
        have e1 : (packed l).length = len := by omega
        obtain h | ⟨_, _, rfl⟩ := hle
        · omega
        · exact ⟨_, rfl, hC.trans (hx.below.mono hC.size), ⟨ao, cap, by rw [e1]⟩, svl_next rfl ⟨(fun _ _ => trivial), exk_nx, (fun v h k => absurd k (by omega)), (fun _ h => h), (fun _ _ => trivial), (fun _ _ => trivial), (fun _ h => h), (fun _ h => h), exk_nx, (fun _ h => h), exk_nx, trivial⟩ blW_next⟩
    · intro bb vals ρ w' hC hd hS
      have d5 := hd.at 5 rfl
      have r13 : ρ (.tmp 13) = vals 5 := hS.tmp 13
      refine (show givesR _ _ _ _ (fun v w'' => Ext w' w'' ∧ (fun _ v _ => ∃ ao cap, v = .tuple #[.slice ao len cap, .int .i64 e]) bb v w'') from ?_)
      obtain ⟨ao, cap, e5⟩ := (svl_done (m := 2) rfl d5).2
      rw [e5] at r13
      exact gives_move rfl ⟨Ext.refl _, ao, cap, r13⟩
    · intro bb vals ρ w' hC hd hS
      have d6 := hd.at 6 rfl
      have r7 : ρ (.tmp 7) = vals 6 := hS.tmp 7
      refine (show givesR _ _ _ _ (fun v w'' => Ext w' w'' ∧ (fun _ v _ => ∃ ao cap, v = .slice ao len cap) bb v w'') from ?_)
      obtain ⟨ao, cap, e6⟩ := d6
      rw [e6] at r7
      clear hC hd hS
      go_simp
      exact Ext.refl _
    · intro bb vals ρ w' hC hd hS
      have d6 := hd.at 6 rfl
      have r7 : ρ (.tmp 7) = vals 6 := hS.tmp 7
      refine (show givesR _ _ _ _ (fun v w'' => Ext w' w'' ∧ v = .int .i64 e) from ?_)
      obtain ⟨ao, cap, e6⟩ := d6
      rw [e6] at r7
      clear hC hd hS
      go_simp
      exact Ext.refl _
  intro vals w' hC hV
  obtain ⟨ao, cap, e9⟩ : ∃ ao cap, vals 9 = .slice ao len cap := hV 9 (by decide)
  have e10 : vals 10 = .int .i64 e := hV 10 (by decide)
  have HC' := Lib.hid hC; clear hC hV
  simp only [List.drop_succ_cons, List.drop_zero]
  have hle := HLE.out
  have hm1 := HM.out
  obtain ⟨hm2, rfl, rfl⟩ | ⟨hm2, rfl, rfl⟩ := hle
  · have hi : ((65535 : Int) < (m : Int)) = True := eq_true (by omega)
    clear hm1 hm2
    go_wp2_with fail
    refine (lives_c _).mono ?_
    rintro r w2 ⟨rfl, hx2⟩
    go_wp2
    go_ret
    exact ⟨rfl, HC'.out.trans (hx2.below.mono HC'.out.size)⟩
  · have hi : ((65535 : Int) < (m : Int)) = False := eq_false (by omega)
    have hw2 : IntKind.i64.wrap ((m : Int) + 2) = (m : Int) + 2 := by rw [IntKind.wrap_i64]; omega
    clear hm1 hm2
    go_wp2_with fail
    refine (lives_c _).mono ?_
    rintro r w2 ⟨rfl, hx2⟩
    go_wp2
    go_ret
    exact ⟨rfl, HC'.out.trans (hx2.below.mono HC'.out.size)⟩

end Go.Proofs.Ytlfnpbpbgncbpaa

/- Contracts of slices.Index, Contains, Clone, Delete on ints. -/
import Derived.Test.YtdgcadjhggidfaaR1
import Derived.Test.YtdgcadjhggidfaaRg
set_option linter.unusedVariables false
set_option linter.unusedSimpArgs false
namespace Go.Proofs.Ytdgcadjhggidfaa
open Go.RowKit

theorem etInts : ElemT Try.prog 50 3 1 8 := ElemT.mk' Try.underlying50 (z := .int .i64 0) (by kernel_rfl) rfl (by decide)
@[go_sem] theorem eqNilInts (w : World) (a : Option Addr) (n c n' c' : Nat) :
    (binOp .eql 50 (.slice a n c) (.slice none n' c')).run Try.prog w = .ok (.bool a.isNone) w := Lib.run_eql_slice_nil w _ _ a n c n' c' Try.underlying50

/-- Where a number stands first; -1: nowhere. -/
def idxI (x : Int) (l : List Int) : Int := if x ∈ l then (l.idxOf x : Int) else -1
theorem idxI_nonneg {x : Int} {l : List Int} : 0 ≤ idxI x l ↔ x ∈ l := by unfold idxI; split <;> simp_all
theorem idxI_bd (x : Int) (l : List Int) : -1 ≤ idxI x l ∧ (idxI x l : Int) < l.length := by
  unfold idxI; split
  · rename_i h; have := List.idxOf_lt_length_of_mem h; omega
  · omega

set_option maxHeartbeats 400000 in
theorem index_c (v : Value) (l : List Int) (x : Int) (w : World) (h : Is w v l) :
    Calls Try.prog 24 #[v, .int .i64 x] w fun e w' => e = .returned (.int .i64 (idxI x l)) ∧ w = w' := by
  obtain ⟨ao, ca, rfl, ca1, ca2, ca3, hca⟩ := h.open
  clear h
  obtain ⟨n, hn⟩ : ∃ n, n = l.length := ⟨_, rfl⟩
  rw [← hn] at ca1 hca ⊢
  have Ha := Lib.hid hca; clear hca
  have N := Lib.hid hn; clear hn
  have Ca := Lib.hid ca3; clear ca3
  go_enter Try.func24, Try.ntmps24
  go_wp2
  go_loop [8] (fun i => ∃ k : Nat, k ≤ n ∧ i = .int .i64 k ∧ Hid (x ∉ l.take k)) (fun i => n - (intOf i).toNat)
  case atStart => exact ⟨0, by omega, rfl, Lib.hid (by simp)⟩
  case round =>
    obtain ⟨k, hk, rfl, hx⟩ := hrel
    by_cases hlt : k < n
    · obtain ⟨a, rfl⟩ : ∃ a, ao = some a := by cases ao with | none => have := Ca.out rfl; omega | some a => exact ⟨a, rfl⟩
      have hax := Ha.out a rfl k hlt
      have hkl : k < l.length := by rw [← N.out]; exact hlt
      have e1 : l.getD k 0 = l[k] := by simp [List.getD, List.getElem?_eq_getElem hkl]
      have htk : l.take (k + 1) = l.take k ++ [l[k]] := List.take_succ_eq_append_getElem hkl
      have hdr : l = l.take k ++ l[k] :: l.drop (k + 1) := by rw [← List.drop_eq_getElem_cons hkl, List.take_append_drop]
      rw [e1] at hax
      generalize l[k] = y at hax htk hdr
      have HTK := Lib.hid htk; clear htk e1
      have HDR := Lib.hid hdr; clear hdr
      clear hkl
      by_cases hxy : x = y
      · subst hxy
        go_wp2
        go_ret
        have hidx : idxI x l = k := by
          unfold idxI
          rw [if_pos (by rw [HDR.out]; simp)]
          have hlk : (l.take k).length = k := by rw [List.length_take, ← N.out]; omega
          rw [HDR.out, List.idxOf_append, if_neg hx.out, hlk]
          simp
        exact ⟨by rw [hidx]; rfl, rfl⟩
      · have hb : (x == y) = false := by simp [hxy]
        have HX := Lib.hid hxy; clear hxy
        go_wp2
        go_round
        case rel =>
          refine ⟨k + 1, by omega, by go_num, Lib.hid ?_⟩
          rw [HTK.out, List.mem_append]
          rintro (h | h)
          · exact hx.out h
          · simp at h; exact HX.out h
        case measure => simp [intOf]; omega
    · go_wp2
      go_ret
      have hidx : idxI x l = -1 := by
        unfold idxI
        have := hx.out
        rw [List.take_of_length_le (by rw [← N.out]; omega)] at this
        rw [if_neg this]
      exact ⟨by rw [hidx]; rfl, rfl⟩

set_option maxHeartbeats 400000 in
theorem contains_c (v : Value) (l : List Int) (x : Int) (w : World) (h : Is w v l) :
    Calls Try.prog 27 #[v, .int .i64 x] w fun e w' => e = .returned (.bool (decide (x ∈ l))) ∧ w = w' := by
  have H := Lib.hid h; clear h
  have hd : decide (x ∈ l) = decide (0 ≤ idxI x l) := by simp [idxI_nonneg]
  rw [hd]
  clear hd
  go_enter Try.func27, Try.ntmps27
  go_wp2_with fail
  refine (index_c _ l x w H.out).mono ?_
  rintro e w' ⟨rfl, rfl⟩
  go_wp2
  go_ret
  exact ⟨rfl, rfl⟩

set_option maxHeartbeats 400000 in
theorem clonei_c (v : Value) (l : List Int) (w : World) (h : Is w v l) (hl : l.length ≤ 17592186044416) :
    Calls Try.prog 28 #[v] w fun e w' => ∃ ao cap, e = .returned (.slice ao l.length cap) ∧ Ext w w' ∧ w'.ownsRow w.heap.size 3 1 (.slice ao l.length cap) l.length (l.map iv) := by
  have h' := h
  obtain ⟨ao, ca, rfl, ca1, ca2, ca3, hca⟩ := h'.open
  clear h' hca
  have H := Lib.hid h; clear h
  have Ca := Lib.hid ca3; clear ca3
  cases ao with
  | none =>
    have hc := Ca.out rfl
    subst hc
    have hl0 : l.length = 0 := by omega
    have H2 := Lib.hid hl0
    clear hl0 ca1 ca2 Ca
    rw [H2.out] at H hl ⊢
    go_enter Try.func28, Try.ntmps28
    go_wp2
    go_ret
    refine ⟨none, 0, rfl, Ext.refl _, ?_⟩
    rw [List.eq_nil_of_length_eq_zero H2.out]
    exact World.ownsRow_nil _ _ _ _
  | some a =>
    go_enter Try.func28, Try.ntmps28
    go_wp2_with (first | (at_builtin; refine wpList_app rfl (.tmp 5) (.tmp 6) 50 rfl etInts w.heap.size rfl (World.ownsRow_made w #[] 0 (Nat.le_refl _) (by decide) rfl) rfl (H.out.ext ((Ext.refl w).alloc _)) (oneCell_iv _) (by omega) (by omega) (by simp) ?_; intro v' w1 hown hgr _) | fail)
    rw [Nat.zero_add, List.nil_append] at hown
    obtain ⟨ao, cap, rfl⟩ := owns_shape hown
    go_ret
    refine ⟨ao, cap, rfl, ((Ext.refl _).alloc _).grown hgr (fun k hk => ?_), hown⟩
    cases hk; exact Nat.le_refl _

set_option maxRecDepth 100000 in
set_option maxHeartbeats 400000 in
theorem deletei_c (B g n cap k : Nat) (xs : List Value) (w : World) (h : w.ownsRow B 3 1 (.slice (some ⟨g, 0, none⟩) n cap) n xs) (hk : k < n) (hn : n ≤ 140737488355328) (h1 : ∀ u ∈ xs, u.oneCell' = true) :
    Calls Try.prog 25 #[.slice (some ⟨g, 0, none⟩) n cap, .int .i64 k, .int .i64 ((k : Int) + 1)] w
      fun e w' => e = .returned (.slice (some ⟨g, 0, none⟩) (n - 1) cap) ∧ Mod (fun j => j = g) w w' ∧
        w'.ownsRow B 3 1 (.slice (some ⟨g, 0, none⟩) (n - 1) cap) (n - 1) (xs.take k ++ xs.drop (k + 1)) := by
  have hcap : n ≤ cap ∧ cap ≤ 9223372036854775807 := by
    rcases h.2 with ⟨hn, _⟩ | ⟨g', cap', cur, hn, k1, k2, k3, k4, _⟩
    · cases hn
    · simp only [Value.slice.injEq] at hn; obtain ⟨_, _, rfl⟩ := hn; exact ⟨k3, k4⟩
  have H := Lib.hid h; clear h
  have H1 := Lib.hid h1; clear h1
  have b1 : n ≤ cap := hcap.1
  have b2 : cap ≤ 9223372036854775807 := hcap.2
  clear hcap
  have b3 : k ≤ cap := by omega
  have b4 : k + 1 ≤ cap := by omega
  have b6 : (0 : Int) ≤ (k : Int) + 1 := by omega
  have b7 : (k : Int) + 1 ≤ (n : Int) := by omega
  have b5 : k + (n - (k + 1)) = n - 1 := by omega
  have hcut := Rs.cut (Rs.of_owns H.out) (k := k + 1) (m := n)
  have HCut := Lib.hid hcut; clear hcut
  have B5 := Lib.hid b5; clear b5
  go_enter Try.func25, Try.ntmps25
  go_wp2_with fail
  refine wp_region_rg 6 (fun w' => Ext w w') (fun a b => a = b)
    (vlist [ex (.slice (some ⟨g, 0, none⟩) n cap), ex (.int .i64 k), ex (.slice (some ⟨g, 0, none⟩) k cap), ex (.slice (some ⟨g, 0, none⟩) n cap), ex (.int .i64 ((k : Int) + 1)), (fun v w' => Rs w' 1 v (n - (k + 1)) (xs.drop (k + 1)))])
    (by kernel_rfl) (by kernel_rfl) (Ext.refl w).drew (fun _ _ => rfl) (fun _ _ h e => e ▸ h) (fun _ _ _ _ _ _ h e => e ▸ h) ?_ ?_
  · simp only [List.take_succ_cons, List.take_zero]
    refine RgOps.mk (RgOp.plain (by decide) rfl ?_) ?_
    rotate_left
    refine RgOps.mk (RgOp.plain (by decide) rfl ?_) ?_
    rotate_left
    refine RgOps.mk (RgOp.plain (by decide) rfl ?_) ?_
    rotate_left
    refine RgOps.mk (RgOp.plain (by decide) rfl ?_) ?_
    rotate_left
    refine RgOps.mk (RgOp.plain (by decide) rfl ?_) ?_
    rotate_left
    refine RgOps.mk (RgOp.plain (by decide) rfl ?_) ?_
    rotate_left
    exact RgOps.done
    · intro ph vals w' _ hC hd; simp [Deps, vlist, ex, Region.binds] at hd; clear hC; go_simp
    · intro ph vals w' _ hC hd; simp [Deps, vlist, ex, Region.binds] at hd; clear hC; go_simp
    · intro ph vals w' _ hC hd; simp [Deps, vlist, ex, Region.binds] at hd; clear hC; go_simp
    · intro ph vals w' _ hC hd; simp [Deps, vlist, ex, Region.binds] at hd; clear hC; go_simp
    · intro ph vals w' _ hC hd; simp [Deps, vlist, ex, Region.binds] at hd; clear hC; go_simp
    · intro ph vals w' _ hC hd
      simp [Deps, vlist, ex, Region.binds] at hd
      have HC := Lib.hid hC; clear hC
      go_simp
      have e : xs.drop (k + 1) = (xs.drop ((k + 1) * 1)).take ((n - (k + 1)) * 1) := by
        rw [Nat.mul_one, Nat.mul_one, List.take_of_length_le]
        rw [List.length_drop, H.out.1]; omega
      rw [e]
      refine Rs.ext (HCut.out (by omega) (Nat.le_refl _) (by omega) (by unfold maxLen; omega) ?_ ?_) HC.out
      · intro h; split at h <;> cases h
      · intro a' h hlt
        rw [if_neg (by omega)] at h
        refine ⟨⟨g, 0, none⟩, rfl, ?_⟩
        rw [add_head, Nat.mul_one]; exact (Option.some.inj h).symm
  · intro vals w' hC hV
    have e2 := hV 2 (by decide)
    have e5 := hV 5 (by decide)
    simp only [vlist, ex, List.getD_cons_zero, List.getD_cons_succ] at e2 e5
    have HC := Lib.hid hC; clear hC hV
    have H5 := Lib.hid e5; clear e5
    simp only [List.drop_succ_cons, List.drop_zero]
    refine wpList_app_room rfl (.tmp 22) (.tmp 25) 50 rfl etInts (by go_simp) (owns_ext H.out HC.out) (i := k) (m := n - (k + 1)) (by omega) B5.out (by go_simp) H5.out (fun u hu => H1.out u (List.mem_of_mem_drop hu)) ?_
    intro w2 hown hmod
    have hzv : ∀ w, (zeroValue 3).run Try.prog w = .ok (.int .i64 0) w := fun _ => by simp
    have hzc : (Value.int .i64 0).cells.size = 1 := rfl
    have hz1 : ∀ u ∈ (Value.int .i64 0).cells.toList, u.oneCell' = true := by simp [Value.cells, Value.oneCell']
    have hm1 : n - 1 + (n - (n - 1)) ≤ cap := by omega
    have hm0 : n - 1 = (n - 1) * 1 := by omega
    have HM0 := Lib.hid hm0; clear hm0
    have hm2 : 0 < n - (n - 1) := by omega
    have b8 : n - 1 ≤ n := by omega
    have b9 : n - 1 ≤ cap := by omega
    have HM := Lib.hid hmod; clear hmod
    have HO := Lib.hid hown; clear hown
    go_wp2_with (first | (with_reducible refine wpList_clear_tail (o := ⟨none, _, _, _, _, _⟩) (m := n - (n - 1)) (c := cap - (n - 1)) rfl (.tmp 31) 50 rfl Try.underlying50 hzv hzc hz1 rfl HM0.out HO.out hm1 hm2 ?_; intro w3 hown3 hmod3) | fail)
    go_ret
    rw [Nat.mul_one] at hown3
    refine ⟨rfl, Mod.trans (Mod.trans (HC.out.mod (F := fun j => j = g)) HM.out fun _ h _ => h) hmod3 fun _ h _ => h, hown3⟩

end Go.Proofs.Ytdgcadjhggidfaa

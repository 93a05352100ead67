/- Contracts of the reference's reader. -/
import Derived.Test.YtlfnpbpbgncbpaaR4
set_option linter.unusedVariables false
set_option linter.unusedSimpArgs false
namespace Go.Proofs.Ytlfnpbpbgncbpaa
open Go.RowKit

/-- The document's reader: the bits that are left, an error. -/
def RRd (w : World) (B xb : Nat) (bs : List Bool) (err : Int) : Prop :=
  ∃ ao cap, w.heap[xb]? = some (.cells #[.slice ao bs.length cap, .int .i64 err] 56 (0, 0)) ∧ B ≤ xb ∧ Bs w (.slice ao bs.length cap) (bbs bs) ∧ ∀ k, (Value.slice ao bs.length cap).ownBlock = some k → B ≤ k ∧ k < xb
section
variable {w w' : World} {B xb : Nat} {bs : List Bool} {err : Int}
theorem RRd.lt (h : RRd w B xb bs err) : xb < w.heap.size := by
  obtain ⟨ao, cap, h1, _⟩ := h
  exact (Array.getElem?_eq_some_iff.1 h1).1
theorem RRd.mod {F : Nat → Prop} (h : RRd w B xb bs err) (hm : Mod F w w') (hF : ∀ k, B ≤ k → k ≤ xb → ¬ F k) : RRd w' B xb bs err := by
  obtain ⟨ao, cap, h1, h2, h3, h4⟩ := h
  exact ⟨ao, cap, (hm.block xb (Array.getElem?_eq_some_iff.1 h1).1 (hF _ h2 (Nat.le_refl _))).trans h1, h2, h3.mod hm (fun k hk _ => hF k (h4 k hk).1 (Nat.le_of_lt (h4 k hk).2)), h4⟩
theorem RRd.ext (h : RRd w B xb bs err) (hx : Ext w w') : RRd w' B xb bs err := h.mod hx fun _ _ _ => id
theorem RRd.c1 (h : RRd w B xb bs err) : w.cell? ⟨xb, 1, none⟩ = some (.int .i64 err) := by
  obtain ⟨ao, cap, h1, _⟩ := h
  rw [cell_of_blk h1]; rfl
theorem RRd.fz (h : RRd w B xb bs err) (j : Nat) : w.frozen? ⟨xb, j, none⟩ = false := by
  obtain ⟨ao, cap, h1, _⟩ := h
  exact frozen_of_blk h1 j
theorem RRd.setErr (h : RRd w B xb bs err) (e : Int) : RRd (w.setCell ⟨xb, 1, none⟩ (.int .i64 e)) B xb bs e := by
  obtain ⟨ao, cap, h1, h2, h3, h4⟩ := h
  refine ⟨ao, cap, setCell_blk (j := 1) (v := .int .i64 e) h1, h2, h3.mod (Mod.setCell (F := fun k => k = xb) (p := ⟨xb, 1, none⟩) (Mod.refl _ w) (fun _ => rfl) _) fun k hk e => ?_, h4⟩
  have := (h4 k hk).2
  omega
end

theorem RRd.drop {w : World} {B xb p cap cap' n : Nat} {bs : List Bool} {ao ao' : Option Addr} (h1 : w.heap[xb]? = some (.cells #[.slice ao p cap, .int .i64 0] 56 (0, 0))) (hge : B ≤ xb) (h3 : Bs w (.slice ao p cap) (bbs bs)) (h4 : ∀ k, (Value.slice ao p cap).ownBlock = some k → B ≤ k ∧ k < xb)
    (hp : p = bs.length) (hn : n ≤ p) (hc : p - n ≤ cap') (hcm : cap' ≤ 9223372036854775807) (hnone : ao' = none → cap' = 0) (hao : ∀ a', ao' = some a' → n < p → ∃ a, ao = some a ∧ a' = a.add n) (hob : ∀ k, ao'.map (·.block) = some k → ao.map (·.block) = some k) :
    RRd (w.setCell ⟨xb, 0, none⟩ (.slice ao' (p - n) cap')) B xb (bs.drop n) 0 ∧ Mod (fun k => k = xb) w (w.setCell ⟨xb, 0, none⟩ (.slice ao' (p - n) cap')) := by
  have hm := Mod.setCell (F := fun k => k = xb) (p := ⟨xb, 0, none⟩) (Mod.refl _ w) (fun _ => rfl) (.slice ao' (p - n) cap')
  have hl : (bs.drop n).length = p - n := by rw [List.length_drop, hp]
  have h4' : ∀ k, (Value.slice ao' (p - n) cap').ownBlock = some k → B ≤ k ∧ k < xb := fun k hk => h4 k (by rw [ownBlock_slice] at hk ⊢; exact hob k hk)
  refine ⟨⟨ao', cap', ?_, hge, ?_, ?_⟩, hm⟩
  · rw [hl]; exact setCell_blk (j := 0) (v := .slice ao' (p - n) cap') h1
  · rw [hl]
    have h5 : Rs w 1 (.slice ao' (p - n) cap') (p - n) ((((bbs bs).map bv).drop (n * 1)).take ((p - n) * 1)) := by
      have h6 : Rs w 1 (.slice ao p cap) p ((bbs bs).map bv) := by unfold Bs at h3; rwa [bbs_length, ← hp] at h3
      exact Rs.cut h6 hn (Nat.le_refl _) hc (by simpa [maxLen] using hcm) hnone fun a' ha hk => by
        obtain ⟨a, e1, e2⟩ := hao a' ha hk
        exact ⟨a, e1, by rw [Nat.mul_one]; exact e2⟩
    have e : (((bbs bs).map bv).drop (n * 1)).take ((p - n) * 1) = (bbs (bs.drop n)).map bv := by
      rw [Nat.mul_one, Nat.mul_one, List.take_of_length_le (by rw [List.length_drop, List.length_map, bbs_length]; omega)]
      unfold bbs
      rw [List.map_drop, List.map_drop]
    rw [e] at h5
    have h7 : Bs w (.slice ao' (p - n) cap') (bbs (bs.drop n)) := by unfold Bs; rw [bbs_length, hl]; exact h5
    exact h7.mod hm fun k hk _ e => by have := (h4' k hk).2; omega
  · rw [hl]; exact h4'

/-- What the next bits are, and what stays. -/
def rgetOk (bs : List Bool) (err n : Int) : Prop := err = 0 ∧ 0 ≤ n ∧ n ≤ 64 ∧ n ≤ (bs.length : Int)
instance (bs : List Bool) (err n : Int) : Decidable (rgetOk bs err n) := by unfold rgetOk; infer_instance
def rgetV (bs : List Bool) (err n : Int) : Nat := if rgetOk bs err n then val (bs.take n.toNat) else 0
def rgetL (bs : List Bool) (err n : Int) : List Bool := if rgetOk bs err n then bs.drop n.toNat else bs
def rgetE (bs : List Bool) (err n : Int) : Int := if err ≠ 0 then err else if n < 0 ∨ 64 < n then 2 else if (bs.length : Int) < n then 3 else 0

set_option maxHeartbeats 2000000 in
theorem rrget_ok (xb B : Nat) (bs : List Bool) (n : Nat) (w : World) (h : RRd w B xb bs 0) (hn : n ≤ 64) (hf : n ≤ bs.length) :
    Calls Try.prog 29 #[.pointer (some ⟨xb, 0, none⟩), .int .i64 n] w fun e w' => e = .returned (.int .u64 (val (bs.take n) : Int)) ∧ RRd w' B xb (bs.drop n) 0 ∧ Mod (fun k => k = xb) w w' := by
  have c1 := h.c1
  have H := Lib.hid h
  obtain ⟨ao, cap, h1, h2, h3, h4⟩ := h
  obtain ⟨p, hp⟩ : ∃ p, p = bs.length := ⟨_, rfl⟩
  have c0 : w.cell? ⟨xb, 0, none⟩ = some (.slice ao p cap) := by rw [cell_of_blk h1, hp]; rfl
  have f0 := frozen_of_blk h1 0
  rw [← hp] at h1 h3 h4 hf
  have h3' := h3
  obtain ⟨ao2, cap2, he, r1, r2, r3, r4⟩ := h3'.open
  rw [bbs_length, ← hp] at he r1 r4
  simp only [Value.slice.injEq] at he
  obtain ⟨rfl, _, rfl⟩ := he
  have H1 := Lib.hid h1
  have H3 := Lib.hid h3
  have H4 := Lib.hid h4
  have HP := Lib.hid hp
  have HGE := Lib.hid h2
  have HR3 := Lib.hid r3
  clear h1 h2 h3 h3' h4 hp r4 r3
  go_enter Try.func29, Try.ntmps29
  go_wp2_with fail
  have htk : Bs w (.slice ao n cap) (bbs (bs.take n)) := by
    have := Bs.take H3.out hf
    unfold bbs at this ⊢
    rwa [List.map_take]
  have HNUM := Lib.hid (rnum_c _ (bs.take n) w htk (by rw [List.length_take]; omega))
  clear htk
  refine HNUM.out.mono ?_
  rintro e w1 ⟨rfl, rfl⟩
  have HF := Lib.hid hf
  have HR1 := Lib.hid r1
  have HR2 := Lib.hid r2
  clear r1 r2
  go_wp2_with fail
  all_goals
    go_ret
    have hf := HF.out
    have hr1 := HR1.out
    have hr2 := HR2.out
  · have hd := RRd.drop (ao' := ao) (cap' := 0) (n := n) H1.out HGE.out H3.out H4.out HP.out hf (by omega) (by decide) (fun _ => rfl) (fun a' _ hk => by omega) (fun k hk => hk)
    exact ⟨rfl, hd.1, hd.2⟩
  · have hd := RRd.drop (ao' := ao.map fun x => x.add n) (cap' := cap - n) (n := n) H1.out HGE.out H3.out H4.out HP.out hf (by omega) (by omega) (fun h => by
      have h0 : ao = none := by cases ao with | none => rfl | some a => cases h
      have := HR3.out h0
      omega) (fun a' ha _ => by
      cases ao with
      | none => cases ha
      | some a => simp only [Option.map_some, Option.some.injEq] at ha; exact ⟨a, rfl, ha.symm⟩) (fun k hk => by
      cases ao with
      | none => cases hk
      | some a => simpa [add_block] using hk)
    exact ⟨rfl, hd.1, hd.2⟩

set_option maxHeartbeats 1000000 in
theorem rrget_c (xb B : Nat) (bs : List Bool) (err n : Int) (w : World) (h : RRd w B xb bs err) (hl : bs.length ≤ 1000000) :
    Calls Try.prog 29 #[.pointer (some ⟨xb, 0, none⟩), .int .i64 n] w fun e w' => e = .returned (.int .u64 (rgetV bs err n : Int)) ∧ RRd w' B xb (rgetL bs err n) (rgetE bs err n) ∧ Mod (fun k => k = xb) w w' := by
  by_cases hok : rgetOk bs err n
  · have hok' := hok
    obtain ⟨h0, h1, h2, h3⟩ := hok
    subst h0
    obtain ⟨m, rfl⟩ := Int.eq_ofNat_of_zero_le h1
    rw [rgetV, rgetL, rgetE, if_pos hok', if_pos hok', if_neg (by simp), if_neg (by omega), if_neg (by omega), Int.toNat_natCast]
    exact rrget_ok xb B bs m w h (by omega) (by omega)
  · rw [rgetV, rgetL, if_neg hok, if_neg hok]
    have c1 := h.c1
    have f1 := h.fz 1
    have H := Lib.hid h
    by_cases h0 : err = 0
    · subst h0
      by_cases h1 : n < 0 ∨ 64 < n
      · rw [rgetE, if_neg (by simp), if_pos h1]
        clear h hok
        rcases h1 with h1 | h1
        all_goals
          go_enter Try.func29, Try.ntmps29
          go_wp2
          go_ret
          exact ⟨rfl, H.out.setErr 2, Mod.setCell (F := fun k => k = xb) (p := ⟨xb, 1, none⟩) (Mod.refl _ w) (fun _ => rfl) _⟩
      · have h3 : (bs.length : Int) < n := by unfold rgetOk at hok; omega
        rw [rgetE, if_neg (by simp), if_neg h1, if_pos h3]
        obtain ⟨ao, cap, g1, g2, g3, g4⟩ := h
        obtain ⟨p, hp⟩ : ∃ p, p = bs.length := ⟨_, rfl⟩
        have c0 : w.cell? ⟨xb, 0, none⟩ = some (.slice ao p cap) := by rw [cell_of_blk g1, hp]; rfl
        rw [← hp] at h3
        have hn0 : 0 ≤ n := by omega
        have hn1 : n ≤ 64 := by omega
        clear hok g1 g2 g3 g4 hp h1
        go_enter Try.func29, Try.ntmps29
        go_wp2
        go_ret
        exact ⟨rfl, H.out.setErr 3, Mod.setCell (F := fun k => k = xb) (p := ⟨xb, 1, none⟩) (Mod.refl _ w) (fun _ => rfl) _⟩
    · rw [rgetE, if_pos h0]
      have hb : (err != 0) = true := by simpa using h0
      clear h hok h0
      go_enter Try.func29, Try.ntmps29
      go_wp2
      go_ret
      exact ⟨rfl, H.out, Mod.refl _ w⟩

end Go.Proofs.Ytlfnpbpbgncbpaa

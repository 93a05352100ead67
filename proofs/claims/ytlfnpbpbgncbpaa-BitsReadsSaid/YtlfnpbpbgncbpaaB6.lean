/- The reader of bits: Open, Err, Left. -/
import Derived.Test.YtlfnpbpbgncbpaaB5
set_option linter.unusedVariables false
set_option linter.unusedSimpArgs false
namespace Go.Proofs.Ytlfnpbpbgncbpaa
open Go.RowKit

/-- A reader of these bytes, so many bits on. -/
def RdIs (w : World) (B rb : Nat) (l : List UInt8) (at' : Nat) (err : Int) : Prop :=
  ∃ ao cap, w.heap[rb]? = some (.cells #[.bool true, .slice ao l.length cap, .int .i64 (at' : Int), .int .i64 err] 63 (0, 0)) ∧ B ≤ rb ∧
    w.ownsRow B 5 1 (.slice ao l.length cap) l.length (l.map bv) ∧ ∀ k, (Value.slice ao l.length cap).ownBlock = some k → k < rb
section
variable {w : World} {B rb : Nat} {l : List UInt8} {at' : Nat} {err : Int}
theorem RdIs.lt (h : RdIs w B rb l at' err) : rb < w.heap.size := by
  obtain ⟨ao, cap, h1, _⟩ := h
  exact (Array.getElem?_eq_some_iff.1 h1).1
theorem RdIs.ext {w' : World} (h : RdIs w B rb l at' err) (hx : Ext w w') : RdIs w' B rb l at' err := by
  obtain ⟨ao, cap, h1, h2, h3, h4⟩ := h
  exact ⟨ao, cap, (hx.block rb (Array.getElem?_eq_some_iff.1 h1).1 id).trans h1, h2, owns_ext h3 hx, h4⟩
/-- Whatever is done beneath. -/
theorem RdIs.mod {F : Nat → Prop} {w' : World} (h : RdIs w B rb l at' err) (hm : Mod F w w') (hF : ∀ k, B ≤ k → ¬ F k) : RdIs w' B rb l at' err := by
  obtain ⟨ao, cap, h1, h2, h3, h4⟩ := h
  exact ⟨ao, cap, (hm.block rb (Array.getElem?_eq_some_iff.1 h1).1 (hF _ h2)).trans h1, h2, owns_mod h3 hm fun k hk => hF k (owns_block h3 hk).1, h4⟩
theorem RdIs.c0 (h : RdIs w B rb l at' err) : w.cell? ⟨rb, 0, none⟩ = some (.bool true) := by
  obtain ⟨ao, cap, h1, _⟩ := h
  rw [cell_of_blk h1]; rfl
theorem RdIs.c2 (h : RdIs w B rb l at' err) : w.cell? ⟨rb, 2, none⟩ = some (.int .i64 (at' : Int)) := by
  obtain ⟨ao, cap, h1, _⟩ := h
  rw [cell_of_blk h1]; rfl
theorem RdIs.c3 (h : RdIs w B rb l at' err) : w.cell? ⟨rb, 3, none⟩ = some (.int .i64 err) := by
  obtain ⟨ao, cap, h1, _⟩ := h
  rw [cell_of_blk h1]; rfl
theorem RdIs.fz (h : RdIs w B rb l at' err) (j : Nat) : w.frozen? ⟨rb, j, none⟩ = false := by
  obtain ⟨ao, cap, h1, _⟩ := h
  exact frozen_of_blk h1 j
theorem RdIs.setErr (h : RdIs w B rb l at' err) (e : Int) : RdIs (w.setCell ⟨rb, 3, none⟩ (.int .i64 e)) B rb l at' e := by
  obtain ⟨ao, cap, h1, h2, h3, h4⟩ := h
  exact ⟨ao, cap, setCell_blk (j := 3) (v := .int .i64 e) h1, h2, owns_setCell h3 (owns_ne_block h3 h1 (by decide)), h4⟩
/-- Another row is written. -/
theorem RdIs.setOther (h : RdIs w B rb l at' err) {g : Nat} (hg : rb < g) (j : Nat) (u : Value) : RdIs (w.setCell ⟨g, j, none⟩ u) B rb l at' err := by
  obtain ⟨ao, cap, h1, h2, h3, h4⟩ := h
  refine ⟨ao, cap, (Below.heap_setCell _ ⟨g, j, none⟩ _ rb (fun e => by have : rb = g := e; omega)).trans h1, h2, owns_setCell h3 fun e => ?_, h4⟩
  have := h4 g e
  omega
theorem RdIs.setAt (h : RdIs w B rb l at' err) (q : Nat) : RdIs (w.setCell ⟨rb, 2, none⟩ (.int .i64 (q : Int))) B rb l q err := by
  obtain ⟨ao, cap, h1, h2, h3, h4⟩ := h
  exact ⟨ao, cap, setCell_blk (j := 2) (v := .int .i64 (q : Int)) h1, h2, owns_setCell h3 (owns_ne_block h3 h1 (by decide)), h4⟩
end

set_option maxHeartbeats 1000000 in
theorem ropen_c (v : Value) (l : List UInt8) (w : World) (h : Bs w v l) (hl : l.length ≤ 140737488355328) :
    Calls Try.prog 22 #[v] w fun e w' => ∃ rb, e = .returned (.pointer (some ⟨rb, 0, none⟩)) ∧ w.heap.size ≤ rb ∧ Ext w w' ∧ RdIs w' w.heap.size rb l 0 0 := by
  have H := Lib.hid h; clear h
  go_enter Try.func22, Try.ntmps22
  go_wp2_with fail
  refine (clone_c v l w H.out hl).mono ?_
  rintro e w1 ⟨ao, cap, rfl, hx, hown⟩
  have HX := Lib.hid hx
  have HO := Lib.hid hown
  clear hx hown
  go_wp2
  go_ret
  have hx2 := (Ext.refl w1).alloc (.cells #[.bool true, .slice ao l.length cap, .int .i64 0, .int .i64 0] 63)
  exact ⟨_, rfl, HX.out.size, HX.out.trans hx2, ao, cap, heap_alloc_new w1 _, HX.out.size, owns_ext HO.out hx2, fun k hk => (owns_block HO.out hk).2⟩

set_option maxHeartbeats 1000000 in
theorem rerr_c (rb B : Nat) (l : List UInt8) (at' : Nat) (err : Int) (w : World) (h : RdIs w B rb l at' err) :
    Calls Try.prog 32 #[.pointer (some ⟨rb, 0, none⟩)] w fun e w' => e = .returned (.int .i64 err) ∧ w = w' := by
  have c0 := h.c0
  have c3 := h.c3
  clear h
  go_enter Try.func32, Try.ntmps32
  go_wp2
  go_ret
  exact ⟨rfl, rfl⟩

/-- How many bits are left. -/
def leftI (l : List UInt8) (at' : Nat) (err : Int) : Int := if err = 0 then 8 * (l.length : Int) - (at' : Int) else 0
theorem leftI_zero (l : List UInt8) (at' : Nat) : leftI l at' 0 = 8 * (l.length : Int) - (at' : Int) := rfl
theorem leftI_ne (l : List UInt8) (at' : Nat) {err : Int} (h : err ≠ 0) : leftI l at' err = 0 := if_neg h

theorem left_wrap {n at' : Nat} (h : n ≤ 140737488355328) (ha : at' ≤ 8 * n) : IntKind.i64.wrap (8 * (n : Int)) = 8 * (n : Int) ∧ IntKind.i64.wrap (8 * (n : Int) - (at' : Int)) = 8 * (n : Int) - (at' : Int) := by
  rw [IntKind.wrap_i64, IntKind.wrap_i64]
  omega

set_option maxHeartbeats 1000000 in
theorem rleft_c (rb B : Nat) (l : List UInt8) (at' : Nat) (err : Int) (w : World) (h : RdIs w B rb l at' err) (hl : l.length ≤ 140737488355328) (ha : at' ≤ 8 * l.length) :
    Calls Try.prog 23 #[.pointer (some ⟨rb, 0, none⟩)] w fun e w' => e = .returned (.int .i64 (leftI l at' err)) ∧ ∃ n, w' = w.drewN n := by
  have H := Lib.hid h
  have c2 := h.c2
  obtain ⟨ao, cap, h1, h2, h3, h4⟩ := h
  have c1 : w.cell? ⟨rb, 1, none⟩ = some (.slice ao l.length cap) := by rw [cell_of_blk h1]; rfl
  clear h1 h2 h3 h4
  by_cases h0 : err = 0
  · subst h0
    obtain ⟨n, hn⟩ : ∃ n, n = l.length := ⟨_, rfl⟩
    have hw := left_wrap hl ha
    rw [← hn] at c1 hw
    rw [leftI_zero, ← hn]
    obtain ⟨hw1, hw2⟩ := hw
    clear hn hl ha
    go_enter Try.func23, Try.ntmps23
    go_wp2_with fail
    refine (rerr_c rb B l at' 0 w H.out).mono ?_
    rintro e w1 ⟨rfl, rfl⟩
    go_wp2_with fail
    go_quiet (fail)
    go_wp2
    go_ret
    exact ⟨rfl, _, rfl⟩
  · rw [leftI_ne _ _ h0]
    have hb : (err != 0) = true := by simpa using h0
    clear h0 hl ha
    go_enter Try.func23, Try.ntmps23
    go_wp2_with fail
    refine (rerr_c rb B l at' err w H.out).mono ?_
    rintro e w1 ⟨rfl, rfl⟩
    go_wp2
    go_ret
    exact ⟨rfl, 0, rfl⟩

end Go.Proofs.Ytlfnpbpbgncbpaa

/- G1. -/
import Derived.Test.YtonomiljclemnaaBasep
import Derived.Test.YtonomiljclemnaaG0p
import Derived.Laws.OwnMore
import Derived.Deep.AppendLies
import Derived.RegionTactic
import Derived.Deep.CutBlock
import Derived.Deep.DeepCutAuto
import Derived.Laws.Bits64
import Derived.Laws.BitsAllLaws
import Derived.Deep.QuietTactic
set_option linter.unusedVariables false
set_option linter.unusedSimpArgs false
namespace Go.Proofs.Ytonomiljclemnaa
def bitsOf (x : Nat) : Nat → List Bool
  | 0 => []
  | n + 1 => x.testBit n :: bitsOf x n
def valGo : Nat → List Bool → Nat
  | v, [] => v
  | v, b :: l => valGo (2 * v + b.toNat) l
def val (l : List Bool) : Nat := valGo 0 l
def byteN (c : List Bool) : Nat := val c * 2 ^ (8 - c.length)
def byteOf (c : List Bool) : UInt8 := UInt8.ofNat (byteN c)
def packed (l : List Bool) : List UInt8 := (List.range ((l.length + 7) / 8)).map fun i => byteOf ((l.drop (8 * i)).take 8)
def bitsAll (l : List UInt8) : List Bool := l.flatMap fun b => bitsOf b.toNat 8
end Go.Proofs.Ytonomiljclemnaa
set_option linter.unusedVariables false
set_option linter.unusedSimpArgs false
namespace Go.Proofs.Ytonomiljclemnaa
open Go.RowKit
def usedOf (l : List Bool) : Nat := if l.length % 8 = 0 then 8 else l.length % 8
def WrIs (w : World) (B wb : Nat) (l : List Bool) (err : Int) : Prop :=
  ∃ ao cap, w.heap[wb]? = some (.cells #[.bool true, .slice ao (packed l).length cap, .int .i64 (usedOf l : Int), .int .i64 err] 112 (0, 0)) ∧ B ≤ wb ∧
    w.ownsRow B 5 1 (.slice ao (packed l).length cap) (packed l).length ((packed l).map bv)
def WrF (w : World) (wb : Nat) (k : Nat) : Prop := k = wb ∨ ∃ v, w.cell? ⟨wb, 1, none⟩ = some v ∧ v.ownBlock = some k
def WrMod (wb : Nat) (w w' : World) : Prop := Mod (WrF w wb) w w' ∧ ∀ k, WrF w' wb k → k < w.heap.size → WrF w wb k
theorem WrMod.trans {wb : Nat} {a b c : World} (h : WrMod wb a b) (k : WrMod wb b c) : WrMod wb a c :=
  ⟨h.1.trans k.1 h.2, fun i hi hl => h.2 i (k.2 i hi (Nat.lt_of_lt_of_le hl h.1.size)) hl⟩
theorem WrF.ext {wb : Nat} {w w' : World} (hx : Ext w w') (hl : wb < w.heap.size) {k : Nat} (h : WrF w' wb k) : WrF w wb k := by
  rcases h with rfl | ⟨v, h1, h2⟩
  · exact .inl rfl
  · refine .inr ⟨v, ?_, h2⟩
    unfold World.cell? at h1 ⊢
    rwa [hx.block wb hl id] at h1
theorem WrIs.lt {w : World} {B wb : Nat} {l : List Bool} {err : Int} (h : WrIs w B wb l err) : wb < w.heap.size := by
  obtain ⟨ao, cap, h1, _⟩ := h
  exact (Array.getElem?_eq_some_iff.1 h1).1
theorem WrIs.ext {w w' : World} {B wb : Nat} {l : List Bool} {err : Int} (h : WrIs w B wb l err) (hx : Ext w w') : WrIs w' B wb l err := by
  obtain ⟨ao, cap, h1, h2, h3⟩ := h
  exact ⟨ao, cap, (hx.block wb (Array.getElem?_eq_some_iff.1 h1).1 id).trans h1, h2, owns_ext h3 hx⟩
structure WrMid (w : World) (B wb g cap : Nat) (a c : List Bool) (err : Int) : Prop where
  blk : w.heap[wb]? = some (.cells #[.bool true, .slice (some ⟨g, 0, none⟩) ((packed a).length + 1) cap, .int .i64 (c.length : Int), .int .i64 err] 112 (0, 0))
  ge : B ≤ wb
  own : w.ownsRow B 5 1 (.slice (some ⟨g, 0, none⟩) ((packed a).length + 1) cap) ((packed a).length + 1) ((packed a ++ [byteOf c]).map bv)
  whole : a.length % 8 = 0
  room : c.length < 8
theorem WrMid.ext {w w' : World} {B wb g cap : Nat} {a c : List Bool} {err : Int} (h : WrMid w B wb g cap a c err) (hx : Ext w w') : WrMid w' B wb g cap a c err :=
  ⟨(hx.block wb (Array.getElem?_eq_some_iff.1 h.blk).1 id).trans h.blk, h.ge, owns_ext h.own hx, h.whole, h.room⟩
structure WrQ (w : World) (B wb g cap : Nat) (a c : List Bool) (q : Nat) (err : Int) : Prop where
  blk : w.heap[wb]? = some (.cells #[.bool true, .slice (some ⟨g, 0, none⟩) ((packed a).length + 1) cap, .int .i64 (q : Int), .int .i64 err] 112 (0, 0))
  ge : B ≤ wb
  own : w.ownsRow B 5 1 (.slice (some ⟨g, 0, none⟩) ((packed a).length + 1) cap) ((packed a).length + 1) ((packed a ++ [byteOf c]).map bv)
  whole : a.length % 8 = 0
  room : c.length < 8
theorem WrQ.c1 {w : World} {B wb g cap : Nat} {a c : List Bool} {q : Nat} {err : Int} (h : WrQ w B wb g cap a c q err) : w.cell? ⟨wb, 1, none⟩ = some (.slice (some ⟨g, 0, none⟩) ((packed a).length + 1) cap) := by rw [cell_of_blk h.blk]; rfl
theorem WrQ.c2 {w : World} {B wb g cap : Nat} {a c : List Bool} {q : Nat} {err : Int} (h : WrQ w B wb g cap a c q err) : w.cell? ⟨wb, 2, none⟩ = some (.int .i64 (q : Int)) := by rw [cell_of_blk h.blk]; rfl
theorem WrQ.ext {w w' : World} {B wb g cap : Nat} {a c : List Bool} {q : Nat} {err : Int} (h : WrQ w B wb g cap a c q err) (hx : Ext w w') : WrQ w' B wb g cap a c q err :=
  ⟨(hx.block wb (Array.getElem?_eq_some_iff.1 h.blk).1 id).trans h.blk, h.ge, owns_ext h.own hx, h.whole, h.room⟩
end Go.Proofs.Ytonomiljclemnaa
set_option linter.unusedVariables false
set_option linter.unusedSimpArgs false
namespace Go.Proofs.Ytonomiljclemnaa
open Go.RowKit
theorem WrIs.c0 {w : World} {B wb : Nat} {l : List Bool} {err : Int} (h : WrIs w B wb l err) : w.cell? ⟨wb, 0, none⟩ = some (.bool true) := by
  obtain ⟨ao, cap, h1, _⟩ := h
  rw [cell_of_blk h1]; rfl
theorem WrIs.c3 {w : World} {B wb : Nat} {l : List Bool} {err : Int} (h : WrIs w B wb l err) : w.cell? ⟨wb, 3, none⟩ = some (.int .i64 err) := by
  obtain ⟨ao, cap, h1, _⟩ := h
  rw [cell_of_blk h1]; rfl
theorem WrIs.f3 {w : World} {B wb : Nat} {l : List Bool} {err : Int} (h : WrIs w B wb l err) : w.frozen? ⟨wb, 3, none⟩ = false := by
  obtain ⟨ao, cap, h1, _⟩ := h
  exact frozen_of_blk h1 3
theorem WrIs.err {w : World} {B wb : Nat} {l : List Bool} {err : Int} (h : WrIs w B wb l err) (e : Int) :
    WrIs (w.setCell ⟨wb, 3, none⟩ (.int .i64 e)) B wb l e ∧ WrMod wb w (w.setCell ⟨wb, 3, none⟩ (.int .i64 e)) := by
  obtain ⟨ao, cap, h1, h2, h3⟩ := h
  have hblk := setCell_blk (j := 3) (v := .int .i64 e) h1
  refine ⟨⟨ao, cap, hblk, h2, owns_setCell h3 (owns_ne_block h3 h1 (by decide))⟩, Mod.setCell (Mod.refl _ w) (fun _ => .inl rfl) _, ?_⟩
  rintro i (rfl | ⟨v, q1, q2⟩) hi
  · exact .inl rfl
  · refine .inr ⟨v, ?_, q2⟩
    rw [cell_of_blk h1]
    rw [cell_of_blk hblk] at q1
    exact q1
def fitsN (x : Nat) (n : Int) : Prop := 0 ≤ n ∧ n ≤ 64 ∧ x < 2 ^ n.toNat
instance (x : Nat) (n : Int) : Decidable (fitsN x n) := by unfold fitsN; infer_instance
end Go.Proofs.Ytonomiljclemnaa
set_option linter.unusedVariables false
set_option linter.unusedSimpArgs false
namespace Go.Proofs.Ytonomiljclemnaa
open Go.RowKit
end Go.Proofs.Ytonomiljclemnaa
set_option linter.unusedVariables false
set_option linter.unusedSimpArgs false
namespace Go.Proofs.Ytonomiljclemnaa
open Go.RowKit
def textBits (s : List UInt8) : List Bool := bitsOf s.length 16 ++ bitsAll s
end Go.Proofs.Ytonomiljclemnaa
set_option linter.unusedVariables false
set_option linter.unusedSimpArgs false
namespace Go.Proofs.Ytonomiljclemnaa
open Go.RowKit
def RdIs (w : World) (B rb : Nat) (l : List UInt8) (at' : Nat) (err : Int) : Prop :=
  ∃ ao cap, w.heap[rb]? = some (.cells #[.bool true, .slice ao l.length cap, .int .i64 (at' : Int), .int .i64 err] 130 (0, 0)) ∧ B ≤ rb ∧
    w.ownsRow B 5 1 (.slice ao l.length cap) l.length (l.map bv) ∧ ∀ k, (Value.slice ao l.length cap).ownBlock = some k → k < rb
section
variable {w : World} {B rb : Nat} {l : List UInt8} {at' : Nat} {err : Int}
theorem RdIs.lt (h : RdIs w B rb l at' err) : rb < w.heap.size := by
  obtain ⟨ao, cap, h1, _⟩ := h
  exact (Array.getElem?_eq_some_iff.1 h1).1
theorem RdIs.ext {w' : World} (h : RdIs w B rb l at' err) (hx : Ext w w') : RdIs w' B rb l at' err := by
  obtain ⟨ao, cap, h1, h2, h3, h4⟩ := h
  exact ⟨ao, cap, (hx.block rb (Array.getElem?_eq_some_iff.1 h1).1 id).trans h1, h2, owns_ext h3 hx, h4⟩
theorem RdIs.mod {F : Nat → Prop} {w' : World} (h : RdIs w B rb l at' err) (hm : Mod F w w') (hF : ∀ k, B ≤ k → ¬ F k) : RdIs w' B rb l at' err := by
  obtain ⟨ao, cap, h1, h2, h3, h4⟩ := h
  exact ⟨ao, cap, (hm.block rb (Array.getElem?_eq_some_iff.1 h1).1 (hF _ h2)).trans h1, h2, owns_mod h3 hm fun k hk => hF k (owns_block h3 hk).1, h4⟩
theorem RdIs.c0 (h : RdIs w B rb l at' err) : w.cell? ⟨rb, 0, none⟩ = some (.bool true) := by
  obtain ⟨ao, cap, h1, _⟩ := h
  rw [cell_of_blk h1]; rfl
theorem RdIs.c2 (h : RdIs w B rb l at' err) : w.cell? ⟨rb, 2, none⟩ = some (.int .i64 (at' : Int)) := by
  obtain ⟨ao, cap, h1, _⟩ := h
  rw [cell_of_blk h1]; rfl
theorem RdIs.c3 (h : RdIs w B rb l at' err) : w.cell? ⟨rb, 3, none⟩ = some (.int .i64 err) := by
  obtain ⟨ao, cap, h1, _⟩ := h
  rw [cell_of_blk h1]; rfl
end
end Go.Proofs.Ytonomiljclemnaa
set_option linter.unusedVariables false
set_option linter.unusedSimpArgs false
namespace Go.Proofs.Ytonomiljclemnaa
open Go.RowKit
end Go.Proofs.Ytonomiljclemnaa

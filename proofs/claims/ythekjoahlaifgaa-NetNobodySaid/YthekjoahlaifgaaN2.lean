/- Contracts of package net: what a net holds, and what each call does to it. -/
import Derived.Test.YthekjoahlaifgaaN1

set_option linter.unusedVariables false
set_option linter.unusedSimpArgs false
namespace Go.Proofs.Ythekjoahlaifgaa
open Go.RowKit

/-- The cells of packets: where to, and the slice of the bytes. -/
def pkCells : List (Int × List UInt8) → List Value → List Value
  | p :: l, b :: bs => .int .i64 p.1 :: b :: pkCells l bs
  | _, _ => []
theorem pkCells_length : ∀ {l : List (Int × List UInt8)} {bs : List Value}, bs.length = l.length → (pkCells l bs).length = l.length * 2
  | [], [], _ => rfl
  | p :: l, b :: bs, h => by
    have := pkCells_length (l := l) (bs := bs) (by simpa using h)
    simp only [pkCells, List.length_cons, this]; omega
theorem pkCells_append : ∀ {l : List (Int × List UInt8)} {bs : List Value} (l' : List (Int × List UInt8)) (bs' : List Value), bs.length = l.length → pkCells (l ++ l') (bs ++ bs') = pkCells l bs ++ pkCells l' bs'
  | [], [], _, _, _ => rfl
  | p :: l, b :: bs, l', bs', h => by
    have := pkCells_append (l := l) (bs := bs) l' bs' (by simpa using h)
    simp [pkCells, this]
theorem pkCells_get : ∀ {l : List (Int × List UInt8)} {bs : List Value} {i : Nat} {p : Int × List UInt8} {b : Value}, l[i]? = some p → bs[i]? = some b →
    (pkCells l bs)[i * 2]? = some (.int .i64 p.1) ∧ (pkCells l bs)[i * 2 + 1]? = some b
  | p :: l, b :: bs, 0, _, _, h1, h2 => by simp at h1 h2; subst h1; subst h2; exact ⟨rfl, rfl⟩
  | p :: l, b :: bs, i + 1, _, _, h1, h2 => by
    have := pkCells_get (l := l) (bs := bs) (i := i) (by simpa using h1) (by simpa using h2)
    rw [show (i + 1) * 2 = i * 2 + 2 by omega]
    simpa [pkCells] using this
  | [], _, _, _, _, h1, _ => by simp at h1
  | _ :: _, [], _, _, _, _, h2 => by simp at h2
theorem pkCells_take : ∀ {l : List (Int × List UInt8)} {bs : List Value} (i : Nat), bs.length = l.length → (pkCells l bs).take (i * 2) = pkCells (l.take i) (bs.take i)
  | l, bs, 0, h => by cases l <;> cases bs <;> rfl
  | [], [], i + 1, _ => by simp [pkCells]
  | p :: l, b :: bs, i + 1, h => by
    have := pkCells_take (l := l) (bs := bs) i (by simpa using h)
    rw [show (i + 1) * 2 = i * 2 + 2 by omega]
    simp [pkCells, this]
theorem pkCells_drop : ∀ {l : List (Int × List UInt8)} {bs : List Value} (i : Nat), bs.length = l.length → (pkCells l bs).drop (i * 2) = pkCells (l.drop i) (bs.drop i)
  | l, bs, 0, h => by simp
  | [], [], i + 1, _ => by simp [pkCells]
  | p :: l, b :: bs, i + 1, h => by
    have := pkCells_drop (l := l) (bs := bs) i (by simpa using h)
    rw [show (i + 1) * 2 = i * 2 + 2 by omega]
    simp [pkCells, this]
theorem pkCells_one {l : List (Int × List UInt8)} {bs : List Value} (hb : ∀ b ∈ bs, b.oneCell' = true) : ∀ u ∈ pkCells l bs, u.oneCell' = true := by
  induction l generalizing bs with
  | nil => intro u hu; cases bs <;> cases hu
  | cons p l ih =>
    cases bs with
    | nil => intro u hu; cases hu
    | cons b bs =>
      intro u hu
      simp only [pkCells, List.mem_cons] at hu
      rcases hu with rfl | rfl | hu
      · rfl
      · exact hb _ (by simp)
      · exact ih (fun b hb' => hb b (by simp [hb'])) u hu

/-- The block of a slice is one of these. -/
def Within (F : Nat → Prop) (v : Value) : Prop := ∀ k, v.ownBlock = some k → F k

/-- The bytes of each packet, each in a row of its own. -/
def BsOwn (w : World) (B : Nat) (F : Nat → Prop) : List (Int × List UInt8) → List Value → Prop
  | [], [] => True
  | p :: l, b :: bs => ((∃ ao cap, b = .slice ao p.2.length cap) ∧ w.ownsRow B 5 1 b p.2.length (p.2.map bv) ∧ Within F b) ∧ BsOwn w B F l bs
  | _, _ => False
theorem BsOwn.length {w : World} {B : Nat} {F : Nat → Prop} : ∀ {l : List (Int × List UInt8)} {bs : List Value}, BsOwn w B F l bs → bs.length = l.length
  | [], [], _ => rfl
  | p :: l, b :: bs, h => by simp [BsOwn.length h.2]
  | [], _ :: _, h => h.elim
  | _ :: _, [], h => h.elim
theorem BsOwn.keep {w w' : World} {B : Nat} {F : Nat → Prop} : ∀ {l : List (Int × List UInt8)} {bs : List Value}, BsOwn w B F l bs →
    (∀ k, B ≤ k → F k → k < w.heap.size → (∃ c fr, w.heap[k]? = some (.cells c 5 fr)) → w'.heap[k]? = w.heap[k]?) → BsOwn w' B F l bs
  | [], [], _, _ => trivial
  | p :: l, b :: bs, h, hk => ⟨⟨h.1.1, owns_keep h.1.2.1 fun k hkb hl => by
      refine hk k (owns_block h.1.2.1 hkb).1 (h.1.2.2 k hkb) hl ?_
      rcases h.1.2.1.2 with ⟨hn, _⟩ | ⟨g, cap, cur, hn, hb, hgg, rest⟩
      · subst hn; cases hkb
      · subst hn; cases hkb; exact ⟨_, _, hgg⟩, h.1.2.2⟩, BsOwn.keep h.2 hk⟩
  | [], _ :: _, h, _ => h.elim
  | _ :: _, [], h, _ => h.elim
theorem BsOwn.mono {w : World} {B : Nat} {F F' : Nat → Prop} (hT : ∀ k, F k → F' k) : ∀ {l : List (Int × List UInt8)} {bs : List Value}, BsOwn w B F l bs → BsOwn w B F' l bs
  | [], [], _ => trivial
  | p :: l, b :: bs, h => ⟨⟨h.1.1, h.1.2.1, fun k hk => hT k (h.1.2.2 k hk)⟩, BsOwn.mono hT h.2⟩
  | [], _ :: _, h => h.elim
  | _ :: _, [], h => h.elim
theorem BsOwn.append {w : World} {B : Nat} {F : Nat → Prop} : ∀ {l : List (Int × List UInt8)} {bs : List Value} {l' : List (Int × List UInt8)} {bs' : List Value}, BsOwn w B F l bs → BsOwn w B F l' bs' → BsOwn w B F (l ++ l') (bs ++ bs')
  | [], [], _, _, _, h' => h'
  | p :: l, b :: bs, _, _, h, h' => ⟨h.1, BsOwn.append h.2 h'⟩
  | [], _ :: _, _, _, h, _ => h.elim
  | _ :: _, [], _, _, h, _ => h.elim
theorem BsOwn.take {w : World} {B : Nat} {F : Nat → Prop} : ∀ {l : List (Int × List UInt8)} {bs : List Value} (i : Nat), BsOwn w B F l bs → BsOwn w B F (l.take i) (bs.take i)
  | _, _, 0, _ => trivial
  | [], [], i + 1, _ => trivial
  | p :: l, b :: bs, i + 1, h => ⟨h.1, BsOwn.take i h.2⟩
  | [], _ :: _, _ + 1, h => h.elim
  | _ :: _, [], _ + 1, h => h.elim
theorem BsOwn.drop {w : World} {B : Nat} {F : Nat → Prop} : ∀ {l : List (Int × List UInt8)} {bs : List Value} (i : Nat), BsOwn w B F l bs → BsOwn w B F (l.drop i) (bs.drop i)
  | _, _, 0, h => h
  | [], [], i + 1, _ => trivial
  | p :: l, b :: bs, i + 1, h => BsOwn.drop (w := w) (l := l) (bs := bs) i h.2
  | [], _ :: _, _ + 1, h => h.elim
  | _ :: _, [], _ + 1, h => h.elim
theorem BsOwn.get {w : World} {B : Nat} {F : Nat → Prop} : ∀ {l : List (Int × List UInt8)} {bs : List Value} {i : Nat} {p : Int × List UInt8}, BsOwn w B F l bs → l[i]? = some p →
    ∃ b ao cap, bs[i]? = some b ∧ b = .slice ao p.2.length cap ∧ w.ownsRow B 5 1 b p.2.length (p.2.map bv) ∧ Within F b
  | p :: l, b :: bs, 0, _, h, h1 => by simp at h1; subst h1; obtain ⟨ao, cap, hb⟩ := h.1.1; exact ⟨b, ao, cap, rfl, hb, h.1.2⟩
  | p :: l, b :: bs, i + 1, _, h, h1 => BsOwn.get (l := l) (bs := bs) (i := i) h.2 (by simpa using h1)
  | [], _, _, _, _, h1 => by simp at h1
  | _ :: _, [], _, _, h, _ => h.elim
theorem BsOwn.one {w : World} {B : Nat} {F : Nat → Prop} : ∀ {l : List (Int × List UInt8)} {bs : List Value}, BsOwn w B F l bs → ∀ b ∈ bs, b.oneCell' = true
  | [], [], _ => fun b h => by cases h
  | p :: l, b :: bs, h => fun b' hb' => by
    rcases List.mem_cons.1 hb' with rfl | hb'
    · obtain ⟨ao, cap, rfl⟩ := h.1.1; rfl
    · exact BsOwn.one h.2 b' hb'
  | [], _ :: _, h => h.elim
  | _ :: _, [], h => h.elim

end Go.Proofs.Ythekjoahlaifgaa

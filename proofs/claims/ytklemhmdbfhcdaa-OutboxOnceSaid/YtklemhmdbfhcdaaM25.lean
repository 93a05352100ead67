/- MsgChecks, the plain law: small parts. -/
import Derived.Test.YtklemhmdbfhcdaaM17
import Derived.Test.YtklemhmdbfhcdaaM12


set_option linter.unusedVariables false
set_option linter.unusedSimpArgs false
namespace Go.Proofs.Ytklemhmdbfhcdaa
open Go.RowKit

theorem shortS_idem (s : ByteArray) (n : Nat) : shortS (shortS s n) n = shortS s n := by
  have h : ¬ n < (shortS s n).size := by
    unfold shortS
    split
    · rw [ByteArray.size_extract]; omega
    · assumption
  rw [shortS, if_neg h]
theorem cutE_idem (d : Ent) : cutE (cutE d) = cutE d := by
  show (⟨shortS (shortS d.nm 20) 20, d.ino, d.gen, d.kind⟩ : Ent) = _
  rw [shortS_idem]; rfl
theorem shortL_idem (l : List Ent) : shortL (shortL l) = shortL l := by
  unfold shortL
  rw [List.take_of_length_le (by rw [List.length_map, List.length_take]; omega), List.map_map]
  exact List.map_congr_left fun d _ => cutE_idem d
theorem namedB_eq (s : ByteArray) : namedB s = nameB s := by
  unfold namedB
  cases nameB s <;> rfl
theorem fileB_eq (x y : Int) : fileB x y = rfileB x y := by
  rw [Bool.eq_iff_iff]
  simp [fileB, rfileB]
  omega
theorem countB_eq (x : Int) : countB x = rcountB x := by
  rw [Bool.eq_iff_iff]
  simp [countB, rcountB]
  omega
theorem twoB_eq (x : Int) : twoB x = (x == 1 || x == 2) := rfl
theorem entryB_eq (nm : ByteArray) (a b c : Int) : entryB nm a b c = refEntB nm a b c := by
  have two : twoB c = (decide (c > 0) && decide (c < 3)) := by
    rw [Bool.eq_iff_iff]
    simp [twoB]
    omega
  simp only [entryB, refEntB, namedB_eq, fileB_eq, two, rfileB, Bool.and_assoc]
theorem checkI_04 (m : Msg) : checkI m = 0 ∨ checkI m = 4 := by
  unfold checkI
  cases m.ty == 1 <;> cases m.ty == 2 <;> cases m.ty == 3 <;> cases req2 m <;> cases rep2 m <;> cases rec2 m <;> decide
theorem head8 (m : Msg) (h : m.cl = 8) : checkI m = 4 := by
  have hh : headB m = false := by
    unfold headB
    rw [h]
    rfl
  unfold checkI req2 rep2 rec2 req1 rep1 rec1
  rw [hh]
  cases m.ty == 1 <;> cases m.ty == 2 <;> cases m.ty == 3 <;> rfl
end Go.Proofs.Ytklemhmdbfhcdaa

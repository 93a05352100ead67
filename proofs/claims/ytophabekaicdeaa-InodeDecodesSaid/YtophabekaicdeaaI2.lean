/- inode: which sector any inode is. -/
import Derived.Test.YtophabekaicdeaaI1

set_option linter.unusedVariables false
set_option linter.unusedSimpArgs false
namespace Go.Proofs.Ytophabekaicdeaa
open Go.RowKit

def encW (x : Ino) : WS := ((((((((((WS.new.put (u64 x.kd) 2).put (u64 x.gn) 31).put x.ve 40).put (u64 x.b0) 12).put (u64 x.b1) 12).put (u64 x.b2) 12).put (u64 x.b3) 12).put (u64 x.b4) 12).put (u64 x.b5) 12).put (u64 x.b6) 12).put (u64 x.b7) 12
/-- Noughts behind, up to a sector. -/
def padS (l : List UInt8) : List UInt8 := l ++ List.replicate (IntKind.i64.wrap (128 - (l.length : Int))).toNat 0
def encL (x : Ino) : List UInt8 := cond (!rightB x) [] (cond ((encW x).err != 0) [] (padS (encW x).out))
def encE (x : Ino) : Int := cond (!rightB x) 2 (cond ((encW x).err != 0) 2 0)
theorem cond_own (b : Bool) (x y : List UInt8) : (cond b (.own x) (.own y) : Tu) = .own (cond b x y) := by cases b <;> rfl
theorem WS.put_le {s : WS} (h : s.bl.length ≤ s.n) (x n : Int) : (s.put x n).bl.length ≤ (s.put x n).n := WS.put_len h x n
theorem out_len {s : WS} (h : s.bl.length ≤ s.n) : s.out.length ≤ (s.n + 7) / 8 := by
  unfold WS.out
  split
  · rw [packed_length]; omega
  · exact Nat.zero_le _
theorem pad_ok {l : List UInt8} (h : l.length ≤ 128) : 0 ≤ IntKind.i64.wrap (128 - (l.length : Int)) ∧ l.length + (IntKind.i64.wrap (128 - (l.length : Int))).toNat ≤ 1000000 := by
  rw [IntWalk.i64_in _ (by omega)]
  omega
theorem encW_len (x : Ino) : (encW x).out.length ≤ 128 := by
  have : (encW x).bl.length ≤ (encW x).n := by
    unfold encW
    repeat' apply WS.put_le
    exact Nat.le_refl _
  exact Nat.le_trans (out_len this) (show (704 + 7) / 8 ≤ 128 by decide)
set_option maxRecDepth 100000 in
theorem ienc_c (kd gn ve b0 b1 b2 b3 b4 b5 b6 b7 : Int) (h0 : 0 ≤ ve ∧ ve < 18446744073709551616) (w : World) : Calls Try.prog 13 #[.agg #[.int .i64 kd, .int .i64 gn, .int .u64 ve, .int .i64 b0, .int .i64 b1, .int .i64 b2, .int .i64 b3, .int .i64 b4, .int .i64 b5, .int .i64 b6, .int .i64 b7]] w fun x w' => ∃ v v0, x = .returned v ∧ (.tup [.one (.obj 0), .one (.v (.int .i64 (encE (⟨kd, gn, ve, b0, b1, b2, b3, b4, b5, b6, b7⟩ : Ino))))] : SV).is [v0] v ∧ Ext w w' ∧ Iu.holds (.own (encL (⟨kd, gn, ve, b0, b1, b2, b3, b4, b5, b6, b7⟩ : Ino))) w' v0 ∧ ∀ k, Iu.foot (.own (encL (⟨kd, gn, ve, b0, b1, b2, b3, b4, b5, b6, b7⟩ : Ino))) w' v0 k → w.heap.size ≤ k ∧ k < w'.heap.size :=
  by
  have h := conN (S := (⟨Try.prog, [F_right, F_unsigned, (F_new (hx := hz) : Nat × Fn2 Tu), (F_put (hx := hz) : Nat × Fn2 Tu), (F_done (hx := hz) : Nat × Fn2 Tu)], [], thHo hz, Iu.one, 40⟩ : Sy Tu)) (I := Iu) (L := []) (args := [.agg [.v (.int .i64 kd), .v (.int .i64 gn), .v (.int .u64 ve), .v (.int .i64 b0), .v (.int .i64 b1), .v (.int .i64 b2), .v (.int .i64 b3), .v (.int .i64 b4), .v (.int .i64 b5), .v (.int .i64 b6), .v (.int .i64 b7)]]) (us := [.agg #[.int .i64 kd, .int .i64 gn, .int .u64 ve, .int .i64 b0, .int .i64 b1, .int .i64 b2, .int .i64 b3, .int .i64 b4, .int .i64 b5, .int .i64 b6, .int .i64 b7]]) (SyOk.mk2 Try.mixed (thHo_ok hz) (FnsR.cons F_right_ok (FnsR.cons F_unsigned_ok (FnsR.cons (F_new_ok (J := noI) (hx := hz)) (FnsR.cons (F_put_ok (J := noI) (hx := hz)) (FnsR.cons (F_done_ok (J := noI) (hx := hz)) (FnsR.nil)))))) (EqsOk.nil)) Try.func13 (by kernel_rfl) (LpsOk.nil _) (args_nil Iu w) (⟨⟨[.int .i64 kd, .int .i64 gn, .int .u64 ve, .int .i64 b0, .int .i64 b1, .int .i64 b2, .int .i64 b3, .int .i64 b4, .int .i64 b5, .int .i64 b6, .int .i64 b7], ⟨rfl, rfl, rfl, rfl, rfl, rfl, rfl, rfl, rfl, rfl, rfl, trivial⟩, rfl⟩, trivial⟩) (by kernel_rfl) nil_u (.tup [.one (.obj 0)]) (r := .tup [.one (.obj 0), .one (.v (.int .i64 (encE (⟨kd, gn, ve, b0, b1, b2, b3, b4, b5, b6, b7⟩ : Ino))))]) (b := cond (!rightB (⟨kd, gn, ve, b0, b1, b2, b3, b4, b5, b6, b7⟩ : Ino)) (.own []) (cond ((encW (⟨kd, gn, ve, b0, b1, b2, b3, b4, b5, b6, b7⟩ : Ino)).err != 0) (.own []) (.own (padS (encW (⟨kd, gn, ve, b0, b1, b2, b3, b4, b5, b6, b7⟩ : Ino)).out)))) (by kernel_rfl) [(!rightB (Ino.mk kd gn ve b0 b1 b2 b3 b4 b5 b6 b7)) = false → (0 : Int) ≤ ve ∧ ve < (18446744073709551616 : Int), (!rightB (Ino.mk kd gn ve b0 b1 b2 b3 b4 b5 b6 b7)) = false → (0 : Int) ≤ u64 gn ∧ u64 gn < (18446744073709551616 : Int), (!rightB (Ino.mk kd gn ve b0 b1 b2 b3 b4 b5 b6 b7)) = false → (0 : Int) ≤ u64 kd ∧ u64 kd < (18446744073709551616 : Int), (!rightB (Ino.mk kd gn ve b0 b1 b2 b3 b4 b5 b6 b7)) = false → (0 : Int) ≤ u64 b0 ∧ u64 b0 < (18446744073709551616 : Int), (!rightB (Ino.mk kd gn ve b0 b1 b2 b3 b4 b5 b6 b7)) = false → (0 : Int) ≤ u64 b1 ∧ u64 b1 < (18446744073709551616 : Int), (!rightB (Ino.mk kd gn ve b0 b1 b2 b3 b4 b5 b6 b7)) = false → (0 : Int) ≤ u64 b2 ∧ u64 b2 < (18446744073709551616 : Int), (!rightB (Ino.mk kd gn ve b0 b1 b2 b3 b4 b5 b6 b7)) = false → (0 : Int) ≤ u64 b3 ∧ u64 b3 < (18446744073709551616 : Int), (!rightB (Ino.mk kd gn ve b0 b1 b2 b3 b4 b5 b6 b7)) = false → (0 : Int) ≤ u64 b4 ∧ u64 b4 < (18446744073709551616 : Int), (!rightB (Ino.mk kd gn ve b0 b1 b2 b3 b4 b5 b6 b7)) = false → (0 : Int) ≤ u64 b5 ∧ u64 b5 < (18446744073709551616 : Int), (!rightB (Ino.mk kd gn ve b0 b1 b2 b3 b4 b5 b6 b7)) = false → (0 : Int) ≤ u64 b6 ∧ u64 b6 < (18446744073709551616 : Int), (!rightB (Ino.mk kd gn ve b0 b1 b2 b3 b4 b5 b6 b7)) = false → (0 : Int) ≤ u64 b7 ∧ u64 b7 < (18446744073709551616 : Int), (!rightB (Ino.mk kd gn ve b0 b1 b2 b3 b4 b5 b6 b7)) = false → ((((((((((((WS.new.put (u64 kd) (↑2 : Int)).put (u64 gn) (↑31 : Int)).put ve (↑40 : Int)).put (u64 b0) (↑12 : Int)).put (u64 b1) (↑12 : Int)).put (u64 b2) (↑12 : Int)).put (u64 b3) (↑12 : Int)).put (u64 b4) (↑12 : Int)).put (u64 b5) (↑12 : Int)).put (u64 b6) (↑12 : Int)).put (u64 b7) (↑12 : Int)).err != (0 : Int)) = false → (0 : Int) ≤ IntKind.i64.wrap ((128 : Int) - (↑(((((((((((WS.new.put (u64 kd) (↑2 : Int)).put (u64 gn) (↑31 : Int)).put ve (↑40 : Int)).put (u64 b0) (↑12 : Int)).put (u64 b1) (↑12 : Int)).put (u64 b2) (↑12 : Int)).put (u64 b3) (↑12 : Int)).put (u64 b4) (↑12 : Int)).put (u64 b5) (↑12 : Int)).put (u64 b6) (↑12 : Int)).put (u64 b7) (↑12 : Int)).out.length : Int)), (!rightB (Ino.mk kd gn ve b0 b1 b2 b3 b4 b5 b6 b7)) = false → ((((((((((((WS.new.put (u64 kd) (↑2 : Int)).put (u64 gn) (↑31 : Int)).put ve (↑40 : Int)).put (u64 b0) (↑12 : Int)).put (u64 b1) (↑12 : Int)).put (u64 b2) (↑12 : Int)).put (u64 b3) (↑12 : Int)).put (u64 b4) (↑12 : Int)).put (u64 b5) (↑12 : Int)).put (u64 b6) (↑12 : Int)).put (u64 b7) (↑12 : Int)).err != (0 : Int)) = false → (((((((((((WS.new.put (u64 kd) (↑2 : Int)).put (u64 gn) (↑31 : Int)).put ve (↑40 : Int)).put (u64 b0) (↑12 : Int)).put (u64 b1) (↑12 : Int)).put (u64 b2) (↑12 : Int)).put (u64 b3) (↑12 : Int)).put (u64 b4) (↑12 : Int)).put (u64 b5) (↑12 : Int)).put (u64 b6) (↑12 : Int)).put (u64 b7) (↑12 : Int)).out.length + (IntKind.i64.wrap ((128 : Int) - (↑(((((((((((WS.new.put (u64 kd) (↑2 : Int)).put (u64 gn) (↑31 : Int)).put ve (↑40 : Int)).put (u64 b0) (↑12 : Int)).put (u64 b1) (↑12 : Int)).put (u64 b2) (↑12 : Int)).put (u64 b3) (↑12 : Int)).put (u64 b4) (↑12 : Int)).put (u64 b5) (↑12 : Int)).put (u64 b6) (↑12 : Int)).put (u64 b7) (↑12 : Int)).out.length : Int))).toNat ≤ (1000000 : Nat)] (by kernel_rfl) ((by
    repeat' (first | exact mnil | refine mcons ?_ ?_)
    all_goals first
      | exact fun _ => u64_in _
      | exact fun _ => h0
      | exact fun _ _ => (pad_ok (encW_len (⟨kd, gn, ve, b0, b1, b2, b3, b4, b5, b6, b7⟩ : Ino))).1
      | exact fun _ _ => (pad_ok (encW_len (⟨kd, gn, ve, b0, b1, b2, b3, b4, b5, b6, b7⟩ : Ino))).2
    ))
  rw [cond_own, cond_own] at h
  exact h
def F_ienc : Nat × Fn2 Tu := (13, rowNV (hardT hz) fun us => match us with | [.agg ⟨[.int .i64 kd, .int .i64 gn, .int .u64 ve, .int .i64 b0, .int .i64 b1, .int .i64 b2, .int .i64 b3, .int .i64 b4, .int .i64 b5, .int .i64 b6, .int .i64 b7]⟩] => some ([0 ≤ ve ∧ ve < 18446744073709551616], .tup [.one (.obj 0), .one (.v (.int .i64 (encE (⟨kd, gn, ve, b0, b1, b2, b3, b4, b5, b6, b7⟩ : Ino))))], .own (encL (⟨kd, gn, ve, b0, b1, b2, b3, b4, b5, b6, b7⟩ : Ino))) | _ => none)
theorem F_ienc_ok : RowOk Try.prog Iu (hardT hz) F_ienc.1 F_ienc.2 := by
  refine rowNV_ok Try.call13 fun vs ps r b hs hp w => ?_
  split at hs
  · simp only [Option.some.injEq, Prod.mk.injEq] at hs
    obtain ⟨rfl, rfl, rfl⟩ := hs
    exact ienc_c _ _ _ _ _ _ _ _ _ _ _ (hp _ (by simp)) w
  · cases hs


end Go.Proofs.Ytophabekaicdeaa

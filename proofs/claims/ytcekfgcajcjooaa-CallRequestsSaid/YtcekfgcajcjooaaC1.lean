/- What is to be done next: contracts of both texts. -/
import Derived.Test.YtcekfgcajcjooaaBase
import Derived.Test.YtcekfgcajcjooaaG0



set_option linter.unusedVariables false
set_option linter.unusedSimpArgs false
namespace Go.Proofs.Ytcekfgcajcjooaa
open Go.RowKit

/-- What is to be done next, by the table. -/
def nextI (k m : Int) (live kept room dirty lost : Bool) : Int :=
  if 1 ≤ k ∧ k ≤ 6 then 1
  else if k = 7 then (if m = 0 then 2 else if live = false then 4 else if kept = true then 5 else 6)
  else if k = 8 then (if m ≠ 2 then 3 else if live = false then 4 else if room = true then 5 else 7)
  else if k = 9 then (if m ≠ 2 then 3 else if dirty = true then 8 else 9)
  else if k = 10 ∨ k = 11 then (if dirty = true then 8 else if k = 11 ∧ m ≠ 0 then 10 else if lost = true then 11 else 12)
  else 0

set_option maxRecDepth 100000 in
set_option maxHeartbeats 4000000 in
theorem rnext_c (k m : Int) (live kept room dirty lost : Bool) (w : World) :
    Calls Try.prog 18 #[.int .i64 k, .int .i64 m, .bool live, .bool kept, .bool room, .bool dirty, .bool lost] w fun r w' => r = .returned (.int .i64 (nextI k m live kept room dirty lost)) ∧ w' = w := by
  go_enter Try.func18, Try.ntmps18
  go_wp2_with fail
  all_goals
    go_ret
    refine ⟨congrArg (fun x => Ending.returned (Value.int .i64 x)) ?_, rfl⟩
    unfold nextI
    simp_all
    try omega

theorem either_c (b : Bool) (x y : Int) (w : World) :
    Calls Try.prog 38 #[.bool b, .int .i64 x, .int .i64 y] w fun r w' => r = .returned (.int .i64 (if b = true then x else y)) ∧ w' = w := by
  go_enter Try.func38, Try.ntmps38
  go_wp2_with fail
  all_goals
    go_ret
    exact ⟨by simp_all, rfl⟩

set_option maxRecDepth 100000 in
set_option maxHeartbeats 8000000 in
theorem next_c (k m f1 f2 d1 d2 a : Int) (n o t : ByteArray) (live kept room dirty lost : Bool) (w : World) :
    Calls Try.prog 17 #[.agg #[.int .i64 k, .int .i64 f1, .int .i64 f2, .int .i64 d1, .int .i64 d2, .string n, .string o, .int .i64 a, .string t], .agg #[.int .i64 m, .bool live, .bool kept, .bool room, .bool dirty, .bool lost]] w
      fun r w' => r = .returned (.int .i64 (nextI k m live kept room dirty lost)) ∧ Ext w w' := by
  have HE := Lib.hid (fun b x y w => either_c b x y w)
  go_enter Try.func17, Try.ntmps17
  go_wp2_with ((with_reducible refine (HE.out _ _ _ _).mono ?_); rintro e w1 ⟨rfl, rfl⟩)
  all_goals
    go_ret
    refine ⟨congrArg (fun x => Ending.returned (Value.int .i64 x)) ?_, ((Ext.refl w).alloc _).alloc _⟩
    clear HE
    unfold nextI
    first
      | (simp_all; done)
      | (simp_all; omega)
      | (repeat (split <;> try simp_all)
         all_goals omega)

end Go.Proofs.Ytcekfgcajcjooaa

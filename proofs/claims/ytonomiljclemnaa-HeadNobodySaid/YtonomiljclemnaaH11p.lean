/- H11. -/
import Derived.Test.YtonomiljclemnaaH10p
set_option linter.unusedVariables false
set_option linter.unusedSimpArgs false
namespace Go.Proofs.Ytonomiljclemnaa
open Go.RowKit
def wrE (n i : Int) (len : Int) (off fd : Bool) (fu : Int) : Int := bif wrongI n i != 0 then wrongI n i else bif len != 128 then 2 else bif stOff off fd fu then 7 else 0
def wrB (n i : Int) (len : Int) : Bool := wrongI n i == 0 && len == 128
def wrFu (n i : Int) (len : Int) (off fd : Bool) (fu : Int) : Int := bif wrB n i len then stFu off fd fu else fu
def wrOff (n i : Int) (len : Int) (off fd : Bool) (fu : Int) : Bool := bif wrB n i len then stOff off fd fu else off
def wrQ (Q : List (Int × List UInt8)) (n i : Int) (b : List UInt8) (off fd : Bool) (fu : Int) : List (Int × List UInt8) := bif wrB n i (b.length : Int) && !stOff off fd fu then Q ++ [(i, b)] else Q
set_option maxRecDepth 100000 in
theorem wrong_w0 (L : List (List UInt8)) (Q : List (Int × List UInt8)) (fu : Int) (fd off : Bool) (i : Int) (h0 : ((L.length : Int) == 0) = true) : ∃ qs, wayV ((runFn (⟨Try.prog, [(33, ctrV C_size hardD)], [], dkHo, Id'.one, 60⟩ : Sy Td) [] Try.f41 [.one (.ptr 0 0), .one (.v (.int .i64 i))] (roM [⟨.bx [.obj 1, .obj 2, .v (.int .i64 fu), .v (.bool fd), .v (.bool off)], true⟩, ⟨.us (.ext (.flat (.secs L))), true⟩, ⟨.us (.ext (.flat (.pens Q))), true⟩])).al [true]) (fun u => u = .int .i64 (wrongI (L.length : Int) i)) = some qs ∧ ∀ q ∈ qs, q :=
  ⟨[Value.int IntKind.i64 (Int.ofNat 1) = Value.int IntKind.i64 (wrongI (↑L.length : Int) i), ((↑L.length : Int) == (0 : Int)) = true], by kernel_rfl, (by refine mcons ?_ (mcons ?_ mnil) <;> first | rfl | exact h0 | trivial | (simp only [wrongI, h0, h1, cond_true, cond_false]; done) | (simp only [wrongI, h0, h1, cond_true, cond_false]; rfl) | (simp [wrongI, h0, h1]; done) | (simp only [wrongI, h0, cond_true, cond_false]; done) | (simp only [wrongI, h0, cond_true, cond_false]; rfl) | (simp [wrongI, h0]; done))⟩
set_option maxRecDepth 100000 in
theorem wrong_w1 (L : List (List UInt8)) (Q : List (Int × List UInt8)) (fu : Int) (fd off : Bool) (i : Int) (h0 : ((L.length : Int) == 0) = false) (h1 : (decide (i < 0) || decide (i ≥ (L.length : Int))) = true) : ∃ qs, wayV ((runFn (⟨Try.prog, [(33, ctrV C_size hardD)], [], dkHo, Id'.one, 60⟩ : Sy Td) [] Try.f41 [.one (.ptr 0 0), .one (.v (.int .i64 i))] (roM [⟨.bx [.obj 1, .obj 2, .v (.int .i64 fu), .v (.bool fd), .v (.bool off)], true⟩, ⟨.us (.ext (.flat (.secs L))), true⟩, ⟨.us (.ext (.flat (.pens Q))), true⟩])).al [false, true]) (fun u => u = .int .i64 (wrongI (L.length : Int) i)) = some qs ∧ ∀ q ∈ qs, q :=
  ⟨[Value.int IntKind.i64 (Int.ofNat 2) = Value.int IntKind.i64 (wrongI (↑L.length : Int) i), ((↑L.length : Int) == (0 : Int)) = false, (decide (i < (0 : Int)) || decide (i ≥ (↑(FL.secs L).n : Int))) = true], by kernel_rfl, (by refine mcons ?_ (mcons ?_ (mcons ?_ mnil)) <;> first | rfl | exact h0 | exact h1 | trivial | (simp only [wrongI, h0, h1, cond_true, cond_false]; done) | (simp only [wrongI, h0, h1, cond_true, cond_false]; rfl) | (simp [wrongI, h0, h1]; done) | (simp only [wrongI, h0, cond_true, cond_false]; done) | (simp only [wrongI, h0, cond_true, cond_false]; rfl) | (simp [wrongI, h0]; done))⟩
set_option maxRecDepth 100000 in
theorem wrong_w2 (L : List (List UInt8)) (Q : List (Int × List UInt8)) (fu : Int) (fd off : Bool) (i : Int) (h0 : ((L.length : Int) == 0) = false) (h1 : (decide (i < 0) || decide (i ≥ (L.length : Int))) = false) : ∃ qs, wayV ((runFn (⟨Try.prog, [(33, ctrV C_size hardD)], [], dkHo, Id'.one, 60⟩ : Sy Td) [] Try.f41 [.one (.ptr 0 0), .one (.v (.int .i64 i))] (roM [⟨.bx [.obj 1, .obj 2, .v (.int .i64 fu), .v (.bool fd), .v (.bool off)], true⟩, ⟨.us (.ext (.flat (.secs L))), true⟩, ⟨.us (.ext (.flat (.pens Q))), true⟩])).al [false, false]) (fun u => u = .int .i64 (wrongI (L.length : Int) i)) = some qs ∧ ∀ q ∈ qs, q :=
  ⟨[Value.int IntKind.i64 (Int.ofNat 0) = Value.int IntKind.i64 (wrongI (↑L.length : Int) i), ((↑L.length : Int) == (0 : Int)) = false, (decide (i < (0 : Int)) || decide (i ≥ (↑(FL.secs L).n : Int))) = false], by kernel_rfl, (by refine mcons ?_ (mcons ?_ (mcons ?_ mnil)) <;> first | rfl | exact h0 | exact h1 | trivial | (simp only [wrongI, h0, h1, cond_true, cond_false]; done) | (simp only [wrongI, h0, h1, cond_true, cond_false]; rfl) | (simp [wrongI, h0, h1]; done) | (simp only [wrongI, h0, cond_true, cond_false]; done) | (simp only [wrongI, h0, cond_true, cond_false]; rfl) | (simp [wrongI, h0]; done))⟩
def C_wrong : CtrV Td := fun us sub => match us, sub with
  | [.one (.ptr 0 0), .one (.v (.int .i64 i))], [⟨.bx [.obj 1, .obj 2, .v (.int .i64 fu), .v (.bool fd), .v (.bool off)], false⟩, ⟨.us (.ext (.flat (.secs L))), false⟩, ⟨.us (.ext (.flat (.pens Q))), false⟩] => some ([], .int .i64 (wrongI (L.length : Int) i))
  | _, _ => none
set_option maxRecDepth 100000 in
theorem C_wrong_ok : CtrVOk Try.prog Id' 41 C_wrong := by
  intro us sub ps x h hp w e vs hM ha
  unfold C_wrong at h
  split at h
  · rename_i i fu fd off L Q
    simp only [Option.some.injEq, Prod.mk.injEq] at h
    obtain ⟨rfl, rfl⟩ := h
    rcases Bool.eq_false_or_eq_true ((L.length : Int) == 0) with h0 | h0
    · exact ctrv_way (I := Id') (fun (W0 : World) (G : Nat → Prop) => SyOk.mk2 Try.mixed dkHo_ok (FnsR.cons (R_size) (FnsR.nil)) EqsOk.nil) rfl Try.func41 (by kernel_rfl) (fun _ _ => LpsOk.nil _) (cs := [true]) (by kernel_rfl) (wrong_w0 L Q fu fd off i h0) w e vs hM ha
    · rcases Bool.eq_false_or_eq_true (decide (i < 0) || decide (i ≥ (L.length : Int))) with h1 | h1
      · exact ctrv_way (I := Id') (fun (W0 : World) (G : Nat → Prop) => SyOk.mk2 Try.mixed dkHo_ok (FnsR.cons (R_size) (FnsR.nil)) EqsOk.nil) rfl Try.func41 (by kernel_rfl) (fun _ _ => LpsOk.nil _) (cs := [false, true]) (by kernel_rfl) (wrong_w1 L Q fu fd off i h0 h1) w e vs hM ha
      · exact ctrv_way (I := Id') (fun (W0 : World) (G : Nat → Prop) => SyOk.mk2 Try.mixed dkHo_ok (FnsR.cons (R_size) (FnsR.nil)) EqsOk.nil) rfl Try.func41 (by kernel_rfl) (fun _ _ => LpsOk.nil _) (cs := [false, false]) (by kernel_rfl) (wrong_w2 L Q fu fd off i h0 h1) w e vs hM ha
  · cases h
theorem R_wrong : RowOk Try.prog Id' hardD 41 (ctrV C_wrong hardD) := ctrV_ok Try.call41 C_wrong_ok
end Go.Proofs.Ytonomiljclemnaa

/- disk: how much is kept. -/
import Derived.Test.YtonomiljclemnaaH16

set_option linter.unusedVariables false
set_option linter.unusedSimpArgs false
namespace Go.Proofs.Ytonomiljclemnaa
open Go.RowKit

def kpI (q : Int) (i tn : Int) (ks : List Int) : Int := bif (i == IntKind.i64.wrap (q - 1) && decide (tn > 0) && decide (tn < 128)) then tn else bif (decide (i < (ks.length : Int)) && ks.getD i.toNat 0 != 0) then 128 else 0
set_option maxRecDepth 100000 in
theorem kept_w0 (L : List (List UInt8)) (Q : List (Int × List UInt8)) (fu : Int) (fd off : Bool) (i tn : Int) (ks : List Int) (h0 : (i == IntKind.i64.wrap ((Q.length : Int) - 1) && decide (tn > 0) && decide (tn < 128)) = true) (h1 : 0 ≤ i) : ∃ qs, wayV ((runFn (⟨Try.prog, [], [], dkHo, Id'.one, 60⟩ : Sy Td) [] Try.f42 [.one (.ptr 0 0), .one (.v (.int .i64 i)), .one (.obj 3), .one (.v (.int .i64 tn))] (roM [⟨.bx [.obj 1, .obj 2, .v (.int .i64 fu), .v (.bool fd), .v (.bool off)], true⟩, ⟨.us (.ext (.flat (.secs L))), true⟩, ⟨.us (.ext (.flat (.pens Q))), true⟩, ⟨.us (.ext (.nums ks)), true⟩])).al [true]) (fun u => u = .int .i64 (kpI (Q.length : Int) i tn ks)) = some qs ∧ ∀ q ∈ qs, q :=
  ⟨[Value.int IntKind.i64 tn = Value.int IntKind.i64 (kpI (↑Q.length : Int) i tn ks), (i == IntKind.i64.wrap ((↑(FL.pens Q).n : Int) - (1 : Int)) && decide (tn > (0 : Int)) && decide (tn < (128 : Int))) = true], by kernel_rfl, (by refine mcons ?_ (mcons ?_ mnil) <;> first | rfl | exact h0 | exact h1 | trivial | (exact fun h => ⟨by omega, by simp only [decide_eq_true_eq] at h; show i.toNat < ks.length; omega⟩) | (simp only [kpI, h0, h1, h2, cond_true, cond_false]; done) | (simp only [kpI, h0, h1, h2, cond_true, cond_false]; rfl) | (simp [kpI, h0, h1, h2]; done) | (simp only [kpI, h0, h1, cond_true, cond_false]; done) | (simp only [kpI, h0, h1, cond_true, cond_false]; rfl) | (simp [kpI, h0, h1]; done) | (simp only [kpI, h0, cond_true, cond_false]; done) | (simp only [kpI, h0, cond_true, cond_false]; rfl) | (simp [kpI, h0]; done))⟩
set_option maxRecDepth 100000 in
theorem kept_w1 (L : List (List UInt8)) (Q : List (Int × List UInt8)) (fu : Int) (fd off : Bool) (i tn : Int) (ks : List Int) (h0 : (i == IntKind.i64.wrap ((Q.length : Int) - 1) && decide (tn > 0) && decide (tn < 128)) = false) (h1 : (decide (i < (ks.length : Int)) && ks.getD i.toNat 0 != 0) = true) (h2 : 0 ≤ i) : ∃ qs, wayV ((runFn (⟨Try.prog, [], [], dkHo, Id'.one, 60⟩ : Sy Td) [] Try.f42 [.one (.ptr 0 0), .one (.v (.int .i64 i)), .one (.obj 3), .one (.v (.int .i64 tn))] (roM [⟨.bx [.obj 1, .obj 2, .v (.int .i64 fu), .v (.bool fd), .v (.bool off)], true⟩, ⟨.us (.ext (.flat (.secs L))), true⟩, ⟨.us (.ext (.flat (.pens Q))), true⟩, ⟨.us (.ext (.nums ks)), true⟩])).al [false, true]) (fun u => u = .int .i64 (kpI (Q.length : Int) i tn ks)) = some qs ∧ ∀ q ∈ qs, q :=
  ⟨[Value.int IntKind.i64 (Int.ofNat 128) = Value.int IntKind.i64 (kpI (↑Q.length : Int) i tn ks), (i == IntKind.i64.wrap ((↑(FL.pens Q).n : Int) - (1 : Int)) && decide (tn > (0 : Int)) && decide (tn < (128 : Int))) = false, (decide (i < (↑ks.length : Int)) && true) = true → (0 : Int) ≤ i ∧ i.toNat < ks.length, (decide (i < (↑ks.length : Int)) && ks.getD i.toNat (0 : Int) != (0 : Int)) = true], by kernel_rfl, (by refine mcons ?_ (mcons ?_ (mcons ?_ (mcons ?_ mnil))) <;> first | rfl | exact h0 | exact h1 | exact h2 | trivial | (exact fun h => ⟨by omega, by simp only [decide_eq_true_eq] at h; show i.toNat < ks.length; omega⟩) | (simp only [kpI, h0, h1, h2, cond_true, cond_false]; done) | (simp only [kpI, h0, h1, h2, cond_true, cond_false]; rfl) | (simp [kpI, h0, h1, h2]; done) | (simp only [kpI, h0, h1, cond_true, cond_false]; done) | (simp only [kpI, h0, h1, cond_true, cond_false]; rfl) | (simp [kpI, h0, h1]; done) | (simp only [kpI, h0, cond_true, cond_false]; done) | (simp only [kpI, h0, cond_true, cond_false]; rfl) | (simp [kpI, h0]; done))⟩
set_option maxRecDepth 100000 in
theorem kept_w2 (L : List (List UInt8)) (Q : List (Int × List UInt8)) (fu : Int) (fd off : Bool) (i tn : Int) (ks : List Int) (h0 : (i == IntKind.i64.wrap ((Q.length : Int) - 1) && decide (tn > 0) && decide (tn < 128)) = false) (h1 : (decide (i < (ks.length : Int)) && ks.getD i.toNat 0 != 0) = false) (h2 : 0 ≤ i) : ∃ qs, wayV ((runFn (⟨Try.prog, [], [], dkHo, Id'.one, 60⟩ : Sy Td) [] Try.f42 [.one (.ptr 0 0), .one (.v (.int .i64 i)), .one (.obj 3), .one (.v (.int .i64 tn))] (roM [⟨.bx [.obj 1, .obj 2, .v (.int .i64 fu), .v (.bool fd), .v (.bool off)], true⟩, ⟨.us (.ext (.flat (.secs L))), true⟩, ⟨.us (.ext (.flat (.pens Q))), true⟩, ⟨.us (.ext (.nums ks)), true⟩])).al [false, false]) (fun u => u = .int .i64 (kpI (Q.length : Int) i tn ks)) = some qs ∧ ∀ q ∈ qs, q :=
  ⟨[Value.int IntKind.i64 (Int.ofNat 0) = Value.int IntKind.i64 (kpI (↑Q.length : Int) i tn ks), (i == IntKind.i64.wrap ((↑(FL.pens Q).n : Int) - (1 : Int)) && decide (tn > (0 : Int)) && decide (tn < (128 : Int))) = false, (decide (i < (↑ks.length : Int)) && true) = true → (0 : Int) ≤ i ∧ i.toNat < ks.length, (decide (i < (↑ks.length : Int)) && ks.getD i.toNat (0 : Int) != (0 : Int)) = false], by kernel_rfl, (by refine mcons ?_ (mcons ?_ (mcons ?_ (mcons ?_ mnil))) <;> first | rfl | exact h0 | exact h1 | exact h2 | trivial | (exact fun h => ⟨by omega, by simp only [decide_eq_true_eq] at h; show i.toNat < ks.length; omega⟩) | (simp only [kpI, h0, h1, h2, cond_true, cond_false]; done) | (simp only [kpI, h0, h1, h2, cond_true, cond_false]; rfl) | (simp [kpI, h0, h1, h2]; done) | (simp only [kpI, h0, h1, cond_true, cond_false]; done) | (simp only [kpI, h0, h1, cond_true, cond_false]; rfl) | (simp [kpI, h0, h1]; done) | (simp only [kpI, h0, cond_true, cond_false]; done) | (simp only [kpI, h0, cond_true, cond_false]; rfl) | (simp [kpI, h0]; done))⟩
def C_kept : CtrV Td := fun us sub => match us, sub with
  | [.one (.ptr 0 0), .one (.v (.int .i64 i)), .one (.obj 3), .one (.v (.int .i64 tn))], [⟨.bx [.obj 1, .obj 2, .v (.int .i64 fu), .v (.bool fd), .v (.bool off)], false⟩, ⟨.us (.ext (.flat (.secs L))), false⟩, ⟨.us (.ext (.flat (.pens Q))), false⟩, ⟨.us (.ext (.nums ks)), false⟩] => some ([0 ≤ i], .int .i64 (kpI (Q.length : Int) i tn ks))
  | _, _ => none
set_option maxRecDepth 100000 in
theorem C_kept_ok : CtrVOk Try.prog Id' 42 C_kept := by
  intro us sub ps x h hp w e vs hM ha
  unfold C_kept at h
  split at h
  · rename_i i tn fu fd off L Q ks
    simp only [Option.some.injEq, Prod.mk.injEq] at h
    obtain ⟨rfl, rfl⟩ := h
    have hi : 0 ≤ i := hp _ (List.mem_cons_self ..)
    rcases Bool.eq_false_or_eq_true ((i == IntKind.i64.wrap ((Q.length : Int) - 1) && decide (tn > 0) && decide (tn < 128))) with h0 | h0
    · exact ctrv_way (I := Id') (fun (W0 : World) (G : Nat → Prop) => SyOk.mk2 Try.mixed dkHo_ok (FnsR.nil) EqsOk.nil) rfl Try.func42 (by kernel_rfl) (fun _ _ => LpsOk.nil _) (cs := [true]) (by kernel_rfl) (kept_w0 L Q fu fd off i tn ks h0 hi) w e vs hM ha
    · rcases Bool.eq_false_or_eq_true ((decide (i < (ks.length : Int)) && ks.getD i.toNat 0 != 0)) with h1 | h1
      · exact ctrv_way (I := Id') (fun (W0 : World) (G : Nat → Prop) => SyOk.mk2 Try.mixed dkHo_ok (FnsR.nil) EqsOk.nil) rfl Try.func42 (by kernel_rfl) (fun _ _ => LpsOk.nil _) (cs := [false, true]) (by kernel_rfl) (kept_w1 L Q fu fd off i tn ks h0 h1 hi) w e vs hM ha
      · exact ctrv_way (I := Id') (fun (W0 : World) (G : Nat → Prop) => SyOk.mk2 Try.mixed dkHo_ok (FnsR.nil) EqsOk.nil) rfl Try.func42 (by kernel_rfl) (fun _ _ => LpsOk.nil _) (cs := [false, false]) (by kernel_rfl) (kept_w2 L Q fu fd off i tn ks h0 h1 hi) w e vs hM ha
  · cases h
theorem R_kept : RowOk Try.prog Id' hardD 42 (ctrV C_kept hardD) := ctrV_ok Try.call42 C_kept_ok
set_option maxRecDepth 100000 in
theorem keptN_w0 (L : List (List UInt8)) (Q : List (Int × List UInt8)) (fu : Int) (fd off : Bool) (i tn : Int) (h0 : (i == IntKind.i64.wrap ((Q.length : Int) - 1) && decide (tn > 0) && decide (tn < 128)) = true) (h1 : 0 ≤ i) : ∃ qs, wayV ((runFn (⟨Try.prog, [], [], dkHo, Id'.one, 60⟩ : Sy Td) [] Try.f42 [.one (.ptr 0 0), .one (.v (.int .i64 i)), .one (.v (.slice none 0 0)), .one (.v (.int .i64 tn))] (roM [⟨.bx [.obj 1, .obj 2, .v (.int .i64 fu), .v (.bool fd), .v (.bool off)], true⟩, ⟨.us (.ext (.flat (.secs L))), true⟩, ⟨.us (.ext (.flat (.pens Q))), true⟩])).al [true]) (fun u => u = .int .i64 (kpI (Q.length : Int) i tn [])) = some qs ∧ ∀ q ∈ qs, q :=
  ⟨[Value.int IntKind.i64 tn = Value.int IntKind.i64 (kpI (↑Q.length : Int) i tn []), (i == IntKind.i64.wrap ((↑(FL.pens Q).n : Int) - (1 : Int)) && decide (tn > (0 : Int)) && decide (tn < (128 : Int))) = true], by kernel_rfl, (by refine mcons ?_ (mcons ?_ mnil) <;> first | rfl | exact h0 | exact h1 | trivial | (exact h1) | (simp [kpI, h0]; done) | (simp [kpI, h0]; omega) | (simp only [kpI, h0, h1, h2, cond_true, cond_false]; done) | (simp only [kpI, h0, h1, h2, cond_true, cond_false]; rfl) | (simp [kpI, h0, h1, h2]; done) | (simp only [kpI, h0, h1, cond_true, cond_false]; done) | (simp only [kpI, h0, h1, cond_true, cond_false]; rfl) | (simp [kpI, h0, h1]; done) | (simp only [kpI, h0, cond_true, cond_false]; done) | (simp only [kpI, h0, cond_true, cond_false]; rfl) | (simp [kpI, h0]; done))⟩
set_option maxRecDepth 100000 in
theorem keptN_w1 (L : List (List UInt8)) (Q : List (Int × List UInt8)) (fu : Int) (fd off : Bool) (i tn : Int) (h0 : (i == IntKind.i64.wrap ((Q.length : Int) - 1) && decide (tn > 0) && decide (tn < 128)) = false) (h1 : decide (i < ((0 : Nat) : Int)) = false) (h2 : 0 ≤ i) : ∃ qs, wayV ((runFn (⟨Try.prog, [], [], dkHo, Id'.one, 60⟩ : Sy Td) [] Try.f42 [.one (.ptr 0 0), .one (.v (.int .i64 i)), .one (.v (.slice none 0 0)), .one (.v (.int .i64 tn))] (roM [⟨.bx [.obj 1, .obj 2, .v (.int .i64 fu), .v (.bool fd), .v (.bool off)], true⟩, ⟨.us (.ext (.flat (.secs L))), true⟩, ⟨.us (.ext (.flat (.pens Q))), true⟩])).al [false, false]) (fun u => u = .int .i64 (kpI (Q.length : Int) i tn [])) = some qs ∧ ∀ q ∈ qs, q :=
  ⟨[Value.int IntKind.i64 (Int.ofNat 0) = Value.int IntKind.i64 (kpI (↑Q.length : Int) i tn []), (i == IntKind.i64.wrap ((↑(FL.pens Q).n : Int) - (1 : Int)) && decide (tn > (0 : Int)) && decide (tn < (128 : Int))) = false, decide (i < (↑(0 : Nat) : Int)) = false, decide (i < (↑(0 : Nat) : Int)) = false], by kernel_rfl, (by refine mcons ?_ (mcons ?_ (mcons ?_ (mcons ?_ mnil))) <;> first | rfl | exact h0 | exact h1 | exact h2 | trivial | (exact h1) | (simp [kpI, h0]; done) | (simp [kpI, h0]; omega) | (simp only [kpI, h0, h1, h2, cond_true, cond_false]; done) | (simp only [kpI, h0, h1, h2, cond_true, cond_false]; rfl) | (simp [kpI, h0, h1, h2]; done) | (simp only [kpI, h0, h1, cond_true, cond_false]; done) | (simp only [kpI, h0, h1, cond_true, cond_false]; rfl) | (simp [kpI, h0, h1]; done) | (simp only [kpI, h0, cond_true, cond_false]; done) | (simp only [kpI, h0, cond_true, cond_false]; rfl) | (simp [kpI, h0]; done))⟩
def C_keptN : CtrV Td := fun us sub => match us, sub with
  | [.one (.ptr 0 0), .one (.v (.int .i64 i)), .one (.v (.slice none 0 0)), .one (.v (.int .i64 tn))], [⟨.bx [.obj 1, .obj 2, .v (.int .i64 fu), .v (.bool fd), .v (.bool off)], false⟩, ⟨.us (.ext (.flat (.secs L))), false⟩, ⟨.us (.ext (.flat (.pens Q))), false⟩] => some ([0 ≤ i], .int .i64 (kpI (Q.length : Int) i tn []))
  | _, _ => none
set_option maxRecDepth 100000 in
theorem C_keptN_ok : CtrVOk Try.prog Id' 42 C_keptN := by
  intro us sub ps x h hp w e vs hM ha
  unfold C_keptN at h
  split at h
  · rename_i i tn fu fd off L Q
    simp only [Option.some.injEq, Prod.mk.injEq] at h
    obtain ⟨rfl, rfl⟩ := h
    have hi : 0 ≤ i := hp _ (List.mem_cons_self ..)
    rcases Bool.eq_false_or_eq_true ((i == IntKind.i64.wrap ((Q.length : Int) - 1) && decide (tn > 0) && decide (tn < 128))) with h0 | h0
    · exact ctrv_way (I := Id') (fun (W0 : World) (G : Nat → Prop) => SyOk.mk2 Try.mixed dkHo_ok (FnsR.nil) EqsOk.nil) rfl Try.func42 (by kernel_rfl) (fun _ _ => LpsOk.nil _) (cs := [true]) (by kernel_rfl) (keptN_w0 L Q fu fd off i tn h0 hi) w e vs hM ha
    · have h1 : decide (i < ((0 : Nat) : Int)) = false := by rw [decide_eq_false_iff_not]; omega
      exact ctrv_way (I := Id') (fun (W0 : World) (G : Nat → Prop) => SyOk.mk2 Try.mixed dkHo_ok (FnsR.nil) EqsOk.nil) rfl Try.func42 (by kernel_rfl) (fun _ _ => LpsOk.nil _) (cs := [false, false]) (by kernel_rfl) (keptN_w1 L Q fu fd off i tn h0 h1 hi) w e vs hM ha
  · cases h
theorem R_keptN : RowOk Try.prog Id' hardD 42 (ctrV C_keptN hardD) := ctrV_ok Try.call42 C_keptN_ok

end Go.Proofs.Ytonomiljclemnaa

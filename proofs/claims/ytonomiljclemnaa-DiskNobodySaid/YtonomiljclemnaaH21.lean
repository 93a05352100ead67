/- disk: none, and none made by a call. -/
import Derived.Test.YtonomiljclemnaaH20

set_option linter.unusedVariables false
set_option linter.unusedSimpArgs false
namespace Go.Proofs.Ytonomiljclemnaa
open Go.RowKit

set_option maxRecDepth 100000 in
theorem sizeN_w0   : ∃ qs, wayV ((runFn (⟨Try.prog, [], [], dkHo, Id'.one, 60⟩ : Sy Td) [] Try.f33 [.one (.v (.pointer none))] (roM [])).al []) (fun u => u = .int .i64 0) = some qs ∧ ∀ q ∈ qs, q :=
  ⟨[Value.int IntKind.i64 (Int.ofNat 0) = Value.int IntKind.i64 (Int.ofNat 0)], by kernel_rfl, (by refine mcons ?_ mnil <;> first | rfl | trivial)⟩
def C_sizeN : CtrV Td := fun us sub => match us, sub with
  | [.one (.v (.pointer none))], [] => some ([], .int .i64 0)
  | _, _ => none
set_option maxRecDepth 100000 in
theorem C_sizeN_ok : CtrVOk Try.prog Id' 33 C_sizeN := by
  intro us sub ps x h hp w e vs hM ha
  unfold C_sizeN at h
  split at h
  · skip
    simp only [Option.some.injEq, Prod.mk.injEq] at h
    obtain ⟨rfl, rfl⟩ := h
    exact ctrv_way (I := Id') (fun (W0 : World) (G : Nat → Prop) => SyOk.mk2 Try.mixed dkHo_ok (FnsR.nil) EqsOk.nil) rfl Try.func33 (by kernel_rfl) (fun _ _ => LpsOk.nil _) (cs := []) (by kernel_rfl) (sizeN_w0  ) w e vs hM ha
  · cases h
theorem R_sizeN : RowOk Try.prog Id' hardD 33 (ctrV C_sizeN hardD) := ctrV_ok Try.call33 C_sizeN_ok
set_option maxRecDepth 100000 in
theorem wrongN_w0 (i : Int)  : ∃ qs, wayV ((runFn (⟨Try.prog, [(33, ctrV C_sizeN hardD)], [], dkHo, Id'.one, 60⟩ : Sy Td) [] Try.f41 [.one (.v (.pointer none)), .one (.v (.int .i64 i))] (roM [])).al [true]) (fun u => u = .int .i64 1) = some qs ∧ ∀ q ∈ qs, q :=
  ⟨[Value.int IntKind.i64 (Int.ofNat 1) = Value.int IntKind.i64 (Int.ofNat 1), true = true], by kernel_rfl, (by refine mcons ?_ (mcons ?_ mnil) <;> first | rfl | trivial)⟩
def C_wrongN : CtrV Td := fun us sub => match us, sub with
  | [.one (.v (.pointer none)), .one (.v (.int .i64 i))], [] => some ([], .int .i64 1)
  | _, _ => none
set_option maxRecDepth 100000 in
theorem C_wrongN_ok : CtrVOk Try.prog Id' 41 C_wrongN := by
  intro us sub ps x h hp w e vs hM ha
  unfold C_wrongN at h
  split at h
  · rename_i i
    simp only [Option.some.injEq, Prod.mk.injEq] at h
    obtain ⟨rfl, rfl⟩ := h
    exact ctrv_way (I := Id') (fun (W0 : World) (G : Nat → Prop) => SyOk.mk2 Try.mixed dkHo_ok (FnsR.cons (R_sizeN) (FnsR.nil)) EqsOk.nil) rfl Try.func41 (by kernel_rfl) (fun _ _ => LpsOk.nil _) (cs := [true]) (by kernel_rfl) (wrongN_w0 i ) w e vs hM ha
  · cases h
theorem R_wrongN : RowOk Try.prog Id' hardD 41 (ctrV C_wrongN hardD) := ctrV_ok Try.call41 C_wrongN_ok
set_option maxRecDepth 100000 in
theorem readN_w0 (i : Int)  : ∃ qs, wayV ((runFn (⟨Try.prog, [(41, ctrV C_wrongN hardD)], [], dkHo, Id'.one, 60⟩ : Sy Td) [] Try.f17 [.one (.v (.pointer none)), .one (.v (.int .i64 i))] (roM [])).al [true]) (fun u => u = .tuple #[.slice none 0 0, .int .i64 1]) = some qs ∧ ∀ q ∈ qs, q :=
  ⟨[Value.tuple (Array.mk [Value.slice none 0 0, Value.int IntKind.i64 (Int.ofNat 1)]) = Value.tuple (Array.mk [Value.slice none 0 0, Value.int IntKind.i64 (Int.ofNat 1)]), true = true], by kernel_rfl, (by refine mcons ?_ (mcons ?_ mnil) <;> first | rfl | trivial)⟩
def C_readN : CtrV Td := fun us sub => match us, sub with
  | [.one (.v (.pointer none)), .one (.v (.int .i64 i))], [] => some ([], .tuple #[.slice none 0 0, .int .i64 1])
  | _, _ => none
set_option maxRecDepth 100000 in
theorem C_readN_ok : CtrVOk Try.prog Id' 17 C_readN := by
  intro us sub ps x h hp w e vs hM ha
  unfold C_readN at h
  split at h
  · rename_i i
    simp only [Option.some.injEq, Prod.mk.injEq] at h
    obtain ⟨rfl, rfl⟩ := h
    exact ctrv_way (I := Id') (fun (W0 : World) (G : Nat → Prop) => SyOk.mk2 Try.mixed dkHo_ok (FnsR.cons (R_wrongN) (FnsR.nil)) EqsOk.nil) rfl Try.func17 (by kernel_rfl) (fun _ _ => LpsOk.nil _) (cs := [true]) (by kernel_rfl) (readN_w0 i ) w e vs hM ha
  · cases h
theorem R_readN : RowOk Try.prog Id' hardD 17 (ctrV C_readN hardD) := ctrV_ok Try.call17 C_readN_ok
set_option maxRecDepth 100000 in
theorem writeN_w0 (i : Int) (b : List UInt8)  : ∃ qs, wayV ((runFn (⟨Try.prog, [(41, ctrV C_wrongN hardD)], [], dkHo, Id'.one, 60⟩ : Sy Td) [] Try.f15 [.one (.v (.pointer none)), .one (.v (.int .i64 i)), .one (.obj 0)] (roM [⟨.us (.byt b), false⟩])).al [true]) (fun u => u = .int .i64 1) = some qs ∧ ∀ q ∈ qs, q :=
  ⟨[Value.int IntKind.i64 (Int.ofNat 1) = Value.int IntKind.i64 (Int.ofNat 1), true = true], by kernel_rfl, (by refine mcons ?_ (mcons ?_ mnil) <;> first | rfl | trivial)⟩
def C_writeN : CtrV Td := fun us sub => match us, sub with
  | [.one (.v (.pointer none)), .one (.v (.int .i64 i)), .one (.obj 0)], [⟨.us (.byt b), false⟩] => some ([], .int .i64 1)
  | _, _ => none
set_option maxRecDepth 100000 in
theorem C_writeN_ok : CtrVOk Try.prog Id' 15 C_writeN := by
  intro us sub ps x h hp w e vs hM ha
  unfold C_writeN at h
  split at h
  · rename_i i b
    simp only [Option.some.injEq, Prod.mk.injEq] at h
    obtain ⟨rfl, rfl⟩ := h
    exact ctrv_way (I := Id') (fun (W0 : World) (G : Nat → Prop) => SyOk.mk2 Try.mixed dkHo_ok (FnsR.cons (R_wrongN) (FnsR.nil)) EqsOk.nil) rfl Try.func15 (by kernel_rfl) (fun _ _ => LpsOk.nil _) (cs := [true]) (by kernel_rfl) (writeN_w0 i b ) w e vs hM ha
  · cases h
theorem R_writeN : RowOk Try.prog Id' hardD 15 (ctrV C_writeN hardD) := ctrV_ok Try.call15 C_writeN_ok
set_option maxRecDepth 100000 in
theorem flushN_w0   : ∃ qs, wayV ((runFn (⟨Try.prog, [(33, ctrV C_sizeN hardD)], [], dkHo, Id'.one, 60⟩ : Sy Td) [] Try.f11 [.one (.v (.pointer none))] (roM [])).al [true]) (fun u => u = .int .i64 1) = some qs ∧ ∀ q ∈ qs, q :=
  ⟨[Value.int IntKind.i64 (Int.ofNat 1) = Value.int IntKind.i64 (Int.ofNat 1), true = true], by kernel_rfl, (by refine mcons ?_ (mcons ?_ mnil) <;> first | rfl | trivial)⟩
def C_flushN : CtrV Td := fun us sub => match us, sub with
  | [.one (.v (.pointer none))], [] => some ([], .int .i64 1)
  | _, _ => none
set_option maxRecDepth 100000 in
theorem C_flushN_ok : CtrVOk Try.prog Id' 11 C_flushN := by
  intro us sub ps x h hp w e vs hM ha
  unfold C_flushN at h
  split at h
  · skip
    simp only [Option.some.injEq, Prod.mk.injEq] at h
    obtain ⟨rfl, rfl⟩ := h
    exact ctrv_way (I := Id') (fun (W0 : World) (G : Nat → Prop) => SyOk.mk2 Try.mixed dkHo_ok (FnsR.cons (R_sizeN) (FnsR.nil)) EqsOk.nil) rfl Try.func11 (by kernel_rfl) (fun _ _ => LpsOk.nil _) (cs := [true]) (by kernel_rfl) (flushN_w0  ) w e vs hM ha
  · cases h
theorem R_flushN : RowOk Try.prog Id' hardD 11 (ctrV C_flushN hardD) := ctrV_ok Try.call11 C_flushN_ok
set_option maxRecDepth 100000 in
theorem fuseN_w0 (i : Int)  : ∃ qs, wayV ((runFn (⟨Try.prog, [(33, ctrV C_sizeN hardD)], [], dkHo, Id'.one, 60⟩ : Sy Td) [] Try.f30 [.one (.v (.pointer none)), .one (.v (.int .i64 i))] (roM [])).al [true]) (fun u => u = .int .i64 1) = some qs ∧ ∀ q ∈ qs, q :=
  ⟨[Value.int IntKind.i64 (Int.ofNat 1) = Value.int IntKind.i64 (Int.ofNat 1), true = true], by kernel_rfl, (by refine mcons ?_ (mcons ?_ mnil) <;> first | rfl | trivial)⟩
def C_fuseN : CtrV Td := fun us sub => match us, sub with
  | [.one (.v (.pointer none)), .one (.v (.int .i64 i))], [] => some ([], .int .i64 1)
  | _, _ => none
set_option maxRecDepth 100000 in
theorem C_fuseN_ok : CtrVOk Try.prog Id' 30 C_fuseN := by
  intro us sub ps x h hp w e vs hM ha
  unfold C_fuseN at h
  split at h
  · rename_i i
    simp only [Option.some.injEq, Prod.mk.injEq] at h
    obtain ⟨rfl, rfl⟩ := h
    exact ctrv_way (I := Id') (fun (W0 : World) (G : Nat → Prop) => SyOk.mk2 Try.mixed dkHo_ok (FnsR.cons (R_sizeN) (FnsR.nil)) EqsOk.nil) rfl Try.func30 (by kernel_rfl) (fun _ _ => LpsOk.nil _) (cs := [true]) (by kernel_rfl) (fuseN_w0 i ) w e vs hM ha
  · cases h
theorem R_fuseN : RowOk Try.prog Id' hardD 30 (ctrV C_fuseN hardD) := ctrV_ok Try.call30 C_fuseN_ok
set_option maxRecDepth 100000 in
theorem waitsN_w0   : ∃ qs, wayV ((runFn (⟨Try.prog, [], [], dkHo, Id'.one, 60⟩ : Sy Td) [] Try.f21 [.one (.v (.pointer none))] (roM [])).al []) (fun u => u = .slice none 0 0) = some qs ∧ ∀ q ∈ qs, q :=
  ⟨[Value.slice none 0 0 = Value.slice none 0 0], by kernel_rfl, (by refine mcons ?_ mnil <;> first | rfl | trivial)⟩
def C_waitsN : CtrV Td := fun us sub => match us, sub with
  | [.one (.v (.pointer none))], [] => some ([], .slice none 0 0)
  | _, _ => none
set_option maxRecDepth 100000 in
theorem C_waitsN_ok : CtrVOk Try.prog Id' 21 C_waitsN := by
  intro us sub ps x h hp w e vs hM ha
  unfold C_waitsN at h
  split at h
  · skip
    simp only [Option.some.injEq, Prod.mk.injEq] at h
    obtain ⟨rfl, rfl⟩ := h
    exact ctrv_way (I := Id') (fun (W0 : World) (G : Nat → Prop) => SyOk.mk2 Try.mixed dkHo_ok (FnsR.nil) EqsOk.nil) rfl Try.func21 (by kernel_rfl) (fun _ _ => LpsOk.nil _) (cs := []) (by kernel_rfl) (waitsN_w0  ) w e vs hM ha
  · cases h
theorem R_waitsN : RowOk Try.prog Id' hardD 21 (ctrV C_waitsN hardD) := ctrV_ok Try.call21 C_waitsN_ok
set_option maxRecDepth 100000 in
theorem liveN_w0   : ∃ qs, wayV ((runFn (⟨Try.prog, [(33, ctrV C_sizeN hardD)], [], dkHo, Id'.one, 60⟩ : Sy Td) [] Try.f20 [.one (.v (.pointer none))] (roM [])).al [false]) (fun u => u = .bool false) = some qs ∧ ∀ q ∈ qs, q :=
  ⟨[Value.bool false = Value.bool false, false = false, false = false], by kernel_rfl, (by refine mcons ?_ (mcons ?_ (mcons ?_ mnil)) <;> first | rfl | trivial)⟩
def C_liveN : CtrV Td := fun us sub => match us, sub with
  | [.one (.v (.pointer none))], [] => some ([], .bool false)
  | _, _ => none
set_option maxRecDepth 100000 in
theorem C_liveN_ok : CtrVOk Try.prog Id' 20 C_liveN := by
  intro us sub ps x h hp w e vs hM ha
  unfold C_liveN at h
  split at h
  · skip
    simp only [Option.some.injEq, Prod.mk.injEq] at h
    obtain ⟨rfl, rfl⟩ := h
    exact ctrv_way (I := Id') (fun (W0 : World) (G : Nat → Prop) => SyOk.mk2 Try.mixed dkHo_ok (FnsR.cons (R_sizeN) (FnsR.nil)) EqsOk.nil) rfl Try.func20 (by kernel_rfl) (fun _ _ => LpsOk.nil _) (cs := [false]) (by kernel_rfl) (liveN_w0  ) w e vs hM ha
  · cases h
theorem R_liveN : RowOk Try.prog Id' hardD 20 (ctrV C_liveN hardD) := ctrV_ok Try.call20 C_liveN_ok
set_option maxRecDepth 100000 in
theorem crashN_w0 (tn : Int) (ks : List Int)  : ∃ qs, wayV ((runFn (⟨Try.prog, [(33, ctrV C_sizeN hardD)], [], dkHo, Id'.one, 60⟩ : Sy Td) [] Try.f16 [.one (.v (.pointer none)), .one (.obj 0), .one (.v (.int .i64 tn))] (roM [⟨.us (.ins ks), true⟩])).al [true]) (fun u => u = .tuple #[]) = some qs ∧ ∀ q ∈ qs, q :=
  ⟨[Value.tuple (Array.mk []) = Value.tuple (Array.mk []), true = true], by kernel_rfl, (by refine mcons ?_ (mcons ?_ mnil) <;> first | rfl | trivial)⟩
def C_crashN : CtrV Td := fun us sub => match us, sub with
  | [.one (.v (.pointer none)), .one (.obj 0), .one (.v (.int .i64 tn))], [⟨.us (.ins ks), false⟩] => some ([], .tuple #[])
  | _, _ => none
set_option maxRecDepth 100000 in
theorem C_crashN_ok : CtrVOk Try.prog Id' 16 C_crashN := by
  intro us sub ps x h hp w e vs hM ha
  unfold C_crashN at h
  split at h
  · rename_i tn ks
    simp only [Option.some.injEq, Prod.mk.injEq] at h
    obtain ⟨rfl, rfl⟩ := h
    exact ctrv_way (I := Id') (fun (W0 : World) (G : Nat → Prop) => SyOk.mk2 Try.mixed dkHo_ok (FnsR.cons (R_sizeN) (FnsR.nil)) EqsOk.nil) rfl Try.func16 (by kernel_rfl) (fun _ _ => LpsOk.nil _) (cs := [true]) (by kernel_rfl) (crashN_w0 tn ks ) w e vs hM ha
  · cases h
theorem R_crashN : RowOk Try.prog Id' hardD 16 (ctrV C_crashN hardD) := ctrV_ok Try.call16 C_crashN_ok
set_option maxRecDepth 100000 in
theorem sizeE_w0   : ∃ qs, wayV ((runFn (⟨Try.prog, [], [], dkHo, Id'.one, 60⟩ : Sy Td) [] Try.f33 [.one (.ptr 0 0)] (roM [⟨.blk [.v (.slice none 0 0), .v (.slice none 0 0), .v (.int .i64 0), .v (.bool false), .v (.bool false)], false⟩])).al []) (fun u => u = .int .i64 0) = some qs ∧ ∀ q ∈ qs, q :=
  ⟨[Value.int IntKind.i64 (Int.ofNat (0 : Nat)) = Value.int IntKind.i64 (Int.ofNat 0)], by kernel_rfl, (by refine mcons ?_ mnil <;> first | rfl | trivial)⟩
def C_sizeE : CtrV Td := fun us sub => match us, sub with
  | [.one (.ptr 0 0)], [⟨.blk [.v (.slice none 0 0), .v (.slice none 0 0), .v (.int .i64 0), .v (.bool false), .v (.bool false)], false⟩] => some ([], .int .i64 0)
  | _, _ => none
set_option maxRecDepth 100000 in
theorem C_sizeE_ok : CtrVOk Try.prog Id' 33 C_sizeE := by
  intro us sub ps x h hp w e vs hM ha
  unfold C_sizeE at h
  split at h
  · skip
    simp only [Option.some.injEq, Prod.mk.injEq] at h
    obtain ⟨rfl, rfl⟩ := h
    exact ctrv_way (I := Id') (fun (W0 : World) (G : Nat → Prop) => SyOk.mk2 Try.mixed dkHo_ok (FnsR.nil) EqsOk.nil) rfl Try.func33 (by kernel_rfl) (fun _ _ => LpsOk.nil _) (cs := []) (by kernel_rfl) (sizeE_w0  ) w e vs hM ha
  · cases h
theorem R_sizeE : RowOk Try.prog Id' hardD 33 (ctrV C_sizeE hardD) := ctrV_ok Try.call33 C_sizeE_ok
set_option maxRecDepth 100000 in
theorem wrongE_w0 (i : Int)  : ∃ qs, wayV ((runFn (⟨Try.prog, [(33, ctrV C_sizeE hardD)], [], dkHo, Id'.one, 60⟩ : Sy Td) [] Try.f41 [.one (.ptr 0 0), .one (.v (.int .i64 i))] (roM [⟨.blk [.v (.slice none 0 0), .v (.slice none 0 0), .v (.int .i64 0), .v (.bool false), .v (.bool false)], false⟩])).al [true]) (fun u => u = .int .i64 1) = some qs ∧ ∀ q ∈ qs, q :=
  ⟨[Value.int IntKind.i64 (Int.ofNat 1) = Value.int IntKind.i64 (Int.ofNat 1), true = true], by kernel_rfl, (by refine mcons ?_ (mcons ?_ mnil) <;> first | rfl | trivial)⟩
def C_wrongE : CtrV Td := fun us sub => match us, sub with
  | [.one (.ptr 0 0), .one (.v (.int .i64 i))], [⟨.blk [.v (.slice none 0 0), .v (.slice none 0 0), .v (.int .i64 0), .v (.bool false), .v (.bool false)], false⟩] => some ([], .int .i64 1)
  | _, _ => none
set_option maxRecDepth 100000 in
theorem C_wrongE_ok : CtrVOk Try.prog Id' 41 C_wrongE := by
  intro us sub ps x h hp w e vs hM ha
  unfold C_wrongE at h
  split at h
  · rename_i i
    simp only [Option.some.injEq, Prod.mk.injEq] at h
    obtain ⟨rfl, rfl⟩ := h
    exact ctrv_way (I := Id') (fun (W0 : World) (G : Nat → Prop) => SyOk.mk2 Try.mixed dkHo_ok (FnsR.cons (R_sizeE) (FnsR.nil)) EqsOk.nil) rfl Try.func41 (by kernel_rfl) (fun _ _ => LpsOk.nil _) (cs := [true]) (by kernel_rfl) (wrongE_w0 i ) w e vs hM ha
  · cases h
theorem R_wrongE : RowOk Try.prog Id' hardD 41 (ctrV C_wrongE hardD) := ctrV_ok Try.call41 C_wrongE_ok
set_option maxRecDepth 100000 in
theorem readE_w0 (i : Int)  : ∃ qs, wayV ((runFn (⟨Try.prog, [(41, ctrV C_wrongE hardD)], [], dkHo, Id'.one, 60⟩ : Sy Td) [] Try.f17 [.one (.ptr 0 0), .one (.v (.int .i64 i))] (roM [⟨.blk [.v (.slice none 0 0), .v (.slice none 0 0), .v (.int .i64 0), .v (.bool false), .v (.bool false)], false⟩])).al [true]) (fun u => u = .tuple #[.slice none 0 0, .int .i64 1]) = some qs ∧ ∀ q ∈ qs, q :=
  ⟨[Value.tuple (Array.mk [Value.slice none 0 0, Value.int IntKind.i64 (Int.ofNat 1)]) = Value.tuple (Array.mk [Value.slice none 0 0, Value.int IntKind.i64 (Int.ofNat 1)]), true = true], by kernel_rfl, (by refine mcons ?_ (mcons ?_ mnil) <;> first | rfl | trivial)⟩
def C_readE : CtrV Td := fun us sub => match us, sub with
  | [.one (.ptr 0 0), .one (.v (.int .i64 i))], [⟨.blk [.v (.slice none 0 0), .v (.slice none 0 0), .v (.int .i64 0), .v (.bool false), .v (.bool false)], false⟩] => some ([], .tuple #[.slice none 0 0, .int .i64 1])
  | _, _ => none
set_option maxRecDepth 100000 in
theorem C_readE_ok : CtrVOk Try.prog Id' 17 C_readE := by
  intro us sub ps x h hp w e vs hM ha
  unfold C_readE at h
  split at h
  · rename_i i
    simp only [Option.some.injEq, Prod.mk.injEq] at h
    obtain ⟨rfl, rfl⟩ := h
    exact ctrv_way (I := Id') (fun (W0 : World) (G : Nat → Prop) => SyOk.mk2 Try.mixed dkHo_ok (FnsR.cons (R_wrongE) (FnsR.nil)) EqsOk.nil) rfl Try.func17 (by kernel_rfl) (fun _ _ => LpsOk.nil _) (cs := [true]) (by kernel_rfl) (readE_w0 i ) w e vs hM ha
  · cases h
theorem R_readE : RowOk Try.prog Id' hardD 17 (ctrV C_readE hardD) := ctrV_ok Try.call17 C_readE_ok
set_option maxRecDepth 100000 in
theorem writeE_w0 (i : Int) (b : List UInt8)  : ∃ qs, wayV ((runFn (⟨Try.prog, [(41, ctrV C_wrongE hardD)], [], dkHo, Id'.one, 60⟩ : Sy Td) [] Try.f15 [.one (.ptr 0 0), .one (.v (.int .i64 i)), .one (.obj 1)] (roM [⟨.blk [.v (.slice none 0 0), .v (.slice none 0 0), .v (.int .i64 0), .v (.bool false), .v (.bool false)], false⟩, ⟨.us (.byt b), false⟩])).al [true]) (fun u => u = .int .i64 1) = some qs ∧ ∀ q ∈ qs, q :=
  ⟨[Value.int IntKind.i64 (Int.ofNat 1) = Value.int IntKind.i64 (Int.ofNat 1), true = true], by kernel_rfl, (by refine mcons ?_ (mcons ?_ mnil) <;> first | rfl | trivial)⟩
def C_writeE : CtrV Td := fun us sub => match us, sub with
  | [.one (.ptr 0 0), .one (.v (.int .i64 i)), .one (.obj 1)], [⟨.blk [.v (.slice none 0 0), .v (.slice none 0 0), .v (.int .i64 0), .v (.bool false), .v (.bool false)], false⟩, ⟨.us (.byt b), false⟩] => some ([], .int .i64 1)
  | _, _ => none
set_option maxRecDepth 100000 in
theorem C_writeE_ok : CtrVOk Try.prog Id' 15 C_writeE := by
  intro us sub ps x h hp w e vs hM ha
  unfold C_writeE at h
  split at h
  · rename_i i b
    simp only [Option.some.injEq, Prod.mk.injEq] at h
    obtain ⟨rfl, rfl⟩ := h
    exact ctrv_way (I := Id') (fun (W0 : World) (G : Nat → Prop) => SyOk.mk2 Try.mixed dkHo_ok (FnsR.cons (R_wrongE) (FnsR.nil)) EqsOk.nil) rfl Try.func15 (by kernel_rfl) (fun _ _ => LpsOk.nil _) (cs := [true]) (by kernel_rfl) (writeE_w0 i b ) w e vs hM ha
  · cases h
theorem R_writeE : RowOk Try.prog Id' hardD 15 (ctrV C_writeE hardD) := ctrV_ok Try.call15 C_writeE_ok
set_option maxRecDepth 100000 in
theorem flushE_w0   : ∃ qs, wayV ((runFn (⟨Try.prog, [(33, ctrV C_sizeE hardD)], [], dkHo, Id'.one, 60⟩ : Sy Td) [] Try.f11 [.one (.ptr 0 0)] (roM [⟨.blk [.v (.slice none 0 0), .v (.slice none 0 0), .v (.int .i64 0), .v (.bool false), .v (.bool false)], false⟩])).al [true]) (fun u => u = .int .i64 1) = some qs ∧ ∀ q ∈ qs, q :=
  ⟨[Value.int IntKind.i64 (Int.ofNat 1) = Value.int IntKind.i64 (Int.ofNat 1), true = true], by kernel_rfl, (by refine mcons ?_ (mcons ?_ mnil) <;> first | rfl | trivial)⟩
def C_flushE : CtrV Td := fun us sub => match us, sub with
  | [.one (.ptr 0 0)], [⟨.blk [.v (.slice none 0 0), .v (.slice none 0 0), .v (.int .i64 0), .v (.bool false), .v (.bool false)], false⟩] => some ([], .int .i64 1)
  | _, _ => none
set_option maxRecDepth 100000 in
theorem C_flushE_ok : CtrVOk Try.prog Id' 11 C_flushE := by
  intro us sub ps x h hp w e vs hM ha
  unfold C_flushE at h
  split at h
  · skip
    simp only [Option.some.injEq, Prod.mk.injEq] at h
    obtain ⟨rfl, rfl⟩ := h
    exact ctrv_way (I := Id') (fun (W0 : World) (G : Nat → Prop) => SyOk.mk2 Try.mixed dkHo_ok (FnsR.cons (R_sizeE) (FnsR.nil)) EqsOk.nil) rfl Try.func11 (by kernel_rfl) (fun _ _ => LpsOk.nil _) (cs := [true]) (by kernel_rfl) (flushE_w0  ) w e vs hM ha
  · cases h
theorem R_flushE : RowOk Try.prog Id' hardD 11 (ctrV C_flushE hardD) := ctrV_ok Try.call11 C_flushE_ok
set_option maxRecDepth 100000 in
theorem fuseE_w0 (i : Int)  : ∃ qs, wayV ((runFn (⟨Try.prog, [(33, ctrV C_sizeE hardD)], [], dkHo, Id'.one, 60⟩ : Sy Td) [] Try.f30 [.one (.ptr 0 0), .one (.v (.int .i64 i))] (roM [⟨.blk [.v (.slice none 0 0), .v (.slice none 0 0), .v (.int .i64 0), .v (.bool false), .v (.bool false)], false⟩])).al [true]) (fun u => u = .int .i64 1) = some qs ∧ ∀ q ∈ qs, q :=
  ⟨[Value.int IntKind.i64 (Int.ofNat 1) = Value.int IntKind.i64 (Int.ofNat 1), true = true], by kernel_rfl, (by refine mcons ?_ (mcons ?_ mnil) <;> first | rfl | trivial)⟩
def C_fuseE : CtrV Td := fun us sub => match us, sub with
  | [.one (.ptr 0 0), .one (.v (.int .i64 i))], [⟨.blk [.v (.slice none 0 0), .v (.slice none 0 0), .v (.int .i64 0), .v (.bool false), .v (.bool false)], false⟩] => some ([], .int .i64 1)
  | _, _ => none
set_option maxRecDepth 100000 in
theorem C_fuseE_ok : CtrVOk Try.prog Id' 30 C_fuseE := by
  intro us sub ps x h hp w e vs hM ha
  unfold C_fuseE at h
  split at h
  · rename_i i
    simp only [Option.some.injEq, Prod.mk.injEq] at h
    obtain ⟨rfl, rfl⟩ := h
    exact ctrv_way (I := Id') (fun (W0 : World) (G : Nat → Prop) => SyOk.mk2 Try.mixed dkHo_ok (FnsR.cons (R_sizeE) (FnsR.nil)) EqsOk.nil) rfl Try.func30 (by kernel_rfl) (fun _ _ => LpsOk.nil _) (cs := [true]) (by kernel_rfl) (fuseE_w0 i ) w e vs hM ha
  · cases h
theorem R_fuseE : RowOk Try.prog Id' hardD 30 (ctrV C_fuseE hardD) := ctrV_ok Try.call30 C_fuseE_ok
set_option maxRecDepth 100000 in
theorem waitsE_w0   : ∃ qs, wayV ((runFn (⟨Try.prog, [], [], dkHo, Id'.one, 60⟩ : Sy Td) [] Try.f21 [.one (.ptr 0 0)] (roM [⟨.blk [.v (.slice none 0 0), .v (.slice none 0 0), .v (.int .i64 0), .v (.bool false), .v (.bool false)], false⟩])).al [false]) (fun u => u = .slice none 0 0) = some qs ∧ ∀ q ∈ qs, q :=
  ⟨[Value.slice none 0 0 = Value.slice none 0 0, false = false], by kernel_rfl, (by refine mcons ?_ (mcons ?_ mnil) <;> first | rfl | trivial)⟩
def C_waitsE : CtrV Td := fun us sub => match us, sub with
  | [.one (.ptr 0 0)], [⟨.blk [.v (.slice none 0 0), .v (.slice none 0 0), .v (.int .i64 0), .v (.bool false), .v (.bool false)], false⟩] => some ([], .slice none 0 0)
  | _, _ => none
set_option maxRecDepth 100000 in
theorem C_waitsE_ok : CtrVOk Try.prog Id' 21 C_waitsE := by
  intro us sub ps x h hp w e vs hM ha
  unfold C_waitsE at h
  split at h
  · skip
    simp only [Option.some.injEq, Prod.mk.injEq] at h
    obtain ⟨rfl, rfl⟩ := h
    exact ctrv_way (I := Id') (fun (W0 : World) (G : Nat → Prop) => SyOk.mk2 Try.mixed dkHo_ok (FnsR.nil) EqsOk.nil) rfl Try.func21 (by kernel_rfl) (fun _ _ => LpsOk.nil _) (cs := [false]) (by kernel_rfl) (waitsE_w0  ) w e vs hM ha
  · cases h
theorem R_waitsE : RowOk Try.prog Id' hardD 21 (ctrV C_waitsE hardD) := ctrV_ok Try.call21 C_waitsE_ok
set_option maxRecDepth 100000 in
theorem liveE_w0   : ∃ qs, wayV ((runFn (⟨Try.prog, [(33, ctrV C_sizeE hardD)], [], dkHo, Id'.one, 60⟩ : Sy Td) [] Try.f20 [.one (.ptr 0 0)] (roM [⟨.blk [.v (.slice none 0 0), .v (.slice none 0 0), .v (.int .i64 0), .v (.bool false), .v (.bool false)], false⟩])).al []) (fun u => u = .bool false) = some qs ∧ ∀ q ∈ qs, q :=
  ⟨[Value.bool false = Value.bool false], by kernel_rfl, (by refine mcons ?_ mnil <;> first | rfl | trivial)⟩
def C_liveE : CtrV Td := fun us sub => match us, sub with
  | [.one (.ptr 0 0)], [⟨.blk [.v (.slice none 0 0), .v (.slice none 0 0), .v (.int .i64 0), .v (.bool false), .v (.bool false)], false⟩] => some ([], .bool false)
  | _, _ => none
set_option maxRecDepth 100000 in
theorem C_liveE_ok : CtrVOk Try.prog Id' 20 C_liveE := by
  intro us sub ps x h hp w e vs hM ha
  unfold C_liveE at h
  split at h
  · skip
    simp only [Option.some.injEq, Prod.mk.injEq] at h
    obtain ⟨rfl, rfl⟩ := h
    exact ctrv_way (I := Id') (fun (W0 : World) (G : Nat → Prop) => SyOk.mk2 Try.mixed dkHo_ok (FnsR.cons (R_sizeE) (FnsR.nil)) EqsOk.nil) rfl Try.func20 (by kernel_rfl) (fun _ _ => LpsOk.nil _) (cs := []) (by kernel_rfl) (liveE_w0  ) w e vs hM ha
  · cases h
theorem R_liveE : RowOk Try.prog Id' hardD 20 (ctrV C_liveE hardD) := ctrV_ok Try.call20 C_liveE_ok
set_option maxRecDepth 100000 in
theorem crashE_w0 (tn : Int) (ks : List Int)  : ∃ qs, wayV ((runFn (⟨Try.prog, [(33, ctrV C_sizeE hardD)], [], dkHo, Id'.one, 60⟩ : Sy Td) [] Try.f16 [.one (.ptr 0 0), .one (.obj 1), .one (.v (.int .i64 tn))] (roM [⟨.blk [.v (.slice none 0 0), .v (.slice none 0 0), .v (.int .i64 0), .v (.bool false), .v (.bool false)], false⟩, ⟨.us (.ins ks), true⟩])).al [true]) (fun u => u = .tuple #[]) = some qs ∧ ∀ q ∈ qs, q :=
  ⟨[Value.tuple (Array.mk []) = Value.tuple (Array.mk []), true = true], by kernel_rfl, (by refine mcons ?_ (mcons ?_ mnil) <;> first | rfl | trivial)⟩
def C_crashE : CtrV Td := fun us sub => match us, sub with
  | [.one (.ptr 0 0), .one (.obj 1), .one (.v (.int .i64 tn))], [⟨.blk [.v (.slice none 0 0), .v (.slice none 0 0), .v (.int .i64 0), .v (.bool false), .v (.bool false)], false⟩, ⟨.us (.ins ks), false⟩] => some ([], .tuple #[])
  | _, _ => none
set_option maxRecDepth 100000 in
theorem C_crashE_ok : CtrVOk Try.prog Id' 16 C_crashE := by
  intro us sub ps x h hp w e vs hM ha
  unfold C_crashE at h
  split at h
  · rename_i tn ks
    simp only [Option.some.injEq, Prod.mk.injEq] at h
    obtain ⟨rfl, rfl⟩ := h
    exact ctrv_way (I := Id') (fun (W0 : World) (G : Nat → Prop) => SyOk.mk2 Try.mixed dkHo_ok (FnsR.cons (R_sizeE) (FnsR.nil)) EqsOk.nil) rfl Try.func16 (by kernel_rfl) (fun _ _ => LpsOk.nil _) (cs := [true]) (by kernel_rfl) (crashE_w0 tn ks ) w e vs hM ha
  · cases h
theorem R_crashE : RowOk Try.prog Id' hardD 16 (ctrV C_crashE hardD) := ctrV_ok Try.call16 C_crashE_ok

end Go.Proofs.Ytonomiljclemnaa

/- H37. -/
import Derived.Test.YtonomiljclemnaaHRdp
set_option linter.unusedVariables false
set_option linter.unusedSimpArgs false
namespace Go.Proofs.Ytonomiljclemnaa
open Go.RowKit
def withI (x a b : Int) : Int := bif decide (x < a) then a else bif decide (x > b) then b else x
def secN (L : List (List UInt8)) (Q : List (Int × List UInt8)) (k : Nat) : List (List UInt8) := (List.range k).map fun (i : Nat) => isD L Q (i : Int)
set_option maxRecDepth 100000 in
theorem within_w0 (x a b : Int) (h0 : decide (x < a) = true) : ∃ qs, wayV ((runFn (⟨Try.prog, [], [], dkHo, Id'.one, 60⟩ : Sy Td) [] Try.f13 [.one (.v (.int .i64 x)), .one (.v (.int .i64 a)), .one (.v (.int .i64 b))] (roM [])).al [true]) (fun u => u = .int .i64 (withI x a b)) = some qs ∧ ∀ q ∈ qs, q :=
  ⟨[Value.int IntKind.i64 a = Value.int IntKind.i64 (withI x a b), decide (x < a) = true], by kernel_rfl, (by refine mcons ?_ (mcons ?_ mnil) <;> first | rfl | exact h0 | trivial | (simp only [withI, h0, h1, cond_true, cond_false]; done) | (simp only [withI, h0, h1, cond_true, cond_false]; rfl) | (simp [withI, h0, h1]; done) | (simp only [withI, h0, cond_true, cond_false]; done) | (simp only [withI, h0, cond_true, cond_false]; rfl) | (simp [withI, h0]; done))⟩
set_option maxRecDepth 100000 in
theorem within_w1 (x a b : Int) (h0 : decide (x < a) = false) (h1 : decide (x > b) = true) : ∃ qs, wayV ((runFn (⟨Try.prog, [], [], dkHo, Id'.one, 60⟩ : Sy Td) [] Try.f13 [.one (.v (.int .i64 x)), .one (.v (.int .i64 a)), .one (.v (.int .i64 b))] (roM [])).al [false, true]) (fun u => u = .int .i64 (withI x a b)) = some qs ∧ ∀ q ∈ qs, q :=
  ⟨[Value.int IntKind.i64 b = Value.int IntKind.i64 (withI x a b), decide (x < a) = false, decide (x > b) = true], by kernel_rfl, (by refine mcons ?_ (mcons ?_ (mcons ?_ mnil)) <;> first | rfl | exact h0 | exact h1 | trivial | (simp only [withI, h0, h1, cond_true, cond_false]; done) | (simp only [withI, h0, h1, cond_true, cond_false]; rfl) | (simp [withI, h0, h1]; done) | (simp only [withI, h0, cond_true, cond_false]; done) | (simp only [withI, h0, cond_true, cond_false]; rfl) | (simp [withI, h0]; done))⟩
set_option maxRecDepth 100000 in
theorem within_w2 (x a b : Int) (h0 : decide (x < a) = false) (h1 : decide (x > b) = false) : ∃ qs, wayV ((runFn (⟨Try.prog, [], [], dkHo, Id'.one, 60⟩ : Sy Td) [] Try.f13 [.one (.v (.int .i64 x)), .one (.v (.int .i64 a)), .one (.v (.int .i64 b))] (roM [])).al [false, false]) (fun u => u = .int .i64 (withI x a b)) = some qs ∧ ∀ q ∈ qs, q :=
  ⟨[Value.int IntKind.i64 x = Value.int IntKind.i64 (withI x a b), decide (x < a) = false, decide (x > b) = false], by kernel_rfl, (by refine mcons ?_ (mcons ?_ (mcons ?_ mnil)) <;> first | rfl | exact h0 | exact h1 | trivial | (simp only [withI, h0, h1, cond_true, cond_false]; done) | (simp only [withI, h0, h1, cond_true, cond_false]; rfl) | (simp [withI, h0, h1]; done) | (simp only [withI, h0, cond_true, cond_false]; done) | (simp only [withI, h0, cond_true, cond_false]; rfl) | (simp [withI, h0]; done))⟩
def C_within : CtrV Td := fun us sub => match us, sub with
  | [.one (.v (.int .i64 x)), .one (.v (.int .i64 a)), .one (.v (.int .i64 b))], [] => some ([], .int .i64 (withI x a b))
  | _, _ => none
set_option maxRecDepth 100000 in
theorem C_within_ok : CtrVOk Try.prog Id' 13 C_within := by
  intro us sub ps x h hp w e vs hM ha
  unfold C_within at h
  split at h
  · rename_i x a b
    simp only [Option.some.injEq, Prod.mk.injEq] at h
    obtain ⟨rfl, rfl⟩ := h
    rcases Bool.eq_false_or_eq_true (decide (x < a)) with h0 | h0
    · exact ctrv_way (I := Id') (fun (W0 : World) (G : Nat → Prop) => SyOk.mk2 Try.mixed dkHo_ok (FnsR.nil) EqsOk.nil) rfl Try.func13 (by kernel_rfl) (fun _ _ => LpsOk.nil _) (cs := [true]) (by kernel_rfl) (within_w0 x a b h0) w e vs hM ha
    · rcases Bool.eq_false_or_eq_true (decide (x > b)) with h1 | h1
      · exact ctrv_way (I := Id') (fun (W0 : World) (G : Nat → Prop) => SyOk.mk2 Try.mixed dkHo_ok (FnsR.nil) EqsOk.nil) rfl Try.func13 (by kernel_rfl) (fun _ _ => LpsOk.nil _) (cs := [false, true]) (by kernel_rfl) (within_w1 x a b h0 h1) w e vs hM ha
      · exact ctrv_way (I := Id') (fun (W0 : World) (G : Nat → Prop) => SyOk.mk2 Try.mixed dkHo_ok (FnsR.nil) EqsOk.nil) rfl Try.func13 (by kernel_rfl) (fun _ _ => LpsOk.nil _) (cs := [false, false]) (by kernel_rfl) (within_w2 x a b h0 h1) w e vs hM ha
  · cases h
theorem R_within : RowOk Try.prog Id' hardD 13 (ctrV C_within hardD) := ctrV_ok Try.call13 C_within_ok
theorem withI_in (x : Int) {a b : Int} (h : a ≤ b) : a ≤ withI x a b ∧ withI x a b ≤ b := by
  unfold withI
  by_cases h1 : x < a
  · rw [decide_eq_true h1, cond_true]; omega
  · rw [decide_eq_false h1, cond_false]
    by_cases h2 : x > b
    · rw [decide_eq_true h2, cond_true]; omega
    · rw [decide_eq_false h2, cond_false]; omega
theorem secN_succ (L : List (List UInt8)) (Q : List (Int × List UInt8)) (k : Nat) : secN L Q (k + 1) = secN L Q k ++ [isD L Q (k : Int)] := by
  unfold secN; rw [List.range_succ, List.map_append]; rfl
theorem secN_len (L : List (List UInt8)) (Q : List (Int × List UInt8)) (k : Nat) : (secN L Q k).length = k := by unfold secN; rw [List.length_map, List.length_range]
set_option maxRecDepth 100000 in
theorem sects_n (L : List (List UInt8)) (Q : List (Int × List UInt8)) (fu : Int) (fd off : Bool) (Lk Ln : List (List UInt8)) (k : Nat) (f : Nat → Value) (h0 : decide ((k : Int) < 6) = true) (h1 : IntKind.i64.wrap ((k : Int) + 1) = ((k + 1 : Nat) : Int)) (h2 : WidL L) (h3 : WidQ Q) (h4 : 0 ≤ (k : Int) ∧ (k : Int).toNat < L.length) (h5 : Lk.length + 1 ≤ 100000) (h6 : Lk ++ [isD L Q (k : Int)] = Ln) : ∃ qs, alN Id' 3 [(3, .c (.one (.obj 3))), (4, .c (.one (.v (.int .i64 ((k + 1 : Nat) : Int)))))] [⟨.bx [.obj 1, .obj 2, .v (.int .i64 fu), .v (.bool fd), .v (.bool off)], true⟩, ⟨.us (.ext (.flat (.secs L))), true⟩, ⟨.us (.ext (.flat (.pens Q))), true⟩, ⟨.us (.ext (.tab (.bs Ln))), true⟩] ((symC (⟨Try.prog, [(17, ctrF Id' C_readG hardD)], [], dkHo, Id'.one, 60⟩ : Sy Td) [] 22 (hdC (loopsC (bodyOf Try.f12)) 0) ⟨[(3, .c (.one (.obj 3))), (4, .c (.one (.v (.int .i64 (k : Int)))))] ++ anyB' (writesC (hdC (loopsC (bodyOf Try.f12)) 0)) ([(0, .c (.one (.ptr 0 0)))] ++ tabV f 22), [⟨.bx [.obj 1, .obj 2, .v (.int .i64 fu), .v (.bool fd), .v (.bool off)], true⟩, ⟨.us (.ext (.flat (.secs L))), true⟩, ⟨.us (.ext (.flat (.pens Q))), true⟩, ⟨.us (.ext (.tab (.bs Lk))), true⟩], 0⟩).al [true]) = some qs ∧ ∀ q ∈ qs, q :=
  ⟨[decide ((↑k : Int) < (6 : Int)) = true, WidL L, (∀ (q : Int × List UInt8), q ∈ Q → q.snd.length = (128 : Nat)) ∧ Q.length ≤ (100000 : Nat), (0 : Int) ≤ (↑k : Int) ∧ (↑k : Int).toNat < L.length, (TB.bs Lk).n + (TB.bs [isD L Q (↑k : Int)]).n ≤ (100000 : Nat), Value.int IntKind.i64 fu = Value.int IntKind.i64 fu, Value.bool fd = Value.bool fd, Value.bool off = Value.bool off, Th.ext (Dk.flat (FL.secs L)) = Th.ext (Dk.flat (FL.secs L)), Th.ext (Dk.flat (FL.pens Q)) = Th.ext (Dk.flat (FL.pens Q)), Th.ext (Dk.tab (TB.bs (Lk ++ [isD L Q (↑k : Int)]))) = Th.ext (Dk.tab (TB.bs Ln)), Value.int IntKind.i64 (IntKind.i64.wrap ((↑k : Int) + (1 : Int))) = Value.int IntKind.i64 (↑(k + (1 : Nat)) : Int)], by kernel_rfl, (by refine mcons ?_ (mcons ?_ (mcons ?_ (mcons ?_ (mcons ?_ (mcons ?_ (mcons ?_ (mcons ?_ (mcons ?_ (mcons ?_ (mcons ?_ (mcons ?_ mnil))))))))))) <;> first | rfl | exact h0 | exact h1 | exact h2 | exact h3 | exact h4 | exact h5 | exact h6 | trivial | (exact h4) | (exact (by omega)) | (exact congrArg (fun x => Th.ext (Dk.tab (.bs x))) h6) | (exact congrArg (fun x => Th.ext (Dk.tab (.bs x))) h1) | (exact congrArg _ h1))⟩
set_option maxRecDepth 100000 in
theorem sects_x (L : List (List UInt8)) (Q : List (Int × List UInt8)) (fu : Int) (fd off : Bool) (Lk Ln : List (List UInt8)) (k : Nat) (f : Nat → Value) (h0 : decide ((k : Int) < 6) = false) (h1 : Lk = Ln) : ∃ qs, alX Id' 3 0 [(3, .c (.one (.obj 3)))] [⟨.bx [.obj 1, .obj 2, .v (.int .i64 fu), .v (.bool fd), .v (.bool off)], true⟩, ⟨.us (.ext (.flat (.secs L))), true⟩, ⟨.us (.ext (.flat (.pens Q))), true⟩, ⟨.us (.ext (.tab (.bs Ln))), true⟩] ((symC (⟨Try.prog, [(17, ctrF Id' C_readG hardD)], [], dkHo, Id'.one, 60⟩ : Sy Td) [] 22 (hdC (loopsC (bodyOf Try.f12)) 0) ⟨[(3, .c (.one (.obj 3))), (4, .c (.one (.v (.int .i64 (k : Int)))))] ++ anyB' (writesC (hdC (loopsC (bodyOf Try.f12)) 0)) ([(0, .c (.one (.ptr 0 0)))] ++ tabV f 22), [⟨.bx [.obj 1, .obj 2, .v (.int .i64 fu), .v (.bool fd), .v (.bool off)], true⟩, ⟨.us (.ext (.flat (.secs L))), true⟩, ⟨.us (.ext (.flat (.pens Q))), true⟩, ⟨.us (.ext (.tab (.bs Lk))), true⟩], 0⟩).al [false]) = some qs ∧ ∀ q ∈ qs, q :=
  ⟨[decide ((↑k : Int) < (6 : Int)) = false, Value.int IntKind.i64 fu = Value.int IntKind.i64 fu, Value.bool fd = Value.bool fd, Value.bool off = Value.bool off, Th.ext (Dk.flat (FL.secs L)) = Th.ext (Dk.flat (FL.secs L)), Th.ext (Dk.flat (FL.pens Q)) = Th.ext (Dk.flat (FL.pens Q)), Th.ext (Dk.tab (TB.bs Lk)) = Th.ext (Dk.tab (TB.bs Ln))], by kernel_rfl, (by refine mcons ?_ (mcons ?_ (mcons ?_ (mcons ?_ (mcons ?_ (mcons ?_ (mcons ?_ mnil)))))) <;> first | rfl | exact h0 | exact h1 | trivial | (exact h4) | (exact (by omega)) | (exact congrArg (fun x => Th.ext (Dk.tab (.bs x))) h6) | (exact congrArg (fun x => Th.ext (Dk.tab (.bs x))) h1) | (exact congrArg _ h1))⟩
set_option maxRecDepth 100000 in
theorem sects_lp (L : List (List UInt8)) (Q : List (Int × List UInt8)) (fu : Int) (fd off : Bool) (hL : WidL L) (hQ : WidQ Q) (hn : L.length = 6) {W0 : World} {G : Nat → Prop} (S0 : Sy Td) (hS0 : S0.P = Try.prog) : LoopSound S0 Id' W0 G 22 (hdC (loopsC (bodyOf Try.f12)) 0) (lpG Id' 22 (hdC (loopsC (bodyOf Try.f12)) 0) 3 [(3, .c (.one (.obj 3))), (4, .c (.one (.v (.int .i64 ((0 : Nat) : Int)))))] [(0, .c (.one (.ptr 0 0)))] [⟨.bx [.obj 1, .obj 2, .v (.int .i64 fu), .v (.bool fd), .v (.bool off)], true⟩, ⟨.us (.ext (.flat (.secs L))), true⟩, ⟨.us (.ext (.flat (.pens Q))), true⟩, ⟨.us (.ext (.tab (.bs (secN L Q 0)))), true⟩] (.leaf (.exit 0) [(3, .c (.one (.obj 3)))] [⟨.bx [.obj 1, .obj 2, .v (.int .i64 fu), .v (.bool fd), .v (.bool off)], true⟩, ⟨.us (.ext (.flat (.secs L))), true⟩, ⟨.us (.ext (.flat (.pens Q))), true⟩, ⟨.us (.ext (.tab (.bs (secN L Q 6)))), true⟩])) := by
  refine lp_sound (V := fun k => [(3, .c (.one (.obj 3))), (4, .c (.one (.v (.int .i64 (k : Int)))))]) (M := (fun k => [⟨.bx [.obj 1, .obj 2, .v (.int .i64 fu), .v (.bool fd), .v (.bool off)], true⟩, ⟨.us (.ext (.flat (.secs L))), true⟩, ⟨.us (.ext (.flat (.pens Q))), true⟩, ⟨.us (.ext (.tab (.bs (secN L Q k)))), true⟩] : Nat → Mem Td)) (N := 6) (Ux := fun k x => match x with | .exit 0 => some ([(3, .c (.one (.obj 3)))], ([⟨.bx [.obj 1, .obj 2, .v (.int .i64 fu), .v (.bool fd), .v (.bool off)], true⟩, ⟨.us (.ext (.flat (.secs L))), true⟩, ⟨.us (.ext (.flat (.pens Q))), true⟩, ⟨.us (.ext (.tab (.bs (secN L Q 6)))), true⟩] : Mem Td)) | _ => none) (X := fun _ _ => True) (J := fun k => k ≤ 6) (fun k => by kernel_rfl) (by decide) (fun k hk hJ f => ?_) (fun K hK k x U hk hU hX => ?_)
  · rw [hS0]
    cases hT : decide ((k : Int) < 6) with
    | false =>
      have hk1 : k = 6 := by have := of_decide_eq_false hT; omega
      exact rnd_xD (⟨Try.prog, [(17, ctrF Id' C_readG hardD)], [], dkHo, Id'.one, 60⟩ : Sy Td) rfl ((fun (W0 : World) (G : Nat → Prop) => SyOk.mk2 Try.mixed dkHo_ok (FnsR.cons (R_readG) (FnsR.nil)) EqsOk.nil) W0 G) (sects_x L Q fu fd off _ _ k f hT (by rw [hk1])) rfl trivial
    | true =>
      have hk1 : k < 6 := by have := of_decide_eq_true hT; omega
      have hW : IntKind.i64.wrap ((k : Int) + 1) = ((k + 1 : Nat) : Int) := by rw [IntWalk.i64_in _ (by omega)]; omega
      exact rnd_nD (⟨Try.prog, [(17, ctrF Id' C_readG hardD)], [], dkHo, Id'.one, 60⟩ : Sy Td) rfl ((fun (W0 : World) (G : Nat → Prop) => SyOk.mk2 Try.mixed dkHo_ok (FnsR.cons (R_readG) (FnsR.nil)) EqsOk.nil) W0 G) (sects_n L Q fu fd off _ _ k f hT hW hL hQ ⟨by omega, by omega⟩ (by rw [secN_len]; omega) (secN_succ L Q k).symm) rfl rfl (by omega) (by omega)
  · revert hU
    match x with
    | .exit 0 => intro hU; simp only [Option.some.injEq] at hU; subst hU; exact hK
    | .normal => intro hU; cases hU
    | .ret => intro hU; cases hU
    | .exit (n + 1) => intro hU; cases hU
set_option maxRecDepth 100000 in
theorem sects_w0 (L : List (List UInt8)) (Q : List (Int × List UInt8)) (fu : Int) (fd off : Bool)  : ∃ qs, wayO Id' ([⟨.bx [.obj 1, .obj 2, .v (.int .i64 fu), .v (.bool fd), .v (.bool off)], true⟩, ⟨.us (.ext (.flat (.secs L))), true⟩, ⟨.us (.ext (.flat (.pens Q))), true⟩] : Mem Td).length [⟨.bx [.obj 1, .obj 2, .v (.int .i64 fu), .v (.bool fd), .v (.bool off)], true⟩, ⟨.us (.ext (.flat (.secs L))), true⟩, ⟨.us (.ext (.flat (.pens Q))), true⟩, ⟨.us (.ext (.tab (.bs (secN L Q 6)))), true⟩] (.c (.one (.obj 3))) ((runFn (⟨Try.prog, [(17, ctrF Id' C_readG hardD)], [], dkHo, Id'.one, 60⟩ : Sy Td) [(3, (lpG Id' 22 (hdC (loopsC (bodyOf Try.f12)) 0) 3 [(3, .c (.one (.obj 3))), (4, .c (.one (.v (.int .i64 ((0 : Nat) : Int)))))] [(0, .c (.one (.ptr 0 0)))] [⟨.bx [.obj 1, .obj 2, .v (.int .i64 fu), .v (.bool fd), .v (.bool off)], true⟩, ⟨.us (.ext (.flat (.secs L))), true⟩, ⟨.us (.ext (.flat (.pens Q))), true⟩, ⟨.us (.ext (.tab (.bs (secN L Q 0)))), true⟩] (.leaf (.exit 0) [(3, .c (.one (.obj 3)))] [⟨.bx [.obj 1, .obj 2, .v (.int .i64 fu), .v (.bool fd), .v (.bool off)], true⟩, ⟨.us (.ext (.flat (.secs L))), true⟩, ⟨.us (.ext (.flat (.pens Q))), true⟩, ⟨.us (.ext (.tab (.bs (secN L Q 6)))), true⟩])))] Try.f12 [.one (.ptr 0 0)] [⟨.bx [.obj 1, .obj 2, .v (.int .i64 fu), .v (.bool fd), .v (.bool off)], true⟩, ⟨.us (.ext (.flat (.secs L))), true⟩, ⟨.us (.ext (.flat (.pens Q))), true⟩]).al []) = some qs ∧ ∀ q ∈ qs, q :=
  ⟨[Value.int IntKind.i64 fu = Value.int IntKind.i64 fu, Value.bool fd = Value.bool fd, Value.bool off = Value.bool off, Th.ext (Dk.flat (FL.secs L)) = Th.ext (Dk.flat (FL.secs L)), Th.ext (Dk.flat (FL.pens Q)) = Th.ext (Dk.flat (FL.pens Q)), ∀ (w : World), Id'.holds (Th.ext (Dk.tab (TB.bs (secN L Q (0 : Nat))))) w nilV ∧ ∀ (j : Nat), ¬Id'.foot (Th.ext (Dk.tab (TB.bs (secN L Q (0 : Nat))))) w nilV j, Value.int IntKind.i64 (Int.ofNat 0) = Value.int IntKind.i64 (Int.ofNat (0 : Nat)), Value.int IntKind.i64 fu = Value.int IntKind.i64 fu, Value.bool fd = Value.bool fd, Value.bool off = Value.bool off, Th.ext (Dk.flat (FL.secs L)) = Th.ext (Dk.flat (FL.secs L)), Th.ext (Dk.flat (FL.pens Q)) = Th.ext (Dk.flat (FL.pens Q)), Th.ext (Dk.tab (TB.bs [(isQ (L.getD (↑0 : Int).toNat []) Q (↑0 : Int) Q.length), (isQ (L.getD (↑1 : Int).toNat []) Q (↑1 : Int) Q.length), (isQ (L.getD (↑2 : Int).toNat []) Q (↑2 : Int) Q.length), (isQ (L.getD (↑3 : Int).toNat []) Q (↑3 : Int) Q.length), (isQ (L.getD (↑4 : Int).toNat []) Q (↑4 : Int) Q.length), (isQ (L.getD (↑5 : Int).toNat []) Q (↑5 : Int) Q.length)])) = Th.ext (Dk.tab (TB.bs [(isQ (L.getD (↑0 : Int).toNat []) Q (↑0 : Int) Q.length), (isQ (L.getD (↑1 : Int).toNat []) Q (↑1 : Int) Q.length), (isQ (L.getD (↑2 : Int).toNat []) Q (↑2 : Int) Q.length), (isQ (L.getD (↑3 : Int).toNat []) Q (↑3 : Int) Q.length), (isQ (L.getD (↑4 : Int).toNat []) Q (↑4 : Int) Q.length), (isQ (L.getD (↑5 : Int).toNat []) Q (↑5 : Int) Q.length)]))], by kernel_rfl, (by refine mcons ?_ (mcons ?_ (mcons ?_ (mcons ?_ (mcons ?_ (mcons ?_ (mcons ?_ (mcons ?_ (mcons ?_ (mcons ?_ (mcons ?_ (mcons ?_ (mcons ?_ mnil)))))))))))) <;> first | rfl | trivial | (exact nil_tabL rfl))⟩
def C_sects : Ctr Td := fun us sub => match us, sub with
  | [.one (.ptr 0 0)], [⟨.bx [.obj 1, .obj 2, .v (.int .i64 fu), .v (.bool fd), .v (.bool off)], true⟩, ⟨.us (.ext (.flat (.secs L))), true⟩, ⟨.us (.ext (.flat (.pens Q))), true⟩] => some ([WidL L, WidQ Q, L.length = 6], .c (.one (.obj 3)), [⟨.bx [.obj 1, .obj 2, .v (.int .i64 fu), .v (.bool fd), .v (.bool off)], true⟩, ⟨.us (.ext (.flat (.secs L))), true⟩, ⟨.us (.ext (.flat (.pens Q))), true⟩, ⟨.us (.ext (.tab (.bs (secN L Q 6)))), true⟩])
  | _, _ => none
set_option maxRecDepth 100000 in
theorem C_sects_ok : CtrOk Try.prog Id' 12 C_sects := by
  intro us sub ps x sm h hp w e vs hM ha
  unfold C_sects at h
  split at h
  · rename_i fu fd off L Q
    simp only [Option.some.injEq, Prod.mk.injEq] at h
    obtain ⟨rfl, rfl, rfl⟩ := h
    have hL : WidL L := hp _ (by simp)
    have hQ : WidQ Q := hp _ (by simp)
    have hn : L.length = 6 := hp _ (by simp)
    exact ctr_way (I := Id') (fun (W0 : World) (G : Nat → Prop) => SyOk.mk2 Try.mixed dkHo_ok (FnsR.cons (R_readG) (FnsR.nil)) EqsOk.nil) rfl Try.func12 (by kernel_rfl) (fun _ _ => LpsOk.cons (by kernel_rfl) (sects_lp L Q fu fd off hL hQ hn _ rfl) (LpsOk.nil _)) (cs := []) (by kernel_rfl) (sects_w0 L Q fu fd off ) w e vs hM ha
  · cases h
theorem R_sects : RowOk Try.prog Id' hardD 12 (ctrF Id' C_sects hardD) := ctrF_ok Try.call12 C_sects_ok
end Go.Proofs.Ytonomiljclemnaa

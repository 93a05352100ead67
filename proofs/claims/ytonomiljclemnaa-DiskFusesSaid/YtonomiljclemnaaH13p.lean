/- H13. -/
import Derived.Test.YtonomiljclemnaaH12p
set_option linter.unusedVariables false
set_option linter.unusedSimpArgs false
namespace Go.Proofs.Ytonomiljclemnaa
open Go.RowKit
def atQ (Q : List (Int × List UInt8)) (k : Nat) : List Int := (Q.take k).map (·.1)
theorem atQ_succ {Q : List (Int × List UInt8)} {k : Nat} (h : k < Q.length) : atQ Q (k + 1) = atQ Q k ++ [(Q.getD ((k : Int).toNat) (0, [])).1] := by
  show (Q.take (k + 1)).map _ = (Q.take k).map _ ++ _
  rw [List.take_add_one, List.map_append]
  simp [h, List.getD_eq_getElem?_getD, List.getElem?_eq_getElem h]
theorem atQ_all {Q : List (Int × List UInt8)} {k : Nat} (h : ¬ k < Q.length) : atQ Q k = Q.map (·.1) := by
  show (Q.take k).map _ = _
  rw [List.take_of_length_le (by omega)]
def WidQ (Q : List (Int × List UInt8)) : Prop := (∀ q ∈ Q, q.2.length = 128) ∧ Q.length ≤ 100000
def WidL (L : List (List UInt8)) : Prop := ∀ l ∈ L, l.length = 128
theorem WidQ.at {Q : List (Int × List UInt8)} (h : WidQ Q) {k : Int} (hk : 0 ≤ k ∧ k.toNat < Q.length) : (Q.getD k.toNat (0, [])).2.length = 128 := by
  have : Q.getD k.toNat (0, []) ∈ Q := by
    rw [List.getD_eq_getElem?_getD, List.getElem?_eq_getElem hk.2]
    exact List.getElem_mem ..
  exact h.1 _ this
theorem WidL.at {L : List (List UInt8)} (h : WidL L) {k : Int} (hk : 0 ≤ k ∧ k.toNat < L.length) : (L.getD k.toNat []).length = 128 := by
  have : L.getD k.toNat [] ∈ L := by
    rw [List.getD_eq_getElem?_getD, List.getElem?_eq_getElem hk.2]
    exact List.getElem_mem ..
  exact h _ this
set_option maxRecDepth 100000 in
theorem waits_n (L : List (List UInt8)) (Q : List (Int × List UInt8)) (fu : Int) (fd off : Bool) (k : Nat) (f : Nat → Value) (h0 : decide ((k : Int) < (Q.length : Int)) = true) (h1 : IntKind.i64.wrap ((k : Int) + 1) = ((k + 1 : Nat) : Int)) (h2 : k < Q.length) (h3 : WidQ Q) : ∃ qs, alN Id' 3 [(13, .c (.one (.v (.int .i64 ((k + 1 : Nat) : Int))))), (3, .c (.one (.obj 3)))] [⟨.bx [.obj 1, .obj 2, .v (.int .i64 fu), .v (.bool fd), .v (.bool off)], true⟩, ⟨.us (.ext (.flat (.secs L))), true⟩, ⟨.us (.ext (.flat (.pens Q))), true⟩, ⟨.us (.ins (atQ Q (k + 1))), true⟩] ((symC (⟨Try.prog, [], [], dkHo, Id'.one, 60⟩ : Sy Td) [] 24 (hdC (loopsC (bodyOf Try.f21)) 0) ⟨[(13, .c (.one (.v (.int .i64 (k : Int))))), (3, .c (.one (.obj 3)))] ++ anyB' (writesC (hdC (loopsC (bodyOf Try.f21)) 0)) ([(11, .c (.one (.obj 2))), (12, .c (.one (.v (.int .i64 (Q.length : Int)))))] ++ tabV f 24), [⟨.bx [.obj 1, .obj 2, .v (.int .i64 fu), .v (.bool fd), .v (.bool off)], true⟩, ⟨.us (.ext (.flat (.secs L))), true⟩, ⟨.us (.ext (.flat (.pens Q))), true⟩, ⟨.us (.ins (atQ Q k)), true⟩], 0⟩).al [true]) = some qs ∧ ∀ q ∈ qs, q :=
  ⟨[decide ((↑k : Int) < (↑Q.length : Int)) = true, (Value.int IntKind.i64 (0 : Int) :: List.replicate (128 : Nat) (Value.int IntKind.u8 (0 : Int))).length = (129 : Nat), AggOk ((FL.pens Q).el (↑k : Int).toNat) 129, (0 : Int) ≤ (↑k : Int) ∧ (↑k : Int).toNat < (FL.pens Q).n, (atQ Q k).length + [(Q.getD (↑k : Int).toNat ((0 : Int), [])).fst].length ≤ (1000000 : Nat), (0 : Nat) < (cellsV ((FL.pens Q).el (↑k : Int).toNat)).length, Value.int IntKind.i64 fu = Value.int IntKind.i64 fu, Value.bool fd = Value.bool fd, Value.bool off = Value.bool off, Th.ext (Dk.flat (FL.secs L)) = Th.ext (Dk.flat (FL.secs L)), Th.ext (Dk.flat (FL.pens Q)) = Th.ext (Dk.flat (FL.pens Q)), (Th.ins ((atQ Q k) ++ [(Q.getD (↑k : Int).toNat ((0 : Int), [])).fst]) : Td) = Th.ins (List.map (fun x => x.fst) (List.take (k + (1 : Nat)) Q)), Value.int IntKind.i64 (IntKind.i64.wrap ((↑k : Int) + (1 : Int))) = Value.int IntKind.i64 (↑(k + (1 : Nat)) : Int)], by kernel_rfl, (by refine mcons ?_ (mcons ?_ (mcons ?_ (mcons ?_ (mcons ?_ (mcons ?_ (mcons ?_ (mcons ?_ (mcons ?_ (mcons ?_ (mcons ?_ (mcons ?_ (mcons ?_ mnil)))))))))))) <;> first | rfl | exact h0 | exact h1 | exact h2 | exact h3 | trivial | (exact ⟨by omega, by show (k : Int).toNat < Q.length; omega⟩) | (show AggOk (penV _ _) 129; exact aggOk_pen (WidQ.at h3 ⟨by omega, by omega⟩)) | (have := h3.2; show (List.map _ (List.take _ _)).length + 1 ≤ 1000000; simp; omega) | (refine congrArg Th.ins ?_; show _ = atQ Q (k + 1); exact (atQ_succ h2).symm) | (show 0 < 129; decide) | (show 0 < (List.length (_ :: _)); simp) | (show (Th.ins (atQ Q k) : Td) = Th.ins _; rw [atQ_all h1]) | (exact congrArg _ h1))⟩
set_option maxRecDepth 100000 in
theorem waits_x (L : List (List UInt8)) (Q : List (Int × List UInt8)) (fu : Int) (fd off : Bool) (k : Nat) (f : Nat → Value) (h0 : decide ((k : Int) < (Q.length : Int)) = false) (h1 : ¬ k < Q.length) : ∃ qs, alX Id' 3 0 [(3, .c (.one (.obj 3)))] [⟨.bx [.obj 1, .obj 2, .v (.int .i64 fu), .v (.bool fd), .v (.bool off)], true⟩, ⟨.us (.ext (.flat (.secs L))), true⟩, ⟨.us (.ext (.flat (.pens Q))), true⟩, ⟨.us (.ins (Q.map (·.1))), true⟩] ((symC (⟨Try.prog, [], [], dkHo, Id'.one, 60⟩ : Sy Td) [] 24 (hdC (loopsC (bodyOf Try.f21)) 0) ⟨[(13, .c (.one (.v (.int .i64 (k : Int))))), (3, .c (.one (.obj 3)))] ++ anyB' (writesC (hdC (loopsC (bodyOf Try.f21)) 0)) ([(11, .c (.one (.obj 2))), (12, .c (.one (.v (.int .i64 (Q.length : Int)))))] ++ tabV f 24), [⟨.bx [.obj 1, .obj 2, .v (.int .i64 fu), .v (.bool fd), .v (.bool off)], true⟩, ⟨.us (.ext (.flat (.secs L))), true⟩, ⟨.us (.ext (.flat (.pens Q))), true⟩, ⟨.us (.ins (atQ Q k)), true⟩], 0⟩).al [false]) = some qs ∧ ∀ q ∈ qs, q :=
  ⟨[decide ((↑k : Int) < (↑Q.length : Int)) = false, Value.int IntKind.i64 fu = Value.int IntKind.i64 fu, Value.bool fd = Value.bool fd, Value.bool off = Value.bool off, Th.ext (Dk.flat (FL.secs L)) = Th.ext (Dk.flat (FL.secs L)), Th.ext (Dk.flat (FL.pens Q)) = Th.ext (Dk.flat (FL.pens Q)), (Th.ins (List.map (fun x => x.fst) (List.take k Q)) : Td) = Th.ins (List.map (fun x => x.fst) Q)], by kernel_rfl, (by refine mcons ?_ (mcons ?_ (mcons ?_ (mcons ?_ (mcons ?_ (mcons ?_ (mcons ?_ mnil)))))) <;> first | rfl | exact h0 | exact h1 | trivial | (exact ⟨by omega, by show (k : Int).toNat < Q.length; omega⟩) | (show AggOk (penV _ _) 129; exact aggOk_pen (WidQ.at h3 ⟨by omega, by omega⟩)) | (have := h3.2; show (List.map _ (List.take _ _)).length + 1 ≤ 1000000; simp; omega) | (refine congrArg Th.ins ?_; show _ = atQ Q (k + 1); exact (atQ_succ h2).symm) | (show 0 < 129; decide) | (show 0 < (List.length (_ :: _)); simp) | (show (Th.ins (atQ Q k) : Td) = Th.ins _; rw [atQ_all h1]) | (exact congrArg _ h1))⟩
theorem rnd_nD {P : Program} {W0 : World} {G : Nat → Prop} {sz : Nat} {c : Code} {k0 : Nat} {V : Nat → List (Nat × SV)} {M : Nat → Mem Td} {N : Nat} {Ux : Nat → SX → Option (List (Nat × SV) × Mem Td)} {X : Nat → SX → Prop} {J : Nat → Prop} {k : Nat} {b Vn : List (Nat × SV)} {mm Mn : Mem Td} (S : Sy Td) (hP : S.P = P) (hS : SyOk S Id' W0 G)
    {cs : List Bool} (h : ∃ ps, alN Id' k0 Vn Mn ((symC S [] sz c ⟨b, mm, 0⟩).al cs) = some ps ∧ ∀ p ∈ ps, p) (hV : V (k + 1) = Vn) (hM : M (k + 1) = Mn) (hk : k < N) (hJ : J (k + 1)) : Rnd P Id' W0 G sz c ⟨b, mm, 0⟩ (RK3 Id' k0 V M N J Ux X k) := by
  obtain ⟨ps, h1, h2⟩ := h
  exact rnd_n S [] hP hS (LpsOk.nil _) (m2 := mm) (fun w e h => h) cs ps h1 h2 hV hM hk hJ
theorem rnd_xD {P : Program} {W0 : World} {G : Nat → Prop} {sz : Nat} {c : Code} {k0 : Nat} {V : Nat → List (Nat × SV)} {M : Nat → Mem Td} {N : Nat} {Ux : Nat → SX → Option (List (Nat × SV) × Mem Td)} {X : Nat → SX → Prop} {J : Nat → Prop} {k id : Nat} {b Vn : List (Nat × SV)} {mm Mn : Mem Td} (S : Sy Td) (hP : S.P = P) (hS : SyOk S Id' W0 G)
    {cs : List Bool} (h : ∃ ps, alX Id' k0 id Vn Mn ((symC S [] sz c ⟨b, mm, 0⟩).al cs) = some ps ∧ ∀ p ∈ ps, p) (hU : Ux k (.exit id) = some (Vn, Mn)) (hX : X k (.exit id)) : Rnd P Id' W0 G sz c ⟨b, mm, 0⟩ (RK3 Id' k0 V M N J Ux X k) := by
  obtain ⟨ps, h1, h2⟩ := h
  exact rnd_x S [] hP hS (LpsOk.nil _) (m2 := mm) (fun w e h => h) cs id ps h1 h2 hU hX
theorem ltNI {k n : Nat} {b : Bool} (h : decide ((k : Int) < (n : Int)) = b) : (k < n) = (b = true) := by
  rw [← h, decide_eq_true_eq]; exact propext ⟨fun h => by omega, fun h => by omega⟩
set_option maxRecDepth 100000 in
theorem waits_lp (L : List (List UInt8)) (Q : List (Int × List UInt8)) (fu : Int) (fd off : Bool) (hQ : WidQ Q) {W0 : World} {G : Nat → Prop} (S0 : Sy Td) (hS0 : S0.P = Try.prog) : LoopSound S0 Id' W0 G 24 (hdC (loopsC (bodyOf Try.f21)) 0) (lpG Id' 24 (hdC (loopsC (bodyOf Try.f21)) 0) 3 [(13, .c (.one (.v (.int .i64 ((0 : Nat) : Int))))), (3, .c (.one (.obj 3)))] [(11, .c (.one (.obj 2))), (12, .c (.one (.v (.int .i64 (Q.length : Int)))))] [⟨.bx [.obj 1, .obj 2, .v (.int .i64 fu), .v (.bool fd), .v (.bool off)], true⟩, ⟨.us (.ext (.flat (.secs L))), true⟩, ⟨.us (.ext (.flat (.pens Q))), true⟩, ⟨.us (.ins (atQ Q 0)), true⟩] (.leaf (.exit 0) [(3, .c (.one (.obj 3)))] [⟨.bx [.obj 1, .obj 2, .v (.int .i64 fu), .v (.bool fd), .v (.bool off)], true⟩, ⟨.us (.ext (.flat (.secs L))), true⟩, ⟨.us (.ext (.flat (.pens Q))), true⟩, ⟨.us (.ins (Q.map (·.1))), true⟩])) := by
  refine lp_sound (V := fun k => [(13, .c (.one (.v (.int .i64 (k : Int))))), (3, .c (.one (.obj 3)))]) (M := (fun k => [⟨.bx [.obj 1, .obj 2, .v (.int .i64 fu), .v (.bool fd), .v (.bool off)], true⟩, ⟨.us (.ext (.flat (.secs L))), true⟩, ⟨.us (.ext (.flat (.pens Q))), true⟩, ⟨.us (.ins (atQ Q k)), true⟩] : Nat → Mem Td)) (N := 100000) (Ux := fun k x => match x with | .exit 0 => some ([(3, .c (.one (.obj 3)))], ([⟨.bx [.obj 1, .obj 2, .v (.int .i64 fu), .v (.bool fd), .v (.bool off)], true⟩, ⟨.us (.ext (.flat (.secs L))), true⟩, ⟨.us (.ext (.flat (.pens Q))), true⟩, ⟨.us (.ins (Q.map (·.1))), true⟩] : Mem Td)) | _ => none) (X := fun _ _ => True) (J := fun k => True) (fun k => by kernel_rfl) trivial (fun k hk hJ f => ?_) (fun K hK k x U hk hU hX => ?_)
  · rw [hS0]
    cases hT : decide ((k : Int) < (Q.length : Int)) with
    | false => exact rnd_xD (⟨Try.prog, [], [], dkHo, Id'.one, 60⟩ : Sy Td) rfl ((fun (W0 : World) (G : Nat → Prop) => SyOk.mk2 Try.mixed dkHo_ok (FnsR.nil) EqsOk.nil) W0 G) (waits_x L Q fu fd off k f hT (by rw [ltNI hT]; simp)) rfl trivial
    | true =>
      have hk1 : k < Q.length := by rw [ltNI hT]
      have := hQ.2
      have hW : IntKind.i64.wrap ((k : Int) + 1) = ((k + 1 : Nat) : Int) := by rw [IntWalk.i64_in _ (by omega)]; omega
      exact rnd_nD (⟨Try.prog, [], [], dkHo, Id'.one, 60⟩ : Sy Td) rfl ((fun (W0 : World) (G : Nat → Prop) => SyOk.mk2 Try.mixed dkHo_ok (FnsR.nil) EqsOk.nil) W0 G) (waits_n L Q fu fd off k f hT hW hk1 hQ) rfl rfl (by omega) trivial
  · revert hU
    match x with
    | .exit 0 => intro hU; simp only [Option.some.injEq] at hU; subst hU; exact hK
    | .normal => intro hU; cases hU
    | .ret => intro hU; cases hU
    | .exit (n + 1) => intro hU; cases hU
set_option maxRecDepth 100000 in
theorem waits_w0 (L : List (List UInt8)) (Q : List (Int × List UInt8)) (fu : Int) (fd off : Bool)  : ∃ qs, wayO Id' ([⟨.bx [.obj 1, .obj 2, .v (.int .i64 fu), .v (.bool fd), .v (.bool off)], true⟩, ⟨.us (.ext (.flat (.secs L))), true⟩, ⟨.us (.ext (.flat (.pens Q))), true⟩] : Mem Td).length [⟨.bx [.obj 1, .obj 2, .v (.int .i64 fu), .v (.bool fd), .v (.bool off)], true⟩, ⟨.us (.ext (.flat (.secs L))), true⟩, ⟨.us (.ext (.flat (.pens Q))), true⟩, ⟨.us (.ins (Q.map (·.1))), true⟩] (.c (.one (.obj 3))) ((runFn (⟨Try.prog, [], [], dkHo, Id'.one, 60⟩ : Sy Td) [(5, (lpG Id' 24 (hdC (loopsC (bodyOf Try.f21)) 0) 3 [(13, .c (.one (.v (.int .i64 ((0 : Nat) : Int))))), (3, .c (.one (.obj 3)))] [(11, .c (.one (.obj 2))), (12, .c (.one (.v (.int .i64 (Q.length : Int)))))] [⟨.bx [.obj 1, .obj 2, .v (.int .i64 fu), .v (.bool fd), .v (.bool off)], true⟩, ⟨.us (.ext (.flat (.secs L))), true⟩, ⟨.us (.ext (.flat (.pens Q))), true⟩, ⟨.us (.ins (atQ Q 0)), true⟩] (.leaf (.exit 0) [(3, .c (.one (.obj 3)))] [⟨.bx [.obj 1, .obj 2, .v (.int .i64 fu), .v (.bool fd), .v (.bool off)], true⟩, ⟨.us (.ext (.flat (.secs L))), true⟩, ⟨.us (.ext (.flat (.pens Q))), true⟩, ⟨.us (.ins (Q.map (·.1))), true⟩])))] Try.f21 [.one (.ptr 0 0)] [⟨.bx [.obj 1, .obj 2, .v (.int .i64 fu), .v (.bool fd), .v (.bool off)], true⟩, ⟨.us (.ext (.flat (.secs L))), true⟩, ⟨.us (.ext (.flat (.pens Q))), true⟩]).al []) = some qs ∧ ∀ q ∈ qs, q :=
  ⟨[Value.int IntKind.i64 (↑(FL.pens Q).n : Int) = Value.int IntKind.i64 (↑Q.length : Int), Value.int IntKind.i64 fu = Value.int IntKind.i64 fu, Value.bool fd = Value.bool fd, Value.bool off = Value.bool off, Th.ext (Dk.flat (FL.secs L)) = Th.ext (Dk.flat (FL.secs L)), Th.ext (Dk.flat (FL.pens Q)) = Th.ext (Dk.flat (FL.pens Q)), ∀ (w : World), Id'.holds (Th.ins (atQ Q (0 : Nat))) w nilV ∧ ∀ (j : Nat), ¬Id'.foot (Th.ins (atQ Q (0 : Nat))) w nilV j, Value.int IntKind.i64 (Int.ofNat 0) = Value.int IntKind.i64 (Int.ofNat (0 : Nat)), Value.int IntKind.i64 fu = Value.int IntKind.i64 fu, Value.bool fd = Value.bool fd, Value.bool off = Value.bool off, Th.ext (Dk.flat (FL.secs L)) = Th.ext (Dk.flat (FL.secs L)), Th.ext (Dk.flat (FL.pens Q)) = Th.ext (Dk.flat (FL.pens Q)), (Th.ins (List.map (fun x => x.fst) Q) : Td) = Th.ins (List.map (fun x => x.fst) Q)], by kernel_rfl, (by refine mcons ?_ (mcons ?_ (mcons ?_ (mcons ?_ (mcons ?_ (mcons ?_ (mcons ?_ (mcons ?_ (mcons ?_ (mcons ?_ (mcons ?_ (mcons ?_ (mcons ?_ (mcons ?_ mnil))))))))))))) <;> first | rfl | trivial | (exact nil_ins dkI))⟩
def C_waits : Ctr Td := fun us sub => match us, sub with
  | [.one (.ptr 0 0)], [⟨.bx [.obj 1, .obj 2, .v (.int .i64 fu), .v (.bool fd), .v (.bool off)], true⟩, ⟨.us (.ext (.flat (.secs L))), true⟩, ⟨.us (.ext (.flat (.pens Q))), true⟩] => some ([WidQ Q], .c (.one (.obj 3)), [⟨.bx [.obj 1, .obj 2, .v (.int .i64 fu), .v (.bool fd), .v (.bool off)], true⟩, ⟨.us (.ext (.flat (.secs L))), true⟩, ⟨.us (.ext (.flat (.pens Q))), true⟩, ⟨.us (.ins (Q.map (·.1))), true⟩])
  | _, _ => none
set_option maxRecDepth 100000 in
theorem C_waits_ok : CtrOk Try.prog Id' 21 C_waits := by
  intro us sub ps x sm h hp w e vs hM ha
  unfold C_waits at h
  split at h
  · rename_i fu fd off L Q
    simp only [Option.some.injEq, Prod.mk.injEq] at h
    obtain ⟨rfl, rfl, rfl⟩ := h
    have hQ : WidQ Q := hp _ (List.mem_cons_self ..)
    exact ctr_way (I := Id') (fun (W0 : World) (G : Nat → Prop) => SyOk.mk2 Try.mixed dkHo_ok (FnsR.nil) EqsOk.nil) rfl Try.func21 (by kernel_rfl) (fun _ _ => LpsOk.cons (by kernel_rfl) (waits_lp L Q fu fd off hQ _ rfl) (LpsOk.nil _)) (cs := []) (by kernel_rfl) (waits_w0 L Q fu fd off ) w e vs hM ha
  · cases h
theorem R_waits : RowOk Try.prog Id' hardD 21 (ctrF Id' C_waits hardD) := ctrF_ok Try.call21 C_waits_ok
end Go.Proofs.Ytonomiljclemnaa

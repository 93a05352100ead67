/- the document's disk: reads, writes. -/
import Derived.Test.YtonomiljclemnaaH26p
set_option linter.unusedVariables false
set_option linter.unusedSimpArgs false
namespace Go.Proofs.Ytonomiljclemnaa
open Go.RowKit
def rdBad (i n : Int) : Bool := decide (i < 0) || decide (i ≥ n)
def rwE (i n m : Int) (ro : Bool) (ru : Int) : Int := bif rdBad i n || m != 128 then 2 else bif rOff ro ru then 7 else 0
def rwFu (i n m : Int) (ru : Int) : Int := bif rdBad i n || m != 128 then ru else rFu ru
def rwOff (i n m : Int) (ro : Bool) (ru : Int) : Bool := bif rdBad i n || m != 128 then ro else rOff ro ru
def rwQ (Q : List (Int × List UInt8)) (i n : Int) (b : List UInt8) (ro : Bool) (ru : Int) : List (Int × List UInt8) := bif rwE i n (b.length : Int) ro ru == 0 then Q ++ [(i, b)] else Q
def rfE (ro : Bool) (ru : Int) : Int := bif rOff ro ru then 7 else 0
def rfL (L : List (List UInt8)) (Q : List (Int × List UInt8)) (ro : Bool) (ru : Int) : List (List UInt8) := bif rOff ro ru then L else flD L Q
def rfQ (Q : List (Int × List UInt8)) (ro : Bool) (ru : Int) : List (Int × List UInt8) := bif rOff ro ru then Q else []
theorem nil_tabQ {t : TypeId} {X : List (Int × List UInt8)} (h : X = []) : ∀ w, Id'.holds (Th.ext (Dk.tab (.wq t X)) : Td) w nilV ∧ ∀ j, ¬ Id'.foot (Th.ext (Dk.tab (.wq t X)) : Td) w nilV j := by
  subst h
  refine fun w => ⟨⟨(fun r hr => by cases hr), (fun r hr => by cases hr), [], rfl, ⟨0, Nat.zero_le _, owns_nilV w 0 _ _⟩, fun i v r hv _ => by cases hv⟩, fun j h => ?_⟩
  rcases h with h | ⟨i, r, v, h, _⟩
  · cases h
  · cases h
theorem nil_tabL {X : List (List UInt8)} (h : X = []) : ∀ w, Id'.holds (Th.ext (Dk.tab (.bs X)) : Td) w nilV ∧ ∀ j, ¬ Id'.foot (Th.ext (Dk.tab (.bs X)) : Td) w nilV j := by
  subst h
  refine fun w => ⟨⟨(fun r hr => by cases hr), (fun r hr => by cases hr), [], rfl, ⟨0, Nat.zero_le _, owns_nilV w 0 _ _⟩, fun i v r hv _ => by cases hv⟩, fun j h => ?_⟩
  rcases h with h | ⟨i, r, v, h, _⟩
  · cases h
  · cases h
set_option maxRecDepth 100000 in
theorem rcopyS_w0 (b : List UInt8) (lo hi : Nat) (h0 : hi - lo ≤ 1000000) : ∃ qs, wayO Id' ([⟨.us (.byt b), false⟩] : Mem Td).length [⟨.us (.byt b), false⟩, ⟨.us (.own ((b.drop lo).take (hi - lo))), true⟩] (.c (.one (.obj 1))) ((runFn (⟨Try.prog, [], [], dkHo, Id'.one, 60⟩ : Sy Td) [] Try.f25 [.one (.sub 0 1 lo hi)] [⟨.us (.byt b), false⟩]).al []) = some qs ∧ ∀ q ∈ qs, q :=
  ⟨[(List.take (hi - lo) (List.drop lo b)).length ≤ (1000000 : Nat), (Th.byt b : Td) = Th.byt b, (Th.own ((Nat.brecOn.go (motive := fun x => List UInt8 → List UInt8) (hi - lo) List.take._f).1 (List.drop lo b)) : Td) = Th.own ((Nat.brecOn.go (motive := fun x => List UInt8 → List UInt8) (hi - lo) List.take._f).1 (List.drop lo b))], by kernel_rfl, (by refine mcons ?_ (mcons ?_ (mcons ?_ mnil)) <;> first | rfl | exact h0 | trivial | (exact Nat.le_trans (List.length_take_le _ _) h0))⟩
def C_rcopyS : Ctr Td := fun us sub => match us, sub with
  | [.one (.sub 0 1 lo hi)], [⟨.us (.byt b), false⟩] => some ([hi - lo ≤ 1000000], .c (.one (.obj 1)), [⟨.us (.byt b), false⟩, ⟨.us (.own ((b.drop lo).take (hi - lo))), true⟩])
  | _, _ => none
set_option maxRecDepth 100000 in
theorem C_rcopyS_ok : CtrOk Try.prog Id' 25 C_rcopyS := by
  intro us sub ps x sm h hp w e vs hM ha
  unfold C_rcopyS at h
  split at h
  · rename_i lo hi b
    simp only [Option.some.injEq, Prod.mk.injEq] at h
    obtain ⟨rfl, rfl, rfl⟩ := h
    exact ctr_way (I := Id') (fun (W0 : World) (G : Nat → Prop) => SyOk.mk2 Try.mixed dkHo_ok (FnsR.nil) EqsOk.nil) rfl Try.func25 (by kernel_rfl) (fun _ _ => LpsOk.nil _) (cs := []) (by kernel_rfl) (rcopyS_w0 b lo hi (hp _ (List.mem_cons_self ..))) w e vs hM ha
  · cases h
theorem R_rcopyS : RowOk Try.prog Id' hardD 25 (ctrF Id' C_rcopyS hardD) := ctrF_ok Try.call25 C_rcopyS_ok
set_option maxRecDepth 100000 in
theorem rreadB_w0 (L : List (List UInt8)) (Q : List (Int × List UInt8)) (ru : Int) (ro : Bool) (i : Int) (h0 : (decide (i < 0) || decide (i ≥ (L.length : Int))) = true) : ∃ qs, wayO Id' ([⟨.bx [.obj 1, .obj 2, .v (.int .i64 ru), .v (.bool ro)], true⟩, ⟨.us (.ext (.tab (.bs L))), true⟩, ⟨.us (.ext (.tab (.wq 89 Q))), true⟩] : Mem Td).length [⟨.bx [.obj 1, .obj 2, .v (.int .i64 ru), .v (.bool ro)], true⟩, ⟨.us (.ext (.tab (.bs L))), true⟩, ⟨.us (.ext (.tab (.wq 89 Q))), true⟩] (.tup [.one (.v (.slice none 0 0)), .one (.kI .i64 2)]) ((runFn (⟨Try.prog, [(44, ctrF Id' C_ris hardD), (25, ctrF Id' C_rcopy hardD)], [], dkHo, Id'.one, 60⟩ : Sy Td) [] Try.f29 [.one (.ptr 0 0), .one (.v (.int .i64 i))] [⟨.bx [.obj 1, .obj 2, .v (.int .i64 ru), .v (.bool ro)], true⟩, ⟨.us (.ext (.tab (.bs L))), true⟩, ⟨.us (.ext (.tab (.wq 89 Q))), true⟩]).al [true]) = some qs ∧ ∀ q ∈ qs, q :=
  ⟨[(decide (i < (0 : Int)) || decide (i ≥ (↑(TB.bs L).n : Int))) = true, Value.int IntKind.i64 ru = Value.int IntKind.i64 ru, Value.bool ro = Value.bool ro, Th.ext (Dk.tab (TB.bs L)) = Th.ext (Dk.tab (TB.bs L)), Th.ext (Dk.tab (TB.wq 89 Q)) = Th.ext (Dk.tab (TB.wq 89 Q)), Value.slice none 0 0 = Value.slice none 0 0, Value.int IntKind.i64 (Int.ofNat 2) = Value.int IntKind.i64 (Int.ofNat 2)], by kernel_rfl, (by refine mcons ?_ (mcons ?_ (mcons ?_ (mcons ?_ (mcons ?_ (mcons ?_ (mcons ?_ mnil)))))) <;> first | rfl | exact h0 | trivial)⟩
def C_rreadB : Ctr Td := fun us sub => match us, sub with
  | [.one (.ptr 0 0), .one (.v (.int .i64 i))], [⟨.bx [.obj 1, .obj 2, .v (.int .i64 ru), .v (.bool ro)], true⟩, ⟨.us (.ext (.tab (.bs L))), true⟩, ⟨.us (.ext (.tab (.wq 89 Q))), true⟩] => some ([rdBad i (L.length : Int) = true], .tup [.one (.v (.slice none 0 0)), .one (.kI .i64 2)], [⟨.bx [.obj 1, .obj 2, .v (.int .i64 ru), .v (.bool ro)], true⟩, ⟨.us (.ext (.tab (.bs L))), true⟩, ⟨.us (.ext (.tab (.wq 89 Q))), true⟩])
  | _, _ => none
set_option maxRecDepth 100000 in
theorem C_rreadB_ok : CtrOk Try.prog Id' 29 C_rreadB := by
  intro us sub ps x sm h hp w e vs hM ha
  unfold C_rreadB at h
  split at h
  · rename_i i ru ro L Q
    simp only [Option.some.injEq, Prod.mk.injEq] at h
    obtain ⟨rfl, rfl, rfl⟩ := h
    exact ctr_way (I := Id') (fun (W0 : World) (G : Nat → Prop) => SyOk.mk2 Try.mixed dkHo_ok (FnsR.cons (R_ris) (FnsR.cons (R_rcopy) (FnsR.nil))) EqsOk.nil) rfl Try.func29 (by kernel_rfl) (fun _ _ => LpsOk.nil _) (cs := [true]) (by kernel_rfl) (rreadB_w0 L Q ru ro i (hp _ (List.mem_cons_self ..))) w e vs hM ha
  · cases h
theorem R_rreadB : RowOk Try.prog Id' hardD 29 (ctrF Id' C_rreadB hardD) := ctrF_ok Try.call29 C_rreadB_ok
set_option maxRecDepth 100000 in
theorem rreadG_w0 (L : List (List UInt8)) (Q : List (Int × List UInt8)) (ru : Int) (ro : Bool) (i : Int) (h0 : (decide (i < 0) || decide (i ≥ (L.length : Int))) = false) (h1 : 0 ≤ i ∧ i.toNat < L.length) (h2 : Q.length ≤ 100000) (h3 : (isD L Q i).length ≤ 1000000) : ∃ qs, wayO Id' ([⟨.bx [.obj 1, .obj 2, .v (.int .i64 ru), .v (.bool ro)], true⟩, ⟨.us (.ext (.tab (.bs L))), true⟩, ⟨.us (.ext (.tab (.wq 89 Q))), true⟩] : Mem Td).length [⟨.bx [.obj 1, .obj 2, .v (.int .i64 ru), .v (.bool ro)], true⟩, ⟨.us (.ext (.tab (.bs L))), true⟩, ⟨.us (.ext (.tab (.wq 89 Q))), true⟩, ⟨.us (.own (isD L Q i)), true⟩] (.tup [.one (.obj 3), .one (.kI .i64 0)]) ((runFn (⟨Try.prog, [(44, ctrF Id' C_ris hardD), (25, ctrF Id' C_rcopy hardD)], [], dkHo, Id'.one, 60⟩ : Sy Td) [] Try.f29 [.one (.ptr 0 0), .one (.v (.int .i64 i))] [⟨.bx [.obj 1, .obj 2, .v (.int .i64 ru), .v (.bool ro)], true⟩, ⟨.us (.ext (.tab (.bs L))), true⟩, ⟨.us (.ext (.tab (.wq 89 Q))), true⟩]).al [false]) = some qs ∧ ∀ q ∈ qs, q :=
  ⟨[(decide (i < (0 : Int)) || decide (i ≥ (↑(TB.bs L).n : Int))) = false, (isD L Q i).length ≤ (1000000 : Nat), (0 : Int) ≤ i ∧ i.toNat < L.length, Q.length ≤ (100000 : Nat), Value.int IntKind.i64 ru = Value.int IntKind.i64 ru, Value.bool ro = Value.bool ro, Th.ext (Dk.tab (TB.bs L)) = Th.ext (Dk.tab (TB.bs L)), Th.ext (Dk.tab (TB.wq 89 Q)) = Th.ext (Dk.tab (TB.wq 89 Q)), (Th.own (isQ (L.getD i.toNat []) Q i Q.length) : Td) = Th.own (isQ (L.getD i.toNat []) Q i Q.length), Value.int IntKind.i64 (Int.ofNat 0) = Value.int IntKind.i64 (Int.ofNat 0)], by kernel_rfl, (by refine mcons ?_ (mcons ?_ (mcons ?_ (mcons ?_ (mcons ?_ (mcons ?_ (mcons ?_ (mcons ?_ (mcons ?_ (mcons ?_ mnil))))))))) <;> first | rfl | exact h0 | exact h1 | exact h2 | exact h3 | trivial)⟩
def C_rreadG : Ctr Td := fun us sub => match us, sub with
  | [.one (.ptr 0 0), .one (.v (.int .i64 i))], [⟨.bx [.obj 1, .obj 2, .v (.int .i64 ru), .v (.bool ro)], true⟩, ⟨.us (.ext (.tab (.bs L))), true⟩, ⟨.us (.ext (.tab (.wq 89 Q))), true⟩] => some ([0 ≤ i ∧ i.toNat < L.length, WidQ Q, WidL L], .tup [.one (.obj 3), .one (.kI .i64 0)], [⟨.bx [.obj 1, .obj 2, .v (.int .i64 ru), .v (.bool ro)], true⟩, ⟨.us (.ext (.tab (.bs L))), true⟩, ⟨.us (.ext (.tab (.wq 89 Q))), true⟩, ⟨.us (.own (isD L Q i)), true⟩])
  | _, _ => none
set_option maxRecDepth 100000 in
theorem C_rreadG_ok : CtrOk Try.prog Id' 29 C_rreadG := by
  intro us sub ps x sm h hp w e vs hM ha
  unfold C_rreadG at h
  split at h
  · rename_i i ru ro L Q
    simp only [Option.some.injEq, Prod.mk.injEq] at h
    obtain ⟨rfl, rfl, rfl⟩ := h
    have hi := hp _ (List.mem_cons_self ..)
    have hQ : WidQ Q := hp _ (by simp)
    have hL : WidL L := hp _ (by simp)
    have h0 : (decide (i < 0) || decide (i ≥ (L.length : Int))) = false := by rw [decide_eq_false (by omega), decide_eq_false (by omega)]; rfl
    have h9 : (isD L Q i).length ≤ 1000000 := by rw [isD, isQ_len (WidL.at hL hi) hQ _ (Nat.le_refl _)]; decide
    exact ctr_way (I := Id') (fun (W0 : World) (G : Nat → Prop) => SyOk.mk2 Try.mixed dkHo_ok (FnsR.cons (R_ris) (FnsR.cons (R_rcopy) (FnsR.nil))) EqsOk.nil) rfl Try.func29 (by kernel_rfl) (fun _ _ => LpsOk.nil _) (cs := [false]) (by kernel_rfl) (rreadG_w0 L Q ru ro i h0 hi hQ.2 h9) w e vs hM ha
  · cases h
theorem R_rreadG : RowOk Try.prog Id' hardD 29 (ctrF Id' C_rreadG hardD) := ctrF_ok Try.call29 C_rreadG_ok
set_option maxRecDepth 100000 in
theorem rwrite_w0 (L : List (List UInt8)) (Q : List (Int × List UInt8)) (ru : Int) (ro : Bool) (i : Int) (b : List UInt8) (h0 : (rdBad i (L.length : Int) || (b.length : Int) != 128) = true) : ∃ qs, wayO Id' ([⟨.bx [.obj 2, .obj 3, .v (.int .i64 ru), .v (.bool ro)], true⟩, ⟨.us (.own b), true⟩, ⟨.us (.ext (.tab (.bs L))), true⟩, ⟨.us (.ext (.tab (.wq 89 Q))), true⟩] : Mem Td).length [⟨.bx [.obj 2, .obj 4, .v (.int .i64 (rwFu i (L.length : Int) (b.length : Int) ru)), .v (.bool (rwOff i (L.length : Int) (b.length : Int) ro ru))], true⟩, ⟨.us (.own b), true⟩, ⟨.us (.ext (.tab (.bs L))), true⟩, ⟨.dead, true⟩, ⟨.us (.ext (.tab (.wq 89 (rwQ Q i (L.length : Int) b ro ru)))), true⟩] (svV (.int .i64 (rwE i (L.length : Int) (b.length : Int) ro ru))) ((runFn (⟨Try.prog, [(43, ctrF Id' C_rstep hardD), (25, ctrF Id' C_rcopyO hardD)], [], dkHo, Id'.one, 60⟩ : Sy Td) [] Try.f27 [.one (.ptr 0 0), .one (.v (.int .i64 i)), .one (.obj 1)] [⟨.bx [.obj 2, .obj 3, .v (.int .i64 ru), .v (.bool ro)], true⟩, ⟨.us (.own b), true⟩, ⟨.us (.ext (.tab (.bs L))), true⟩, ⟨.us (.ext (.tab (.wq 89 Q))), true⟩]).al [true]) = some qs ∧ ∀ q ∈ qs, q :=
  ⟨[(decide (i < (0 : Int)) || decide (i ≥ (↑(TB.bs L).n : Int)) || (↑b.length : Int) != (128 : Int)) = true, Value.int IntKind.i64 ru = Value.int IntKind.i64 (rwFu i (↑L.length : Int) (↑b.length : Int) ru), Value.bool ro = Value.bool (rwOff i (↑L.length : Int) (↑b.length : Int) ro ru), (Th.own b : Td) = Th.own b, Th.ext (Dk.tab (TB.bs L)) = Th.ext (Dk.tab (TB.bs L)), Th.ext (Dk.tab (TB.wq 89 Q)) = Th.ext (Dk.tab (TB.wq 89 (rwQ Q i (↑L.length : Int) b ro ru))), Value.int IntKind.i64 (Int.ofNat 2) = Value.int IntKind.i64 (rwE i (↑L.length : Int) (↑b.length : Int) ro ru)], by kernel_rfl, (by refine mcons ?_ (mcons ?_ (mcons ?_ (mcons ?_ (mcons ?_ (mcons ?_ (mcons ?_ mnil)))))) <;> first | rfl | exact h0 | trivial | (simp only [rwE, rwFu, rwOff, rwQ, h0, h1, cond_true, cond_false]; done) | (simp only [rwE, rwFu, rwOff, rwQ, h0, h1, cond_true, cond_false]; rfl) | (simp [rwE, rwFu, rwOff, rwQ, h0, h1]; done) | (simp only [rwE, rwFu, rwOff, rwQ, h0, cond_true, cond_false]; done) | (simp only [rwE, rwFu, rwOff, rwQ, h0, cond_true, cond_false]; rfl) | (simp [rwE, rwFu, rwOff, rwQ, h0]; done) | (exact (by omega)) | (exact (by rw [h3]; decide)))⟩
set_option maxRecDepth 100000 in
theorem rwrite_w1 (L : List (List UInt8)) (Q : List (Int × List UInt8)) (ru : Int) (ro : Bool) (i : Int) (b : List UInt8) (h0 : (rdBad i (L.length : Int) || (b.length : Int) != 128) = false) (h1 : rOff ro ru = true) : ∃ qs, wayO Id' ([⟨.bx [.obj 2, .obj 3, .v (.int .i64 ru), .v (.bool ro)], true⟩, ⟨.us (.own b), true⟩, ⟨.us (.ext (.tab (.bs L))), true⟩, ⟨.us (.ext (.tab (.wq 89 Q))), true⟩] : Mem Td).length [⟨.bx [.obj 2, .obj 4, .v (.int .i64 (rwFu i (L.length : Int) (b.length : Int) ru)), .v (.bool (rwOff i (L.length : Int) (b.length : Int) ro ru))], true⟩, ⟨.us (.own b), true⟩, ⟨.us (.ext (.tab (.bs L))), true⟩, ⟨.dead, true⟩, ⟨.us (.ext (.tab (.wq 89 (rwQ Q i (L.length : Int) b ro ru)))), true⟩] (svV (.int .i64 (rwE i (L.length : Int) (b.length : Int) ro ru))) ((runFn (⟨Try.prog, [(43, ctrF Id' C_rstep hardD), (25, ctrF Id' C_rcopyO hardD)], [], dkHo, Id'.one, 60⟩ : Sy Td) [] Try.f27 [.one (.ptr 0 0), .one (.v (.int .i64 i)), .one (.obj 1)] [⟨.bx [.obj 2, .obj 3, .v (.int .i64 ru), .v (.bool ro)], true⟩, ⟨.us (.own b), true⟩, ⟨.us (.ext (.tab (.bs L))), true⟩, ⟨.us (.ext (.tab (.wq 89 Q))), true⟩]).al [false, true]) = some qs ∧ ∀ q ∈ qs, q :=
  ⟨[(decide (i < (0 : Int)) || decide (i ≥ (↑(TB.bs L).n : Int)) || (↑b.length : Int) != (128 : Int)) = false, (!!rOff ro ru) = true, Value.int IntKind.i64 (rFu ru) = Value.int IntKind.i64 (rwFu i (↑L.length : Int) (↑b.length : Int) ru), Value.bool (rOff ro ru) = Value.bool (rwOff i (↑L.length : Int) (↑b.length : Int) ro ru), (Th.own b : Td) = Th.own b, Th.ext (Dk.tab (TB.bs L)) = Th.ext (Dk.tab (TB.bs L)), Th.ext (Dk.tab (TB.wq 89 Q)) = Th.ext (Dk.tab (TB.wq 89 (rwQ Q i (↑L.length : Int) b ro ru))), Value.int IntKind.i64 (Int.ofNat 7) = Value.int IntKind.i64 (rwE i (↑L.length : Int) (↑b.length : Int) ro ru)], by kernel_rfl, (by refine mcons ?_ (mcons ?_ (mcons ?_ (mcons ?_ (mcons ?_ (mcons ?_ (mcons ?_ (mcons ?_ mnil))))))) <;> first | rfl | exact h0 | exact h1 | trivial | (simp only [rwE, rwFu, rwOff, rwQ, h0, h1, cond_true, cond_false]; done) | (simp only [rwE, rwFu, rwOff, rwQ, h0, h1, cond_true, cond_false]; rfl) | (simp [rwE, rwFu, rwOff, rwQ, h0, h1]; done) | (simp only [rwE, rwFu, rwOff, rwQ, h0, cond_true, cond_false]; done) | (simp only [rwE, rwFu, rwOff, rwQ, h0, cond_true, cond_false]; rfl) | (simp [rwE, rwFu, rwOff, rwQ, h0]; done) | (exact (by omega)) | (exact (by rw [h3]; decide)))⟩
set_option maxRecDepth 100000 in
theorem rwrite_w2 (L : List (List UInt8)) (Q : List (Int × List UInt8)) (ru : Int) (ro : Bool) (i : Int) (b : List UInt8) (h0 : (rdBad i (L.length : Int) || (b.length : Int) != 128) = false) (h1 : rOff ro ru = false) (h2 : Q.length + 1 ≤ 100000) (h3 : b.length = 128) : ∃ qs, wayO Id' ([⟨.bx [.obj 2, .obj 3, .v (.int .i64 ru), .v (.bool ro)], true⟩, ⟨.us (.own b), true⟩, ⟨.us (.ext (.tab (.bs L))), true⟩, ⟨.us (.ext (.tab (.wq 89 Q))), true⟩] : Mem Td).length [⟨.bx [.obj 2, .obj 4, .v (.int .i64 (rwFu i (L.length : Int) (b.length : Int) ru)), .v (.bool (rwOff i (L.length : Int) (b.length : Int) ro ru))], true⟩, ⟨.us (.own b), true⟩, ⟨.us (.ext (.tab (.bs L))), true⟩, ⟨.dead, true⟩, ⟨.us (.ext (.tab (.wq 89 (rwQ Q i (L.length : Int) b ro ru)))), true⟩] (svV (.int .i64 (rwE i (L.length : Int) (b.length : Int) ro ru))) ((runFn (⟨Try.prog, [(43, ctrF Id' C_rstep hardD), (25, ctrF Id' C_rcopyO hardD)], [], dkHo, Id'.one, 60⟩ : Sy Td) [] Try.f27 [.one (.ptr 0 0), .one (.v (.int .i64 i)), .one (.obj 1)] [⟨.bx [.obj 2, .obj 3, .v (.int .i64 ru), .v (.bool ro)], true⟩, ⟨.us (.own b), true⟩, ⟨.us (.ext (.tab (.bs L))), true⟩, ⟨.us (.ext (.tab (.wq 89 Q))), true⟩]).al [false, false]) = some qs ∧ ∀ q ∈ qs, q :=
  ⟨[(decide (i < (0 : Int)) || decide (i ≥ (↑(TB.bs L).n : Int)) || (↑b.length : Int) != (128 : Int)) = false, (!!rOff ro ru) = false, (TB.wq (89 : TypeId) Q).n + (TB.wq (89 : TypeId) [(i, b)]).n ≤ (100000 : Nat), b.length ≤ (1000000 : Nat), (En.mk (Ob.us (Th.own b)) true : En Td) = En.mk (Ob.us (Th.own b)) true, Value.int IntKind.i64 (rFu ru) = Value.int IntKind.i64 (rwFu i (↑L.length : Int) (↑b.length : Int) ru), Value.bool (rOff ro ru) = Value.bool (rwOff i (↑L.length : Int) (↑b.length : Int) ro ru), (Th.own b : Td) = Th.own b, Th.ext (Dk.tab (TB.bs L)) = Th.ext (Dk.tab (TB.bs L)), Th.ext (Dk.tab (TB.wq 89 (Q ++ [(i, b)]))) = Th.ext (Dk.tab (TB.wq 89 (rwQ Q i (↑L.length : Int) b ro ru))), Value.int IntKind.i64 (Int.ofNat 0) = Value.int IntKind.i64 (rwE i (↑L.length : Int) (↑b.length : Int) ro ru)], by kernel_rfl, (by refine mcons ?_ (mcons ?_ (mcons ?_ (mcons ?_ (mcons ?_ (mcons ?_ (mcons ?_ (mcons ?_ (mcons ?_ (mcons ?_ (mcons ?_ mnil)))))))))) <;> first | rfl | exact h0 | exact h1 | exact h2 | exact h3 | trivial | (simp only [rwE, rwFu, rwOff, rwQ, h0, h1, cond_true, cond_false]; done) | (simp only [rwE, rwFu, rwOff, rwQ, h0, h1, cond_true, cond_false]; rfl) | (simp [rwE, rwFu, rwOff, rwQ, h0, h1]; done) | (simp only [rwE, rwFu, rwOff, rwQ, h0, cond_true, cond_false]; done) | (simp only [rwE, rwFu, rwOff, rwQ, h0, cond_true, cond_false]; rfl) | (simp [rwE, rwFu, rwOff, rwQ, h0]; done) | (exact (by omega)) | (exact (by rw [h3]; decide)))⟩
def C_rwrite : Ctr Td := fun us sub => match us, sub with
  | [.one (.ptr 0 0), .one (.v (.int .i64 i)), .one (.obj 1)], [⟨.bx [.obj 2, .obj 3, .v (.int .i64 ru), .v (.bool ro)], true⟩, ⟨.us (.own b), true⟩, ⟨.us (.ext (.tab (.bs L))), true⟩, ⟨.us (.ext (.tab (.wq 89 Q))), true⟩] => some ([Q.length + 1 ≤ 100000], svV (.int .i64 (rwE i (L.length : Int) (b.length : Int) ro ru)), [⟨.bx [.obj 2, .obj 4, .v (.int .i64 (rwFu i (L.length : Int) (b.length : Int) ru)), .v (.bool (rwOff i (L.length : Int) (b.length : Int) ro ru))], true⟩, ⟨.us (.own b), true⟩, ⟨.us (.ext (.tab (.bs L))), true⟩, ⟨.dead, true⟩, ⟨.us (.ext (.tab (.wq 89 (rwQ Q i (L.length : Int) b ro ru)))), true⟩])
  | _, _ => none
set_option maxRecDepth 100000 in
theorem C_rwrite_ok : CtrOk Try.prog Id' 27 C_rwrite := by
  intro us sub ps x sm h hp w e vs hM ha
  unfold C_rwrite at h
  split at h
  · rename_i i ru ro b L Q
    simp only [Option.some.injEq, Prod.mk.injEq] at h
    obtain ⟨rfl, rfl, rfl⟩ := h
    rcases Bool.eq_false_or_eq_true ((rdBad i (L.length : Int) || (b.length : Int) != 128)) with h0 | h0
    · exact ctr_way (I := Id') (fun (W0 : World) (G : Nat → Prop) => SyOk.mk2 Try.mixed dkHo_ok (FnsR.cons (R_rstep) (FnsR.cons (R_rcopyO) (FnsR.nil))) EqsOk.nil) rfl Try.func27 (by kernel_rfl) (fun _ _ => LpsOk.nil _) (cs := [true]) (by kernel_rfl) (rwrite_w0 L Q ru ro i b h0) w e vs hM ha
    · rcases Bool.eq_false_or_eq_true (rOff ro ru) with h1 | h1
      · exact ctr_way (I := Id') (fun (W0 : World) (G : Nat → Prop) => SyOk.mk2 Try.mixed dkHo_ok (FnsR.cons (R_rstep) (FnsR.cons (R_rcopyO) (FnsR.nil))) EqsOk.nil) rfl Try.func27 (by kernel_rfl) (fun _ _ => LpsOk.nil _) (cs := [false, true]) (by kernel_rfl) (rwrite_w1 L Q ru ro i b h0 h1) w e vs hM ha
      · have hb : b.length = 128 := by
          have h2 : ((b.length : Int) != 128) = false := by revert h0; cases ((b.length : Int) != 128) <;> simp
          have := eq_of_beq (by simpa [bne] using h2 : ((b.length : Int) == 128) = true)
          omega
        exact ctr_way (I := Id') (fun (W0 : World) (G : Nat → Prop) => SyOk.mk2 Try.mixed dkHo_ok (FnsR.cons (R_rstep) (FnsR.cons (R_rcopyO) (FnsR.nil))) EqsOk.nil) rfl Try.func27 (by kernel_rfl) (fun _ _ => LpsOk.nil _) (cs := [false, false]) (by kernel_rfl) (rwrite_w2 L Q ru ro i b h0 h1 (hp _ (List.mem_cons_self ..)) hb) w e vs hM ha
  · cases h
theorem R_rwrite : RowOk Try.prog Id' hardD 27 (ctrF Id' C_rwrite hardD) := ctrF_ok Try.call27 C_rwrite_ok
end Go.Proofs.Ytonomiljclemnaa

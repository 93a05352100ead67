/- H19. -/
import Derived.Test.YtonomiljclemnaaH18p
set_option linter.unusedVariables false
set_option linter.unusedSimpArgs false
namespace Go.Proofs.Ytonomiljclemnaa
open Go.RowKit
set_option maxRecDepth 100000 in
theorem rcopyO_w0 (b : List UInt8) (h0 : b.length ≤ 1000000) : ∃ qs, wayO Id' (([⟨.us (.own b), true⟩] : Mem Td) : Mem Td).length [⟨.us (.own b), true⟩, ⟨.us (.own b), true⟩] (.c (.one (.obj 1))) ((runFn (⟨Try.prog, [], [], dkHo, Id'.one, 60⟩ : Sy Td) [] Try.f25 [.one (.obj 0)] ([⟨.us (.own b), true⟩] : Mem Td)).al []) = some qs ∧ ∀ q ∈ qs, q :=
  ⟨[b.length ≤ (1000000 : Nat), (Th.own b : Td) = Th.own b, (Th.own b : Td) = Th.own b], by kernel_rfl, (by refine mcons ?_ (mcons ?_ (mcons ?_ mnil)) <;> first | rfl | exact h0 | trivial)⟩
def C_rcopyO : Ctr Td := fun us sub => match us, sub with
  | [.one (.obj 0)], [⟨.us (.own b), true⟩] => some ([b.length ≤ 1000000], .c (.one (.obj 1)), [⟨.us (.own b), true⟩, ⟨.us (.own b), true⟩])
  | _, _ => none
set_option maxRecDepth 100000 in
theorem C_rcopyO_ok : CtrOk Try.prog Id' 25 C_rcopyO := by
  intro us sub ps x sm h hp w e vs hM ha
  unfold C_rcopyO at h
  split at h
  · rename_i b
    simp only [Option.some.injEq, Prod.mk.injEq] at h
    obtain ⟨rfl, rfl, rfl⟩ := h
    exact ctr_way (I := Id') (fun (W0 : World) (G : Nat → Prop) => SyOk.mk2 Try.mixed dkHo_ok (FnsR.nil) EqsOk.nil) rfl Try.func25 (by kernel_rfl) (fun _ _ => LpsOk.nil _) (cs := []) (by kernel_rfl) (rcopyO_w0 b (hp _ (List.mem_cons_self ..))) w e vs hM ha
  · cases h
theorem R_rcopyO : RowOk Try.prog Id' hardD 25 (ctrF Id' C_rcopyO hardD) := ctrF_ok Try.call25 C_rcopyO_ok
set_option maxRecDepth 100000 in
theorem rcutO_w0 (b : List UInt8) (n : Int) (h0 : decide ((b.length : Int) > n) = false) : ∃ qs, wayO Id' (([⟨.us (.own b), true⟩] : Mem Td) : Mem Td).length [⟨.us (.own b), true⟩] (.c (.one (.obj 0))) ((runFn (⟨Try.prog, [], [], dkHo, Id'.one, 60⟩ : Sy Td) [] Try.f26 [.one (.obj 0), .one (.v (.int .i64 n))] ([⟨.us (.own b), true⟩] : Mem Td)).al [false]) = some qs ∧ ∀ q ∈ qs, q :=
  ⟨[decide ((↑b.length : Int) > n) = false, (Th.own b : Td) = Th.own b], by kernel_rfl, (by refine mcons ?_ (mcons ?_ mnil) <;> first | rfl | exact h0 | trivial)⟩
def C_rcutO : Ctr Td := fun us sub => match us, sub with
  | [.one (.obj 0), .one (.v (.int .i64 n))], [⟨.us (.own b), true⟩] => some ([decide ((b.length : Int) > n) = false], .c (.one (.obj 0)), [⟨.us (.own b), true⟩])
  | _, _ => none
set_option maxRecDepth 100000 in
theorem C_rcutO_ok : CtrOk Try.prog Id' 26 C_rcutO := by
  intro us sub ps x sm h hp w e vs hM ha
  unfold C_rcutO at h
  split at h
  · rename_i n b
    simp only [Option.some.injEq, Prod.mk.injEq] at h
    obtain ⟨rfl, rfl, rfl⟩ := h
    exact ctr_way (I := Id') (fun (W0 : World) (G : Nat → Prop) => SyOk.mk2 Try.mixed dkHo_ok (FnsR.nil) EqsOk.nil) rfl Try.func26 (by kernel_rfl) (fun _ _ => LpsOk.nil _) (cs := [false]) (by kernel_rfl) (rcutO_w0 b n (hp _ (List.mem_cons_self ..))) w e vs hM ha
  · cases h
theorem R_rcutO : RowOk Try.prog Id' hardD 26 (ctrF Id' C_rcutO hardD) := ctrF_ok Try.call26 C_rcutO_ok
set_option maxRecDepth 100000 in
theorem sectP_n (b : List UInt8) (d dn : List UInt8) (k : Nat) (f : Nat → Value) (h0 : decide ((d.length : Int) < 128) = true) (h1 : d ++ [0] = dn) : ∃ qs, alN Id' 2 [(3, .c (.one (.obj 2)))] [⟨.us (.own b), true⟩, ⟨.dead, true⟩, ⟨.us (.own dn), true⟩] ((symC (⟨Try.prog, [], [], dkHo, Id'.one, 60⟩ : Sy Td) [] 14 (hdC (loopsC (bodyOf Try.f14)) 0) ⟨[(3, .c (.one (.obj 2)))] ++ anyB' (writesC (hdC (loopsC (bodyOf Try.f14)) 0)) ([] ++ tabV f 14), [⟨.us (.own b), true⟩, ⟨.dead, true⟩, ⟨.us (.own d), true⟩], 0⟩).al [true]) = some qs ∧ ∀ q ∈ qs, q :=
  ⟨[decide ((↑d.length : Int) < (128 : Int)) = true, d.length + [UInt8.ofNat (Int.toNat (0 : Int))].length ≤ (1000000 : Nat), (0 : Int) ≤ (0 : Int) ∧ (0 : Int) < (256 : Int), (Th.own b : Td) = Th.own b, (Th.own (d ++ [UInt8.ofNat (Int.toNat (0 : Int))]) : Td) = Th.own dn], by kernel_rfl, (by refine mcons ?_ (mcons ?_ (mcons ?_ (mcons ?_ (mcons ?_ mnil)))) <;> first | rfl | exact h0 | exact h1 | trivial | (show d.length + 1 ≤ 1000000; simp at h0; omega) | (exact congrArg Th.own h1) | (exact ⟨by decide, by decide⟩))⟩
set_option maxRecDepth 100000 in
theorem sectP_x (b : List UInt8) (d dn : List UInt8) (k : Nat) (f : Nat → Value) (h0 : decide ((d.length : Int) < 128) = false) (h1 : d = dn) : ∃ qs, alX Id' 2 0 [(3, .c (.one (.obj 2)))] [⟨.us (.own b), true⟩, ⟨.dead, true⟩, ⟨.us (.own dn), true⟩] ((symC (⟨Try.prog, [], [], dkHo, Id'.one, 60⟩ : Sy Td) [] 14 (hdC (loopsC (bodyOf Try.f14)) 0) ⟨[(3, .c (.one (.obj 2)))] ++ anyB' (writesC (hdC (loopsC (bodyOf Try.f14)) 0)) ([] ++ tabV f 14), [⟨.us (.own b), true⟩, ⟨.dead, true⟩, ⟨.us (.own d), true⟩], 0⟩).al [false]) = some qs ∧ ∀ q ∈ qs, q :=
  ⟨[decide ((↑d.length : Int) < (128 : Int)) = false, (Th.own b : Td) = Th.own b, (Th.own d : Td) = Th.own dn], by kernel_rfl, (by refine mcons ?_ (mcons ?_ (mcons ?_ mnil)) <;> first | rfl | exact h0 | exact h1 | trivial | (show d.length + 1 ≤ 1000000; simp at h0; omega) | (exact congrArg Th.own h1) | (exact ⟨by decide, by decide⟩))⟩
set_option maxRecDepth 100000 in
theorem sectP_lp (b : List UInt8)  {W0 : World} {G : Nat → Prop} (S0 : Sy Td) (hS0 : S0.P = Try.prog) : LoopSound S0 Id' W0 G 14 (hdC (loopsC (bodyOf Try.f14)) 0) (lpG Id' 14 (hdC (loopsC (bodyOf Try.f14)) 0) 2 [(3, .c (.one (.obj 2)))] [] [⟨.us (.own b), true⟩, ⟨.dead, true⟩, ⟨.us (.own (b.take 128 ++ List.replicate 0 0)), true⟩] (.leaf (.exit 0) [(3, .c (.one (.obj 2)))] [⟨.us (.own b), true⟩, ⟨.dead, true⟩, ⟨.us (.own (sectO b)), true⟩])) := by
  refine lp_sound (V := fun k => [(3, .c (.one (.obj 2)))]) (M := (fun k => [⟨.us (.own b), true⟩, ⟨.dead, true⟩, ⟨.us (.own (b.take 128 ++ List.replicate k 0)), true⟩] : Nat → Mem Td)) (N := 129) (Ux := fun k x => match x with | .exit 0 => some ([(3, .c (.one (.obj 2)))], ([⟨.us (.own b), true⟩, ⟨.dead, true⟩, ⟨.us (.own (sectO b)), true⟩] : Mem Td)) | _ => none) (X := fun _ _ => True) (J := fun k => k ≤ 128 - b.length) (fun k => by kernel_rfl) (Nat.zero_le _) (fun k hk hJ f => ?_) (fun K hK k x U hk hU hX => ?_)
  · rw [hS0]
    cases hT : decide (((b.take 128 ++ List.replicate k 0).length : Int) < 128) with
    | false => exact rnd_xD (⟨Try.prog, [], [], dkHo, Id'.one, 60⟩ : Sy Td) rfl ((fun (W0 : World) (G : Nat → Prop) => SyOk.mk2 Try.mixed dkHo_ok (FnsR.nil) EqsOk.nil) W0 G) (sectP_x b _ _ k f hT (sect_no hJ hT)) rfl trivial
    | true =>
      have hk1 := sect_yes hT
      exact rnd_nD (⟨Try.prog, [], [], dkHo, Id'.one, 60⟩ : Sy Td) rfl ((fun (W0 : World) (G : Nat → Prop) => SyOk.mk2 Try.mixed dkHo_ok (FnsR.nil) EqsOk.nil) W0 G) (sectP_n b _ _ k f hT (by rw [List.append_assoc, ← List.replicate_succ'])) rfl rfl (by omega) (by simp at hT; omega)
  · revert hU
    match x with
    | .exit 0 => intro hU; simp only [Option.some.injEq] at hU; subst hU; exact hK
    | .normal => intro hU; cases hU
    | .ret => intro hU; cases hU
    | .exit (n + 1) => intro hU; cases hU
set_option maxRecDepth 100000 in
theorem sectP_w0 (b : List UInt8) (h0 : b.length ≤ 128) : ∃ qs, wayO Id' (([⟨.us (.own b), true⟩] : Mem Td) : Mem Td).length [⟨.us (.own b), true⟩, ⟨.us (.own (sectO b)), true⟩] (.c (.one (.obj 1))) ((runFn (⟨Try.prog, [(26, ctrF Id' C_rcutO hardD), (25, ctrF Id' C_rcopyO hardD)], [], dkHo, Id'.one, 60⟩ : Sy Td) [(2, (lpG Id' 14 (hdC (loopsC (bodyOf Try.f14)) 0) 2 [(3, .c (.one (.obj 2)))] [] [⟨.us (.own b), true⟩, ⟨.dead, true⟩, ⟨.us (.own (b.take 128 ++ List.replicate 0 0)), true⟩] (.leaf (.exit 0) [(3, .c (.one (.obj 2)))] [⟨.us (.own b), true⟩, ⟨.dead, true⟩, ⟨.us (.own (sectO b)), true⟩])))] Try.f14 [.one (.obj 0)] ([⟨.us (.own b), true⟩] : Mem Td)).al []) = some qs ∧ ∀ q ∈ qs, q :=
  ⟨[b.length ≤ (1000000 : Nat), (En.mk (Ob.us (Th.own b)) true : En Td) = En.mk (Ob.us (Th.own b)) true, decide ((↑b.length : Int) > (128 : Int)) = false, (En.mk (Ob.us (Th.own b)) true : En Td) = En.mk (Ob.us (Th.own b)) true, (Th.own b : Td) = Th.own b, (Th.own b : Td) = Th.own ((List.take (128 : Nat) b) ++ (List.replicate (0 : Nat) (0 : UInt8))), (Th.own b : Td) = Th.own b, (Th.own ((List.take (128 : Nat) b) ++ (List.replicate ((128 : Nat) - b.length) (0 : UInt8))) : Td) = Th.own ((List.take (128 : Nat) b) ++ (List.replicate ((128 : Nat) - b.length) (0 : UInt8)))], by kernel_rfl, (by refine mcons ?_ (mcons ?_ (mcons ?_ (mcons ?_ (mcons ?_ (mcons ?_ (mcons ?_ (mcons ?_ mnil))))))) <;> first | rfl | exact h0 | trivial | (show (Th.own b : Td) = Th.own (b.take 128 ++ List.replicate 0 0); rw [List.replicate_zero, List.append_nil, List.take_of_length_le h0]) | (show decide ((b.length : Int) > 128) = false; rw [decide_eq_false_iff_not]; omega) | (show b.length ≤ 1000000; omega))⟩
def C_sectP : Ctr Td := fun us sub => match us, sub with
  | [.one (.obj 0)], [⟨.us (.own b), true⟩] => some ([b.length ≤ 128], .c (.one (.obj 1)), [⟨.us (.own b), true⟩, ⟨.us (.own (sectO b)), true⟩])
  | _, _ => none
set_option maxRecDepth 100000 in
theorem C_sectP_ok : CtrOk Try.prog Id' 14 C_sectP := by
  intro us sub ps x sm h hp w e vs hM ha
  unfold C_sectP at h
  split at h
  · rename_i b
    simp only [Option.some.injEq, Prod.mk.injEq] at h
    obtain ⟨rfl, rfl, rfl⟩ := h
    exact ctr_way (I := Id') (fun (W0 : World) (G : Nat → Prop) => SyOk.mk2 Try.mixed dkHo_ok (FnsR.cons (R_rcutO) (FnsR.cons (R_rcopyO) (FnsR.nil))) EqsOk.nil) rfl Try.func14 (by kernel_rfl) (fun _ _ => LpsOk.cons (by kernel_rfl) (sectP_lp b _ rfl) (LpsOk.nil _)) (cs := []) (by kernel_rfl) (sectP_w0 b (hp _ (List.mem_cons_self ..))) w e vs hM ha
  · cases h
theorem R_sectP : RowOk Try.prog Id' hardD 14 (ctrF Id' C_sectP hardD) := ctrF_ok Try.call14 C_sectP_ok
end Go.Proofs.Ytonomiljclemnaa

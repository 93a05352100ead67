/- H18. -/
import Derived.Test.YtonomiljclemnaaH17p
import Derived.Test.YtonomiljclemnaaF2p
set_option linter.unusedVariables false
set_option linter.unusedSimpArgs false
namespace Go.Proofs.Ytonomiljclemnaa
open Go.RowKit
def sectO (b : List UInt8) : List UInt8 := b.take 128 ++ List.replicate (128 - b.length) 0
set_option maxRecDepth 100000 in
theorem rcopy_w0 (b : List UInt8) (h0 : b.length ≤ 1000000) : ∃ qs, wayO Id' (([⟨.us (.byt b), false⟩] : Mem Td) : Mem Td).length [⟨.us (.byt b), false⟩, ⟨.us (.own b), true⟩] (.c (.one (.obj 1))) ((runFn (⟨Try.prog, [], [], dkHo, Id'.one, 60⟩ : Sy Td) [] Try.f25 [.one (.obj 0)] ([⟨.us (.byt b), false⟩] : Mem Td)).al []) = some qs ∧ ∀ q ∈ qs, q :=
  ⟨[b.length ≤ (1000000 : Nat), (Th.byt b : Td) = Th.byt b, (Th.own b : Td) = Th.own b], by kernel_rfl, (by refine mcons ?_ (mcons ?_ (mcons ?_ mnil)) <;> first | rfl | exact h0 | trivial)⟩
def C_rcopy : Ctr Td := fun us sub => match us, sub with
  | [.one (.obj 0)], [⟨.us (.byt b), false⟩] => some ([b.length ≤ 1000000], .c (.one (.obj 1)), [⟨.us (.byt b), false⟩, ⟨.us (.own b), true⟩])
  | _, _ => none
set_option maxRecDepth 100000 in
theorem C_rcopy_ok : CtrOk Try.prog Id' 25 C_rcopy := by
  intro us sub ps x sm h hp w e vs hM ha
  unfold C_rcopy at h
  split at h
  · rename_i b
    simp only [Option.some.injEq, Prod.mk.injEq] at h
    obtain ⟨rfl, rfl, rfl⟩ := h
    exact ctr_way (I := Id') (fun (W0 : World) (G : Nat → Prop) => SyOk.mk2 Try.mixed dkHo_ok (FnsR.nil) EqsOk.nil) rfl Try.func25 (by kernel_rfl) (fun _ _ => LpsOk.nil _) (cs := []) (by kernel_rfl) (rcopy_w0 b (hp _ (List.mem_cons_self ..))) w e vs hM ha
  · cases h
theorem R_rcopy : RowOk Try.prog Id' hardD 25 (ctrF Id' C_rcopy hardD) := ctrF_ok Try.call25 C_rcopy_ok
theorem sect_yes {b : List UInt8} {k : Nat} (h : decide (((b.take 128 ++ List.replicate k 0).length : Int) < 128) = true) : k < 128 := by
  simp at h; omega
theorem sect_no {b : List UInt8} {k : Nat} (hk : k ≤ 128 - b.length) (h : decide (((b.take 128 ++ List.replicate k 0).length : Int) < 128) = false) : b.take 128 ++ List.replicate k 0 = sectO b := by
  have : k = 128 - b.length := by simp at h; omega
  rw [this]; rfl
theorem sect_len (b : List UInt8) : (sectO b).length = 128 := by simp [sectO]; omega
set_option maxRecDepth 100000 in
theorem sect_n (b : List UInt8) (d dn : List UInt8) (k : Nat) (f : Nat → Value) (h0 : decide ((d.length : Int) < 128) = true) (h1 : d ++ [0] = dn) : ∃ qs, alN Id' 3 [(3, .c (.one (.obj 3)))] [⟨.us (.byt b), false⟩, ⟨.dead, true⟩, ⟨.dead, true⟩, ⟨.us (.own dn), true⟩] ((symC (⟨Try.prog, [], [], dkHo, Id'.one, 60⟩ : Sy Td) [] 14 (hdC (loopsC (bodyOf Try.f14)) 0) ⟨[(3, .c (.one (.obj 3)))] ++ anyB' (writesC (hdC (loopsC (bodyOf Try.f14)) 0)) ([] ++ tabV f 14), [⟨.us (.byt b), false⟩, ⟨.dead, true⟩, ⟨.dead, true⟩, ⟨.us (.own d), true⟩], 0⟩).al [true]) = some qs ∧ ∀ q ∈ qs, q :=
  ⟨[decide ((↑d.length : Int) < (128 : Int)) = true, d.length + [UInt8.ofNat (Int.toNat (0 : Int))].length ≤ (1000000 : Nat), (0 : Int) ≤ (0 : Int) ∧ (0 : Int) < (256 : Int), (Th.byt b : Td) = Th.byt b, (Th.own (d ++ [UInt8.ofNat (Int.toNat (0 : Int))]) : Td) = Th.own dn], by kernel_rfl, (by refine mcons ?_ (mcons ?_ (mcons ?_ (mcons ?_ (mcons ?_ mnil)))) <;> first | rfl | exact h0 | exact h1 | trivial | (show d.length + 1 ≤ 1000000; simp at h0; omega) | (exact congrArg Th.own h1) | (exact ⟨by decide, by decide⟩))⟩
set_option maxRecDepth 100000 in
theorem sect_x (b : List UInt8) (d dn : List UInt8) (k : Nat) (f : Nat → Value) (h0 : decide ((d.length : Int) < 128) = false) (h1 : d = dn) : ∃ qs, alX Id' 3 0 [(3, .c (.one (.obj 3)))] [⟨.us (.byt b), false⟩, ⟨.dead, true⟩, ⟨.dead, true⟩, ⟨.us (.own dn), true⟩] ((symC (⟨Try.prog, [], [], dkHo, Id'.one, 60⟩ : Sy Td) [] 14 (hdC (loopsC (bodyOf Try.f14)) 0) ⟨[(3, .c (.one (.obj 3)))] ++ anyB' (writesC (hdC (loopsC (bodyOf Try.f14)) 0)) ([] ++ tabV f 14), [⟨.us (.byt b), false⟩, ⟨.dead, true⟩, ⟨.dead, true⟩, ⟨.us (.own d), true⟩], 0⟩).al [false]) = some qs ∧ ∀ q ∈ qs, q :=
  ⟨[decide ((↑d.length : Int) < (128 : Int)) = false, (Th.byt b : Td) = Th.byt b, (Th.own d : Td) = Th.own dn], by kernel_rfl, (by refine mcons ?_ (mcons ?_ (mcons ?_ mnil)) <;> first | rfl | exact h0 | exact h1 | trivial | (show d.length + 1 ≤ 1000000; simp at h0; omega) | (exact congrArg Th.own h1) | (exact ⟨by decide, by decide⟩))⟩
set_option maxRecDepth 100000 in
theorem sect_lp (b : List UInt8)  {W0 : World} {G : Nat → Prop} (S0 : Sy Td) (hS0 : S0.P = Try.prog) : LoopSound S0 Id' W0 G 14 (hdC (loopsC (bodyOf Try.f14)) 0) (lpG Id' 14 (hdC (loopsC (bodyOf Try.f14)) 0) 3 [(3, .c (.one (.obj 3)))] [] [⟨.us (.byt b), false⟩, ⟨.dead, true⟩, ⟨.dead, true⟩, ⟨.us (.own (b.take 128 ++ List.replicate 0 0)), true⟩] (.leaf (.exit 0) [(3, .c (.one (.obj 3)))] [⟨.us (.byt b), false⟩, ⟨.dead, true⟩, ⟨.dead, true⟩, ⟨.us (.own (sectO b)), true⟩])) := by
  refine lp_sound (V := fun k => [(3, .c (.one (.obj 3)))]) (M := (fun k => [⟨.us (.byt b), false⟩, ⟨.dead, true⟩, ⟨.dead, true⟩, ⟨.us (.own (b.take 128 ++ List.replicate k 0)), true⟩] : Nat → Mem Td)) (N := 129) (Ux := fun k x => match x with | .exit 0 => some ([(3, .c (.one (.obj 3)))], ([⟨.us (.byt b), false⟩, ⟨.dead, true⟩, ⟨.dead, true⟩, ⟨.us (.own (sectO b)), true⟩] : Mem Td)) | _ => none) (X := fun _ _ => True) (J := fun k => k ≤ 128 - b.length) (fun k => by kernel_rfl) (Nat.zero_le _) (fun k hk hJ f => ?_) (fun K hK k x U hk hU hX => ?_)
  · rw [hS0]
    cases hT : decide (((b.take 128 ++ List.replicate k 0).length : Int) < 128) with
    | false => exact rnd_xD (⟨Try.prog, [], [], dkHo, Id'.one, 60⟩ : Sy Td) rfl ((fun (W0 : World) (G : Nat → Prop) => SyOk.mk2 Try.mixed dkHo_ok (FnsR.nil) EqsOk.nil) W0 G) (sect_x b _ _ k f hT (sect_no hJ hT)) rfl trivial
    | true =>
      have hk1 := sect_yes hT
      exact rnd_nD (⟨Try.prog, [], [], dkHo, Id'.one, 60⟩ : Sy Td) rfl ((fun (W0 : World) (G : Nat → Prop) => SyOk.mk2 Try.mixed dkHo_ok (FnsR.nil) EqsOk.nil) W0 G) (sect_n b _ _ k f hT (by rw [List.append_assoc, ← List.replicate_succ'])) rfl rfl (by omega) (by simp at hT; omega)
  · revert hU
    match x with
    | .exit 0 => intro hU; simp only [Option.some.injEq] at hU; subst hU; exact hK
    | .normal => intro hU; cases hU
    | .ret => intro hU; cases hU
    | .exit (n + 1) => intro hU; cases hU
set_option maxRecDepth 100000 in
theorem sect_w0 (b : List UInt8)  : ∃ qs, wayO Id' (([⟨.us (.byt b), false⟩] : Mem Td) : Mem Td).length [⟨.us (.byt b), false⟩, ⟨.us (.own (sectO b)), true⟩] (.c (.one (.obj 1))) ((runFn (⟨Try.prog, [(F_rcut : Nat × Fn2 Td), (25, ctrF Id' C_rcopy hardD)], [], dkHo, Id'.one, 60⟩ : Sy Td) [(2, (lpG Id' 14 (hdC (loopsC (bodyOf Try.f14)) 0) 3 [(3, .c (.one (.obj 3)))] [] [⟨.us (.byt b), false⟩, ⟨.dead, true⟩, ⟨.dead, true⟩, ⟨.us (.own (b.take 128 ++ List.replicate 0 0)), true⟩] (.leaf (.exit 0) [(3, .c (.one (.obj 3)))] [⟨.us (.byt b), false⟩, ⟨.dead, true⟩, ⟨.dead, true⟩, ⟨.us (.own (sectO b)), true⟩])))] Try.f14 [.one (.obj 0)] ([⟨.us (.byt b), false⟩] : Mem Td)).al []) = some qs ∧ ∀ q ∈ qs, q :=
  ⟨[(List.take 128 b).length ≤ (1000000 : Nat), nat_lit 128 ≤ (9223372036854775807 : Nat), (Th.byt b : Td) = Th.byt b, (Th.own (List.take 128 b) : Td) = Th.own ((List.take (128 : Nat) b) ++ (List.replicate (0 : Nat) (0 : UInt8))), (Th.byt b : Td) = Th.byt b, (Th.own ((List.take (128 : Nat) b) ++ (List.replicate ((128 : Nat) - b.length) (0 : UInt8))) : Td) = Th.own ((List.take (128 : Nat) b) ++ (List.replicate ((128 : Nat) - b.length) (0 : UInt8)))], by kernel_rfl, (by refine mcons ?_ (mcons ?_ (mcons ?_ (mcons ?_ (mcons ?_ (mcons ?_ mnil))))) <;> first | rfl | trivial | (show (Th.own (b.take 128) : Td) = Th.own (b.take 128 ++ List.replicate 0 0); rw [List.replicate_zero, List.append_nil]) | (show 128 ≤ 9223372036854775807; decide) | (show (b.take 128).length ≤ 1000000; simp; omega))⟩
def C_sect : Ctr Td := fun us sub => match us, sub with
  | [.one (.obj 0)], [⟨.us (.byt b), false⟩] => some ([], .c (.one (.obj 1)), [⟨.us (.byt b), false⟩, ⟨.us (.own (sectO b)), true⟩])
  | _, _ => none
set_option maxRecDepth 100000 in
theorem C_sect_ok : CtrOk Try.prog Id' 14 C_sect := by
  intro us sub ps x sm h hp w e vs hM ha
  unfold C_sect at h
  split at h
  · rename_i b
    simp only [Option.some.injEq, Prod.mk.injEq] at h
    obtain ⟨rfl, rfl, rfl⟩ := h
    exact ctr_way (I := Id') (fun (W0 : World) (G : Nat → Prop) => SyOk.mk2 Try.mixed dkHo_ok (FnsR.cons (F_rcut_ok (J := dkI) (hx := hardDk)) (FnsR.cons (R_rcopy) (FnsR.nil))) EqsOk.nil) rfl Try.func14 (by kernel_rfl) (fun _ _ => LpsOk.cons (by kernel_rfl) (sect_lp b _ rfl) (LpsOk.nil _)) (cs := []) (by kernel_rfl) (sect_w0 b ) w e vs hM ha
  · cases h
theorem R_sect : RowOk Try.prog Id' hardD 14 (ctrF Id' C_sect hardD) := ctrF_ok Try.call14 C_sect_ok
end Go.Proofs.Ytonomiljclemnaa

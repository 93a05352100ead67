/- outbox: the loop of OutboxOnce. -/
import Derived.Test.YtklemhmdbfhcdaaO11
import Derived.Test.YtklemhmdbfhcdaaO9


set_option linter.unusedVariables false
set_option linter.unusedSimpArgs false
namespace Go.Proofs.Ytklemhmdbfhcdaa
open Go.RowKit

def sndQ (l : List DoO) (k : Nat) (client q : Int) : Msg := bif (dK l k).m.kd == 1 then sentO l k client q 0 else sentO l k client q (dK l k).b
def qO (l : List DoO) (client : Int) : Nat → Int
  | 0 => 0
  | k + 1 => bif checkI (sndQ l k client (qO l client k)) == 0 then IntKind.u64.wrap (qO l client k + 1) else qO l client k
def meQ (l : List DoO) (client q : Int) : Mem Lab := [⟨.sl (doKS l) (.ents []), false⟩, ⟨.us (.kn (knOf l)), false⟩, ⟨.dead, true⟩, ⟨.bx [.kB true, .v (.int .i64 client), .v (.int .u64 q), .v (.int .i64 0), .v (.int .i64 0), .v (.int .u64 0), .v (.int .u64 0), .v (.int .u64 0), .v (.int .i64 0), .v (.int .i64 0), .v (.int .i64 0), .v (.int .i64 0), .v (.int .i64 0), .v (.int .i64 0), .v (.string ⟨#[]⟩), .v (.string ⟨#[]⟩), .v (.int .i64 0), .v (.int .i64 0), .v (.string ⟨#[]⟩), .v (.int .u64 0), .v (.slice none 0 0), .v (.int .u64 0), .kB false], true⟩]
def VQ (k : Nat) (q : Int) : List (Nat × SV) := [(8, .c (.one (.v (.int .i64 (k : Int))))), (7, .c (.one (.v (.int .u64 q))))]
def RQ (client : Int) : List (Nat × SV) := [(0, .c (.one (.v (.int .i64 client)))), (1, .c (.one (.obj 0))), (5, .c (.one (.ptr 3 0)))]
def deQ : Mem Lab := [⟨.dead, true⟩, ⟨.dead, true⟩, ⟨.dead, true⟩, ⟨.dead, true⟩]
theorem u64_in (x : Int) (h : 0 ≤ x ∧ x < 18446744073709551616) : IntKind.u64.wrap x = x := by
  show x % 18446744073709551616 = x
  omega
theorem qO_le (l : List DoO) (client : Int) : ∀ k : Nat, k ≤ 40 → 0 ≤ qO l client k ∧ qO l client k ≤ (k : Int)
  | 0, _ => ⟨Int.le_refl _, Int.le_refl _⟩
  | k + 1, hk => by
    have ih := qO_le l client k (by omega)
    simp only [qO]
    cases checkI (sndQ l k client (qO l client k)) == 0 with
    | true => simp only [cond_true]; rw [u64_in _ (by omega)]; omega
    | false => simp only [cond_false]; omega
/-- The reply to what was sent is right. -/
theorem rgt_ok (l : List DoO) (k : Nat) (client q : Int) (h : checkI (sndQ l k client q) = 0) : checkI (rgtO l k client q (bif (dK l k).m.kd == 1 then 1 else (dK l k).b)) = 0 := by
  have h1 : req2 (sndQ l k client q) = true := by
    unfold checkI at h
    have ht : ((sndQ l k client q).ty == 1) = true := by unfold sndQ; cases (dK l k).m.kd == 1 <;> rfl
    rw [ht] at h
    cases hr : req2 (sndQ l k client q) with
    | true => rfl
    | false => rw [hr] at h; cases h
  unfold req2 req1 at h1
  simp only [Bool.and_eq_true] at h1
  obtain ⟨⟨⟨h2, h3⟩, h4⟩, _⟩ := h1
  have g3 : kindB (rgtO l k client q (bif (dK l k).m.kd == 1 then 1 else (dK l k).b)) = true := by
    have : (sndQ l k client q).kd = (dK l k).m.kd := by unfold sndQ; cases (dK l k).m.kd == 1 <;> rfl
    unfold kindB at h3 ⊢
    rw [this] at h3
    exact h3
  have g2 : headB (rgtO l k client q (bif (dK l k).m.kd == 1 then 1 else (dK l k).b)) = true := by
    unfold sndQ at h2
    cases hk : (dK l k).m.kd == 1 with
    | true =>
      rw [hk] at h2
      simp only [cond_true] at h2 ⊢
      unfold headB at h2 ⊢
      simp only [sentO, rgtO] at h2 ⊢
      rw [hk] at h2
      simp only [Bool.and_eq_true, Bool.or_eq_true] at h2 ⊢
      obtain ⟨⟨⟨⟨a, b⟩, c⟩, d⟩, e⟩ := h2
      refine ⟨⟨⟨⟨a, b⟩, c⟩, ?_⟩, .inl ⟨by decide, rfl⟩⟩
      rcases d with d | d
      · exact .inl ⟨d.1, rfl⟩
      · exact absurd d.2 (by decide)
    | false =>
      rw [hk] at h2
      simp only [cond_false] at h2 ⊢
      unfold headB at h2 ⊢
      simp only [sentO, rgtO] at h2 ⊢
      rw [hk] at h2
      simp only [Bool.and_eq_true, Bool.or_eq_true] at h2 ⊢
      obtain ⟨⟨⟨⟨a, b⟩, c⟩, d⟩, e⟩ := h2
      refine ⟨⟨⟨⟨a, b⟩, c⟩, ?_⟩, ?_⟩
      · rcases d with d | d
        · exact .inl ⟨d.1, rfl⟩
        · exact absurd d.2 (by decide)
      · rcases e with e | e
        · exact .inl ⟨e.1, rfl⟩
        · exact absurd e.2.2 (by decide)
  have g4 : hasB (rgtO l k client q (bif (dK l k).m.kd == 1 then 1 else (dK l k).b)) 0 = true := by
    unfold hasB hasPre
    simp only [rgtO]
    kernel_rfl
  unfold checkI
  have e1 : ((rgtO l k client q (bif (dK l k).m.kd == 1 then 1 else (dK l k).b)).ty == 1) = false := rfl
  have e2 : ((rgtO l k client q (bif (dK l k).m.kd == 1 then 1 else (dK l k).b)).ty == 2) = true := rfl
  rw [e1, e2]
  unfold rep2 rep1
  rw [g2, g3, g4]
  rfl
theorem wrg_ne (q : Int) (h : 0 ≤ q ∧ q ≤ 40) : (IntKind.u64.wrap (IntKind.u64.wrap (q + 1) + 1) == IntKind.u64.wrap (q + 1)) = false := by
  rw [u64_in (q + 1) (by omega), u64_in (q + 1 + 1) (by omega)]
  exact beq_false_of_ne (by omega)
theorem memTapeQ {W0 : World} {G : Nat → Prop} {w : World} {e : Env} {l : List DoO} {client q : Int} (hM : MemOk W0 G labI w e (meQ l client q)) (t : List (List Bool)) : MemOk W0 G labI w e ((meQ l client q).set 2 ⟨.us (.tape t), true⟩) := memTape hM (j := 2) rfl t
set_option maxHeartbeats 1000000 in
set_option maxRecDepth 100000 in
theorem onceLoop (l : List DoO) (client : Int) {W0 : World} {G : Nat → Prop} (S0 : Sy Lab) (hS0 : S0.P = Try.prog) : LoopSound S0 labI W0 G 119 (hdC (loopsC (bodyOf Try.f3)) 0) (lpG labI 119 (hdC (loopsC (bodyOf Try.f3)) 0) 4 (VQ 0 (qO l client 0)) (RQ client) (meQ l client (qO l client 0)) (.leaf (.exit 0) [] deQ)) := by
  refine lp_sound (V := fun k => VQ k (qO l client k)) (M := fun k => meQ l client (qO l client k)) (N := 40) (Ux := fun k x => match x with | .exit 0 => some ([], deQ) | _ => none) (X := fun _ _ => True) (J := fun k => True) (fun k => by kernel_rfl) trivial (fun k hk hJ f => ?_) (fun K hK k x U hk hU hX => ?_)
  · rw [hS0]
    have hq := qO_le l client k hk
    cases hT : (decide ((k : Int) < ((doKS l).n : Int)) && decide ((k : Int) < 40)) with
    | false =>
      exact rnd_x (⟨Try.prog, [(F_shk 1), (8, inlT 2 (⟨Try.prog, [(20, inlB ⟨Try.prog, [], [], (hoP true), labI.one, 60⟩ Try.f20), F_mck], [], hoP false, labI.one, 60⟩ : Sy Lab) [] Try.f8 hardL), (10, inlT 2 (⟨Try.prog, [(18, inlB ⟨Try.prog, [(20, inlB ⟨Try.prog, [], [], (hoP true), labI.one, 60⟩ Try.f20)], [], (hoP true), labI.one, 60⟩ Try.f18), F_mck, (23, inl (⟨Try.prog, [], [], hoP false, labI.one, 60⟩ : Sy Lab) [] Try.f23 false), (14, inlC (⟨Try.prog, [(20, inlB ⟨Try.prog, [], [], (hoP true), labI.one, 60⟩ Try.f20)], [], hoP false, labI.one, 60⟩ : Sy Lab) Try.f14 [])], [], hoP false, labI.one, 60⟩ : Sy Lab) [] Try.f10 hardL)], [], (hoP true), labI.one, 60⟩ : Sy Lab) [] rfl ((fun (W0 : World) (G : Nat → Prop) => SyOk.mk2 Try.mixed (hoP_ok true) (FnsR.cons (F_shk_ok 1) (FnsR.cons (inlT_ok 2 rfl (fun (W0 : World) (G : Nat → Prop) => (SyOk.mk3 Try.mixed (FnsOk.ofR (hard := hardL) (inlB_ok rfl (fun (W0 : World) (G : Nat → Prop) => SyOk.mk2 Try.mixed (hoP_ok true) (FnsR.nil) EqsOk.nil) Try.func20 (by kernel_rfl) Try.call20) (FnsOk.ofR (hard := hardL) (F_mck_ok) (FnsOk.nil))) EqsOk.nil)) Try.func8 (by kernel_rfl) (fun _ _ => LpsOk.nil _) Try.call8) (FnsR.cons (inlT_ok 2 rfl (fun (W0 : World) (G : Nat → Prop) => (SyOk.mk3 Try.mixed (FnsOk.ofR (hard := hardL) (inlB_ok rfl (fun (W0 : World) (G : Nat → Prop) => SyOk.mk2 Try.mixed (hoP_ok true) (FnsR.cons (inlB_ok rfl (fun (W0 : World) (G : Nat → Prop) => SyOk.mk2 Try.mixed (hoP_ok true) (FnsR.nil) EqsOk.nil) Try.func20 (by kernel_rfl) Try.call20) (FnsR.nil)) EqsOk.nil) Try.func18 (by kernel_rfl) Try.call18) (FnsOk.ofR (hard := hardL) (F_mck_ok) (FnsOk.consI (cl := false) Try.call23 rfl Try.func23 (by kernel_rfl) (fun w => (SyOk.mk3 Try.mixed (FnsOk.nil) EqsOk.nil)) (fun w => LpsOk.nil _) (FnsOk.consC (cs := []) Try.call14 rfl Try.func14 (by kernel_rfl) (fun (W0 : World) (G : Nat → Prop) => SyOk.mk3 Try.mixed (FnsOk.ofR (hard := hardL) (inlB_ok rfl (fun (W0 : World) (G : Nat → Prop) => SyOk.mk2 Try.mixed (hoP_ok true) (FnsR.nil) EqsOk.nil) Try.func20 (by kernel_rfl) Try.call20) (FnsOk.nil)) EqsOk.nil) (FnsOk.nil))))) EqsOk.nil)) Try.func10 (by kernel_rfl) (fun _ _ => LpsOk.nil _) Try.call10) (FnsR.nil)))) EqsOk.nil) W0 G) (LpsOk.nil _) (m2 := [⟨.sl (doKS l) (.ents []), false⟩, ⟨.us (.kn (knOf l)), false⟩, ⟨.us (.tape []), true⟩, ⟨.bx [.kB true, .v (.int .i64 client), .v (.int .u64 (qO l client k)), .v (.int .i64 0), .v (.int .i64 0), .v (.int .u64 0), .v (.int .u64 0), .v (.int .u64 0), .v (.int .i64 0), .v (.int .i64 0), .v (.int .i64 0), .v (.int .i64 0), .v (.int .i64 0), .v (.int .i64 0), .v (.string ⟨#[]⟩), .v (.string ⟨#[]⟩), .v (.int .i64 0), .v (.int .i64 0), .v (.string ⟨#[]⟩), .v (.int .u64 0), .v (.slice none 0 0), .v (.int .u64 0), .kB false], true⟩]) (fun w e h => memTapeQ h _) [false] 0 _ (rdQ_x l k client (qO l client k) f hT).choose_spec.1 (rdQ_x l k client (qO l client k) f hT).choose_spec.2 rfl trivial
    | true =>
      have hlt : k < l.length ∧ k < 40 := by
        have h := hT
        simp only [Bool.and_eq_true, decide_eq_true_eq] at h
        have h1 : ((k : Int) < (l.length : Int)) := h.1
        omega
      have hkN := hlt.2
      have hI : (0 : Int) ≤ (k : Int) ∧ (k : Int).toNat < (doKS l).n := ⟨by omega, by show (k : Int).toNat < l.length; omega⟩
      have hW : IntKind.i64.wrap ((k : Int) + 1) = ((k + 1 : Nat) : Int) := by rw [IntWalk.i64_in _ (by omega)]; omega
      have hA : (knOf l).any (fun d => sameSl d.2 (.slice (dK l k).a (dK l k).n (dK l k).c)) = true := kn_any l hlt.1
      have hwr := wrg_ne (qO l client k) (by omega)
      cases e1 : ((dK l k).m.kd == 1) with
      | true =>
        have es : sndQ l k client (qO l client k) = sentO l k client (qO l client k) 0 := by unfold sndQ; rw [e1]; rfl
        rcases checkI_04 (sentO l k client (qO l client k) 0) with c | c
        · have eq : qO l client (k + 1) = IntKind.u64.wrap (qO l client k + 1) := by simp only [qO]; rw [es, c]; rfl
          have hr : checkI (rgtO l k client (qO l client k) 1) = 0 := by
            have := rgt_ok l k client (qO l client k) (by rw [es]; exact c)
            rw [e1] at this; exact this
          have a1 : (checkI (sentO l k client (qO l client k) 0) != 0) = false := by rw [c]; rfl
          have a2 : (checkI (wrgO l k client (qO l client k) 1) != 0 || !(client == client && (dK l k).s == (dK l k).s && IntKind.u64.wrap (IntKind.u64.wrap (qO l client k + 1) + 1) == IntKind.u64.wrap (qO l client k + 1) && (dK l k).m.kd == (dK l k).m.kd && (dK l k).m.kd == 1)) = true := by rw [hwr]; simp
          have a3 : (checkI (rgtO l k client (qO l client k) 1) != 0 || !(client == client && (dK l k).s == (dK l k).s && IntKind.u64.wrap (qO l client k + 1) == IntKind.u64.wrap (qO l client k + 1) && (dK l k).m.kd == (dK l k).m.kd && (dK l k).m.kd == 1)) = false := by rw [hr, e1]; simp
          exact rnd_n (⟨Try.prog, [(F_shk 1), (8, inlT 2 (⟨Try.prog, [(20, inlB ⟨Try.prog, [], [], (hoP true), labI.one, 60⟩ Try.f20), F_mck], [], hoP false, labI.one, 60⟩ : Sy Lab) [] Try.f8 hardL), (10, inlT 2 (⟨Try.prog, [(18, inlB ⟨Try.prog, [(20, inlB ⟨Try.prog, [], [], (hoP true), labI.one, 60⟩ Try.f20)], [], (hoP true), labI.one, 60⟩ Try.f18), F_mck, (23, inl (⟨Try.prog, [], [], hoP false, labI.one, 60⟩ : Sy Lab) [] Try.f23 false), (14, inlC (⟨Try.prog, [(20, inlB ⟨Try.prog, [], [], (hoP true), labI.one, 60⟩ Try.f20)], [], hoP false, labI.one, 60⟩ : Sy Lab) Try.f14 [])], [], hoP false, labI.one, 60⟩ : Sy Lab) [] Try.f10 hardL)], [], (hoP true), labI.one, 60⟩ : Sy Lab) [] rfl ((fun (W0 : World) (G : Nat → Prop) => SyOk.mk2 Try.mixed (hoP_ok true) (FnsR.cons (F_shk_ok 1) (FnsR.cons (inlT_ok 2 rfl (fun (W0 : World) (G : Nat → Prop) => (SyOk.mk3 Try.mixed (FnsOk.ofR (hard := hardL) (inlB_ok rfl (fun (W0 : World) (G : Nat → Prop) => SyOk.mk2 Try.mixed (hoP_ok true) (FnsR.nil) EqsOk.nil) Try.func20 (by kernel_rfl) Try.call20) (FnsOk.ofR (hard := hardL) (F_mck_ok) (FnsOk.nil))) EqsOk.nil)) Try.func8 (by kernel_rfl) (fun _ _ => LpsOk.nil _) Try.call8) (FnsR.cons (inlT_ok 2 rfl (fun (W0 : World) (G : Nat → Prop) => (SyOk.mk3 Try.mixed (FnsOk.ofR (hard := hardL) (inlB_ok rfl (fun (W0 : World) (G : Nat → Prop) => SyOk.mk2 Try.mixed (hoP_ok true) (FnsR.cons (inlB_ok rfl (fun (W0 : World) (G : Nat → Prop) => SyOk.mk2 Try.mixed (hoP_ok true) (FnsR.nil) EqsOk.nil) Try.func20 (by kernel_rfl) Try.call20) (FnsR.nil)) EqsOk.nil) Try.func18 (by kernel_rfl) Try.call18) (FnsOk.ofR (hard := hardL) (F_mck_ok) (FnsOk.consI (cl := false) Try.call23 rfl Try.func23 (by kernel_rfl) (fun w => (SyOk.mk3 Try.mixed (FnsOk.nil) EqsOk.nil)) (fun w => LpsOk.nil _) (FnsOk.consC (cs := []) Try.call14 rfl Try.func14 (by kernel_rfl) (fun (W0 : World) (G : Nat → Prop) => SyOk.mk3 Try.mixed (FnsOk.ofR (hard := hardL) (inlB_ok rfl (fun (W0 : World) (G : Nat → Prop) => SyOk.mk2 Try.mixed (hoP_ok true) (FnsR.nil) EqsOk.nil) Try.func20 (by kernel_rfl) Try.call20) (FnsOk.nil)) EqsOk.nil) (FnsOk.nil))))) EqsOk.nil)) Try.func10 (by kernel_rfl) (fun _ _ => LpsOk.nil _) Try.call10) (FnsR.nil)))) EqsOk.nil) W0 G) (LpsOk.nil _) (m2 := [⟨.sl (doKS l) (.ents []), false⟩, ⟨.us (.kn (knOf l)), false⟩, ⟨.us (.tape [[true,false],[true],[false],[]]), true⟩, ⟨.bx [.kB true, .v (.int .i64 client), .v (.int .u64 (qO l client k)), .v (.int .i64 0), .v (.int .i64 0), .v (.int .u64 0), .v (.int .u64 0), .v (.int .u64 0), .v (.int .i64 0), .v (.int .i64 0), .v (.int .i64 0), .v (.int .i64 0), .v (.int .i64 0), .v (.int .i64 0), .v (.string ⟨#[]⟩), .v (.string ⟨#[]⟩), .v (.int .i64 0), .v (.int .i64 0), .v (.string ⟨#[]⟩), .v (.int .u64 0), .v (.slice none 0 0), .v (.int .u64 0), .kB false], true⟩]) (fun w e h => memTapeQ h _) [true, false, true] _ (rdQ_H l k client (qO l client k) f hT hI hW hA e1 a1 a2 a3).choose_spec.1 (rdQ_H l k client (qO l client k) f hT hI hW hA e1 a1 a2 a3).choose_spec.2 (by show VQ (k + 1) (qO l client (k + 1)) = _; rw [eq]; rfl) (by show meQ l client (qO l client (k + 1)) = _; rw [eq]; rfl) hkN trivial
        · have eq : qO l client (k + 1) = qO l client k := by simp only [qO]; rw [es, c]; rfl
          have a1 : (checkI (sentO l k client (qO l client k) 0) != 0) = true := by rw [c]; rfl
          exact rnd_n (⟨Try.prog, [(F_shk 1), (8, inlT 2 (⟨Try.prog, [(20, inlB ⟨Try.prog, [], [], (hoP true), labI.one, 60⟩ Try.f20), F_mck], [], hoP false, labI.one, 60⟩ : Sy Lab) [] Try.f8 hardL), (10, inlT 2 (⟨Try.prog, [(18, inlB ⟨Try.prog, [(20, inlB ⟨Try.prog, [], [], (hoP true), labI.one, 60⟩ Try.f20)], [], (hoP true), labI.one, 60⟩ Try.f18), F_mck, (23, inl (⟨Try.prog, [], [], hoP false, labI.one, 60⟩ : Sy Lab) [] Try.f23 false), (14, inlC (⟨Try.prog, [(20, inlB ⟨Try.prog, [], [], (hoP true), labI.one, 60⟩ Try.f20)], [], hoP false, labI.one, 60⟩ : Sy Lab) Try.f14 [])], [], hoP false, labI.one, 60⟩ : Sy Lab) [] Try.f10 hardL)], [], (hoP true), labI.one, 60⟩ : Sy Lab) [] rfl ((fun (W0 : World) (G : Nat → Prop) => SyOk.mk2 Try.mixed (hoP_ok true) (FnsR.cons (F_shk_ok 1) (FnsR.cons (inlT_ok 2 rfl (fun (W0 : World) (G : Nat → Prop) => (SyOk.mk3 Try.mixed (FnsOk.ofR (hard := hardL) (inlB_ok rfl (fun (W0 : World) (G : Nat → Prop) => SyOk.mk2 Try.mixed (hoP_ok true) (FnsR.nil) EqsOk.nil) Try.func20 (by kernel_rfl) Try.call20) (FnsOk.ofR (hard := hardL) (F_mck_ok) (FnsOk.nil))) EqsOk.nil)) Try.func8 (by kernel_rfl) (fun _ _ => LpsOk.nil _) Try.call8) (FnsR.cons (inlT_ok 2 rfl (fun (W0 : World) (G : Nat → Prop) => (SyOk.mk3 Try.mixed (FnsOk.ofR (hard := hardL) (inlB_ok rfl (fun (W0 : World) (G : Nat → Prop) => SyOk.mk2 Try.mixed (hoP_ok true) (FnsR.cons (inlB_ok rfl (fun (W0 : World) (G : Nat → Prop) => SyOk.mk2 Try.mixed (hoP_ok true) (FnsR.nil) EqsOk.nil) Try.func20 (by kernel_rfl) Try.call20) (FnsR.nil)) EqsOk.nil) Try.func18 (by kernel_rfl) Try.call18) (FnsOk.ofR (hard := hardL) (F_mck_ok) (FnsOk.consI (cl := false) Try.call23 rfl Try.func23 (by kernel_rfl) (fun w => (SyOk.mk3 Try.mixed (FnsOk.nil) EqsOk.nil)) (fun w => LpsOk.nil _) (FnsOk.consC (cs := []) Try.call14 rfl Try.func14 (by kernel_rfl) (fun (W0 : World) (G : Nat → Prop) => SyOk.mk3 Try.mixed (FnsOk.ofR (hard := hardL) (inlB_ok rfl (fun (W0 : World) (G : Nat → Prop) => SyOk.mk2 Try.mixed (hoP_ok true) (FnsR.nil) EqsOk.nil) Try.func20 (by kernel_rfl) Try.call20) (FnsOk.nil)) EqsOk.nil) (FnsOk.nil))))) EqsOk.nil)) Try.func10 (by kernel_rfl) (fun _ _ => LpsOk.nil _) Try.call10) (FnsR.nil)))) EqsOk.nil) W0 G) (LpsOk.nil _) (m2 := [⟨.sl (doKS l) (.ents []), false⟩, ⟨.us (.kn (knOf l)), false⟩, ⟨.us (.tape [[true,true]]), true⟩, ⟨.bx [.kB true, .v (.int .i64 client), .v (.int .u64 (qO l client k)), .v (.int .i64 0), .v (.int .i64 0), .v (.int .u64 0), .v (.int .u64 0), .v (.int .u64 0), .v (.int .i64 0), .v (.int .i64 0), .v (.int .i64 0), .v (.int .i64 0), .v (.int .i64 0), .v (.int .i64 0), .v (.string ⟨#[]⟩), .v (.string ⟨#[]⟩), .v (.int .i64 0), .v (.int .i64 0), .v (.string ⟨#[]⟩), .v (.int .u64 0), .v (.slice none 0 0), .v (.int .u64 0), .kB false], true⟩]) (fun w e h => memTapeQ h _) [true, true] _ (rdQ_Q l k client (qO l client k) f hT hI hW hA e1 a1).choose_spec.1 (rdQ_Q l k client (qO l client k) f hT hI hW hA e1 a1).choose_spec.2 (by show VQ (k + 1) (qO l client (k + 1)) = _; rw [eq]; rfl) (by show meQ l client (qO l client (k + 1)) = _; rw [eq]; rfl) hkN trivial
      | false =>
        have es : sndQ l k client (qO l client k) = sentO l k client (qO l client k) (dK l k).b := by unfold sndQ; rw [e1]; rfl
        rcases checkI_04 (sentO l k client (qO l client k) (dK l k).b) with c | c
        · have eq : qO l client (k + 1) = IntKind.u64.wrap (qO l client k + 1) := by simp only [qO]; rw [es, c]; rfl
          have hr : checkI (rgtO l k client (qO l client k) (dK l k).b) = 0 := by
            have := rgt_ok l k client (qO l client k) (by rw [es]; exact c)
            rw [e1] at this; exact this
          have a1 : (checkI (sentO l k client (qO l client k) (dK l k).b) != 0) = false := by rw [c]; rfl
          have a2 : (checkI (wrgO l k client (qO l client k) (dK l k).b) != 0 || !(client == client && (dK l k).s == (dK l k).s && IntKind.u64.wrap (IntKind.u64.wrap (qO l client k + 1) + 1) == IntKind.u64.wrap (qO l client k + 1) && (dK l k).m.kd == (dK l k).m.kd && ((dK l k).b == (dK l k).b || (dK l k).m.kd == 1))) = true := by rw [hwr]; simp
          have a3 : (checkI (rgtO l k client (qO l client k) (dK l k).b) != 0 || !(client == client && (dK l k).s == (dK l k).s && IntKind.u64.wrap (qO l client k + 1) == IntKind.u64.wrap (qO l client k + 1) && (dK l k).m.kd == (dK l k).m.kd && ((dK l k).b == (dK l k).b || (dK l k).m.kd == 1))) = false := by rw [hr]; simp
          exact rnd_n (⟨Try.prog, [(F_shk 1), (8, inlT 2 (⟨Try.prog, [(20, inlB ⟨Try.prog, [], [], (hoP true), labI.one, 60⟩ Try.f20), F_mck], [], hoP false, labI.one, 60⟩ : Sy Lab) [] Try.f8 hardL), (10, inlT 2 (⟨Try.prog, [(18, inlB ⟨Try.prog, [(20, inlB ⟨Try.prog, [], [], (hoP true), labI.one, 60⟩ Try.f20)], [], (hoP true), labI.one, 60⟩ Try.f18), F_mck, (23, inl (⟨Try.prog, [], [], hoP false, labI.one, 60⟩ : Sy Lab) [] Try.f23 false), (14, inlC (⟨Try.prog, [(20, inlB ⟨Try.prog, [], [], (hoP true), labI.one, 60⟩ Try.f20)], [], hoP false, labI.one, 60⟩ : Sy Lab) Try.f14 [])], [], hoP false, labI.one, 60⟩ : Sy Lab) [] Try.f10 hardL)], [], (hoP true), labI.one, 60⟩ : Sy Lab) [] rfl ((fun (W0 : World) (G : Nat → Prop) => SyOk.mk2 Try.mixed (hoP_ok true) (FnsR.cons (F_shk_ok 1) (FnsR.cons (inlT_ok 2 rfl (fun (W0 : World) (G : Nat → Prop) => (SyOk.mk3 Try.mixed (FnsOk.ofR (hard := hardL) (inlB_ok rfl (fun (W0 : World) (G : Nat → Prop) => SyOk.mk2 Try.mixed (hoP_ok true) (FnsR.nil) EqsOk.nil) Try.func20 (by kernel_rfl) Try.call20) (FnsOk.ofR (hard := hardL) (F_mck_ok) (FnsOk.nil))) EqsOk.nil)) Try.func8 (by kernel_rfl) (fun _ _ => LpsOk.nil _) Try.call8) (FnsR.cons (inlT_ok 2 rfl (fun (W0 : World) (G : Nat → Prop) => (SyOk.mk3 Try.mixed (FnsOk.ofR (hard := hardL) (inlB_ok rfl (fun (W0 : World) (G : Nat → Prop) => SyOk.mk2 Try.mixed (hoP_ok true) (FnsR.cons (inlB_ok rfl (fun (W0 : World) (G : Nat → Prop) => SyOk.mk2 Try.mixed (hoP_ok true) (FnsR.nil) EqsOk.nil) Try.func20 (by kernel_rfl) Try.call20) (FnsR.nil)) EqsOk.nil) Try.func18 (by kernel_rfl) Try.call18) (FnsOk.ofR (hard := hardL) (F_mck_ok) (FnsOk.consI (cl := false) Try.call23 rfl Try.func23 (by kernel_rfl) (fun w => (SyOk.mk3 Try.mixed (FnsOk.nil) EqsOk.nil)) (fun w => LpsOk.nil _) (FnsOk.consC (cs := []) Try.call14 rfl Try.func14 (by kernel_rfl) (fun (W0 : World) (G : Nat → Prop) => SyOk.mk3 Try.mixed (FnsOk.ofR (hard := hardL) (inlB_ok rfl (fun (W0 : World) (G : Nat → Prop) => SyOk.mk2 Try.mixed (hoP_ok true) (FnsR.nil) EqsOk.nil) Try.func20 (by kernel_rfl) Try.call20) (FnsOk.nil)) EqsOk.nil) (FnsOk.nil))))) EqsOk.nil)) Try.func10 (by kernel_rfl) (fun _ _ => LpsOk.nil _) Try.call10) (FnsR.nil)))) EqsOk.nil) W0 G) (LpsOk.nil _) (m2 := [⟨.sl (doKS l) (.ents []), false⟩, ⟨.us (.kn (knOf l)), false⟩, ⟨.us (.tape [[false,false],[true],[false],[]]), true⟩, ⟨.bx [.kB true, .v (.int .i64 client), .v (.int .u64 (qO l client k)), .v (.int .i64 0), .v (.int .i64 0), .v (.int .u64 0), .v (.int .u64 0), .v (.int .u64 0), .v (.int .i64 0), .v (.int .i64 0), .v (.int .i64 0), .v (.int .i64 0), .v (.int .i64 0), .v (.int .i64 0), .v (.string ⟨#[]⟩), .v (.string ⟨#[]⟩), .v (.int .i64 0), .v (.int .i64 0), .v (.string ⟨#[]⟩), .v (.int .u64 0), .v (.slice none 0 0), .v (.int .u64 0), .kB false], true⟩]) (fun w e h => memTapeQ h _) [true, false, false] _ (rdQ_A l k client (qO l client k) f hT hI hW hA e1 a1 a2 a3).choose_spec.1 (rdQ_A l k client (qO l client k) f hT hI hW hA e1 a1 a2 a3).choose_spec.2 (by show VQ (k + 1) (qO l client (k + 1)) = _; rw [eq]; rfl) (by show meQ l client (qO l client (k + 1)) = _; rw [eq]; rfl) hkN trivial
        · have eq : qO l client (k + 1) = qO l client k := by simp only [qO]; rw [es, c]; rfl
          have a1 : (checkI (sentO l k client (qO l client k) (dK l k).b) != 0) = true := by rw [c]; rfl
          exact rnd_n (⟨Try.prog, [(F_shk 1), (8, inlT 2 (⟨Try.prog, [(20, inlB ⟨Try.prog, [], [], (hoP true), labI.one, 60⟩ Try.f20), F_mck], [], hoP false, labI.one, 60⟩ : Sy Lab) [] Try.f8 hardL), (10, inlT 2 (⟨Try.prog, [(18, inlB ⟨Try.prog, [(20, inlB ⟨Try.prog, [], [], (hoP true), labI.one, 60⟩ Try.f20)], [], (hoP true), labI.one, 60⟩ Try.f18), F_mck, (23, inl (⟨Try.prog, [], [], hoP false, labI.one, 60⟩ : Sy Lab) [] Try.f23 false), (14, inlC (⟨Try.prog, [(20, inlB ⟨Try.prog, [], [], (hoP true), labI.one, 60⟩ Try.f20)], [], hoP false, labI.one, 60⟩ : Sy Lab) Try.f14 [])], [], hoP false, labI.one, 60⟩ : Sy Lab) [] Try.f10 hardL)], [], (hoP true), labI.one, 60⟩ : Sy Lab) [] rfl ((fun (W0 : World) (G : Nat → Prop) => SyOk.mk2 Try.mixed (hoP_ok true) (FnsR.cons (F_shk_ok 1) (FnsR.cons (inlT_ok 2 rfl (fun (W0 : World) (G : Nat → Prop) => (SyOk.mk3 Try.mixed (FnsOk.ofR (hard := hardL) (inlB_ok rfl (fun (W0 : World) (G : Nat → Prop) => SyOk.mk2 Try.mixed (hoP_ok true) (FnsR.nil) EqsOk.nil) Try.func20 (by kernel_rfl) Try.call20) (FnsOk.ofR (hard := hardL) (F_mck_ok) (FnsOk.nil))) EqsOk.nil)) Try.func8 (by kernel_rfl) (fun _ _ => LpsOk.nil _) Try.call8) (FnsR.cons (inlT_ok 2 rfl (fun (W0 : World) (G : Nat → Prop) => (SyOk.mk3 Try.mixed (FnsOk.ofR (hard := hardL) (inlB_ok rfl (fun (W0 : World) (G : Nat → Prop) => SyOk.mk2 Try.mixed (hoP_ok true) (FnsR.cons (inlB_ok rfl (fun (W0 : World) (G : Nat → Prop) => SyOk.mk2 Try.mixed (hoP_ok true) (FnsR.nil) EqsOk.nil) Try.func20 (by kernel_rfl) Try.call20) (FnsR.nil)) EqsOk.nil) Try.func18 (by kernel_rfl) Try.call18) (FnsOk.ofR (hard := hardL) (F_mck_ok) (FnsOk.consI (cl := false) Try.call23 rfl Try.func23 (by kernel_rfl) (fun w => (SyOk.mk3 Try.mixed (FnsOk.nil) EqsOk.nil)) (fun w => LpsOk.nil _) (FnsOk.consC (cs := []) Try.call14 rfl Try.func14 (by kernel_rfl) (fun (W0 : World) (G : Nat → Prop) => SyOk.mk3 Try.mixed (FnsOk.ofR (hard := hardL) (inlB_ok rfl (fun (W0 : World) (G : Nat → Prop) => SyOk.mk2 Try.mixed (hoP_ok true) (FnsR.nil) EqsOk.nil) Try.func20 (by kernel_rfl) Try.call20) (FnsOk.nil)) EqsOk.nil) (FnsOk.nil))))) EqsOk.nil)) Try.func10 (by kernel_rfl) (fun _ _ => LpsOk.nil _) Try.call10) (FnsR.nil)))) EqsOk.nil) W0 G) (LpsOk.nil _) (m2 := [⟨.sl (doKS l) (.ents []), false⟩, ⟨.us (.kn (knOf l)), false⟩, ⟨.us (.tape [[false,true]]), true⟩, ⟨.bx [.kB true, .v (.int .i64 client), .v (.int .u64 (qO l client k)), .v (.int .i64 0), .v (.int .i64 0), .v (.int .u64 0), .v (.int .u64 0), .v (.int .u64 0), .v (.int .i64 0), .v (.int .i64 0), .v (.int .i64 0), .v (.int .i64 0), .v (.int .i64 0), .v (.int .i64 0), .v (.string ⟨#[]⟩), .v (.string ⟨#[]⟩), .v (.int .i64 0), .v (.int .i64 0), .v (.string ⟨#[]⟩), .v (.int .u64 0), .v (.slice none 0 0), .v (.int .u64 0), .kB false], true⟩]) (fun w e h => memTapeQ h _) [true, true] _ (rdQ_P l k client (qO l client k) f hT hI hW hA e1 a1).choose_spec.1 (rdQ_P l k client (qO l client k) f hT hI hW hA e1 a1).choose_spec.2 (by show VQ (k + 1) (qO l client (k + 1)) = _; rw [eq]; rfl) (by show meQ l client (qO l client (k + 1)) = _; rw [eq]; rfl) hkN trivial
  · revert hU
    match x with
    | .exit 0 => intro hU; simp only [Option.some.injEq] at hU; subst hU; exact hK
    | .exit (n + 1) => intro hU; cases hU
    | .normal => intro hU; cases hU
    | .ret => intro hU; cases hU

end Go.Proofs.Ytklemhmdbfhcdaa

/- H51. -/
import Derived.Test.YtonomiljclemnaaH42p
import Derived.Test.YtonomiljclemnaaHRdp
set_option linter.unusedVariables false
set_option linter.unusedSimpArgs false
namespace Go.Proofs.Ytonomiljclemnaa
open Go.RowKit
set_option maxHeartbeats 4000000 in
set_option maxRecDepth 100000 in
theorem diskFuses_c (l m : List DoD) (n : Int) : ∀ w e vs, MemOk w (FootOf Id' w e [⟨.us (.ext (.shr 6 l.length (doEl l))), false⟩, ⟨.us (.ext (.shr 6 m.length (doEl m))), false⟩]) Id' w e [⟨.us (.ext (.shr 6 l.length (doEl l))), false⟩, ⟨.us (.ext (.shr 6 m.length (doEl m))), false⟩] → AllC e [.one (.obj 0), .one (.obj 1), .one (.v (.int .i64 n))] vs →
    Calls Try.prog 5 vs.toArray w (fun y w' => ∃ v e', y = .returned v ∧ Grows e e' ∧ (svV (.bool true)).is e' v ∧ MemOk w (FootOf Id' w e [⟨.us (.ext (.shr 6 l.length (doEl l))), false⟩, ⟨.us (.ext (.shr 6 m.length (doEl m))), false⟩]) Id' w' e' [⟨.us (.ext (.shr 6 l.length (doEl l))), false⟩, ⟨.us (.ext (.shr 6 m.length (doEl m))), false⟩]) := by
  intro w e vs hM ha
  have hp := pdE_inv l
  have hf := pdE_free l
  have h6 : ((pdE l).L.length : Int) = 6 := by rw [hp.len]; rfl
  have hn := withI_in n (show (0 : Int) ≤ 20 by decide)
  have hE : fuE ((pdE l).L.length : Int) (withI n 0 20) (pdE l).off = 0 := by
    rw [h6, hf.2]; unfold fuE; rw [decide_eq_false (by omega)]; rfl
  have inv := fsS_inv (l := l) (m := m) hn (min m.length 25) (by omega)
  have hlc : (crD (fsS m (fs0 l (withI n 0 20)) (min m.length 25)).L (fsS m (fs0 l (withI n 0 20)) (min m.length 25)).Q [] 0).length = 6 := (crQ_len _ _ _ _ _).trans inv.d.len
  have hl : ∀ {W0 : World} {G : Nat → Prop} (S0 : Sy Td) (hS0 : S0.P = Try.prog), LoopSound S0 Id' W0 G 120 (hdC (loopsC (bodyOf Try.f5)) 0) (lpG Id' 120 (hdC (loopsC (bodyOf Try.f5)) 0) 5 [(8, .c (.one (.v (.int .i64 ((0 : Nat) : Int)))))] [(1, .c (.one (.obj 1))), (2, .c (.one (.v (.int .i64 (withI n 0 20))))), (7, .c (.one (.ptr 2 0)))] [⟨.us (.ext (.shr 6 l.length (doEl l))), false⟩, ⟨.us (.ext (.shr 6 m.length (doEl m))), false⟩, ⟨.bx [.obj 3, .obj 5, .v (.int .i64 (withI n 0 20)), .v (.bool true), .v (.bool false)], true⟩, ⟨.us (.ext (.flat (.secs (pdE l).L))), true⟩, ⟨.dead, true⟩, ⟨.us (.ext (.flat (.pens (pdE l).Q))), true⟩] (.leaf (.exit 0) [] [⟨.us (.ext (.shr 6 l.length (doEl l))), false⟩, ⟨.us (.ext (.shr 6 m.length (doEl m))), false⟩, ⟨.bx [.obj 3, .obj 5, .v (.int .i64 ((fsS m (fs0 l (withI n 0 20)) (min m.length 25)).fu)), .v (.bool ((fsS m (fs0 l (withI n 0 20)) (min m.length 25)).fd)), .v (.bool ((fsS m (fs0 l (withI n 0 20)) (min m.length 25)).off))], true⟩, ⟨.us (.ext (.flat (.secs ((fsS m (fs0 l (withI n 0 20)) (min m.length 25)).L)))), true⟩, ⟨.dead, true⟩, ⟨.us (.ext (.flat (.pens ((fsS m (fs0 l (withI n 0 20)) (min m.length 25)).Q)))), true⟩])) := fun S0 hS0 => fs_lp l m (withI n 0 20) hn S0 hS0
  exact ctr_way (I := Id') (fun (W0 : World) (G : Nat → Prop) => SyOk.mk2 Try.mixed dkHo_ok (FnsR.cons (R_played l) (FnsR.cons (R_within) (FnsR.cons (R_fuse) (FnsR.cons (R_live) (FnsR.cons (R_flush) (FnsR.cons (R_crashV) (FnsR.cons (R_lives) (FnsR.nil)))))))) EqsOk.nil) rfl Try.func5 (by kernel_rfl) (fun _ _ => LpsOk.cons (by kernel_rfl) (hl _ rfl) (LpsOk.nil _)) (cs := [false, true, true]) (by kernel_rfl) (fuses_w0 l m n (fsS m (fs0 l (withI n 0 20)) (min m.length 25)).L (fsS m (fs0 l (withI n 0 20)) (min m.length 25)).Q (fsS m (fs0 l (withI n 0 20)) (min m.length 25)).fu (fsS m (fs0 l (withI n 0 20)) (min m.length 25)).fd (fsS m (fs0 l (withI n 0 20)) (min m.length 25)).off hE (by unfold fuV; rw [hE]; rfl) (by unfold fuD; rw [hE]; simp) hf.2 (inv.d.wq (by omega)) (by rw [inv.d.len]; exact inv.d.at') (by rw [inv.d.len]; decide) hlc (by rw [hlc]; rfl)) w e vs hM ha
theorem diskFuses_calls (u : Value) (l : List DoD) (v : Value) (m : List DoD) (n : Int) (W : World) (h : DosIs W u l) (h' : DosIs W v m) (_ : -9223372036854775808 ≤ n ∧ n ≤ 9223372036854775807) : Calls Try.prog 5 #[u, v, .int .i64 n] W fun e w' => e = .returned (.bool true) ∧ Below W.heap.size W w' := by
  have h1 := args_us (args_nil Id' W) (fun n hn => by cases hn) (b := .ext (.shr 6 l.length (doEl l))) (u := u) h.1 (shr_lt h)
  have hM := args_us h1 (fun n hn => by simp at hn; subst hn; rfl) (b := .ext (.shr 6 m.length (doEl m))) (u := v) h'.1 (shr_lt h')
  refine (diskFuses_c l m n W [u, v] [u, v, .int .i64 n] hM ⟨rfl, rfl, rfl, trivial⟩).mono fun y w' ⟨u', e', q1, _, q2, q3⟩ => ⟨q1.trans (congrArg _ q2), ?_⟩
  have hx : Ext W w' := q3.mod.mono fun k _ hk => by
    obtain ⟨i, _, n, _, hn, hmu, _⟩ := footE.1 hk
    match i, hn with
    | 0, hn => simp at hn; subst hn; cases hmu
    | 1, hn => simp at hn; subst hn; cases hmu
    | i + 2, hn => simp at hn
  exact hx.below
end Go.Proofs.Ytonomiljclemnaa

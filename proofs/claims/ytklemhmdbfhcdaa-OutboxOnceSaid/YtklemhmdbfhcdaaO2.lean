/- outbox: rows. -/
import Derived.Test.YtklemhmdbfhcdaaO3
import Derived.Test.YtklemhmdbfhcdaaM16


set_option linter.unusedVariables false
set_option linter.unusedSimpArgs false
namespace Go.Proofs.Ytklemhmdbfhcdaa
open Go.RowKit

/-- A pointer is compared with nil. -/
def isPtr (p : PV) : Bool := match p with
  | .ptr _ _ => true
  | _ => false
def isNilP (p : PV) : Bool := match p with
  | .v (.pointer none) => true
  | _ => false
def opsP (T : TypeId) (op : Op) (us : List CV) (mem : Mem Lab) : Option (List Prop × SV × Option (Mem Lab)) := match op with
  | .binOp b ty x y _ => (match us with
    | [.one p, .one q] => (match eqb ty T && (isPtr p && isNilP q) with
      | true => (match b with
        | .neq => some ([], .c (.one (.kB true)), none)
        | .eql => some ([], .c (.one (.kB false)), none)
        | _ => none)
      | false => none)
    | _ => none)
  | _ => none
theorem opsP_some {T : TypeId} {op : Op} {us : List CV} {mem : Mem Lab} {ps : List Prop} {r : SV} {mo : Option (Mem Lab)} (h : opsP T op us mem = some (ps, r, mo)) :
    ∃ b x y ty' p q d, op = .binOp b T x y ty' ∧ us = [.one p, .one q] ∧ isPtr p = true ∧ isNilP q = true ∧ ps = [] ∧ mo = none ∧ r = .c (.one (.kB d)) ∧ ((b = .neq ∧ d = true) ∨ (b = .eql ∧ d = false)) := by
  unfold opsP at h
  split at h
  · rename_i b ty x y ty'
    split at h
    · rename_i p q
      split at h
      · rename_i hc
        simp only [Bool.and_eq_true] at hc
        have ht := eqb_eq.1 hc.1
        subst ht
        split at h
        · simp only [Option.some.injEq, Prod.mk.injEq] at h
          obtain ⟨rfl, rfl, rfl⟩ := h
          exact ⟨_, _, _, _, _, _, true, rfl, rfl, hc.2.1, hc.2.2, rfl, rfl, rfl, .inl ⟨rfl, rfl⟩⟩
        · simp only [Option.some.injEq, Prod.mk.injEq] at h
          obtain ⟨rfl, rfl, rfl⟩ := h
          exact ⟨_, _, _, _, _, _, false, rfl, rfl, hc.2.1, hc.2.2, rfl, rfl, rfl, .inr ⟨rfl, rfl⟩⟩
        · cases h
      · cases h
    · cases h
  · cases h
theorem cmp_ptr (n : Bool) (x y : Operand) (b o : Nat) (w : World) : ((do eqGuard (cond n .neq .eql) 23 x y (.pointer (some ⟨b, o, none⟩)) (.pointer none); binOp (cond n .neq .eql) 23 (.pointer (some ⟨b, o, none⟩)) (.pointer none)) : Sem Value).run Try.prog w = .ok (.bool n) w := by
  cases n
  · exact pureSem_run _ (by kernel_rfl) w
  · exact pureSem_run _ (by kernel_rfl) w
theorem opsP_gives {T : TypeId} (hT : T = 23) {op : Op} {args : List CV} {mem : Mem Lab} {ps : List Prop} {r : SV} {mo : Option (Mem Lab)} (h : opsP T op args mem = some (ps, r, mo)) {o : Oper} {ρ : Operand → Value} {w : World} {e : Env} (ho : o.op = op) (ha : AllC e args (op.operands.toList.map ρ)) :
    mo = none ∧ givesUpon Try.prog (fun v w' => r.is e v ∧ Ext w w') ((execOp ρ o).run Try.prog w) := by
  subst hT
  obtain ⟨b, x, y, ty', p, q, d, rfl, rfl, h1, h2, rfl, rfl, rfl, hb⟩ := opsP_some h
  obtain ⟨u, v, he, a0, a1⟩ := allC2 ha
  simp [Op.operands] at he
  obtain ⟨rfl, rfl⟩ := he
  have hy : ρ y = .pointer none := by
    unfold isNilP at h2
    split at h2
    · exact a1
    · cases h2
  obtain ⟨B, O, hx⟩ : ∃ B O, ρ x = .pointer (some ⟨B, O, none⟩) := by
    unfold isPtr at h1
    split at h1
    · obtain ⟨B, O, _, h⟩ := a0
      exact ⟨_, _, h⟩
    · cases h1
  have hrun : (execOp ρ o).run Try.prog w = .ok (.value (.bool d)) w := by
    unfold execOp
    simp only [ho, hx, hy]
    rcases hb with ⟨rfl, rfl⟩ | ⟨rfl, rfl⟩
    · have := cmp_ptr true x y B O w
      simp only [cond_true] at this
      rw [Sem.run_bind, this]; rfl
    · have := cmp_ptr false x y B O w
      simp only [cond_false] at this
      rw [Sem.run_bind, this]; rfl
  refine ⟨rfl, ?_⟩
  rw [hrun]
  exact ⟨rfl, Ext.refl w⟩
def hoP (c : Bool) : Ho Lab := ⟨fun _ _ _ => none, opsP 23, hardL, c, []⟩
theorem hoP_ok (c : Bool) : HoOk Try.prog (hoP c) labI := ⟨fun _ _ _ _ _ _ _ _ h => (by cases h), fun W0 G op args mem ps r mo h hp o ρ w e ho hM ha => (by
    obtain ⟨rfl, hg⟩ := opsP_gives (mem := mem) rfl h ho ha
    exact hg), fun op args m m' ps r h hl => (by
    unfold hoP at h ⊢
    simp only at h ⊢
    unfold opsP at h ⊢
    exact h), fun t k qs args mem ps r m' h => (by cases h)⟩
/-- A run's rules, chains not drawn. -/
theorem SyOk.mk3 {W0 : World} {G : Nat → Prop} {F : Fns Lab} {E : EqFns} {fuel : Nat} (hm : Try.prog.follows .mixedOrders = true) (hF : FnsOk Try.prog labI W0 G F) (hE : ∀ ty g, eqGet ty E = some g → Try.prog.eqGuardType Try.prog.depth ty = false ∧ ∀ (u v : Array Value) b, g u.toList v.toList = some b → ∀ w, (Op.equal ty (.agg u) (.agg v)).run Try.prog w = .ok b w) :
    SyOk (⟨Try.prog, F, E, hoP false, labI.one, fuel⟩ : Sy Lab) labI W0 G := ⟨⟨hm, rfl, hF, hE, (fun t args mem ps r m' h => by cases h), (fun op args mem ps r mo h hp => (hoP_ok false).ops W0 G op args mem ps r mo h hp), (fun h => by cases h), (fun h => by cases h), (fun h => by cases h), (fun h => by cases h)⟩, fun h => by cases h⟩
def F_mz : Nat × Fn2 Lab := (21, fun us _ => match us with
  | [.agg ps] => (match mapO valP ps with
    | some [.int .i64 ty, .int .i64 cl, .int .u64 ss, .int .u64 sq, .int .u64 bo, .int .i64 kd, .int .i64 er, .int .i64 f1, .int .i64 f2, .int .i64 d1, .int .i64 d2, .string nm, .string ot, .int .i64 mo, .int .i64 pl, .string da, .int .u64 ve, .slice none 0 0] => some ([checkI (⟨ty, cl, ss, sq, bo, kd, er, f1, f2, d1, d2, nm, ot, mo, pl, da, ve, []⟩ : Msg) = 0], .c (.one (.kI .i64 0)), none)
    | _ => none)
  | _ => none)
theorem F_mz_ok : RowOk Try.prog labI hardL F_mz.1 F_mz.2 := by
  refine ⟨Try.call21, fun W0 G args mem ps r mo hr hp w e us hM ha => ?_, fun args m m' ps r hr hl => hr, fun args mem ps r m' hr => ?_⟩
  · simp only [F_mz] at hr
    split at hr
    · rename_i cs
      split at hr
      · rename_i hvs
        simp only [Option.some.injEq, Prod.mk.injEq] at hr
        obtain ⟨rfl, rfl, rfl⟩ := hr
        obtain ⟨u, rfl, hu⟩ := allC1 ha
        obtain ⟨us, hus, rfl⟩ := hu
        rw [allIs_vals hvs hus]
        refine (mcheckN_c _ _ _ _ _ _ _ _ _ _ _ _ _ _ _ _ _ w).mono fun x w' h => ⟨_, h.1, ?_, h.2⟩
        rw [hp _ (List.mem_cons_self ..)]
        rfl
      · cases hr
    · cases hr
  · simp only [F_mz] at hr
    split at hr
    · split at hr <;> simp at hr
    · cases hr

end Go.Proofs.Ytklemhmdbfhcdaa

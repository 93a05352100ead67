/- A symbolic run, wider: rows of operations, in the text's order. No program in sight. -/
import Derived.Test.YtcekfgcajcjooaaT3
import Derived.Test.YtcekfgcajcjooaaRh
set_option linter.unusedVariables false
set_option linter.unusedSimpArgs false
namespace Go.Proofs.Ytcekfgcajcjooaa
open Go.RowKit

section
variable {β : Type} {S : Sy β} {I : ObI β} {W0 : World} {G : Nat → Prop} {base : List (Nat × SV)} {l : List Oper} {pn sz : Nat}

theorem purePath_none {P : Program} {recs : List SRec} {c : List (Nat × Bool)} {o : Oper} {sv : SV} {m : Mem β} {ps : List Prop} (h : purePath P (lookS recs base c) o = some (sv, some m, ps)) : False := by
  unfold purePath at h
  split at h
  · split at h
    · split at h
      · obtain ⟨s, h1, _⟩ := closeV_eq _ (fun s => (retS s : OpR β))
        rw [h1] at h
        have := retS_inv h; simp at this
      · have := retS_inv h; simp at this
    · cases h
  · cases h
theorem evalEq_none {recs : List SRec} {c : List (Nat × Bool)} {o : Oper} {sv : SV} {m : Mem β} {ps : List Prop} {neg : Bool} {ty : TypeId} {x y : Operand} (h : evalEq S (lookS recs base c) o neg ty x y = some (sv, some m, ps)) : False := by
  unfold evalEq at h
  split at h
  · split at h
    · split at h
      · split at h <;> (have := retS_inv h; simp at this)
      · cases h
    · cases h
  · exact purePath_none h

theorem evalOp_eff0 {recs : List SRec} {mem mem' : Mem β} {c : List (Nat × Bool)} {eff : Bool} {o : Oper} {sv : SV} {ps : List Prop} (h : evalOp S recs base mem c eff o = some (sv, some mem', ps)) : eff = true ∧ c = [] := by
  unfold evalOp at h
  repeat' split at h
  all_goals first
    | (cases h; done)
    | (exact (purePath_none h).elim)
    | (exact (evalEq_none h).elim)
    | (have := retS_inv h; simp at this; done)
    | (simp only [forceN_eq] at h; have := retS_inv h; simp at this; done)
    | (simp at h; done)
    | exact ⟨rfl, rfl⟩

/-- What an operation does that turns memory. -/
theorem evalOp_eff {w : World} {recs : List SRec} {e : Env} {mem mem' : Mem β} {c : List (Nat × Bool)} {eff : Bool} {o : Oper} {ρ : Operand → Value} {sv : SV} {ps : List Prop}
    (hS : SyOk S I W0 G) (hM : MemOk W0 G I w e mem) (hc : sat recs c = true) (hρ : ∀ x ∈ o.op.operands, OpIs recs base e x (ρ x))
    (h : evalOp S recs base mem c eff o = some (sv, some mem', ps)) (hps : ∀ p ∈ ps, p) : givesUpon S.P (fun v w' => ∃ e', Grows e e' ∧ MemOk W0 G I w' e' mem' ∧ sv.is e' v) ((execOp ρ o).run S.P w) := by
  have hlk : ∀ {x : Operand} {s : SV}, x ∈ o.op.operands → lookS recs base c x = some s → s.is e (ρ x) := fun hx hs => lookS_is hs hc (hρ _ hx)
  unfold evalOp at h
  split at h
  · exfalso
    repeat' split at h
    all_goals first
      | (cases h; done)
      | (exact (purePath_none h).elim)
      | (exact (evalEq_none h).elim)
      | (have := retS_inv h; simp at this; done)
      | (simp only [forceN_eq] at h; have := retS_inv h; simp at this; done)
      | (simp at h; done)
  · exfalso
    repeat' split at h
    all_goals first
      | (cases h; done)
      | (exact (purePath_none h).elim)
      | (exact (evalEq_none h).elim)
      | (have := retS_inv h; simp at this; done)
      | (simp only [forceN_eq] at h; have := retS_inv h; simp at this; done)
      | (simp at h; done)
  · exfalso
    repeat' split at h
    all_goals first
      | (cases h; done)
      | (exact (purePath_none h).elim)
      | (exact (evalEq_none h).elim)
      | (have := retS_inv h; simp at this; done)
      | (simp only [forceN_eq] at h; have := retS_inv h; simp at this; done)
      | (simp at h; done)
  · exfalso
    repeat' split at h
    all_goals first
      | (cases h; done)
      | (exact (purePath_none h).elim)
      | (exact (evalEq_none h).elim)
      | (have := retS_inv h; simp at this; done)
      | (simp only [forceN_eq] at h; have := retS_inv h; simp at this; done)
      | (simp at h; done)
  · rename_i ty x y hop
    split at h
    · rename_i i off u hs hu
      split at h
      · rename_i m2 hst
        simp only [Option.some.injEq, Prod.mk.injEq] at h
        obtain ⟨rfl, rfl, -⟩ := h
        rw [hS.one] at hst
        obtain ⟨a, w', h1, h2, h3⟩ := storeS_run hM hst (hlk (x := x) (by rw [hop]; simp [Op.operands]) (pvS_some hs)) (hlk (x := y) (by rw [hop]; simp [Op.operands]) (cvS_some hu))
        have hrun : (execOp ρ o).run S.P w = .ok .skip w' := by
          unfold execOp
          simp only [hop, h1, Instr.storeAt, Instr.sureAddr, Sem.run_bind, Sem.run_pure, Result.andThen_ok, h2]
        rw [hrun]
        exact ⟨e, Grows.refl e, h3, rfl⟩
      · cases h
    · cases h
  · rename_i ty x hop
    split at h
    · rename_i u hu
      simp only [Option.some.injEq, Prod.mk.injEq] at h
      obtain ⟨rfl, rfl, -⟩ := h
      obtain ⟨hu1, hok⟩ := cvO_some hu
      have his := hlk (x := x) (by rw [hop]; simp [Op.operands]) hu1
      have hrun : (execOp ρ o).run S.P w = .ok (.value (.pointer (some ⟨w.heap.size, 0, none⟩))) (w.alloc (.cells (ρ x).cells ty)) := by
        unfold execOp
        simp only [hop, Instr.box, newVar, newRow, newObj, Sem.run_bind, Sem.run_pure, Result.andThen_ok]
        rfl
      rw [hrun]
      refine ⟨_, Grows.push _ _, newBlock_ok hM _ ty _ (cellsC_is his fun p x hyp hx => by subst hyp; exact oneP_is hM (hS.one ▸ hok) hx), w.heap.size, 0, ?_, rfl⟩
      rw [← hM.len, List.getElem?_append_right (Nat.le_refl _)]; simp
    · cases h
  · rename_i ty hop
    split at h
    · rename_i z hz
      simp only [Option.some.injEq, Prod.mk.injEq] at h
      obtain ⟨rfl, rfl, -⟩ := h
      have hrun : (execOp ρ o).run S.P w = .ok (.value (.pointer (some ⟨w.heap.size, 0, none⟩))) (w.alloc (.cells z.cells ty)) := by
        unfold execOp
        simp only [hop, Instr.alloc, newVar, newRow, newObj, Sem.run_bind, pureSem_run _ hz, Sem.run_pure, Result.andThen_ok]
        rfl
      rw [hrun]
      refine ⟨_, Grows.push _ _, newBlock_ok hM _ ty _ (by simpa using allIs_v e z.cells.toList), w.heap.size, 0, ?_, rfl⟩
      rw [← hM.len, List.getElem?_append_right (Nat.le_refl _)]; simp
    · cases h
  · exfalso
    repeat' split at h
    all_goals first
      | (cases h; done)
      | (exact (purePath_none h).elim)
      | (exact (evalEq_none h).elim)
      | (have := retS_inv h; simp at this; done)
      | (simp only [forceN_eq] at h; have := retS_inv h; simp at this; done)
      | (simp at h; done)
  · exfalso
    repeat' split at h
    all_goals first
      | (cases h; done)
      | (exact (purePath_none h).elim)
      | (exact (evalEq_none h).elim)
      | (have := retS_inv h; simp at this; done)
      | (simp only [forceN_eq] at h; have := retS_inv h; simp at this; done)
      | (simp at h; done)
  · exfalso
    repeat' split at h
    all_goals first
      | (cases h; done)
      | (exact (purePath_none h).elim)
      | (exact (evalEq_none h).elim)
      | (have := retS_inv h; simp at this; done)
      | (simp only [forceN_eq] at h; have := retS_inv h; simp at this; done)
      | (simp at h; done)
  · exfalso
    repeat' split at h
    all_goals first
      | (cases h; done)
      | (exact (purePath_none h).elim)
      | (exact (evalEq_none h).elim)
      | (have := retS_inv h; simp at this; done)
      | (simp only [forceN_eq] at h; have := retS_inv h; simp at this; done)
      | (simp at h; done)
  · exfalso
    repeat' split at h
    all_goals first
      | (cases h; done)
      | (exact (purePath_none h).elim)
      | (exact (evalEq_none h).elim)
      | (have := retS_inv h; simp at this; done)
      | (simp only [forceN_eq] at h; have := retS_inv h; simp at this; done)
      | (simp at h; done)
  · exfalso
    repeat' split at h
    all_goals first
      | (cases h; done)
      | (exact (purePath_none h).elim)
      | (exact (evalEq_none h).elim)
      | (have := retS_inv h; simp at this; done)
      | (simp only [forceN_eq] at h; have := retS_inv h; simp at this; done)
      | (simp at h; done)
  · exfalso
    repeat' split at h
    all_goals first
      | (cases h; done)
      | (exact (purePath_none h).elim)
      | (exact (evalEq_none h).elim)
      | (have := retS_inv h; simp at this; done)
      | (simp only [forceN_eq] at h; have := retS_inv h; simp at this; done)
      | (simp at h; done)
  · exfalso
    repeat' split at h
    all_goals first
      | (cases h; done)
      | (exact (purePath_none h).elim)
      | (exact (evalEq_none h).elim)
      | (have := retS_inv h; simp at this; done)
      | (simp only [forceN_eq] at h; have := retS_inv h; simp at this; done)
      | (simp at h; done)
  · rename_i fv xs ats hop
    split at h
    · rename_i f fi ca us hs hus
      split at h
      · rename_i g hg
        split at h
        · simp at h
        · rename_i qs r m2 hgr
          split at h
          · simp only [Option.some.injEq, Prod.mk.injEq] at h
            obtain ⟨rfl, rfl, rfl⟩ := h
            obtain ⟨a1, a2, k1, k2, hx⟩ := hlk (x := fv) (by rw [hop]; simp [Op.operands, Call.operands]) hs
            have hv := cvs_of (ρ := ρ) (e := e) hc hus (fun x hx => hρ x (by rw [hop]; simp [Op.operands, Call.operands, Array.mem_toList_iff.1 hx]))
            obtain ⟨q1, q2⟩ := hS.fns f g hg _ mem qs r _ hgr hps
            have hall := k1.ones.append (hv.append k2.ones)
            have hrun : (execOp ρ o).run S.P w = .ok (.enter f (a1 ++ (xs.toList.map ρ ++ a2)).toArray) w := by
              unfold execOp
              simp only [hop, resolve, hx, Deferred.ofValue, invoke, Sem.run_bind, Sem.run_pure, Result.andThen_ok, map_arr xs]
              rw [q1]
              simp
            rw [hrun]
            exact (q2 w e _ hM hall).mono fun x w' ⟨v, h1, e', h2, h3, h4⟩ => ⟨v, h1, e', h2, h4, h3⟩
          · cases h
        · cases h
      · cases h
    · cases h
  · exfalso
    repeat' split at h
    all_goals first
      | (cases h; done)
      | (exact (purePath_none h).elim)
      | (exact (evalEq_none h).elim)
      | (have := retS_inv h; simp at this; done)
      | (simp only [forceN_eq] at h; have := retS_inv h; simp at this; done)
      | (simp at h; done)
  · rename_i xs ts hop
    split at h
    · rename_i x y t t' hx ht
      split at h
      · rename_i u v htt hu hv
        split at h
        · rename_i qs r m2 hA
          simp only [Option.some.injEq, Prod.mk.injEq] at h
          obtain ⟨rfl, rfl, rfl⟩ := h
          have htt := eqb_eq.1 htt
          subst htt
          have e1 : xs = #[x, y] := by rw [← Array.toArray_toList (xs := xs), hx]
          have e2 : ts = #[t, t] := by rw [← Array.toArray_toList (xs := ts), ht]
          have h1 := hlk (x := x) (by rw [hop, e1]; simp [Op.operands, Call.operands]) (cvS_some hu)
          have h2 := hlk (x := y) (by rw [hop, e1]; simp [Op.operands, Call.operands]) (cvS_some hv)
          obtain ⟨e', z, w', k1, k2, k3, k4⟩ := hS.app t [u, v] mem qs r _ hA hps o.type w e [ρ x, ρ y] hM ⟨h1, h2, trivial⟩
          have hrun : (execOp ρ o).run S.P w = .ok (.value z) w' := by
            subst e1; subst e2
            unfold execOp
            simp only [hop, resolve, invoke, builtin, Sem.run_bind, Sem.run_pure, Result.andThen_ok, List.map_toArray, List.map_cons, List.map_nil, k2]
          rw [hrun]
          exact ⟨e', k1, k4, k3⟩
        · cases h
      · cases h
    · cases h
  all_goals
    exfalso
    repeat' split at h
    all_goals first
      | (cases h; done)
      | (exact (purePath_none h).elim)
      | (exact (evalEq_none h).elim)
      | (have := retS_inv h; simp at this; done)
      | (simp only [forceN_eq] at h; have := retS_inv h; simp at this; done)
      | (simp at h; done)

/-- The records' numbers. -/
def RecsOk (recs : List SRec) (i : Nat) : Prop := (∀ r ∈ recs, r.ix < i ∧ ∀ x ∈ r.ctx, x.1 < r.ix) ∧ recs.Pairwise (fun a b => b.ix < a.ix)
theorem RecsOk.nil (i : Nat) : RecsOk [] i := ⟨(fun _ h => by cases h), List.Pairwise.nil⟩
/-- What is known of the records of a row of operations. -/
structure RInv (l : List Oper) (recs : List SRec) (i : Nat) : Prop where
  ok : RecsOk recs i
  dst : ∀ r ∈ recs, ∃ o, l[r.ix]? = some o ∧ o.dst = r.dst
  all : ∀ j, j < i → ∃ r ∈ recs, r.ix = j
theorem RInv.nil (l : List Oper) : RInv l [] 0 := ⟨RecsOk.nil 0, (fun _ h => by cases h), fun j h => absurd h (by omega)⟩
theorem RInv.cons {recs : List SRec} {i : Nat} (h : RInv l recs i) {o : Oper} (ho : l[i]? = some o) {c : List (Nat × Bool)} (hc : ∀ x ∈ c, x.1 < i) (sv : SV) : RInv l (⟨i, o.dst, c, sv⟩ :: recs) (i + 1) := by
  refine ⟨⟨fun r hr => ?_, List.pairwise_cons.2 ⟨fun r hr => (h.ok.1 r hr).1, h.ok.2⟩⟩, fun r hr => ?_, fun j hj => ?_⟩
  · rcases List.mem_cons.1 hr with rfl | hr
    · exact ⟨Nat.lt_succ_self _, hc⟩
    · exact ⟨Nat.lt_succ_of_lt (h.ok.1 r hr).1, (h.ok.1 r hr).2⟩
  · rcases List.mem_cons.1 hr with rfl | hr
    · exact ⟨o, ho, rfl⟩
    · exact h.dst r hr
  · by_cases he : j = i
    · exact ⟨_, List.mem_cons_self .., he.symm⟩
    · obtain ⟨r, hr, hx⟩ := h.all j (by omega)
      exact ⟨r, List.mem_cons_of_mem _ hr, hx⟩

theorem recIx_mem {g : Nat} {r : SRec} : ∀ {l : List SRec}, recIx g l = some r → r ∈ l ∧ r.ix = g
  | [], h => by cases h
  | x :: l, h => by
    simp only [recIx] at h
    split at h
    · rename_i hd
      simp only [Option.some.injEq] at h
      subst h
      exact ⟨List.mem_cons_self .., eqb_eq.1 hd⟩
    · obtain ⟨h1, h2⟩ := recIx_mem h
      exact ⟨List.mem_cons_of_mem _ h1, h2⟩
theorem rec_uniq : ∀ {l : List SRec}, l.Pairwise (fun a b => b.ix < a.ix) → ∀ r ∈ l, ∀ r' ∈ l, r.ix = r'.ix → r = r' := fun hp r hr r' hr' he => by
  have h1 := recIx_self hp r hr
  have h2 := recIx_self hp r' hr'
  rw [he, h2] at h1
  exact (Option.some.inj h1).symm

theorem ctxOf_lt {recs : List SRec} {i : Nat} (h : RInv l recs i) {g : Option (Nat × Bool)} {c : List (Nat × Bool)} (hc : ctxOf recs g = some (some c)) : ∀ x ∈ c, x.1 < i := by
  unfold ctxOf at hc
  split at hc
  · simp only [Option.some.injEq] at hc; subst hc; intro x hx; cases hx
  · rename_i g' w
    split at hc
    · cases hc
    · rename_i r hr
      have key : c = (g', w) :: r.ctx → ∀ x ∈ c, x.1 < i := fun hcc => by
        subst hcc
        obtain ⟨h1, h2⟩ := recIx_mem hr
        have h3 := h.ok.1 r h1
        intro x hx
        rcases List.mem_cons.1 hx with rfl | hx
        · show g' < i; omega
        · have := h3.2 x hx; omega
      split at hc
      · split at hc
        · split at hc
          · split at hc
            · simp only [Option.some.injEq] at hc; exact key hc.symm
            · simp at hc
          · simp only [Option.some.injEq] at hc; exact key hc.symm
          · cases hc
        · cases hc
      · cases hc

def satO (recs : List SRec) : Option (List (Nat × Bool)) → Bool
  | some c => sat recs c
  | none => false
/-- Whether an operation is done. -/
theorem wanted_sat {recs : List SRec} {e : Env} {i : Nat} (h : RInv l recs i) {o : Oper} {co : Option (List (Nat × Bool))} (hc : ctxOf recs o.guard = some co) {tmps : Array Value}
    (hs : ∀ g w t, o.guard = some (g, w) → (l[g]?).bind (·.dst) = some t → SlotIs recs base e t (tmps.getD t undef)) : Region.wanted o (yielded l.toArray tmps) = satO recs co := by
  unfold ctxOf at hc
  unfold Region.wanted
  split at hc
  · rename_i hg
    simp only [Option.some.injEq] at hc
    subst hc
    rw [hg]
    rfl
  · rename_i g w hg
    rw [hg]
    split at hc
    · cases hc
    · rename_i r hr
      have key : ∀ (t : Nat) (r' : SRec) (q : Bool), r.dst = some t → recDst t recs = some r' → eqb r'.ix g = true → svB r.sv = some q → (yielded l.toArray tmps g == some w) = ((q == w) && sat recs r.ctx) ∧ boolOf recs g = q := fun t r' q hdst hr' he hsv => by
        obtain ⟨h1, h2⟩ := recIx_mem hr
        obtain ⟨h3, h4⟩ := recIx_dst t hr'
        have he := eqb_eq.1 he
        have hrr : r' = r := rec_uniq h.ok.2 r' h3 r h1 (by omega)
        subst hrr
        obtain ⟨o', ho', hod⟩ := h.dst r' h1
        rw [h2] at ho'
        have hd : (l[g]?).bind (·.dst) = some t := by rw [ho']; simp [hod, hdst]
        have hS := hs g w t hg hd
        simp only [SlotIs, hr'] at hS
        have hb : boolOf recs g = q := by rw [← h2]; exact boolOf_self h.ok.2 h1 hsv
        have hy : yielded l.toArray tmps g = (match tmps[t]? with | some (.bool b) => some b | _ => none) := by
          unfold yielded
          have e : (l.toArray[g]?).bind (·.dst) = some t := by simpa using hd
          rw [e]
          rfl
        refine ⟨?_, hb⟩
        rw [hy]
        cases hz : sat recs r'.ctx with
        | true =>
          have h5 := hS.1 hz
          have h6 : tmps.getD t undef = .bool q := svB_is hsv h5
          rw [Array.getD_eq_getD_getElem?] at h6
          cases ht : tmps[t]? with
          | none => rw [ht] at h6; simp [undef] at h6
          | some v => rw [ht] at h6; simp at h6; subst h6; cases q <;> cases w <;> rfl
        | false =>
          have h6 := hS.2 hz
          rw [Array.getD_eq_getD_getElem?] at h6
          cases ht : tmps[t]? with
          | none => simp
          | some v => rw [ht] at h6; simp at h6; subst h6; simp [undef]
      split at hc
      · rename_i t hdst
        split at hc
        · rename_i r' hr'
          split at hc
          · rename_i q he hsv
            obtain ⟨k1, k2⟩ := key t r' q hdst hr' he (by rw [hsv]; rfl)
            show (yielded l.toArray tmps g == some w) = _
            rw [k1]
            split at hc
            · rename_i hbw
              have := beqB_eq.1 hbw
              simp only [Option.some.injEq] at hc
              subst hc
              subst this
              simp only [satO]
              cases q <;> simp [sat, k2]
            · rename_i hbw
              simp only [Option.some.injEq] at hc
              subst hc
              simp only [satO]
              have : (q == w) = false := by cases q <;> cases w <;> simp_all [beqB]
              rw [this]; rfl
          · rename_i q he hsv
            obtain ⟨k1, k2⟩ := key t r' q hdst hr' he (by rw [hsv]; rfl)
            show (yielded l.toArray tmps g == some w) = _
            rw [k1]
            simp only [Option.some.injEq] at hc
            subst hc
            simp only [satO]
            cases w <;> simp [sat, k2]
          · cases hc
        · cases hc
      · cases hc

/-- The frame is as the records say. -/
structure FrOk (recs : List SRec) (base : List (Nat × SV)) (e : Env) (a : Act) (sz : Nat) : Prop where
  defers : a.defers = []
  size : a.tmps.size = sz
  slot : ∀ t, SlotIs recs base e t (a.tmps.getD t undef)

theorem FrOk.op {recs : List SRec} {e : Env} {a : Act} (h : FrOk recs base e a sz) (x : Operand) : OpIs recs base e x (a.eval x) := by
  cases x with
  | tmp t => exact h.slot t
  | const v => rfl
  | global g => rfl
  | func f => rfl

theorem recDst_cons_ne {t : Nat} {r : SRec} {recs : List SRec} (h : r.dst ≠ some t) : recDst t (r :: recs) = recDst t recs := by
  simp only [recDst]
  cases hd : dstIs t r.dst with
  | false => rfl
  | true =>
    exfalso
    unfold dstIs at hd
    split at hd
    · cases hd
    · rename_i u hu
      exact h (by rw [hu, eqb_eq.1 hd])
theorem recDst_cons_eq {t : Nat} {r : SRec} {recs : List SRec} (h : r.dst = some t) : recDst t (r :: recs) = some r := by
  simp only [recDst, h, dstIs, eqb_eq.2 rfl]

theorem FrOk.step {recs : List SRec} {e e' : Env} {a : Act} {i : Nat} (hI : RInv l recs i) (h : FrOk recs base e a sz) (hg : Grows e e') {o : Oper} {c : List (Nat × Bool)} (hc : ∀ x ∈ c, x.1 < i) {sv : SV} {v : Value}
    (ht : ∀ t, o.dst = some t → t < sz) (hv : (sat recs c = true → sv.is e' v) ∧ (sat recs c = false → v = undef)) : FrOk (⟨i, o.dst, c, sv⟩ :: recs) base e' (a.put o.dst v) sz := by
  refine ⟨by cases o.dst <;> exact h.defers, by rw [← h.size]; cases o.dst <;> simp [Act.put], fun t => ?_⟩
  by_cases hd : o.dst = some t
  · have hr : recDst t (⟨i, o.dst, c, sv⟩ :: recs) = some ⟨i, o.dst, c, sv⟩ := recDst_cons_eq hd
    simp only [SlotIs, hr]
    have ee : (a.put o.dst v).tmps.getD t undef = v := by
      have := ht t hd
      rw [← h.size] at this
      rw [hd]
      simp [Act.put, this]
    rw [ee, sat_cons (fun x hx => hc x hx)]
    exact hv
  · have hr : recDst t (⟨i, o.dst, c, sv⟩ :: recs) = recDst t recs := recDst_cons_ne hd
    have ee : (a.put o.dst v).tmps.getD t undef = a.tmps.getD t undef := by
      cases hdd : o.dst with
      | none => rfl
      | some u =>
        have hne : u ≠ t := fun e => hd (by rw [hdd, e])
        simp only [Act.put, Array.getD_eq_getD_getElem?]
        rw [Array.getElem?_setIfInBounds_ne hne]
    rw [ee]
    have := h.slot t
    simp only [SlotIs, hr] at this ⊢
    split at this
    · rename_i r hrr
      rw [sat_cons (fun x hx => by
        have h1 := hI.ok.1 r (recIx_dst t hrr).1
        have h2 := h1.2 x hx
        show x.1 < i
        omega)]
      exact ⟨fun hs => SV.is_mono hg (this.1 hs), this.2⟩
    · split at this
      · exact SV.is_mono hg this
      · exact this

theorem runOps_ps : ∀ (os : List Oper) (i : Nat) (recs : List SRec) (mem : Mem β) (ver : Nat) (ps : List Prop) {r : List SRec × Mem β × Nat × List Prop}, runOps S base pn sz os i recs mem ver ps = some r → ∀ p ∈ ps, p ∈ r.2.2.2
  | [], _, _, _, _, _, r, h, p, hp => by simp only [runOps, Option.some.injEq] at h; subst h; exact hp
  | o :: os, i, recs, mem, ver, ps, r, h, p, hp => by
    simp only [runOps, forceN_eq] at h
    split at h
    · cases h
    · split at h
      · cases h
      · exact runOps_ps os _ _ _ _ _ h p hp
      · split at h
        · cases h
        · exact runOps_ps os _ _ _ _ _ h p (List.mem_append_right _ hp)
        · exact runOps_ps os _ _ _ _ _ h p (List.mem_append_right _ hp)

theorem guardP_mem {b : Bool} (hb : b = true) : ∀ {qs : List Prop}, (∀ p ∈ guardP b qs, p) → ∀ q ∈ qs, q
  | [], _, q, hq => by cases hq
  | p :: ps, h, q, hq => by
    rcases List.mem_cons.1 hq with rfl | hq
    · exact h _ (List.mem_cons_self ..) hb
    · exact guardP_mem hb (fun r hr => h r (List.mem_cons_of_mem _ hr)) q hq
theorem askP_all {recs : List SRec} {c : List (Nat × Bool)} {qs : List Prop} (hc : sat recs c = true) (h : ∀ p ∈ askP recs c qs, p) : ∀ q ∈ qs, q := by
  unfold askP at h
  split at h
  · intro q hq; cases hq
  · exact h
  · exact guardP_mem hc h
theorem dst_le {o : Oper} (h : (match o.dst with | none => true | some t => leb (t + 1) sz) = true) : ∀ t, o.dst = some t → t < sz := fun t ht => by
  rw [ht] at h
  have h2 : leb (t + 1) sz = true := h
  exact leb_le.1 h2

/-- In the text's order. -/
theorem runOps_seq (hS : SyOk S I W0 G) {Q : Exit → Act → World → Prop} : ∀ (os : List Oper) (i : Nat) (recs : List SRec) (mem : Mem β) (ver : Nat) (ps : List Prop) {recs' : List SRec} {mem' : Mem β} {ver' : Nat} {ps' : List Prop} {a : Act} {w : World} {e : Env},
    runOps S base pn sz os i recs mem ver ps = some (recs', mem', ver', ps') → (∀ (j : Nat) (o : Oper), os[j]? = some o → l[i + j]? = some o) → RInv l recs i → FrOk recs base e a sz → MemOk W0 G I w e mem → (∀ p ∈ ps', p) →
    (∀ e' a' w', Grows e e' → FrOk recs' base e' a' sz → MemOk W0 G I w' e' mem' → Q .normal a' w') → wpList S.P l.toArray Q os a w
  | [], i, recs, mem, ver, ps, recs', mem', ver', ps', a, w, e, h, hl, hI, hf, hM, hps, hend => by
    simp only [runOps, Option.some.injEq, Prod.mk.injEq] at h
    obtain ⟨rfl, rfl, rfl, rfl⟩ := h
    exact wpList_nil (hend e a w (Grows.refl e) hf hM)
  | o :: os, i, recs, mem, ver, ps, recs', mem', ver', ps', a, w, e, h, hl, hI, hf, hM, hps, hend => by
    simp only [runOps, forceN_eq] at h
    split at h
    · cases h
    · rename_i hd
      have hd := dst_le hd
      have ho : l[i]? = some o := by simpa using hl 0 o rfl
      have hl' : ∀ (j : Nat) (o' : Oper), os[j]? = some o' → l[i + 1 + j]? = some o' := fun j o' hj => by
        have := hl (j + 1) o' (by simpa using hj)
        rwa [show i + (j + 1) = i + 1 + j by omega] at this
      split at h
      · cases h
      · rename_i hc
        have hw := wanted_sat (base := base) (e := e) hI hc (tmps := a.tmps) (fun g w t _ _ => hf.slot t)
        refine wpList_step fun K hK => ?_
        rw [hw, if_neg (show ¬ satO recs none = true from by simp [satO])]
        refine hK _ _ ?_
        exact runOps_seq hS os (i + 1) _ _ _ _ h hl' (hI.cons ho (c := []) (fun x hx => by cases hx) _) (hf.step hI (Grows.refl e) (c := []) (fun x hx => by cases hx) hd ⟨fun _ => rfl, fun _ => rfl⟩) hM hps hend
      · rename_i c hc
        have hlt := ctxOf_lt hI hc
        have hw := wanted_sat (base := base) (e := e) hI hc (tmps := a.tmps) (fun g w t _ _ => hf.slot t)
        split at h
        · cases h
        · rename_i sv qs hev
          refine wpList_step fun K hK => ?_
          rw [hw]
          by_cases hs : sat recs c = true
          · rw [if_pos (show satO recs (some c) = true from hs)]
            refine gives_wp rfl (Post := fun v w' => Ext w w' ∧ sv.is e v) (by unfold gives; exact evalOp_pure hS hM hI.ok.2 hs (fun x _ => hf.op x) hev (askP_all hs fun p hp => hps p (runOps_ps os _ _ _ _ _ h p (List.mem_append_left _ hp)))) fun v w' ⟨h1, h2⟩ => hK _ _ ?_
            exact runOps_seq hS os (i + 1) _ _ _ _ h hl' (hI.cons ho hlt sv) (hf.step hI (Grows.refl e) hlt hd ⟨(fun _ => h2), (fun h => by rw [hs] at h; cases h)⟩) (hM.ext h1) hps hend
          · rw [if_neg (show ¬ satO recs (some c) = true from hs)]
            have hs : sat recs c = false := by simpa using hs
            refine hK _ _ ?_
            exact runOps_seq hS os (i + 1) _ _ _ _ h hl' (hI.cons ho hlt sv) (hf.step hI (Grows.refl e) hlt hd ⟨(fun h => by rw [hs] at h; cases h), fun _ => rfl⟩) hM hps hend
        · rename_i sv m2 qs hev
          obtain ⟨_, hc0⟩ := evalOp_eff0 hev
          refine wpList_step fun K hK => ?_
          rw [hw]
          subst hc0
          have hs : sat recs [] = true := rfl
          rw [if_pos (show satO recs (some []) = true from rfl)]
          refine gives_wp rfl (Post := fun v w' => ∃ e', Grows e e' ∧ MemOk W0 G I w' e' m2 ∧ sv.is e' v) (by unfold gives; exact evalOp_eff hS hM hs (fun x _ => hf.op x) hev (askP_all hs fun p hp => hps p (runOps_ps os _ _ _ _ _ h p (List.mem_append_left _ hp)))) fun v w' ⟨e', hg, h1, h2⟩ => hK _ _ ?_
          exact runOps_seq hS os (i + 1) _ _ _ _ h hl' (hI.cons ho hlt sv) (hf.step hI hg hlt hd ⟨(fun _ => h2), (fun h => by cases h)⟩) h1 hps fun e2 a2 w2 hg2 => hend e2 a2 w2 (hg.trans hg2)
end
end Go.Proofs.Ytcekfgcajcjooaa

/- Q3. -/
import Derived.Test.YtonomiljclemnaaQ2p
set_option linter.unusedVariables false
set_option linter.unusedSimpArgs false
namespace Go.Proofs.Ytonomiljclemnaa
open Go.RowKit
section
variable {S : Sy Td} {W0 : World} {G : Nat → Prop} {base : List (Nat × SV)} {sz : Nat} {l : List Oper}
theorem vwrap {P : Program} {s : Sem Value} (hs : Blind P s) : Blind P (do pure (Next.value (← s)) : Sem Next) ∧ ∀ w r w1, (do pure (Next.value (← s)) : Sem Next).run P w = .ok r w1 → ∃ v, r = .value v := by
  refine ⟨blind_bind hs fun _ => blind_pure _, fun w r w1 h => ?_⟩
  rw [Sem.run_bind] at h
  cases hr : s.run P w with
  | ok a w2 => rw [hr, Result.andThen_ok, Sem.run_pure] at h; cases h; exact ⟨_, rfl⟩
  | halt x w2 => rw [hr] at h; cases h
theorem blind_not (x : Value) {P : Program} : Blind P (Op.unary .not x) := by
  cases x <;> first | exact blind_pure _ | exact blind_stuck _
def okQ (o : Oper) : Bool := match o.op with
  | .move _ => true
  | .indexAddr _ _ _ => true
  | .unOp .not _ _ => true
  | _ => false
def isCallQ (o : Oper) : Bool := match o.op with
  | .call { callee := .value _, args := _, argTypes := _ } => true
  | _ => false
theorem okQ_blind {o : Oper} (h : okQ o = true) (P : Program) (ρ : Operand → Value) : Blind P (execOp ρ o) ∧ ∀ w r w1, (execOp ρ o).run P w = .ok r w1 → ∃ v, r = .value v := by
  unfold okQ at h
  split at h
  · rename_i x hop
    unfold execOp
    simp only [hop]
    exact ⟨blind_pure _, fun w r w1 h => by rw [Sem.run_pure] at h; cases h; exact ⟨_, rfl⟩⟩
  · rename_i t x ix hop
    unfold execOp
    simp only [hop]
    exact vwrap (blind_indexAt _ _ _)
  · rename_i t x hop
    unfold execOp
    simp only [hop]
    exact vwrap (blind_not _)
  · cases h
def valQ : SV → Option Value
  | .c (.one (.v x)) => some x
  | .c (.one (.kB b)) => some (.bool b)
  | .c (.one (.kI k n)) => some (.int k n)
  | _ => none
theorem valQ_is {e : Env} {s : SV} {x u : Value} (h : valQ s = some x) (hs : s.is e u) : u = x := by
  unfold valQ at h
  split at h
  · cases h; exact hs
  · cases h; exact hs
  · cases h; exact hs
  · cases h
theorem valQ_self {e : Env} {s : SV} {x : Value} (h : valQ s = some x) : s.is e x := by
  unfold valQ at h
  split at h
  · cases h; rfl
  · cases h; rfl
  · cases h; rfl
  · cases h
def rowQ (recs : List SRec) (base : List (Nat × SV)) (mem : Mem Td) (o : Oper) : Option (Mem Td) := match o.op with
  | .load t x => (match pvS (lookS recs base [] x) with
    | some (.elt i n idx off) => (match mem[i]? with
      | some ⟨.us (.ext (.tab tb)), _⟩ => (match eqb n (tb.k + 1) && (eqb off tb.k && eqb t 31) with
        | true => some (mem ++ [⟨.us (.byt (tb.byt idx)), false⟩])
        | false => none)
      | _ => none)
    | _ => none)
  | _ => none
def runQ (S : Sy Td) (base : List (Nat × SV)) (sz : Nat) : List Oper → Nat → List SRec → Mem Td → List Prop → Option (List SRec × Mem Td × List Prop)
  | [], _, recs, mem, ps => some (recs, mem, ps)
  | o :: os, i, recs, mem, ps => match (match o.dst with | none => true | some t => leb (t + 1) sz), o.guard with
    | true, none => (match rowQ recs base mem o with
      | some m' => forceN (i + 1) fun j => runQ S base sz os j (⟨i, o.dst, [], .c (.one (.obj mem.length))⟩ :: recs) m' ps
      | none => (match evalOp S recs base mem [] false o with
        | some (sv, none, qs) => (match okQ o || (isCallQ o && (valQ sv).isSome) with
          | true => forceN (i + 1) fun j => runQ S base sz os j (⟨i, o.dst, [], sv⟩ :: recs) mem (qs ++ ps)
          | false => none)
        | _ => none))
    | _, _ => none
theorem runQ_ps : ∀ (os : List Oper) (i : Nat) (recs : List SRec) (mem : Mem Td) (ps : List Prop) {r : List SRec × Mem Td × List Prop}, runQ S base sz os i recs mem ps = some r → ∀ p ∈ ps, p ∈ r.2.2
  | [], i, recs, mem, ps, r, h, p, hp => by
    simp only [runQ, Option.some.injEq] at h
    subst h; exact hp
  | o :: os, i, recs, mem, ps, r, h, p, hp => by
    simp only [runQ, forceN_eq] at h
    split at h
    · split at h
      · exact runQ_ps os _ _ _ _ h p hp
      · split at h
        · split at h
          · exact runQ_ps os _ _ _ _ h p (List.mem_append_right _ hp)
          · cases h
        · cases h
    · cases h
theorem runQ_dst : ∀ (os : List Oper) (i : Nat) (recs : List SRec) (mem : Mem Td) (ps : List Prop) {recs' : List SRec} {mem' : Mem Td} {ps' : List Prop}, runQ S base sz os i recs mem ps = some (recs', mem', ps') → ∀ r ∈ recs', r ∈ recs ∨ ∃ o ∈ os, o.dst = r.dst
  | [], i, recs, mem, ps, recs', mem', ps', h, r, hr => by
    simp only [runQ, Option.some.injEq, Prod.mk.injEq] at h
    obtain ⟨rfl, rfl, rfl⟩ := h
    exact .inl hr
  | o :: os, i, recs, mem, ps, recs', mem', ps', h, r, hr => by
    have step : ∀ {sv : SV} {m2 : Mem Td} {p2 : List Prop}, runQ S base sz os (i + 1) (⟨i, o.dst, [], sv⟩ :: recs) m2 p2 = some (recs', mem', ps') → r ∈ recs ∨ ∃ o' ∈ o :: os, o'.dst = r.dst := fun h => by
      rcases runQ_dst os _ _ _ _ h r hr with h | ⟨o', ho', hd⟩
      · rcases List.mem_cons.1 h with rfl | h
        · exact .inr ⟨o, List.mem_cons_self .., rfl⟩
        · exact .inl h
      · exact .inr ⟨o', List.mem_cons_of_mem _ ho', hd⟩
    simp only [runQ, forceN_eq] at h
    split at h
    · split at h
      · exact step h
      · split at h
        · split at h
          · exact step h
          · cases h
        · cases h
    · cases h
theorem call_quiet {recs : List SRec} {mem : Mem Td} {w : World} {e : Env} {o : Oper} {ρ : Operand → Value} {sv : SV} {qs : List Prop} {x : Value} (hS : SyOk S Id' W0 G) (hM : MemOk W0 G Id' w e mem) (hcl : isCallQ o = true) (hx : valQ sv = some x)
    (hρ : ∀ y ∈ o.op.operands, OpIs recs base e y (ρ y)) (h : evalOp S recs base mem [] false o = some (sv, none, qs)) (hps : ∀ p ∈ qs, p) :
    ∃ f args, (∀ w', (execOp ρ o).run S.P w' = .ok (.enter f args) w') ∧ ∀ w', Ext w w' → Calls S.P f args w' fun y w'' => y = .returned x ∧ Ext w w'' := by
  have hc : sat recs [] = true := rfl
  unfold isCallQ at hcl
  split at hcl
  · rename_i fv xs ats hop
    unfold evalOp at h
    rw [hop] at h
    simp only at h
    split at h
    · rename_i f fi ca us hs hus
      split at h
      · rename_i g hg
        split at h
        · rename_i qs' r hgr
          simp only [Option.some.injEq, Prod.mk.injEq] at h
          obtain ⟨rfl, -, rfl⟩ := h
          obtain ⟨a1, a2, k1, k2, hx'⟩ := lookS_is hs hc (hρ fv (by rw [hop]; simp [Op.operands, Call.operands]))
          have hv := cvs_of (ρ := ρ) (e := e) hc hus (fun x hx => hρ x (by rw [hop]; simp [Op.operands, Call.operands, Array.mem_toList_iff.1 hx]))
          obtain ⟨q1, q2⟩ := hS.fns f g hg _ mem _ _ none hgr hps
          have hall := k1.ones.append (hv.append k2.ones)
          refine ⟨f, (a1 ++ (xs.toList.map ρ ++ a2)).toArray, fun w' => ?_, fun w' hw => ?_⟩
          · unfold execOp
            simp only [hop, resolve, hx', Deferred.ofValue, invoke, Sem.run_bind, Sem.run_pure, Result.andThen_ok, map_arr xs]
            rw [q1]
            simp
          · exact (q2 w' e _ (hM.ext hw) hall).mono fun y w'' ⟨v, h1, h2, h3⟩ => ⟨h1.trans (congrArg _ (valQ_is (e := e) hx h2)), hw.trans h3⟩
        · cases h
        · cases h
      · cases h
    · cases h
  · cases hcl
theorem runQ_seq (hS : SyOk S Id' W0 G) (hP : S.P = Try.prog) {w : World} {K : Act → Prop} : ∀ (os : List Oper) (i : Nat) (recs : List SRec) (mem : Mem Td) (ps : List Prop) {recs' : List SRec} {mem' : Mem Td} {ps' : List Prop} {a : Act} {e : Env},
    runQ S base sz os i recs mem ps = some (recs', mem', ps') → (∀ (j : Nat) (o : Oper), os[j]? = some o → l[i + j]? = some o) → RInv l recs i → FrOk recs base e a sz → MemOk W0 G Id' w e mem → (∀ p ∈ ps', p) →
    (∀ e' a', Grows e e' → FrOk recs' base e' a' sz → MemOk W0 G Id' w e' mem' → K a') → wpQuiet S.P l.toArray (fun w' => Ext w w') K os a
  | [], i, recs, mem, ps, recs', mem', ps', a, e, h, hl, hI, hf, hM, hps, hend => by
    simp only [runQ, Option.some.injEq, Prod.mk.injEq] at h
    obtain ⟨rfl, rfl, rfl⟩ := h
    exact wpQuiet_nil (hend e a (Grows.refl e) hf hM)
  | o :: os, i, recs, mem, ps, recs', mem', ps', a, e, h, hl, hI, hf, hM, hps, hend => by
    simp only [runQ, forceN_eq] at h
    split at h
    · rename_i hd hg
      have hd := dst_le hd
      have ho : l[i]? = some o := by simpa using hl 0 o rfl
      have hl' : ∀ (j : Nat) (o' : Oper), os[j]? = some o' → l[i + 1 + j]? = some o' := fun j o' hj => by
        have := hl (j + 1) o' (by simpa using hj)
        rwa [show i + (j + 1) = i + 1 + j by omega] at this
      have hw : Region.wanted o (yielded l.toArray a.tmps) = true := by unfold Region.wanted; rw [hg]
      refine wpQuiet_step fun K' hK => ?_
      rw [if_pos hw]
      have hlt : ∀ x ∈ ([] : List (Nat × Bool)), x.1 < i := fun x hx => by cases hx
      have next : ∀ {sv : SV} {m2 : Mem Td} {p2 : List Prop} {v : Value} {e2 : Env}, runQ S base sz os (i + 1) (⟨i, o.dst, [], sv⟩ :: recs) m2 p2 = some (recs', mem', ps') → Grows e e2 → sv.is e2 v → MemOk W0 G Id' w e2 m2 → K' (a.put o.dst v) := fun {sv m2 p2 v e2} h hg2 hv hM2 =>
        hK _ (runQ_seq hS hP os (i + 1) _ _ _ h hl' (hI.cons ho (c := []) hlt sv) (hf.step hI hg2 (c := []) hlt hd ⟨fun _ => hv, fun h => by cases h⟩) hM2 hps fun e' a' hg' hf' hM' => hend e' a' (hg2.trans hg') hf' hM')
      split at h
      · rename_i m' hrow
        unfold rowQ at hrow
        split at hrow
        · rename_i t x hop
          split at hrow
          · rename_i ix n idx off hpv
            split at hrow
            · rename_i tb mu hm
              split at hrow
              · rename_i hb
                simp only [Option.some.injEq] at hrow
                subst hrow
                simp only [Bool.and_eq_true] at hb
                obtain rfl := eqb_eq.1 hb.1
                obtain rfl := eqb_eq.1 hb.2.1
                obtain rfl := eqb_eq.1 hb.2.2
                have hx := lookS_is (pvS_some hpv) (c := []) rfl (hf.op x)
                obtain ⟨v, hv, hM2⟩ := tab_load_uni hM hm (ρ := a.eval) hop ⟨hx, trivial⟩
                refine ⟨v, fun w' hw' => ?_, next h (Grows.push e v) ?_ hM2⟩
                · unfold Oper.quietAt
                  rw [hP, hv w' hw']
                  exact ⟨rfl, rfl⟩
                · show (e ++ [v])[mem.length]? = _
                  rw [← hM.len, List.getElem?_append_right (Nat.le_refl _)]; simp
              · cases hrow
            · cases hrow
          · cases hrow
        · cases hrow
      · split at h
        · rename_i sv qs hev
          split at h
          · rename_i hk
            have hqs : ∀ p ∈ qs, p := fun p hp => hps p (runQ_ps os _ _ _ _ h p (List.mem_append_left _ hp))
            cases hok : okQ o with
            | true =>
              obtain ⟨hb, hval⟩ := okQ_blind hok S.P a.eval
              have hg := evalOp_pure hS hM hI.ok.2 rfl (fun x _ => hf.op x) hev hqs
              cases hr : (execOp a.eval o).run S.P w with
              | ok r w1 =>
                obtain ⟨v, rfl⟩ := hval w r w1 hr
                rw [hr] at hg
                obtain ⟨rfl, hall⟩ := hb w _ w1 hr
                refine ⟨v, fun w' _ => ?_, next h (Grows.refl e) hg.2 hM⟩
                unfold Oper.quietAt
                rw [hall w']
                exact ⟨rfl, rfl⟩
              | halt x w1 => rw [hr] at hg; exact hg.elim
            | false =>
              rw [hok, Bool.false_or, Bool.and_eq_true] at hk
              obtain ⟨x, hx⟩ := Option.isSome_iff_exists.1 hk.2
              obtain ⟨f, args, h1, h2⟩ := call_quiet hS hM hk.1 hx (fun y _ => hf.op y) hev hqs
              have hg := evalOp_pure hS hM hI.ok.2 rfl (fun x _ => hf.op x) hev hqs
              rw [h1 w] at hg
              refine ⟨x, fun w' hw' => ?_, next h (Grows.refl e) (v := x) ?_ hM⟩
              · unfold Oper.quietAt
                rw [h1 w']
                exact ⟨rfl, h2 w' hw'⟩
              · exact valQ_self hx
          · cases h
        · cases h
    · cases h
end
end Go.Proofs.Ytonomiljclemnaa

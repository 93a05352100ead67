/- A symbolic run, wider: contracts. No program in sight. -/
import Derived.Test.YtcekfgcajcjooaaT6
set_option linter.unusedVariables false
set_option linter.unusedSimpArgs false
namespace Go.Proofs.Ytcekfgcajcjooaa
open Go.RowKit

section
variable {β : Type} {S : Sy β} {I : ObI β} {W0 : World} {G : Nat → Prop} {L : Lps β} {sz : Nat}
def RT.holds (K : SV → SSt β → Prop) : RT β → Prop
  | .leaf x s => K x s
  | .br b t e => (b = true → t.holds K) ∧ (b = false → e.holds K)
  | .need ps t => (∀ p ∈ ps, p) ∧ t.holds K
  | .fail => False
theorem RT.holds_mono {K K' : SV → SSt β → Prop} (hk : ∀ x s, K x s → K' x s) : ∀ {t : RT β}, t.holds K → t.holds K'
  | .leaf _ _, h => hk _ _ h
  | .br _ _ _, h => ⟨fun hb => holds_mono hk (h.1 hb), fun hb => holds_mono hk (h.2 hb)⟩
  | .need _ _, h => ⟨h.1, holds_mono hk h.2⟩
  | .fail, h => h
theorem Tr.holds_res {P : Program} {rs : List ResultVar} {K : SV → SSt β → Prop} : ∀ {t : Tr β}, (t.res P rs).holds K → t.holds fun x s => (∀ id, x ≠ .exit id) ∧ ∃ y, resS P rs s = some y ∧ K y s
  | .leaf .normal s, h => by
    simp only [Tr.res] at h
    split at h
    · rename_i y hy; exact ⟨by simp, y, hy, h⟩
    · exact h.elim
  | .leaf .ret s, h => by
    simp only [Tr.res] at h
    split at h
    · rename_i y hy; exact ⟨by simp, y, hy, h⟩
    · exact h.elim
  | .leaf (.exit _) _, h => h.elim
  | .br _ _ _, h => ⟨fun hb => holds_res (h.1 hb), fun hb => holds_res (h.2 hb)⟩
  | .need _ _, h => ⟨h.1, holds_res h.2⟩
  | .fail, h => h

def resVar (tmps : Array Value) (r : ResultVar) : Sem Value := match r with
  | .tmp t => pure (tmps.getD t undef)
  | .cell t ty => do loadVar ty (← asAddr (tmps.getD t undef))
theorem results_eq (fn : Func) (tmps : Array Value) : results fn tmps = (do
    let vs ← fn.results.mapM (resVar tmps)
    pure (if h : vs.size = 1 then vs[0] else .tuple vs)) := by
  unfold results
  congr 1
theorem resOne_run {P : Program} {s : SSt β} {e : Env} {a : Act} {w : World} (hf : FrOk [] s.base e a sz) (hM : MemOk W0 G I w e s.mem) {r : ResultVar} {y : CV} (h : resOne P s r = some y) :
    ∃ u, (resVar a.tmps r).run P w = .ok u w ∧ y.is e u := by
  cases r with
  | tmp t =>
    simp only [resOne] at h
    exact ⟨_, rfl, lookS_is (recs := []) (c := []) (cvS_some h) rfl (hf.op (.tmp t))⟩
  | cell t ty =>
    simp only [resOne] at h
    split at h
    · rename_i p hp
      have hx := lookS_is (recs := []) (c := []) (pvS_some hp) rfl (hf.op (.tmp t))
      have hx' : p.is e (a.tmps.getD t undef) := hx
      obtain ⟨ad, u, h1, h2, h3⟩ := loadS_run hM h hx'
      refine ⟨u, ?_, h3⟩
      simp only [resVar, h1, asAddr, Sem.run_bind, Sem.run_pure, Result.andThen_ok, h2]
    · cases h
theorem resS_run {P : Program} {fn : Func} {s : SSt β} {e : Env} {a : Act} {w : World} (hf : FrOk [] s.base e a sz) (hM : MemOk W0 G I w e s.mem) {y : SV} (h : resS P fn.results.toList s = some y) : ∃ u, (results fn a.tmps).run P w = .ok u w ∧ y.is e u := by
  unfold resS at h
  have harr : fn.results = fn.results.toList.toArray := by simp
  split at h
  · rename_i hr
    simp only [Option.some.injEq] at h
    subst h
    refine ⟨.tuple #[], ?_, [], trivial, rfl⟩
    rw [results_eq, harr, hr]
    simp [Sem.run_bind]
  · rename_i r1 hr
    split at h
    · rename_i x1 e1
      simp only [Option.some.injEq] at h
      subst h
      obtain ⟨u, h1, h2⟩ := resOne_run hf hM e1
      refine ⟨u, ?_, h2⟩
      rw [results_eq, harr, hr]
      simp [Sem.run_bind, h1]
    · cases h
  · rename_i r1 r2 hr
    split at h
    · rename_i x1 x2 e1 e2
      simp only [Option.some.injEq] at h
      subst h
      obtain ⟨u1, h1, k1⟩ := resOne_run hf hM e1
      obtain ⟨u2, h2, k2⟩ := resOne_run hf hM e2
      refine ⟨.tuple #[u1, u2], ?_, [u1, u2], ⟨k1, k2, trivial⟩, rfl⟩
      rw [results_eq, harr, hr]
      simp [Sem.run_bind, h1, h2]
    · cases h
  · rename_i r1 r2 r3 hr
    split at h
    · rename_i x1 x2 x3 e1 e2 e3
      simp only [Option.some.injEq] at h
      subst h
      obtain ⟨u1, h1, k1⟩ := resOne_run hf hM e1
      obtain ⟨u2, h2, k2⟩ := resOne_run hf hM e2
      obtain ⟨u3, h3, k3⟩ := resOne_run hf hM e3
      refine ⟨.tuple #[u1, u2, u3], ?_, [u1, u2, u3], ⟨k1, k2, k3, trivial⟩, rfl⟩
      rw [results_eq, harr, hr]
      simp [Sem.run_bind, h1, h2, h3]
    · cases h
  · cases h

theorem argBase_get {e : Env} (t : Nat) : ∀ (xs : List CV) (us : List Value) (k : Nat), AllC e xs us → (match baseGet t (argBase k xs) with | some x => ∃ j u, t = k + j ∧ us[j]? = some u ∧ x.is e u | none => ∀ j, t = k + j → us[j]? = none)
  | [], [], k, _ => by simp [argBase, baseGet]
  | x :: xs, u :: us, k, ⟨h1, h2⟩ => by
    simp only [argBase, baseGet]
    cases he : eqb k t with
    | true =>
      have := eqb_eq.1 he
      exact ⟨0, u, by omega, rfl, h1⟩
    | false =>
      have hne : k ≠ t := fun e => by rw [eqb_eq.2 e] at he; cases he
      have ih := argBase_get t xs us (k + 1) h2
      simp only
      cases hb : baseGet t (argBase (k + 1) xs) with
      | some y =>
        rw [hb] at ih
        obtain ⟨j, v, h3, h4, h5⟩ := ih
        exact ⟨j + 1, v, by omega, by simpa using h4, h5⟩
      | none =>
        rw [hb] at ih
        intro j hj
        cases j with
        | zero => omega
        | succ j => simpa using ih j (by omega)
  | [], _ :: _, _, h => h.elim
  | _ :: _, [], _, h => h.elim

/-- THE RUN TELLS WHAT THE CALL DOES. -/
theorem sym_calls (hS : SyOk S I W0 G) {f : FuncId} {fn : Func} (hf : S.P.funcs[f]? = some fn) (hb : fn.body = some (bodyOf fn)) (hL : LpsOk S I W0 G L fn.ntmps (bodyOf fn)) {args : List CV} {us : List Value} {e : Env} {mem : Mem β} {w : World}
    (ha : AllC e args us) (hlen : leb args.length fn.ntmps = true) (hM : MemOk W0 G I w e mem) {K : SV → SSt β → Prop} {R : Ending → World → Prop} (h : (runFn S L fn args mem).holds K)
    (hK : ∀ y s e' w' v, Grows e e' → K y s → y.is e' v → MemOk W0 G I w' e' s.mem → R (.returned v) w') : Calls S.P f us.toArray w R := by
  have hlen := leb_le.1 hlen
  rw [← ha.len] at hlen
  refine calls_of_wp hf hb ?_
  refine symC_sound hS (bodyOf fn) hL (Tr.holds_res h) (e := e) ⟨rfl, ?_, fun t => ?_⟩ hM fun x s' e' a' w' hg hk hf' hM' => ?_
  · simp; omega
  · simp only [SlotIs, recDst]
    have := argBase_get t args us 0 ha
    have hget : (us.toArray ++ Array.replicate (fn.ntmps - us.toArray.size) undef).getD t undef = (us[t]?).getD undef := by
      rw [Array.getD_eq_getD_getElem?]
      by_cases ht : t < us.length
      · rw [Array.getElem?_append_left (by simpa using ht)]; simp
      · rw [Array.getElem?_append_right (by simp; omega), List.getElem?_eq_none (by omega)]
        simp only [Array.getElem?_replicate]
        split <;> rfl
    rw [hget]
    split
    · rename_i x hx
      rw [hx] at this
      obtain ⟨j, u, h1, h2, h3⟩ := this
      rw [show t = j by omega, h2]
      exact h3
    · rename_i hx
      rw [hx] at this
      rw [this t (by omega)]
      rfl
  · obtain ⟨hne, y, hy, hKy⟩ := hk
    obtain ⟨u, h1, h2⟩ := resS_run hf' hM' hy
    cases x with
    | normal => exact ⟨hf'.defers, u, h1, hK y s' e' w' u hg hKy h2 hM'⟩
    | ret => exact ⟨hf'.defers, u, h1, hK y s' e' w' u hg hKy h2 hM'⟩
    | exit id => exact absurd rfl (hne id)

/-- A run's answers. -/
def RT.is (v : Value) : RT β → Prop
  | .leaf x _ => valS (some x) = some v
  | .br b t e => (b = true → t.is v) ∧ (b = false → e.is v)
  | .need ps t => (∀ p ∈ ps, p) ∧ t.is v
  | .fail => False
theorem RT.is_holds {v : Value} : ∀ {t : RT β}, t.is v → t.holds fun x _ => valS (some x) = some v
  | .leaf _ _, h => h
  | .br _ _ _, h => ⟨fun hb => is_holds (h.1 hb), fun hb => is_holds (h.2 hb)⟩
  | .need _ _, h => ⟨h.1, is_holds h.2⟩
  | .fail, h => h
def guardN (b : Bool) : List Prop → List Prop
  | [] => []
  | p :: ps => (b = false → p) :: guardN b ps
theorem guardN_mem {b : Bool} (hb : b = false) : ∀ {qs : List Prop}, (∀ p ∈ guardN b qs, p) → ∀ q ∈ qs, q
  | [], _, q, hq => by cases hq
  | p :: ps, h, q, hq => by
    rcases List.mem_cons.1 hq with rfl | hq
    · exact h _ (List.mem_cons_self ..) hb
    · exact guardN_mem hb (fun r hr => h r (List.mem_cons_of_mem _ hr)) q hq
def RT.ob : RT β → List Prop
  | .br b t e => guardP b t.ob ++ guardN b e.ob
  | .need ps t => ps ++ t.ob
  | _ => []
def boolV : Option Value → Option Bool
  | some (.bool b) => some b
  | _ => none
def intV (k : IntKind) : Option Value → Option Int
  | some (.int k' n) => (match eqK k' k with | true => some n | false => none)
  | _ => none
def RT.valB : RT β → Option Bool
  | .leaf x _ => boolV (valS (some x))
  | .br b t e => (match t.valB, e.valB with | some x, some y => some (cond b x y) | _, _ => none)
  | .need _ t => t.valB
  | .fail => none
def RT.valI (k : IntKind) : RT β → Option Int
  | .leaf x _ => intV k (valS (some x))
  | .br b t e => (match t.valI k, e.valI k with | some x, some y => some (cond b x y) | _, _ => none)
  | .need _ t => t.valI k
  | .fail => none
def RT.valV : RT β → Option Value
  | .leaf x _ => valS (some x)
  | .br b t e => (match t.valV, e.valV with | some x, some y => some (cond b x y) | _, _ => none)
  | .need _ t => t.valV
  | .fail => none
theorem RT.valV_is : ∀ {t : RT β} {v : Value}, t.valV = some v → (∀ p ∈ t.ob, p) → t.is v
  | .leaf x _, v, h, _ => h
  | .need ps t, v, h, hp => ⟨fun p hq => hp p (List.mem_append_left _ hq), valV_is (t := t) h fun p hq => hp p (List.mem_append_right _ hq)⟩
  | .br b t e, v, h, hp => by
    simp only [RT.valV] at h
    split at h
    · rename_i x y hx hy
      simp only [Option.some.injEq] at h
      subst h
      exact ⟨fun hb => by
        have := guardP_mem hb fun p hq => hp p (List.mem_append_left _ hq)
        subst hb; exact valV_is hx this, fun hb => by
        have := guardN_mem hb fun p hq => hp p (List.mem_append_right _ hq)
        subst hb; exact valV_is hy this⟩
    · cases h
  | .fail, _, h, _ => by simp [RT.valV] at h
theorem RT.valB_is : ∀ {t : RT β} {v : Bool}, t.valB = some v → (∀ p ∈ t.ob, p) → t.is (.bool v)
  | .leaf x _, v, h, _ => by
    simp only [RT.valB, boolV] at h
    split at h
    · rename_i b hb
      simp only [Option.some.injEq] at h
      subst h; exact hb
    · cases h
  | .need ps t, v, h, hp => ⟨fun p hq => hp p (List.mem_append_left _ hq), valB_is (t := t) h fun p hq => hp p (List.mem_append_right _ hq)⟩
  | .br b t e, v, h, hp => by
    simp only [RT.valB] at h
    split at h
    · rename_i x y hx hy
      simp only [Option.some.injEq] at h
      subst h
      exact ⟨fun hb => by
        have := guardP_mem hb fun p hq => hp p (List.mem_append_left _ hq)
        subst hb; exact valB_is hx this, fun hb => by
        have := guardN_mem hb fun p hq => hp p (List.mem_append_right _ hq)
        subst hb; exact valB_is hy this⟩
    · cases h
  | .fail, _, h, _ => by simp [RT.valB] at h
theorem RT.valI_is {k : IntKind} : ∀ {t : RT β} {v : Int}, t.valI k = some v → (∀ p ∈ t.ob, p) → t.is (.int k v)
  | .leaf x _, v, h, _ => by
    simp only [RT.valI, intV] at h
    split at h
    · rename_i k' n hb
      split at h
      · rename_i hk
        simp only [eqK, decide_eq_true_eq] at hk
        simp only [Option.some.injEq] at h
        subst h; subst hk; exact hb
      · cases h
    · cases h
  | .need ps t, v, h, hp => ⟨fun p hq => hp p (List.mem_append_left _ hq), valI_is (t := t) h fun p hq => hp p (List.mem_append_right _ hq)⟩
  | .br b t e, v, h, hp => by
    simp only [RT.valI] at h
    split at h
    · rename_i x y hx hy
      simp only [Option.some.injEq] at h
      subst h
      exact ⟨fun hb => by
        have := guardP_mem hb fun p hq => hp p (List.mem_append_left _ hq)
        subst hb; exact valI_is hx this, fun hb => by
        have := guardN_mem hb fun p hq => hp p (List.mem_append_right _ hq)
        subst hb; exact valI_is hy this⟩
    · cases h
  | .fail, _, h, _ => by simp [RT.valI] at h
section
variable {f : FuncId} {fn : Func} {args : List CV} {us : List Value} {e : Env} {mem : Mem β} {w : World}
theorem sym_is (hS : SyOk S I W0 G) (hf : S.P.funcs[f]? = some fn) (hb : fn.body = some (bodyOf fn)) (hL : LpsOk S I W0 G L fn.ntmps (bodyOf fn)) (ha : AllC e args us) (hlen : leb args.length fn.ntmps = true) (hM : MemOk W0 G I w e mem) {v : Value}
    (h : (runFn S L fn args mem).is v) : Calls S.P f us.toArray w (fun x w' => x = .returned v ∧ Mod G W0 w') :=
  sym_calls hS hf hb hL ha hlen hM (RT.is_holds h) fun y s e' w' u hg hy hu hM' => by
    have hh : u = v := valS_is hy fun z hz => by cases hz; exact hu
    exact ⟨by rw [hh], hM'.mod⟩
theorem sym_b (hS : SyOk S I W0 G) (hf : S.P.funcs[f]? = some fn) (hb : fn.body = some (bodyOf fn)) (hL : LpsOk S I W0 G L fn.ntmps (bodyOf fn)) (ha : AllC e args us) (hlen : leb args.length fn.ntmps = true) (hM : MemOk W0 G I w e mem) {v : Bool} (ps : List Prop)
    (h : (runFn S L fn args mem).valB = some v) (ho : (runFn S L fn args mem).ob = ps) (hp : ∀ p ∈ ps, p) : Calls S.P f us.toArray w (fun x w' => x = .returned (.bool v) ∧ Mod G W0 w') :=
  sym_is hS hf hb hL ha hlen hM (RT.valB_is h (ho ▸ hp))
theorem sym_i {k : IntKind} (hS : SyOk S I W0 G) (hf : S.P.funcs[f]? = some fn) (hb : fn.body = some (bodyOf fn)) (hL : LpsOk S I W0 G L fn.ntmps (bodyOf fn)) (ha : AllC e args us) (hlen : leb args.length fn.ntmps = true) (hM : MemOk W0 G I w e mem) {v : Int} (ps : List Prop)
    (h : (runFn S L fn args mem).valI k = some v) (ho : (runFn S L fn args mem).ob = ps) (hp : ∀ p ∈ ps, p) : Calls S.P f us.toArray w (fun x w' => x = .returned (.int k v) ∧ Mod G W0 w') :=
  sym_is hS hf hb hL ha hlen hM (RT.valI_is h (ho ▸ hp))
theorem sym_v (hS : SyOk S I W0 G) (hf : S.P.funcs[f]? = some fn) (hb : fn.body = some (bodyOf fn)) (hL : LpsOk S I W0 G L fn.ntmps (bodyOf fn)) (ha : AllC e args us) (hlen : leb args.length fn.ntmps = true) (hM : MemOk W0 G I w e mem) {v : Value} (ps : List Prop)
    (h : (runFn S L fn args mem).valV = some v) (ho : (runFn S L fn args mem).ob = ps) (hp : ∀ p ∈ ps, p) : Calls S.P f us.toArray w (fun x w' => x = .returned v ∧ Mod G W0 w') :=
  sym_is hS hf hb hL ha hlen hM (RT.valV_is h (ho ▸ hp))
end

/-! ### Rows of callees -/
def FnsOk (P : Program) (I : ObI β) (W0 : World) (G : Nat → Prop) (F : Fns β) : Prop := ∀ f g, fnGet f F = some g → ∀ args mem ps r mo, g args mem = some (ps, r, mo) → (∀ p ∈ ps, p) →
    (∀ us w, (callFunc f us).run P w = .ok (.enter f us) w) ∧ ∀ w e us, MemOk W0 G I w e mem → AllC e args us → Calls P f us.toArray w (fun x w' => ∃ v, x = .returned v ∧
      match mo with | none => r.is e v ∧ Ext w w' | some m' => ∃ e', Grows e e' ∧ r.is e' v ∧ MemOk W0 G I w' e' m')
variable {P : Program} {F : Fns β}
theorem FnsOk.nil : FnsOk P I W0 G ([] : Fns β) := fun f g h => by cases h
theorem FnsOk.cons {f : FuncId} {g : Fn2 β} (he : ∀ us w, (callFunc f us).run P w = .ok (.enter f us) w)
    (h : ∀ args mem ps r mo, g args mem = some (ps, r, mo) → (∀ p ∈ ps, p) → ∀ w e us, MemOk W0 G I w e mem → AllC e args us → Calls P f us.toArray w (fun x w' => ∃ v, x = .returned v ∧
      match mo with | none => r.is e v ∧ Ext w w' | some m' => ∃ e', Grows e e' ∧ r.is e' v ∧ MemOk W0 G I w' e' m')) (ht : FnsOk P I W0 G F) : FnsOk P I W0 G ((f, g) :: F) := fun f' g' hg args mem ps r mo hr hp => by
  simp only [fnGet] at hg
  split at hg
  · rename_i hb
    have := eqb_eq.1 hb
    subst this
    simp only [Option.some.injEq] at hg
    subst hg
    exact ⟨he, h args mem ps r mo hr hp⟩
  · exact ht f' g' hg args mem ps r mo hr hp
/-- One of values alone. -/
def vfn (g : List Value → Option (List Prop × Value)) : Fn2 β := fun us _ => match mapO valC us with
  | some vs => (match g vs with | some (ps, v) => some (ps, svV v, none) | none => none)
  | none => none
theorem FnsOk.consV {f : FuncId} {g : List Value → Option (List Prop × Value)} (he : ∀ us w, (callFunc f us).run P w = .ok (.enter f us) w)
    (h : ∀ args ps r, g args = some (ps, r) → (∀ p ∈ ps, p) → ∀ w, Mod G W0 w → Calls P f args.toArray w (fun e w' => e = .returned r ∧ Ext w w')) (ht : FnsOk P I W0 G F) : FnsOk P I W0 G ((f, vfn g) :: F) :=
  FnsOk.cons he (fun args mem ps r mo hr hp w e us hM ha => by
    unfold vfn at hr
    split at hr
    · rename_i vs hvs
      split at hr
      · rename_i ps' v hg
        simp only [Option.some.injEq, Prod.mk.injEq] at hr
        obtain ⟨rfl, rfl, rfl⟩ := hr
        rw [mapO_valC hvs ha]
        exact (h vs ps' v hg hp w hM.mod).mono fun x w' ⟨h1, h2⟩ => ⟨v, h1, rfl, h2⟩
      · cases hr
    · cases hr) ht
def Ob.frz (n : En β) : En β := ⟨n.ob, false⟩
theorem MemOk.freeze {w : World} {e : Env} {mem : Mem β} (h : MemOk W0 G I w e mem) : MemOk w (fun _ => False) I w e (mem.map Ob.frz) := by
  have hg : ∀ (i : Nat) (n : En β), (mem.map Ob.frz)[i]? = some n → ∃ m, mem[i]? = some m ∧ n = Ob.frz m := fun i n hn => by
    rw [List.getElem?_map] at hn
    cases hm : mem[i]? with
    | none => rw [hm] at hn; cases hn
    | some m => rw [hm] at hn; simp at hn; exact ⟨m, rfl, hn.symm⟩
  refine ⟨by simp [h.len], fun i u n hu hn => ?_, fun i u n hu hn k hk => ?_, fun i u n hu hn hm => ?_, fun i j u v n m hu hn hm => ?_, Mod.refl _ w⟩
  · obtain ⟨m, hm, rfl⟩ := hg i n hn
    have := h.holds i u m hu hm
    obtain ⟨ob, mu⟩ := m
    cases ob with
    | blk cells =>
      obtain ⟨b, o, rfl, hc⟩ := this
      exact ⟨b, o, rfl, fun j p hp => by obtain ⟨x, h1, h2, _⟩ := hc j p hp; exact ⟨x, h1, h2, fun hf => by cases hf⟩⟩
    | sl k lb => exact this
    | us b => exact this
    | dead => trivial
  · obtain ⟨m, hm, rfl⟩ := hg i n hn
    exact h.lt i u m hu hm k hk
  · obtain ⟨m, _, rfl⟩ := hg i n hn; cases hm
  · obtain ⟨m', _, rfl⟩ := hg i n hn; cases hm
/-- A callee that is run in its place; it only makes memory, and answers values. -/
def RT.leafV : RT β → Option Value
  | .leaf x _ => valS (some x)
  | _ => none
def closeS (x : Value) : SV := closeV x id
def inl (S : Sy β) (L : Lps β) (fn : Func) (close : Bool) : Fn2 β := fun us mem => match leb us.length fn.ntmps with
  | true => (match runFn S L fn us (mem.map Ob.frz) with
    | .leaf x _ => (match valS (some x) with | some v => some ([], x, none) | none => none)
    | _ => none)
  | false => none
theorem scalar_is {e e' : Env} {x : SV} {v : Value} (h : valS (some x) = some v) : x.is e v := by
  have key : ∀ (xs : List PV) (us : List Value), mapO valP xs = some us → AllIs e xs us := by
    intro xs
    induction xs with
    | nil => intro us h; simp only [mapO, Option.some.injEq] at h; subst h; trivial
    | cons p ps ih =>
      intro us h
      simp only [mapO] at h
      split at h
      · cases h
      · rename_i y hy
        split at h
        · cases h
        · rename_i ys hys
          simp only [Option.some.injEq] at h
          subst h
          exact ⟨is_valP hy, ih ys hys⟩
  have keyC : ∀ (c : CV) (u : Value), valC c = some u → c.is e u := by
    intro c u h
    cases c with
    | one p => exact is_valP h
    | agg cs =>
      simp only [valC] at h
      split at h
      · rename_i xs hxs
        simp only [Option.some.injEq] at h
        subst h
        exact ⟨xs, key _ _ hxs, rfl⟩
      · cases h
  have keyL : ∀ (xs : List CV) (us : List Value), mapO valC xs = some us → AllC e xs us := by
    intro xs
    induction xs with
    | nil => intro us h; simp only [mapO, Option.some.injEq] at h; subst h; trivial
    | cons p ps ih =>
      intro us h
      simp only [mapO] at h
      split at h
      · cases h
      · rename_i y hy
        split at h
        · cases h
        · rename_i ys hys
          simp only [Option.some.injEq] at h
          subst h
          exact ⟨keyC _ _ hy, ih ys hys⟩
  unfold valS at h
  split at h
  · rename_i c hc
    cases hc
    exact keyC _ _ h
  · rename_i xs hc
    cases hc
    split at h
    · rename_i us hus
      simp only [Option.some.injEq] at h
      subst h
      exact ⟨us, keyL _ _ hus, rfl⟩
    · cases h
  · cases h
theorem FnsOk.consI {S' : Sy β} {L' : Lps β} {f : FuncId} {fn : Func} {cl : Bool} (he : ∀ us w, (callFunc f us).run P w = .ok (.enter f us) w) (hP : S'.P = P) (hf : P.funcs[f]? = some fn) (hb : fn.body = some (bodyOf fn))
    (hS' : ∀ w, SyOk S' I w (fun _ => False)) (hL' : ∀ w, LpsOk S' I w (fun _ => False) L' fn.ntmps (bodyOf fn)) (ht : FnsOk P I W0 G F) : FnsOk P I W0 G ((f, inl S' L' fn cl) :: F) := by
  subst hP
  exact FnsOk.cons he (fun args mem ps r mo hr hp w e us hM ha => by
    unfold inl at hr
    split at hr
    · rename_i hle
      split at hr
      · rename_i x s hrun
        split at hr
        · rename_i v hv
          simp only [Option.some.injEq, Prod.mk.injEq] at hr
          obtain ⟨rfl, rfl, rfl⟩ := hr
          refine sym_calls (hS' w) hf hb (hL' w) ha hle hM.freeze (K := fun y _ => y = x) (by rw [hrun]; rfl) fun y s e' w' u _ hy hu hM' => ?_
          subst hy
          have : u = v := valS_is hv fun z hz => by cases hz; exact hu
          exact ⟨u, rfl, by rw [this]; exact scalar_is (e' := e) hv, hM'.mod⟩
        · cases hr
      · cases hr
    · cases hr) ht

def noApp : TypeId → Fn2 β := fun _ _ _ => none
/-- A run's rules, from its rows. -/
theorem SyOk.mk' {E : EqFns} {fuel : Nat} (hm : P.follows .mixedOrders = true) (hF : FnsOk P I W0 G F) (hE : ∀ ty g, eqGet ty E = some g → P.eqGuardType P.depth ty = false ∧ ∀ (u v : Array Value) b, g u.toList v.toList = some b → ∀ w, (Op.equal ty (.agg u) (.agg v)).run P w = .ok b w) :
    SyOk (⟨P, F, E, noApp, I.one, fuel⟩ : Sy β) I W0 G := ⟨hm, rfl, hF, hE, fun t args mem ps r m' h => by cases h⟩
/-- No things of one's own. -/
def noI : ObI Unit := ⟨fun _ _ _ => False, fun _ _ _ _ => False, fun _ => false, fun _ _ _ h => h.elim, fun _ _ _ h => h.elim⟩
theorem memOk_nil (I : ObI β) (w : World) : MemOk w (fun _ => False) I w [] [] :=
  ⟨rfl, fun i u n h => by simp at h, fun i u n h => by simp at h, fun i u n h => by simp at h, fun i j u v n m h => by simp at h, Mod.refl _ w⟩

/-- The cells of a struct. -/
def aggL : Value → Option (List Value)
  | .agg u => some u.toList
  | _ => none
theorem aggL_iff {x : Value} {l : List Value} : aggL x = some l ↔ x = .agg l.toArray := by
  cases x <;> simp [aggL]
  rename_i u
  constructor
  · intro h; subst h; simp
  · intro h; subst h; rfl
theorem EqsOk.nil {P : Program} : ∀ ty g, eqGet ty [] = some g → P.eqGuardType P.depth ty = false ∧ ∀ (u v : Array Value) b, g u.toList v.toList = some b → ∀ w, (Op.equal ty (.agg u) (.agg v)).run P w = .ok b w := fun ty g h => by cases h
theorem EqsOk.cons {P : Program} {E : EqFns} {ty : TypeId} {g : List Value → List Value → Option Bool} (he : P.eqGuardType P.depth ty = false)
    (h : ∀ (u v : Array Value) b, g u.toList v.toList = some b → ∀ w, (Op.equal ty (.agg u) (.agg v)).run P w = .ok b w)
    (ht : ∀ ty g, eqGet ty E = some g → P.eqGuardType P.depth ty = false ∧ ∀ (u v : Array Value) b, g u.toList v.toList = some b → ∀ w, (Op.equal ty (.agg u) (.agg v)).run P w = .ok b w) :
    ∀ ty' g', eqGet ty' ((ty, g) :: E) = some g' → P.eqGuardType P.depth ty' = false ∧ ∀ (u v : Array Value) b, g' u.toList v.toList = some b → ∀ w, (Op.equal ty' (.agg u) (.agg v)).run P w = .ok b w := fun ty' g' hg => by
  simp only [eqGet] at hg
  split at hg
  · rename_i hb
    have := eqb_eq.1 hb
    subst this
    simp only [Option.some.injEq] at hg
    subst hg
    exact ⟨he, h⟩
  · exact ht ty' g' hg
end
end Go.Proofs.Ytcekfgcajcjooaa

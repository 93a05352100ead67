/- A symbolic run, wider: an operation. No program in sight. -/
import Derived.Test.YtcekfgcajcjooaaT2
set_option linter.unusedVariables false
set_option linter.unusedSimpArgs false
namespace Go.Proofs.Ytcekfgcajcjooaa
open Go.RowKit

def SlotIs (recs : List SRec) (base : List (Nat × SV)) (e : Env) (t : Nat) (u : Value) : Prop :=
  match recDst t recs with
  | some r => (sat recs r.ctx = true → r.sv.is e u) ∧ (sat recs r.ctx = false → u = undef)
  | none => match baseGet t base with
    | some x => x.is e u
    | none => u = undef
def OpIs (recs : List SRec) (base : List (Nat × SV)) (e : Env) : Operand → Value → Prop
  | .tmp t, u => SlotIs recs base e t u
  | .const v, u => u = v
  | .global g, u => u = .pointer (some ⟨g, 0, none⟩)
  | .func f, u => u = .func (.func f) #[] #[]
theorem inC_mem {g : Nat} {w : Bool} : ∀ {c : List (Nat × Bool)}, inC g w c = true → (g, w) ∈ c
  | [], h => by cases h
  | (h, u) :: c, hc => by
    simp only [inC, Bool.or_eq_true, Bool.and_eq_true] at hc
    rcases hc with ⟨h1, h2⟩ | hc
    · rw [eqb_eq.1 h1, beqB_eq.1 h2]; exact List.mem_cons_self ..
    · exact List.mem_cons_of_mem _ (inC_mem hc)
theorem subC_mem : ∀ {c d : List (Nat × Bool)}, subC c d = true → ∀ x ∈ c, x ∈ d
  | [], _, _, x, hx => by cases hx
  | (g, w) :: c, d, h, x, hx => by
    simp only [subC, Bool.and_eq_true] at h
    rcases List.mem_cons.1 hx with rfl | hx
    · exact inC_mem h.1
    · exact subC_mem h.2 x hx
theorem sat_iff {recs : List SRec} : ∀ {c : List (Nat × Bool)}, sat recs c = true ↔ ∀ x ∈ c, boolOf recs x.1 = x.2
  | [] => by simp [sat]
  | (g, true) :: c => by simp [sat, sat_iff (c := c)]
  | (g, false) :: c => by simp [sat, sat_iff (c := c)]
theorem sat_sub {recs : List SRec} {c d : List (Nat × Bool)} (h : sat recs d = true) (hs : subC c d = true) : sat recs c = true :=
  sat_iff.2 fun x hx => sat_iff.1 h x (subC_mem hs x hx)

theorem constS_is {e : Env} (x : Value) : (constS x).is e x := by
  unfold constS
  split <;> rfl
theorem lookS_is {recs : List SRec} {base : List (Nat × SV)} {e : Env} {c : List (Nat × Bool)} {x : Operand} {s : SV} {u : Value} (h : lookS recs base c x = some s) (hc : sat recs c = true) (hu : OpIs recs base e x u) : s.is e u := by
  cases x with
  | tmp t =>
    simp only [lookS] at h
    simp only [OpIs, SlotIs] at hu
    split at h
    · rename_i r hr
      rw [hr] at hu
      split at h
      · rename_i hs
        simp only [Option.some.injEq] at h
        subst h
        exact hu.1 (sat_sub hc hs)
      · cases h
    · rename_i hr
      rw [hr] at hu
      split at h
      · rename_i y hy
        simp only [Option.some.injEq] at h
        subst h
        simpa [hy] using hu
      · rename_i hy
        simp only [Option.some.injEq] at h
        subst h
        have hz : u = undef := by simpa [hy] using hu
        exact hz
  | const v => simp only [lookS, Option.some.injEq] at h; subst h; have hu' : u = v := hu; rw [hu']; exact constS_is v
  | global g => simp only [lookS, Option.some.injEq] at h; subst h; exact hu
  | func f => simp only [lookS, Option.some.injEq] at h; subst h; exact ⟨[], [], trivial, trivial, hu⟩
theorem valS_is {e : Env} {s : Option SV} {x u : Value} (h : valS s = some x) (hs : ∀ z, s = some z → z.is e u) : u = x := by
  unfold valS at h
  split at h
  · exact valC_is h (hs _ rfl)
  · split at h
    · rename_i us hus
      simp only [Option.some.injEq] at h
      subst h
      obtain ⟨vs, h1, rfl⟩ := hs _ rfl
      rw [mapO_valC hus h1]
    · cases h
  · cases h
theorem cvS_some {s : Option SV} {x : CV} (h : cvS s = some x) : s = some (.c x) := by
  unfold cvS at h
  split at h
  · simp only [Option.some.injEq] at h; subst h; rfl
  · cases h
theorem pvS_some {s : Option SV} {x : PV} (h : pvS s = some x) : s = some (.c (.one x)) := by
  unfold pvS at h
  split at h
  · simp only [Option.some.injEq] at h; subst h; rfl
  · cases h
theorem idxVal_is {e : Env} {s : Option SV} {n : Int} {u : Value} (h : idxVal s = some n) (hs : ∀ z, s = some z → z.is e u) : ∃ k, u = .int k n := by
  unfold idxVal at h
  split at h
  · rename_i k m
    simp only [Option.some.injEq] at h; subst h; exact ⟨k, hs _ rfl⟩
  · rename_i k m
    simp only [Option.some.injEq] at h; subst h; exact ⟨k, hs _ rfl⟩
  · cases h
theorem idxKn_is {e : Env} {s : Option SV} {n : Nat} {u : Value} (h : idxKn s = some n) (hs : ∀ z, s = some z → z.is e u) : ∃ k, u = .int k (n : Int) := by
  unfold idxKn at h
  split at h
  · rename_i k m
    simp only [Option.some.injEq] at h; subst h; exact ⟨k, hs _ rfl⟩
  · cases h
theorem svB_is {e : Env} {s : SV} {b : Bool} {u : Value} (h : svB s = some b) (hs : s.is e u) : u = .bool b := by
  unfold svB at h
  split at h
  · simp only [Option.some.injEq] at h; subst h; exact hs
  · simp only [Option.some.injEq] at h; subst h; exact hs
  · cases h
theorem closeV_eq {α : Type} (x : Value) (k : SV → α) : ∃ s, closeV x k = k s ∧ ∀ e, s.is e x := by
  unfold closeV
  split
  · exact ⟨_, forceI_eq _ _, fun e => rfl⟩
  · exact ⟨_, forceB_eq _ _, fun e => rfl⟩
  · exact ⟨_, rfl, fun e => rfl⟩
  · exact ⟨_, rfl, fun e => rfl⟩

section
variable {β : Type} {S : Sy β} {I : ObI β} {W0 : World} {G : Nat → Prop}
/-- What the callees' rows say is so. -/
structure SyOk (S : Sy β) (I : ObI β) (W0 : World) (G : Nat → Prop) : Prop where
  mix : S.P.follows .mixedOrders = true
  one : S.one = I.one
  fns : ∀ f g, fnGet f S.F = some g → ∀ args mem ps r mo, g args mem = some (ps, r, mo) → (∀ p ∈ ps, p) →
    (∀ us w, (callFunc f us).run S.P w = .ok (.enter f us) w) ∧ ∀ w e us, MemOk W0 G I w e mem → AllC e args us → Calls S.P f us.toArray w (fun x w' => ∃ v, x = .returned v ∧
      match mo with | none => r.is e v ∧ Ext w w' | some m' => ∃ e', Grows e e' ∧ r.is e' v ∧ MemOk W0 G I w' e' m')
  eqs : ∀ ty g, eqGet ty S.E = some g → S.P.eqGuardType S.P.depth ty = false ∧ ∀ (u v : Array Value) b, g u.toList v.toList = some b → ∀ w, (Op.equal ty (.agg u) (.agg v)).run S.P w = .ok b w
  app : ∀ t args mem ps r m', S.A t args mem = some (ps, r, some m') → (∀ p ∈ ps, p) → ∀ ty w e us, MemOk W0 G I w e mem → AllC e args us →
    ∃ e' v w', Grows e e' ∧ (Builtin.append_ #[t, t] ty us.toArray).run S.P w = .ok v w' ∧ r.is e' v ∧ MemOk W0 G I w' e' m'

variable {w : World} {recs : List SRec} {base : List (Nat × SV)} {e : Env} {mem : Mem β} {c : List (Nat × Bool)} {eff : Bool} {o : Oper} {ρ : Operand → Value} {sv : SV} {ps : List Prop}

theorem retS_inv {x : SV} {r : SV × Option (Mem β) × List Prop} (h : (retS x : OpR β) = some r) : r = (x, none, []) := by
  simp only [retS, Option.some.injEq] at h; exact h.symm

theorem purePath_run {r : SV × Option (Mem β) × List Prop} {P : Program} (h : purePath P (lookS recs base c) o = some r) (hs : ∀ cs b, o.op ≠ .select cs b) (hc : sat recs c = true) (hρ : ∀ x ∈ o.op.operands, OpIs recs base e x (ρ x)) :
    ∃ v s, r = (s, none, []) ∧ s.is e v ∧ (execOp ρ o).run P w = .ok (.value v) w := by
  unfold purePath at h
  split at h
  · rename_i hall
    split at h
    · rename_i v hv
      have hrun : (execOp ρ o).run P w = .ok (.value v) w := by
        rw [execOp_congr (ρ' := fun x => (valS (lookS recs base c x)).getD undef) o hs fun x hx => ?_]
        · exact pureSem_run _ hv w
        · have h1 := allB_mem hall x (by simpa using hx)
          obtain ⟨y, hy⟩ := Option.isSome_iff_exists.1 h1
          rw [hy]
          exact valS_is hy fun z hz => lookS_is hz hc (hρ x hx)
      split at h
      · obtain ⟨s, h1, h2⟩ := closeV_eq v (fun s => (retS s : OpR β))
        rw [h1] at h
        exact ⟨v, s, retS_inv h, h2 e, hrun⟩
      · exact ⟨v, svV v, retS_inv h, rfl, hrun⟩
    · cases h
  · cases h

theorem cvO_some {s : Option SV} {x : CV} (h : cvO S mem s = some x) : s = some (.c x) ∧ okC S mem x = true := by
  unfold cvO at h
  split at h
  · rename_i y hy
    split at h
    · rename_i hok
      simp only [Option.some.injEq] at h
      subst h
      exact ⟨cvS_some hy, hok⟩
    · cases h
  · cases h
theorem pvs_of (hc : sat recs c = true) : ∀ {xs : List Operand} {ys : List PV}, mapO (fun x => pvS (lookS recs base c x)) xs = some ys → (∀ x ∈ xs, OpIs recs base e x (ρ x)) → AllIs e ys (xs.map ρ)
  | [], ys, h, _ => by simp only [mapO, Option.some.injEq] at h; subst h; trivial
  | x :: xs, ys, h, hx => by
    simp only [mapO] at h
    split at h
    · cases h
    · rename_i y hy
      split at h
      · cases h
      · rename_i zs hzs
        simp only [Option.some.injEq] at h
        subst h
        exact ⟨lookS_is (pvS_some hy) hc (hx x (List.mem_cons_self ..)), pvs_of hc hzs fun z hz => hx z (List.mem_cons_of_mem _ hz)⟩
theorem cvs_of (hc : sat recs c = true) : ∀ {xs : List Operand} {ys : List CV}, mapO (fun x => cvS (lookS recs base c x)) xs = some ys → (∀ x ∈ xs, OpIs recs base e x (ρ x)) → AllC e ys (xs.map ρ)
  | [], ys, h, _ => by simp only [mapO, Option.some.injEq] at h; subst h; trivial
  | x :: xs, ys, h, hx => by
    simp only [mapO] at h
    split at h
    · cases h
    · rename_i y hy
      split at h
      · cases h
      · rename_i zs hzs
        simp only [Option.some.injEq] at h
        subst h
        exact ⟨lookS_is (cvS_some hy) hc (hx x (List.mem_cons_self ..)), cvs_of hc hzs fun z hz => hx z (List.mem_cons_of_mem _ hz)⟩
theorem map_arr (a : Array Operand) : a.map ρ = (a.toList.map ρ).toArray := by rw [← Array.toList_map, Array.toArray_toList]

theorem recIx_dst (t : Nat) {r : SRec} : ∀ {l : List SRec}, recDst t l = some r → r ∈ l ∧ r.dst = some t
  | [], h => by cases h
  | x :: l, h => by
    simp only [recDst] at h
    split at h
    · rename_i hd
      simp only [Option.some.injEq] at h
      subst h
      refine ⟨List.mem_cons_self .., ?_⟩
      unfold dstIs at hd
      split at hd
      · cases hd
      · rename_i u hu; rw [hu, eqb_eq.1 hd]
    · obtain ⟨h1, h2⟩ := recIx_dst t h
      exact ⟨List.mem_cons_of_mem _ h1, h2⟩
theorem recIx_self : ∀ {l : List SRec}, l.Pairwise (fun a b => b.ix < a.ix) → ∀ r ∈ l, recIx r.ix l = some r
  | [], _, r, h => by cases h
  | x :: l, hp, r, h => by
    simp only [recIx]
    rcases List.mem_cons.1 h with rfl | h
    · rw [eqb_eq.2 rfl]
    · have hlt := (List.pairwise_cons.1 hp).1 r h
      rw [eqb_ne (by omega)]
      exact recIx_self (List.pairwise_cons.1 hp).2 r h
theorem boolOf_self {l : List SRec} (hp : l.Pairwise (fun a b => b.ix < a.ix)) {r : SRec} (hr : r ∈ l) {b : Bool} (hb : svB r.sv = some b) : boolOf l r.ix = b := by
  unfold boolOf
  rw [recIx_self hp r hr]
  simp only [hb]
theorem boolOf_cons {l : List SRec} {r : SRec} {g : Nat} (h : r.ix ≠ g) : boolOf (r :: l) g = boolOf l g := by
  unfold boolOf
  simp only [recIx, eqb_ne h]
theorem sat_cons {l : List SRec} {r : SRec} {c : List (Nat × Bool)} (h : ∀ x ∈ c, x.1 < r.ix) : sat (r :: l) c = sat l c := by
  have : sat (r :: l) c = true ↔ sat l c = true := by
    rw [sat_iff, sat_iff]
    refine forall_congr' fun x => forall_congr' fun hx => ?_
    rw [boolOf_cons (by have := h x hx; omega)]
  cases h1 : sat (r :: l) c <;> cases h2 : sat l c <;> simp_all

theorem partS_val {P : Program} {ty : TypeId} {cells : List PV} {off : Nat} {y : CV} (h : partS P ty cells off = some y) {us : List Value} (hu : AllIs e cells us) : ∃ u, (part ty us.toArray off).run P w = .ok u w ∧ y.is e u := by
  have hl := hu.len
  rcases partS_run (w := w) h with ⟨n, h1, h2, h3, rfl⟩ | ⟨p, h1, h2, rfl⟩
  · refine ⟨.agg (us.toArray.extract off (off + n)), by simp [part, Sem.run_bind, h1, h2], (us.drop off).take n, AllIs.mk (by simp; omega) fun j p u hp hv => ?_, ?_⟩
    · rw [List.getElem?_take] at hp hv
      split at hp
      · rename_i hj
        rw [if_pos hj, List.getElem?_drop] at hv
        rw [List.getElem?_drop] at hp
        exact hu.get _ _ _ hp hv
      · cases hp
    · simp
  · have hlt : off < us.length := by rw [hl]; exact (List.getElem?_eq_some_iff.1 h2).1
    have hv : us[off]? = some us[off] := List.getElem?_eq_getElem hlt
    refine ⟨us[off], ?_, hu.get _ _ _ h2 hv⟩
    simp [part, Sem.run_bind, h1, hv]

theorem fOff_run {P : Program} {s f d : Nat} (h : pureSem P (fOff s f) = some d) (a : Addr) (w : World) : (Instr.fieldAt s (.pointer (some a)) f).run P w = .ok (.pointer (some (a.add d))) w := by
  have hr := pureSem_run _ h w
  unfold fOff at hr
  unfold Instr.fieldAt
  rw [Sem.run_bind] at hr ⊢
  cases hu : (underlying s).run P w with
  | halt x w' => rw [hu] at hr; simp at hr
  | ok dsc w' =>
    rw [hu] at hr
    simp only [Result.andThen_ok] at hr ⊢
    cases dsc <;> try (simp [stuck, Sem.run] at hr; done)
    rename_i fields
    simp only at hr ⊢
    cases hf : fields[f]? with
    | none => rw [hf] at hr; simp [stuck, Sem.run] at hr
    | some fl =>
      rw [hf] at hr
      simp only at hr ⊢
      simp only [Instr.sureAddr, fieldPlace]
      rw [Sem.run_bind] at hr
      simp only [Sem.run_bind, Sem.run_pure, Result.andThen_ok]
      cases hz : (sizeOf fl.type).run P w' with
      | halt x w'' => rw [hz] at hr; simp at hr
      | ok n w'' =>
        rw [hz] at hr
        simp only [Result.andThen_ok] at hr ⊢
        split at hr
        · simp [stuck, Sem.run] at hr
        · rename_i hne
          rw [if_neg hne]
          simp only [Sem.run_pure, Result.ok.injEq] at hr
          obtain ⟨rfl, rfl⟩ := hr
          simp [Sem.run_pure, Sem.run_bind]
theorem fTy_run {P : Program} {s f t d : Nat} (h : pureSem P (fTy s f) = some (t, d)) (cs : Array Value) (w : World) : (Instr.field s (.agg cs) f).run P w = (part t cs d).run P w := by
  have hr := pureSem_run _ h w
  unfold fTy at hr
  unfold Instr.field
  rw [Sem.run_bind] at hr ⊢
  cases hu : (underlying s).run P w with
  | halt x w' => rw [hu] at hr; simp at hr
  | ok dsc w' =>
    rw [hu] at hr
    simp only [Result.andThen_ok] at hr ⊢
    cases dsc <;> try (simp [stuck, Sem.run] at hr; done)
    rename_i fields
    simp only at hr ⊢
    cases hf : fields[f]? with
    | none => rw [hf] at hr; simp [stuck, Sem.run] at hr
    | some fl =>
      rw [hf] at hr
      simp only [Sem.run_pure, Result.ok.injEq, Prod.mk.injEq] at hr
      obtain ⟨⟨rfl, rfl⟩, rfl⟩ := hr
      simp [asAgg, Sem.run_bind, Sem.run_pure]

theorem putL_is : ∀ {xs : List PV} {us : List Value} (off : Nat) {cs : List PV} {vs : Array Value}, AllIs e xs us → AllIs e cs vs.toList →
    AllIs e (putL xs off cs) ((us.zipIdx).foldl (fun a (c : Value × Nat) => a.setIfInBounds (off + c.2) c.1) vs).toList := by
  have gen : ∀ (xs : List PV) (us : List Value) (k off : Nat) (cs : List PV) (vs : Array Value), AllIs e xs us → AllIs e cs vs.toList →
      AllIs e (putL xs (off + k) cs) ((us.zipIdx k).foldl (fun a (c : Value × Nat) => a.setIfInBounds (off + c.2) c.1) vs).toList := by
    intro xs
    induction xs with
    | nil => intro us k off cs vs h1 h2; cases us with | nil => exact h2 | cons _ _ => exact h1.elim
    | cons x xs ih =>
      intro us k off cs vs h1 h2
      cases us with
      | nil => exact h1.elim
      | cons u us =>
        obtain ⟨hx, hxs⟩ := h1
        simp only [putL, List.zipIdx_cons, List.foldl_cons]
        have := ih us (k + 1) off (cs.set (off + k) x) (vs.setIfInBounds (off + k) u) hxs (AllIs.mk (by simp; exact h2.len) fun j p v hp hv => ?_)
        · rw [show off + k + 1 = off + (k + 1) by omega]; exact this
        · rw [Array.toList_setIfInBounds] at hv
          by_cases hj : j = off + k
          · subst hj
            have hl : off + k < cs.length := by have := (List.getElem?_eq_some_iff.1 hp).1; simpa using this
            rw [List.getElem?_set_self hl] at hp
            rw [List.getElem?_set_self (by rw [h2.len]; exact hl)] at hv
            cases hp; cases hv; exact hx
          · rw [List.getElem?_set_ne (fun e => hj e.symm)] at hp hv
            exact h2.get _ _ _ hp hv
  intro xs us off cs vs h1 h2
  exact gen xs us 0 off cs vs h1 h2
theorem putL_len : ∀ (xs : List PV) (off : Nat) (cs : List PV), (putL xs off cs).length = cs.length
  | [], _, _ => rfl
  | x :: xs, off, cs => by simp only [putL]; rw [putL_len]; simp
theorem fillS_is {place : Nat → Option (Nat × Nat)} : ∀ {ps : List (Nat × CV)} {us : List (Nat × Value)} {cells : List PV} {vs : Array Value} {r : List PV}, fillS place cells ps = some r → AllIs e cells vs.toList →
    (us.length = ps.length ∧ ∀ (j : Nat) (p : Nat × CV) (u : Nat × Value), ps[j]? = some p → us[j]? = some u → p.1 = u.1 ∧ AllIs e (cellsC p.2) u.2.cells.toList) → ∃ vs', Instr.fill place vs us = some vs' ∧ AllIs e r vs'.toList
  | [], [], cells, vs, r, h, hv, _ => by simp only [fillS, Option.some.injEq] at h; subst h; exact ⟨vs, rfl, hv⟩
  | p :: ps, u :: us, cells, vs, r, h, hv, hu => by
    obtain ⟨i, x⟩ := p
    obtain ⟨i', y⟩ := u
    simp only [fillS] at h
    obtain ⟨h1, h2⟩ := hu.2 0 (i, x) (i', y) rfl rfl
    simp only at h1
    subst h1
    have hl : y.cells.toList.length = (cellsC x).length := h2.len
    split at h
    · cases h
    · rename_i off size hpl
      split at h
      · rename_i hcond
        rw [Bool.and_eq_true] at hcond
        have c1 : (cellsC x).length = size := eqb_eq.1 hcond.1
        have c2 : off + (cellsC x).length ≤ cells.length := leb_le.1 hcond.2
        have hvl : vs.toList.length = cells.length := hv.len
        have hsz : y.cells.size = size := by rw [← c1, ← hl]; simp
        have := putL_is (e := e) off h2 hv
        obtain ⟨vs', h3, h4⟩ := fillS_is h this ⟨by have := hu.1; simpa using this, fun j p u hp hu' => hu.2 (j + 1) p u (by simpa using hp) (by simpa using hu')⟩
        refine ⟨vs', ?_, h4⟩
        rw [Instr.fill, hpl]
        simp only
        rw [if_neg (by
          simp only [Array.length_toList] at hvl hl
          simp only [Bool.or_eq_true, decide_eq_true_eq]
          omega)]
        rw [← h3]
        congr 1
        rw [← Array.foldl_toList]
        simp
      · cases h
  | [], _ :: _, _, _, _, _, _, hu => by simp at hu
  | _ :: _, [], _, _, _, _, _, hu => by simp at hu
theorem aElem_run {P : Program} {t len elem sz : Nat} (h : pureSem P (aElem t) = some (len, elem, sz)) (w : World) : (underlying t).run P w = .ok (.array len elem) w ∧ (sizeOf elem).run P w = .ok sz w := by
  have hr := pureSem_run _ h w
  unfold aElem at hr
  rw [Sem.run_bind] at hr
  cases hq : P.underlying t with
  | none =>
    simp [underlying, program, Sem.run_bind, Sem.run, hq, stuck] at hr
  | some d =>
    have hd : (underlying t).run P w = .ok d w := by simp [underlying, program, Sem.run_bind, Sem.run, hq]
    rw [hd] at hr
    simp only [Result.andThen_ok] at hr
    cases d <;> try (simp [stuck, Sem.run] at hr; done)
    rename_i len' elem'
    simp only [Sem.run_bind] at hr
    cases hz : (sizeOf elem').run P w with
    | halt x w' => rw [hz] at hr; simp at hr
    | ok n w' =>
      rw [hz] at hr
      simp only [Result.andThen_ok, Sem.run_pure, Result.ok.injEq, Prod.mk.injEq] at hr
      obtain ⟨⟨rfl, rfl, rfl⟩, rfl⟩ := hr
      exact ⟨hd, hz⟩
theorem sElem_run {P : Program} {t sz : Nat} (h : pureSem P (sElem t) = some sz) (w : World) : ∃ elem, (underlying t).run P w = .ok (.slice elem) w ∧ (sizeOf elem).run P w = .ok sz w := by
  have hr := pureSem_run _ h w
  unfold sElem at hr
  rw [Sem.run_bind] at hr
  cases hq : P.underlying t with
  | none =>
    simp [underlying, program, Sem.run_bind, Sem.run, hq, stuck] at hr
  | some d =>
    have hd : (underlying t).run P w = .ok d w := by simp [underlying, program, Sem.run_bind, Sem.run, hq]
    rw [hd] at hr
    simp only [Result.andThen_ok] at hr
    cases d <;> try (simp [stuck, Sem.run] at hr; done)
    rename_i elem
    exact ⟨elem, hd, hr⟩
theorem isStr_run {P : Program} {t : Nat} (h : pureSem P (isStr t) = some true) (w : World) : (underlying t).run P w = .ok .string w := by
  have hr := pureSem_run _ h w
  unfold isStr at hr
  rw [Sem.run_bind] at hr
  cases hq : P.underlying t with
  | none =>
    simp [underlying, program, Sem.run_bind, Sem.run, hq, stuck] at hr
  | some d =>
    have hd : (underlying t).run P w = .ok d w := by simp [underlying, program, Sem.run_bind, Sem.run, hq]
    rw [hd] at hr
    simp only [Result.andThen_ok] at hr
    cases d <;> first | exact hd | (simp [Sem.run_pure] at hr; done)
theorem bPlaces_run {P : Program} {t : Nat} {pl : Array (Nat × Nat)} (h : pureSem P (bPlaces t) = some pl) (w : World) : ∃ fields, (underlying t).run P w = .ok (.struct fields) w ∧ (fields.mapM fun f => do pure (f.offset, ← sizeOf f.type) : Sem (Array (Nat × Nat))).run P w = .ok pl w := by
  have hr := pureSem_run _ h w
  unfold bPlaces at hr
  rw [Sem.run_bind] at hr
  cases hq : P.underlying t with
  | none =>
    simp [underlying, program, Sem.run_bind, Sem.run, hq, stuck] at hr
  | some d =>
    have hd : (underlying t).run P w = .ok d w := by simp [underlying, program, Sem.run_bind, Sem.run, hq]
    rw [hd] at hr
    simp only [Result.andThen_ok] at hr
    cases d <;> try (simp [stuck, Sem.run] at hr; done)
    rename_i fields
    exact ⟨fields, hd, hr⟩

/-- What an operation leaves that turns no memory. -/
theorem evalOp_pure (hS : SyOk S I W0 G) (hM : MemOk W0 G I w e mem) (hp : recs.Pairwise (fun a b => b.ix < a.ix)) (hc : sat recs c = true) (hρ : ∀ x ∈ o.op.operands, OpIs recs base e x (ρ x))
    (h : evalOp S recs base mem c eff o = some (sv, none, ps)) (hps : ∀ p ∈ ps, p) : givesUpon S.P (fun v w' => Ext w w' ∧ sv.is e v) ((execOp ρ o).run S.P w) := by
  have hpure : ∀ (hs : ∀ cs b, o.op ≠ .select cs b), purePath S.P (lookS recs base c) o = some (sv, (none : Option (Mem β)), ps) → givesUpon S.P (fun v w' => Ext w w' ∧ sv.is e v) ((execOp ρ o).run S.P w) := fun hs hh => by
    obtain ⟨v, s, hv, his, hr⟩ := purePath_run (w := w) (ρ := ρ) (e := e) hh hs hc hρ
    rw [hr]
    simp only [Prod.mk.injEq] at hv
    obtain ⟨rfl, _⟩ := hv
    exact ⟨Ext.refl w, his⟩
  have hret : ∀ (s : SV) (v : Value), (retS s : OpR β) = some (sv, none, ps) → (execOp ρ o).run S.P w = .ok (.value v) w → s.is e v → givesUpon S.P (fun v w' => Ext w w' ∧ sv.is e v) ((execOp ρ o).run S.P w) := fun s v hh hr his => by
    have := retS_inv hh
    simp only [Prod.mk.injEq] at this
    obtain ⟨rfl, -⟩ := this
    rw [hr]; exact ⟨Ext.refl w, his⟩
  have hlk : ∀ {x : Operand} {s : SV}, x ∈ o.op.operands → lookS recs base c x = some s → s.is e (ρ x) := fun hx hs => lookS_is hs hc (hρ _ hx)
  unfold evalOp at h
  split at h
  -- move
  · rename_i x hop
    split at h
    · rename_i s hs
      exact hret s (ρ x) h (by unfold execOp; rw [hop]; rfl) (hlk (by rw [hop]; simp [Op.operands]) hs)
    · cases h
  · rename_i x hop
    split at h
    · rename_i s hs
      exact hret s (ρ x) h (by unfold execOp; rw [hop]; rfl) (hlk (by rw [hop]; simp [Op.operands]) hs)
    · cases h
  -- pick
  · rename_i t a b hop
    split at h
    · cases h
    · rename_i r hr
      obtain ⟨hrm, hrd⟩ := recIx_dst t hr
      have hρa := hρ a (by rw [hop]; simp [Op.operands])
      have hρb := hρ b (by rw [hop]; simp [Op.operands])
      have ht : ∀ q, subC r.ctx c = true → svB r.sv = some q → ρ (.tmp t) = .bool q ∧ boolOf recs r.ix = q := fun q hsub hsv => by
        have h1 := hρ (.tmp t) (by rw [hop]; simp [Op.operands])
        simp only [OpIs, SlotIs, hr] at h1
        exact ⟨svB_is hsv (h1.1 (sat_sub hc hsub)), boolOf_self hp hrm hsv⟩
      have hrun : ∀ q, ρ (.tmp t) = .bool q → (execOp ρ o).run S.P w = .ok (.value (if q = true then ρ a else ρ b)) w := fun q hq => by
        unfold execOp
        simp only [hop, hq, asBool, Sem.run_bind, Sem.run_pure, Result.andThen_ok]
      split at h
      · rename_i hsub hsv
        obtain ⟨h1, h2⟩ := ht true hsub (by rw [hsv]; rfl)
        split at h
        · rename_i s hs
          exact hret s _ h (hrun true h1) (lookS_is (c := (r.ix, true) :: c) hs (by simp [sat, h2, hc]) hρa)
        · cases h
      · rename_i hsub hsv
        obtain ⟨h1, h2⟩ := ht false hsub (by rw [hsv]; rfl)
        split at h
        · rename_i s hs
          exact hret s _ h (hrun false h1) (by simpa using lookS_is (c := (r.ix, false) :: c) hs (by simp [sat, h2, hc]) hρb)
        · cases h
      · rename_i q hsub hsv
        obtain ⟨h1, h2⟩ := ht q hsub (by rw [hsv]; rfl)
        split at h
        · rename_i x y hx hy
          have hax : q = true → ρ a = .bool x := fun hqt => valS_is hx fun z hz => lookS_is (c := (r.ix, true) :: c) hz (by simp [sat, h2, hqt, hc]) hρa
          have hby : q = false → ρ b = .bool y := fun hqt => valS_is hy fun z hz => lookS_is (c := (r.ix, false) :: c) hz (by simp [sat, h2, hqt, hc]) hρb
          have hres : (execOp ρ o).run S.P w = .ok (.value (.bool (cond q x y))) w := by
            rw [hrun q h1]
            cases hqq : q with
            | true => simp [hax hqq]
            | false => simp [hby hqq]
          split at h
          · have hx1 : some (Value.bool x) = some (Value.bool true) := hx.symm.trans rfl
            simp only [Option.some.injEq, Value.bool.injEq] at hx1
            subst hx1
            refine hret _ _ h hres ?_
            show Value.bool (cond q true y) = Value.bool (q || y)
            cases q <;> rfl
          · have hy1 : some (Value.bool y) = some (Value.bool false) := hy.symm.trans rfl
            simp only [Option.some.injEq, Value.bool.injEq] at hy1
            subst hy1
            refine hret _ _ h hres ?_
            show Value.bool (cond q x false) = Value.bool (q && x)
            cases q <;> rfl
          · exact hret _ _ h hres rfl
        · cases h
      · cases h
  -- load
  · rename_i ty x hop
    split at h
    · rename_i p hpx
      split at h
      · rename_i y hy
        obtain ⟨a, u, h1, h2, h3⟩ := loadS_run hM hy (hlk (by rw [hop]; simp [Op.operands]) (pvS_some hpx))
        refine hret _ u h ?_ h3
        unfold execOp
        simp only [hop, h1, Instr.loadAt, Instr.sureAddr, Sem.run_bind, Sem.run_pure, Result.andThen_ok, h2]
      · cases h
    · cases h
  -- store
  · split at h
    · split at h <;> simp at h
    · cases h
  -- box
  · split at h
    · simp at h
    · cases h
  -- alloc
  · split at h
    · simp at h
    · cases h
  -- fieldAddr
  · rename_i s x f hop
    split at h
    · rename_i i off d hs hd
      rw [forceN_eq] at h
      obtain ⟨b, o', hb, hx⟩ := hlk (by rw [hop]; simp [Op.operands]) (pvS_some hs)
      refine hret _ _ h ?_ ⟨b, o', hb, rfl⟩
      have hr := fOff_run hd ⟨b, o' + off, none⟩ w
      unfold execOp
      simp only [hop, hx, Sem.run_bind, hr, Sem.run_pure, Result.andThen_ok]
      rw [Addr.add_mid, Nat.add_assoc]
    · rename_i i sz idx off d hs hd
      rw [forceN_eq] at h
      obtain ⟨b, o', n, cap, hb, hi, hx⟩ := hlk (by rw [hop]; simp [Op.operands]) (pvS_some hs)
      refine hret _ _ h ?_ ⟨b, o', n, cap, hb, hi, rfl⟩
      have hr := fOff_run hd ⟨b, o' + (idx.toNat * sz + off), none⟩ w
      unfold execOp
      simp only [hop, hx, Sem.run_bind, hr, Sem.run_pure, Result.andThen_ok]
      rw [Addr.add_mid, Nat.add_assoc, Nat.add_assoc]
    · cases h
  -- nilCheck
  · rename_i x hop
    split at h
    · rename_i i off hs
      obtain ⟨b, o', hb, hx⟩ := hlk (by rw [hop]; simp [Op.operands]) (pvS_some hs)
      refine hret _ _ h ?_ ⟨b, o', hb, rfl⟩
      unfold execOp
      simp only [hop, hx, Sem.run_pure]
    · rename_i i sz idx off hs
      obtain ⟨b, o', n, cap, hb, hi, hx⟩ := hlk (by rw [hop]; simp [Op.operands]) (pvS_some hs)
      refine hret _ _ h ?_ ⟨b, o', n, cap, hb, hi, rfl⟩
      unfold execOp
      simp only [hop, hx, Sem.run_pure]
    · cases h
  -- makeFunc
  · rename_i f fi ca hop
    split at h
    · rename_i us vs hus hvs
      have h1 := pvs_of (ρ := ρ) (e := e) hc hus (fun x hx => hρ x (by rw [hop]; simp [Op.operands, Array.mem_toList_iff.1 hx]))
      have h2 := pvs_of (ρ := ρ) (e := e) hc hvs (fun x hx => hρ x (by rw [hop]; simp [Op.operands, Array.mem_toList_iff.1 hx]))
      refine hret _ _ h ?_ ⟨_, _, h1, h2, rfl⟩
      unfold execOp
      simp only [hop, Instr.makeFunc, Sem.run_bind, Sem.run_pure, Result.andThen_ok]
      rw [map_arr fi, map_arr ca]
    · cases h
  -- field
  · rename_i ty x f hop
    split at h
    · rename_i cs t off hcs ht
      split at h
      · rename_i y hy
        obtain ⟨us, h1, hx⟩ := hlk (by rw [hop]; simp [Op.operands]) (cvS_some hcs)
        obtain ⟨u, h2, h3⟩ := partS_val (w := w) hy h1
        refine hret _ u h ?_ h3
        unfold execOp
        simp only [hop, hx, Sem.run_bind, Sem.run_pure, fTy_run ht, h2, Result.andThen_ok]
      · cases h
    · cases h
  -- build
  · rename_i ty pts hop
    split at h
    · rename_i pl z parts hpl hz hparts
      split at h
      · rename_i cs hcs
        obtain ⟨fields, k1, k2⟩ := bPlaces_run hpl w
        have hz' := pureSem_run _ hz w
        obtain ⟨q1, q2⟩ := mapO_get hparts
        obtain ⟨vs', k3, k4⟩ := fillS_is (e := e) (us := (pts.map fun (i, x) => (i, ρ x)).toList) (vs := z.cells) hcs (by simpa using allIs_v e z.cells.toList) ⟨by simp [q1], fun j p u hp hu => by
          rw [Array.toList_map, List.getElem?_map] at hu
          cases hj : pts.toList[j]? with
          | none => rw [hj] at hu; cases hu
          | some a =>
            rw [hj] at hu
            simp only [Option.map_some, Option.some.injEq] at hu
            obtain ⟨y, hy1, hy2⟩ := q2 j a hj
            rw [hp] at hy1
            cases hy1
            split at hy2
            · rename_i y' hy'
              simp only [Option.some.injEq] at hy2
              subst hy2
              subst hu
              refine ⟨rfl, ?_⟩
              have hmem : a.2 ∈ o.op.operands := by
                rw [hop]
                simp only [Op.operands, List.mem_toArray, List.mem_map]
                exact ⟨a, List.mem_of_getElem? hj, rfl⟩
              obtain ⟨hy1, hok⟩ := cvO_some hy'
              exact cellsC_is (hlk hmem hy1) fun p x hyp hx => by
                subst hyp
                exact oneP_is hM (hS.one ▸ hok) hx
            · cases hy2⟩
        refine hret _ (.agg vs') h ?_ ⟨vs'.toList, k4, by simp⟩
        unfold execOp
        simp only [hop, Instr.build, Sem.run_bind, hz', k1, k2, Result.andThen_ok, Sem.run_pure]
        rw [k3]
        simp [Sem.run_pure]
      · cases h
    · cases h
  -- extract
  · rename_i x i hop
    split at h
    · rename_i xs hxs
      split at h
      · rename_i y hy
        obtain ⟨us, h1, hx⟩ := hlk (by rw [hop]; simp [Op.operands]) hxs
        have hl := h1.len
        have hi : i < us.length := by rw [hl]; exact (List.getElem?_eq_some_iff.1 hy).1
        have hu : us[i]? = some us[i] := List.getElem?_eq_getElem hi
        refine hret _ us[i] h ?_ (h1.get i _ _ hy hu)
        unfold execOp
        simp only [hop, hx, Instr.extract, Sem.run_bind]
        simp [hu, Sem.run_pure]
      · cases h
    · cases h
  -- index
  · rename_i ty x ix hop
    split at h
    · rename_i cs k len elem sz hcs hk hA
      split at h
      · rename_i hle
        split at h
        · rename_i y hy
          obtain ⟨us, h1, hx⟩ := hlk (x := x) (by rw [hop]; simp [Op.operands]) hcs
          obtain ⟨kk, hix⟩ := idxKn_is hk fun z hz => hlk (x := ix) (by rw [hop]; simp [Op.operands]) hz
          obtain ⟨u, h2, h3⟩ := partS_val (w := w) hy h1
          obtain ⟨g1, g2⟩ := aElem_run hA w
          have hle := leb_le.1 hle
          refine hret _ u h ?_ h3
          unfold execOp
          simp only [hop, hx, hix, Instr.index, asIntOf, Sem.run_bind, Sem.run_pure, Result.andThen_ok, g1]
          rw [if_pos ⟨by omega, by omega⟩]
          simp [Sem.run_bind, g2, h2, Sem.run_pure]
        · cases h
      · cases h
    · split at h
      · rename_i s n hs hn hcl hstr
        simp only [Option.some.injEq, Prod.mk.injEq] at h
        obtain ⟨rfl, -, rfl⟩ := h
        have hx := valS_is hs fun z hz => hlk (x := x) (by rw [hop]; simp [Op.operands]) hz
        obtain ⟨kk, hix⟩ := idxVal_is hn fun z hz => hlk (x := ix) (by rw [hop]; simp [Op.operands]) hz
        obtain ⟨q1, q2⟩ : idxOk n s.size := hps _ (List.mem_cons_self ..)
        have hb : s[n.toNat]? = some s[n.toNat] := by simp [q2]
        have hrun : (execOp ρ o).run S.P w = .ok (.value (.int .u8 ((s.data.toList.getD n.toNat 0).toNat : Int))) w := by
          unfold execOp
          simp only [hop, hx, hix, Instr.index, asIntOf, Sem.run_bind, Sem.run_pure, Result.andThen_ok, isStr_run hstr w]
          rw [if_pos q1, hb]
          simp [Sem.run_pure, List.getD, ByteArray.getElem_eq_getElem_data, q2]
        rw [hrun]
        exact ⟨Ext.refl w, rfl⟩
      · exact hpure (by rw [hop]; simp) h
  -- indexAddr
  · rename_i ty x ix hop
    split at h
    · rename_i i n hx hn
      split at h
      · rename_i k lb mu sz hm hsz
        split at h
        · rename_i hse
          simp only [Option.some.injEq, Prod.mk.injEq] at h
          obtain ⟨rfl, -, rfl⟩ := h
          have hq := hlk (x := x) (by rw [hop]; simp [Op.operands]) (pvS_some hx)
          have hq' : e[i]? = some (ρ x) := hq
          obtain ⟨kk, hix⟩ := idxVal_is hn fun z hz => hlk (x := ix) (by rw [hop]; simp [Op.operands]) hz
          obtain ⟨q1, q2⟩ : idxOk n k.n := hps _ (List.mem_cons_self ..)
          obtain ⟨ao, cap, hv, k1, k2, k3, k4⟩ := hM.holds i _ _ hq' hm
          obtain ⟨elem, g1, g2⟩ := sElem_run hsz w
          cases ao with
          | none => have := k3 rfl; omega
          | some a =>
            obtain ⟨⟨b, off, sp⟩, hsp⟩ : ∃ a', a' = a := ⟨a, rfl⟩
            have hs0 : sp = none := by have := (k4 a rfl).1 (by omega); rw [← hsp] at this; exact this
            subst hs0
            subst hsp
            have hrun : (execOp ρ o).run S.P w = .ok (.value (.pointer (some ⟨b, off + (n.toNat * sz + 0), none⟩))) w := by
              unfold execOp
              simp only [hop, hv, hix, Instr.indexAt, asIntOf, Sem.run_bind, Sem.run_pure, Result.andThen_ok, g1]
              rw [if_pos ⟨q1, by omega⟩]
              simp only [Sem.run_bind, g2, Result.andThen_ok, Sem.run_pure]
              rw [Addr.add_mid]
              rfl
            rw [hrun]
            exact ⟨Ext.refl w, b, off, k.n, cap, by rw [hq', hv], ⟨q1, q2⟩, rfl⟩
        · cases h
      · cases h
    · rename_i i off hx
      split at h
      · rename_i k len elem sz hk hA
        split at h
        · rename_i hle
          rw [forceN_eq] at h
          obtain ⟨b, o', hb, hxv⟩ := hlk (x := x) (by rw [hop]; simp [Op.operands]) (pvS_some hx)
          obtain ⟨kk, hix⟩ := idxKn_is hk fun z hz => hlk (x := ix) (by rw [hop]; simp [Op.operands]) hz
          obtain ⟨g1, g2⟩ := aElem_run hA w
          have hle := leb_le.1 hle
          refine hret _ _ h ?_ ⟨b, o', hb, rfl⟩
          unfold execOp
          simp only [hop, hxv, hix, Instr.indexAt, Instr.sureAddr, asIntOf, Sem.run_bind, Sem.run_pure, Result.andThen_ok, g1]
          rw [if_pos ⟨by omega, by omega⟩]
          simp only [Sem.run_bind, g2, Result.andThen_ok, Sem.run_pure]
          rw [Addr.add_mid, Nat.add_assoc]
          simp
        · cases h
      · cases h
    · cases h
  -- call
  · rename_i fv xs ats hop
    split at h
    · rename_i f fi ca us hs hus
      split at h
      · rename_i g hg
        split at h
        · rename_i qs r hgr
          simp only [Option.some.injEq, Prod.mk.injEq] at h
          obtain ⟨rfl, -, rfl⟩ := h
          obtain ⟨a1, a2, k1, k2, hx⟩ := hlk (x := fv) (by rw [hop]; simp [Op.operands, Call.operands]) hs
          have hv := cvs_of (ρ := ρ) (e := e) hc hus (fun x hx => hρ x (by rw [hop]; simp [Op.operands, Call.operands, Array.mem_toList_iff.1 hx]))
          obtain ⟨q1, q2⟩ := hS.fns f g hg _ mem qs r none hgr hps
          have hall := k1.ones.append (hv.append k2.ones)
          have hrun : (execOp ρ o).run S.P w = .ok (.enter f (a1 ++ (xs.toList.map ρ ++ a2)).toArray) w := by
            unfold execOp
            simp only [hop, resolve, hx, Deferred.ofValue, invoke, Sem.run_bind, Sem.run_pure, Result.andThen_ok, map_arr xs]
            rw [q1]
            simp
          rw [hrun]
          exact (q2 w e _ hM hall).mono fun x w' ⟨v, h1, h2, h3⟩ => ⟨v, h1, h3, h2⟩
        · split at h <;> simp at h
        · cases h
      · cases h
    · cases h
  -- len
  · rename_i xs ts hop
    split at h
    · rename_i x t hx ht
      split at h
      · rename_i i sz hpv hsz
        split at h
        · rename_i k lb mu hm
          have hq : e[i]? = some (ρ x) := hlk (x := x) (by rw [hop]; simp [Op.operands, Call.operands, ← Array.mem_toList_iff, hx]) (pvS_some hpv)
          obtain ⟨ao, cap, hv, _⟩ := hM.holds i _ _ hq hm
          obtain ⟨elem, g1, _⟩ := sElem_run hsz w
          have e1 : xs = #[x] := by rw [← Array.toArray_toList (xs := xs), hx]
          have e2 : ts = #[t] := by rw [← Array.toArray_toList (xs := ts), ht]
          refine hret _ (.int .i64 (k.n : Int)) h ?_ rfl
          subst e1; subst e2
          unfold execOp
          simp only [hop, resolve, invoke, builtin, Builtin.len_, Sem.run_bind, Sem.run_pure, Result.andThen_ok]
          simp [hv, g1, goInt, Sem.run_bind]
        · cases h
      · exact hpure (by rw [hop]; simp) h
    · cases h
  -- append
  · split at h
    · split at h
      · split at h <;> simp at h
      · cases h
    · cases h
  -- eql
  · rename_i ty x y ty' hop
    unfold evalEq at h
    split at h
    · rename_i u v hu hv
      split at h
      · rename_i us vs g hus hvs hg
        split at h
        · rename_i b hb
          obtain ⟨k1, k2⟩ := hS.eqs ty g hg
          obtain ⟨us', h1, hx⟩ := hlk (x := x) (by rw [hop]; simp [Op.operands]) hu
          obtain ⟨vs', h2, hy⟩ := hlk (x := y) (by rw [hop]; simp [Op.operands]) hv
          rw [mapO_valP hus h1] at hx
          rw [mapO_valP hvs h2] at hy
          have hbk := k2 us.toArray vs.toArray b (by simpa using hb) w
          refine hret _ (.bool b) h ?_ rfl
          unfold execOp
          simp only [hop, hx, hy, eqGuard, binOp, Sem.run_bind, Sem.run_pure, Result.andThen_ok]
          simp [k1, hbk, program, Sem.run]
        · cases h
      · cases h
    · exact hpure (by rw [hop]; simp) h
  -- neq
  · rename_i ty x y ty' hop
    unfold evalEq at h
    split at h
    · rename_i u v hu hv
      split at h
      · rename_i us vs g hus hvs hg
        split at h
        · rename_i b hb
          obtain ⟨k1, k2⟩ := hS.eqs ty g hg
          obtain ⟨us', h1, hx⟩ := hlk (x := x) (by rw [hop]; simp [Op.operands]) hu
          obtain ⟨vs', h2, hy⟩ := hlk (x := y) (by rw [hop]; simp [Op.operands]) hv
          rw [mapO_valP hus h1] at hx
          rw [mapO_valP hvs h2] at hy
          have hbk := k2 us.toArray vs.toArray b (by simpa using hb) w
          refine hret _ (.bool (!b)) h ?_ rfl
          unfold execOp
          simp only [hop, hx, hy, eqGuard, binOp, Sem.run_bind, Sem.run_pure, Result.andThen_ok]
          simp [k1, hbk, program, Sem.run]
        · cases h
      · cases h
    · exact hpure (by rw [hop]; simp) h
  · cases h
  · rename_i hns _
    exact hpure (fun cs b hcs => by simp_all) h

theorem AllC.get' : True := trivial
end
end Go.Proofs.Ytcekfgcajcjooaa

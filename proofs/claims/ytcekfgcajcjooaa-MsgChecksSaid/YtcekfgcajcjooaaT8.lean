/- A symbolic run, wider: loops whose rounds are alike. No program in sight. -/
import Derived.Test.YtcekfgcajcjooaaT7
set_option linter.unusedVariables false
set_option linter.unusedSimpArgs false
namespace Go.Proofs.Ytcekfgcajcjooaa
open Go.RowKit

/-- Nothing from the n-th thing on is spoken of. -/
def scP (n : Nat) : PV → Bool
  | .ptr i _ => leb (i + 1) n
  | .elt i _ _ _ => leb (i + 1) n
  | .obj i => leb (i + 1) n
  | _ => true
def scC (n : Nat) : CV → Bool
  | .one p => scP n p
  | .agg cs => allB (scP n) cs
def scS (n : Nat) : SV → Bool
  | .c x => scC n x
  | .tup xs => allB (scC n) xs
  | .fn _ a b => allB (scP n) a && allB (scP n) b
  | .gd _ x => scS n x
def scBase (n : Nat) : List (Nat × SV) → Bool
  | [] => true
  | (_, x) :: r => scS n x && scBase n r
/-- What a slot holds, whether it is closed or not. -/
def vS : SV → SV
  | .c (.one (.kI k n)) => svV (.int k n)
  | .c (.one (.kB b)) => svV (.bool b)
  | .c (.one (.kS s)) => svV (.string s)
  | x => x
def EqO : Option SV → Option SV → Prop
  | some x, some y => vS x = vS y
  | none, none => True
  | _, _ => False
def FitL : List (Nat × SV) → List (Nat × SV) → Prop
  | [], _ => True
  | (t, x) :: r, b => EqO (baseGet t b) (some x) ∧ FitL r b
theorem vS_is {e : Env} {x : SV} {u : Value} : (vS x).is e u ↔ x.is e u := by
  unfold vS
  split <;> exact Iff.rfl
theorem EqO.refl (a : Option SV) : EqO a a := by cases a <;> simp [EqO]
theorem EqO.symm {a b : Option SV} (h : EqO a b) : EqO b a := by
  cases a <;> cases b <;> first | exact h | exact (Eq.symm h)
theorem EqO.trans {a b c : Option SV} (h : EqO a b) (k : EqO b c) : EqO a c := by
  cases a <;> cases b <;> cases c <;> first | exact trivial | exact h.elim | exact k.elim | exact (Eq.trans h k)
def anyB' : List Nat → List (Nat × SV) → List (Nat × SV)
  | [], r => r
  | t :: ts, r => (t, anyS) :: anyB' ts r

theorem scP_is {e : Env} {n : Nat} {p : PV} {u : Value} (h : scP n p = true) (hu : p.is e u) : p.is (e.take n) u := by
  have key : ∀ (i : Nat) (x : Value), leb (i + 1) n = true → e[i]? = some x → (e.take n)[i]? = some x := fun i x hi hx => by
    rw [List.getElem?_take, if_pos (show i < n from leb_le.1 hi)]; exact hx
  cases p with
  | v x => exact hu
  | kI k m => exact hu
  | kB b => exact hu
  | kS s => exact hu
  | ptr i off => obtain ⟨b, o, h1, h2⟩ := hu; exact ⟨b, o, key i _ h h1, h2⟩
  | elt i sz idx off => obtain ⟨b, o, m, c, h1, h2⟩ := hu; exact ⟨b, o, m, c, key i _ h h1, h2⟩
  | obj i => exact key i _ h hu
  | any => trivial
theorem scPs_is {e : Env} {n : Nat} : ∀ {ps : List PV} {us : List Value}, allB (scP n) ps = true → AllIs e ps us → AllIs (e.take n) ps us
  | [], [], _, _ => trivial
  | p :: ps, u :: us, h, ⟨h1, h2⟩ => by
    simp only [allB, Bool.and_eq_true] at h
    exact ⟨scP_is h.1 h1, scPs_is h.2 h2⟩
  | [], _ :: _, _, h => h.elim
  | _ :: _, [], _, h => h.elim
theorem scC_is {e : Env} {n : Nat} {c : CV} {u : Value} (h : scC n c = true) (hu : c.is e u) : c.is (e.take n) u := by
  cases c with
  | one p => exact scP_is h hu
  | agg cs => obtain ⟨us, h1, h2⟩ := hu; exact ⟨us, scPs_is h h1, h2⟩
theorem scCs_is {e : Env} {n : Nat} : ∀ {ps : List CV} {us : List Value}, allB (scC n) ps = true → AllC e ps us → AllC (e.take n) ps us
  | [], [], _, _ => trivial
  | p :: ps, u :: us, h, ⟨h1, h2⟩ => by
    simp only [allB, Bool.and_eq_true] at h
    exact ⟨scC_is h.1 h1, scCs_is h.2 h2⟩
  | [], _ :: _, _, h => h.elim
  | _ :: _, [], _, h => h.elim
theorem scS_is {e : Env} {n : Nat} : ∀ {s : SV} {u : Value}, scS n s = true → s.is e u → s.is (e.take n) u
  | .c _, _, h, hu => scC_is h hu
  | .tup _, _, h, ⟨us, h1, h2⟩ => ⟨us, scCs_is h h1, h2⟩
  | .fn _ _ _, _, h, ⟨us, vs, h1, h2, h3⟩ => by
    simp only [scS, Bool.and_eq_true] at h
    exact ⟨us, vs, scPs_is h.1 h1, scPs_is h.2 h2, h3⟩
  | .gd _ x, _, h, ⟨h1, h2⟩ => ⟨fun hb => scS_is (s := x) h (h1 hb), h2⟩
theorem scBase_get {n t : Nat} {x : SV} : ∀ {b : List (Nat × SV)}, scBase n b = true → baseGet t b = some x → scS n x = true
  | [], _, h => by cases h
  | (u, y) :: r, hs, h => by
    simp only [scBase, Bool.and_eq_true] at hs
    simp only [baseGet] at h
    split at h
    · simp only [Option.some.injEq] at h; subst h; exact hs.1
    · exact scBase_get hs.2 h
theorem anyB'_get {t : Nat} {r : List (Nat × SV)} : ∀ {W : List Nat}, (t ∈ W → baseGet t (anyB' W r) = some anyS) ∧ (t ∉ W → baseGet t (anyB' W r) = baseGet t r)
  | [] => ⟨(fun h => by cases h), fun _ => rfl⟩
  | u :: W => by
    refine ⟨fun h => ?_, fun h => ?_⟩
    · simp only [anyB', baseGet]
      cases he : eqb u t with
      | true => rfl
      | false =>
        rcases List.mem_cons.1 h with rfl | h
        · rw [eqb_eq.2 rfl] at he; cases he
        · exact (anyB'_get (W := W)).1 h
    · simp only [anyB', baseGet]
      rw [eqb_ne (fun e => h (by rw [e]; exact List.mem_cons_self ..))]
      exact (anyB'_get (W := W)).2 fun hm => h (List.mem_cons_of_mem _ hm)
theorem baseGet_app {t : Nat} {r : List (Nat × SV)} : ∀ {pre : List (Nat × SV)}, (∃ x, baseGet t pre = some x ∧ baseGet t (pre ++ r) = some x) ∨ (baseGet t pre = none ∧ baseGet t (pre ++ r) = baseGet t r)
  | [] => .inr ⟨rfl, rfl⟩
  | (u, x) :: pre => by
    rw [List.cons_append]
    simp only [baseGet]
    cases eqb u t with
    | true => exact .inl ⟨x, rfl, rfl⟩
    | false => exact baseGet_app
theorem baseGet_key {t : Nat} {x : SV} : ∀ {pre : List (Nat × SV)}, baseGet t pre = some x → (t, x) ∈ pre
  | [], h => by cases h
  | (u, y) :: pre, h => by
    simp only [baseGet] at h
    split at h
    · rename_i he
      simp only [Option.some.injEq] at h
      rw [eqb_eq.1 he, h]; exact List.mem_cons_self ..
    · exact List.mem_cons_of_mem _ (baseGet_key h)
theorem FitL.mem {b : List (Nat × SV)} : ∀ {U : List (Nat × SV)}, FitL U b → ∀ p ∈ U, EqO (baseGet p.1 b) (some p.2)
  | [], _, p, hp => by cases hp
  | (t, x) :: r, ⟨h1, h2⟩, p, hp => by
    rcases List.mem_cons.1 hp with rfl | hp
    · exact h1
    · exact FitL.mem h2 p hp
def keysIn (W : List Nat) : List (Nat × SV) → Bool
  | [] => true
  | (t, _) :: r => memN t W && keysIn W r
theorem keysIn_mem {W : List Nat} : ∀ {U : List (Nat × SV)}, keysIn W U = true → ∀ p ∈ U, p.1 ∈ W
  | [], _, p, hp => by cases hp
  | (t, x) :: r, h, p, hp => by
    simp only [keysIn, Bool.and_eq_true] at h
    rcases List.mem_cons.1 hp with rfl | hp
    · exact memN_iff.1 h.1
    · exact keysIn_mem h.2 p hp

section
variable {β : Type} {S : Sy β} {I : ObI β} {W0 : World} {G : Nat → Prop} {L : Lps β} {sz : Nat}
def ScMem (n : Nat) (mem : Mem β) : Prop := ∀ en ∈ mem, match en.ob with
  | .blk cells => allB (scP n) cells = true
  | .sl k _ => ∀ i, allB (scP n) (k.cells i) = true
  | _ => True
theorem MemOk.take {w : World} {e : Env} {mem : Mem β} {n : Nat} (h : MemOk W0 G I w e mem) (hs : ScMem n (mem.take n)) : MemOk W0 G I w (e.take n) (mem.take n) := by
  have he : ∀ (i : Nat) (u : Value), (e.take n)[i]? = some u → i < n ∧ e[i]? = some u := fun i u hu => by
    rw [List.getElem?_take] at hu
    split at hu
    · exact ⟨by assumption, hu⟩
    · cases hu
  have hm : ∀ (i : Nat) (u : En β), (mem.take n)[i]? = some u → i < n ∧ mem[i]? = some u := fun i u hu => by
    rw [List.getElem?_take] at hu
    split at hu
    · exact ⟨by assumption, hu⟩
    · cases hu
  refine ⟨by simp [h.len], fun i u m hu hmm => ?_, fun i u m hu hmm => h.lt i u m (he i u hu).2 (hm i m hmm).2, fun i u m hu hmm => h.own i u m (he i u hu).2 (hm i m hmm).2,
    fun i j u v m m' hu hmm hmu hv hmv => h.sep i j u v m m' (he i u hu).2 (hm i m hmm).2 hmu (he j v hv).2 (hm j m' hmv).2, h.mod⟩
  have hh := h.holds i u m (he i u hu).2 (hm i m hmm).2
  have hsc := hs m (List.mem_of_getElem? hmm)
  obtain ⟨ob, mu⟩ := m
  cases ob with
  | blk cells =>
    obtain ⟨b, o, rfl, hc⟩ := hh
    refine ⟨b, o, rfl, fun j p hp => ?_⟩
    obtain ⟨x, h1, h2, h3⟩ := hc j p hp
    exact ⟨x, h1, scP_is (allB_mem hsc p (List.mem_of_getElem? hp)) h2, h3⟩
  | sl k lb =>
    obtain ⟨ao, cap, rfl, h1, h2, h3, h4⟩ := hh
    refine ⟨ao, cap, rfl, h1, h2, h3, fun a ha => ⟨(h4 a ha).1, fun i hi j p hp => ?_⟩⟩
    obtain ⟨x, g1, g2⟩ := (h4 a ha).2 i hi j p hp
    exact ⟨x, g1, scP_is (allB_mem (hsc i) p (List.mem_of_getElem? hp)) g2⟩
  | us b => exact hh
  | dead => trivial

/-- The state at a round's head. -/
def rSt (W : List Nat) (V R base : List (Nat × SV)) (mem : Mem β) (ver : Nat) : SSt β := ⟨V ++ anyB' W (R ++ base), mem, ver⟩
def xSt (W : List Nat) (U : List (Nat × SV)) (s : SSt β) : SSt β := ⟨U ++ anyB' W s.base, s.mem, s.ver⟩

/-- Slots, as they stand at a round's head or at a way out. -/
theorem weaken {W : List Nat} {U R base b : List (Nat × SV)} {n : Nat} {e : Env} {a : Act} (hf : FrOk [] b e a sz) (hU : FitL U b) (hsU : scBase n U = true) (hsR : scBase n R = true) (hsb : scBase n base = true) (hR : FitL R base)
    (hb : ∀ t, t ∉ W → baseGet t b = baseGet t (R ++ base) ∨ baseGet t b = baseGet t base) : FrOk [] (U ++ anyB' W (R ++ base)) (e.take n) a sz ∧ FrOk [] (U ++ anyB' W base) (e.take n) a sz := by
  have slot : ∀ t x, EqO (baseGet t b) (some x) → scS n x = true → x.is (e.take n) (a.tmps.getD t undef) := fun t x hx hsx => by
    have := hf.slot t
    cases hy : baseGet t b with
    | none => rw [hy] at hx; exact hx.elim
    | some y =>
      simp only [SlotIs, recDst, hy] at this
      rw [hy] at hx
      have hx' : vS y = vS x := hx
      exact scS_is hsx (vS_is.1 (hx' ▸ vS_is.2 this))
  have none' : ∀ t, baseGet t b = none → a.tmps.getD t undef = undef := fun t hx => by
    have := hf.slot t
    simpa only [SlotIs, recDst, hx] using this
  have hRe : ∀ t, EqO (baseGet t (R ++ base)) (baseGet t base) := fun t => by
    rcases baseGet_app (t := t) (r := base) (pre := R) with ⟨y, h1, h2⟩ | ⟨_, h2⟩
    · rw [h2]; exact (hR.mem _ (baseGet_key h1)).symm
    · rw [h2]; exact EqO.refl _
  have hRs : ∀ t x, baseGet t (R ++ base) = some x → scS n x = true := fun t x hx => by
    rcases baseGet_app (t := t) (r := base) (pre := R) with ⟨y, h1, h2⟩ | ⟨_, h2⟩
    · rw [hx] at h2; cases h2; exact scBase_get hsR h1
    · rw [hx] at h2; exact scBase_get hsb h2.symm
  have key : ∀ (r : List (Nat × SV)), (∀ t, EqO (baseGet t r) (baseGet t base)) → (∀ t x, baseGet t r = some x → scS n x = true) → FrOk [] (U ++ anyB' W r) (e.take n) a sz := fun r hr hrs => by
    refine ⟨hf.defers, hf.size, fun t => ?_⟩
    simp only [SlotIs, recDst]
    rcases baseGet_app (t := t) (r := anyB' W r) (pre := U) with ⟨x, h1, h2⟩ | ⟨_, h2⟩
    · rw [h2]
      exact slot t x (hU.mem _ (baseGet_key h1)) (scBase_get hsU h1)
    · rw [h2]
      by_cases ht : t ∈ W
      · rw [(anyB'_get (W := W)).1 ht]; trivial
      · rw [(anyB'_get (W := W)).2 ht]
        have hbt : EqO (baseGet t b) (baseGet t r) := by
          refine EqO.trans ?_ (hr t).symm
          rcases hb t ht with h | h
          · rw [h]; exact hRe t
          · rw [h]; exact EqO.refl _
        cases hx : baseGet t r with
        | some x => exact slot t x (by rw [← hx]; exact hbt) (hrs t x hx)
        | none =>
          rw [hx] at hbt
          cases hy : baseGet t b with
          | none => exact none' t hy
          | some y => rw [hy] at hbt; exact hbt.elim
  exact ⟨key _ hRe hRs, key _ (fun _ => EqO.refl _) fun t x hx => scBase_get hsb hx⟩

/-- What a round leaves. -/
def RK (M0 : Mem β) (V : Nat → List (Nat × SV)) (N : Nat) (J : Nat → Prop) (U : Nat → SX → Option (List (Nat × SV))) (X : Nat → SX → Prop) (k : Nat) (x : SX) (s' : SSt β) : Prop := s'.mem.take M0.length = M0 ∧ match x with
  | .normal => (k < N ∧ J (k + 1)) ∧ FitL (V (k + 1)) s'.base
  | x => match U k x with
    | some u => X k x ∧ FitL u s'.base
    | none => False
/-- A loop whose k-th round begins with the slots V k. -/
theorem loop_rule (hS : SyOk S I W0 G) {c : Code} (hL : LpsOk S I W0 G L sz c) {M0 : Mem β} {V : Nat → List (Nat × SV)} {R : List (Nat × SV)} {N : Nat} {Ux : Nat → SX → Option (List (Nat × SV))} {X : Nat → SX → Prop} {J : Nat → Prop}
    (hsM : ScMem M0.length M0) (hsR : scBase M0.length R = true) (hV : ∀ k, keysIn (writesC c) (V k) = true ∧ scBase M0.length (V k) = true) (hEx : ∀ k x U, Ux k x = some U → keysIn (writesC c) U = true ∧ scBase M0.length U = true)
    (hJ : J 0) (hr : ∀ k, k ≤ N → J k → ∀ base ver, (symC S L sz c (rSt (writesC c) (V k) R base M0 ver)).holds (RK M0 V N J Ux X k))
    {s : SSt β} (hm : s.mem = M0) (h0 : FitL (V 0) s.base) (hR : FitL R s.base) (hsb : scBase M0.length s.base = true) {T : Tr β} {K : SX → SSt β → Prop} (hT : T.holds K) (hTx : ∀ k x U, k ≤ N → Ux k x = some U → X k x → T.holds K → K x (xSt (writesC c) U s))
    {Q : Exit → Act → World → Prop} {a : Act} {w : World} {e : Env} (hf : FrOk [] s.base e a sz) (hM : MemOk W0 G I w e s.mem)
    (hQ : ∀ x s' e' a' w', Grows e e' → K x s' → FrOk [] s'.base e' a' sz → MemOk W0 G I w' e' s'.mem → Q x.exit' a' w') : (Code.loop c).wp S.P Q a w := by
  subst hm
  have hlen : e.length = s.mem.length := hM.len
  have main : ∀ m k, k + m = N → J k → ∀ e' a' w', Grows e e' → e'.length = s.mem.length → FrOk [] (rSt (writesC c) (V k) R s.base s.mem s.ver).base e' a' sz → MemOk W0 G I w' e' s.mem → Code.rounds S.P c Q (m + 1) a' w' := by
    intro m
    induction m with
    | zero =>
      intro k hk hJk e' a' w' hg hl hf' hM'
      rw [rounds_succ]
      have hafter := symC_after c hL (rSt (writesC c) (V k) R s.base s.mem s.ver)
      refine symC_sound hS c hL (Tr.holds_all (hr k (by omega) hJk s.base s.ver) hafter) hf' hM' fun x s' e2 a2 w2 hg2 hK hf2 hM2 => ?_
      obtain ⟨⟨hmem, hK⟩, haf⟩ := hK
      obtain ⟨pre, hpre, hprew⟩ := haf.suf
      have hb : ∀ t, t ∉ writesC c → baseGet t s'.base = baseGet t (R ++ s.base) ∨ baseGet t s'.base = baseGet t s.base := fun t ht => .inl (by
        rw [hpre]
        rcases baseGet_app (t := t) (r := (rSt (writesC c) (V k) R s.base s.mem s.ver).base) (pre := pre) with ⟨y, h1, _⟩ | ⟨_, h2⟩
        · exact absurd (hprew _ (baseGet_key h1)) ht
        · rw [h2]
          simp only [rSt]
          rcases baseGet_app (t := t) (r := anyB' (writesC c) (R ++ s.base)) (pre := V k) with ⟨y, h1, _⟩ | ⟨_, h3⟩
          · exact absurd (keysIn_mem (hV k).1 _ (baseGet_key h1)) ht
          · rw [h3]; exact (anyB'_get (W := writesC c)).2 ht)
      cases x with
      | normal => exact absurd hK.1.1 (by omega)
      | exit id =>
        simp only at hK
        split at hK
        case h_2 => exact hK.elim
        rename_i U hU1
        obtain ⟨hX, hU2⟩ := hK
        obtain ⟨q1, q2⟩ := hEx _ _ _ hU1
        have hfw := (weaken (W := writesC c) hf2 hU2 q2 hsR hsb hR hb).2
        have hMt : MemOk W0 G I w2 (e2.take s.mem.length) (s'.mem.take s.mem.length) := hM2.take (by rw [hmem]; exact hsM)
        rw [hmem] at hMt
        exact hQ (.exit id) (xSt (writesC c) U s) (e2.take s.mem.length) a2 w2 (fun i x hx => by
          have hi := (List.getElem?_eq_some_iff.1 hx).1
          rw [List.getElem?_take, if_pos (by omega)]; exact hg2 i x (hg i x hx)) (hTx k _ U (by omega) hU1 hX hT) hfw hMt
      | ret =>
        simp only at hK
        split at hK
        case h_2 => exact hK.elim
        rename_i U hU1
        obtain ⟨hX, hU2⟩ := hK
        obtain ⟨q1, q2⟩ := hEx _ _ _ hU1
        have hfw := (weaken (W := writesC c) hf2 hU2 q2 hsR hsb hR hb).2
        have hMt : MemOk W0 G I w2 (e2.take s.mem.length) (s'.mem.take s.mem.length) := hM2.take (by rw [hmem]; exact hsM)
        rw [hmem] at hMt
        exact hQ .ret (xSt (writesC c) U s) (e2.take s.mem.length) a2 w2 (fun i x hx => by
          have hi := (List.getElem?_eq_some_iff.1 hx).1
          rw [List.getElem?_take, if_pos (by omega)]; exact hg2 i x (hg i x hx)) (hTx k _ U (by omega) hU1 hX hT) hfw hMt
    | succ m ih =>
      intro k hk hJk e' a' w' hg hl hf' hM'
      rw [rounds_succ]
      have hafter := symC_after c hL (rSt (writesC c) (V k) R s.base s.mem s.ver)
      refine symC_sound hS c hL (Tr.holds_all (hr k (by omega) hJk s.base s.ver) hafter) hf' hM' fun x s' e2 a2 w2 hg2 hK hf2 hM2 => ?_
      obtain ⟨⟨hmem, hK⟩, haf⟩ := hK
      obtain ⟨pre, hpre, hprew⟩ := haf.suf
      have hb : ∀ t, t ∉ writesC c → baseGet t s'.base = baseGet t (R ++ s.base) ∨ baseGet t s'.base = baseGet t s.base := fun t ht => .inl (by
        rw [hpre]
        rcases baseGet_app (t := t) (r := (rSt (writesC c) (V k) R s.base s.mem s.ver).base) (pre := pre) with ⟨y, h1, _⟩ | ⟨_, h2⟩
        · exact absurd (hprew _ (baseGet_key h1)) ht
        · rw [h2]
          simp only [rSt]
          rcases baseGet_app (t := t) (r := anyB' (writesC c) (R ++ s.base)) (pre := V k) with ⟨y, h1, _⟩ | ⟨_, h3⟩
          · exact absurd (keysIn_mem (hV k).1 _ (baseGet_key h1)) ht
          · rw [h3]; exact (anyB'_get (W := writesC c)).2 ht)
      have hMt : MemOk W0 G I w2 (e2.take s.mem.length) (s'.mem.take s.mem.length) := hM2.take (by rw [hmem]; exact hsM)
      have hlt : (e2.take s.mem.length).length = s.mem.length := by rw [hMt.len, hmem]
      rw [hmem] at hMt
      have hgt : Grows e (e2.take s.mem.length) := fun i x hx => by
          have hi := (List.getElem?_eq_some_iff.1 hx).1
          rw [List.getElem?_take, if_pos (by omega)]; exact hg2 i x (hg i x hx)
      cases x with
      | normal =>
        obtain ⟨⟨_, hJ1⟩, hfit⟩ := hK
        exact ih (k + 1) (by omega) hJ1 _ a2 w2 hgt hlt (weaken (W := writesC c) hf2 hfit (hV (k + 1)).2 hsR hsb hR hb).1 hMt
      | exit id =>
        simp only at hK
        split at hK
        case h_2 => exact hK.elim
        rename_i U hU1
        obtain ⟨hX, hU2⟩ := hK
        obtain ⟨q1, q2⟩ := hEx _ _ _ hU1
        exact hQ (.exit id) (xSt (writesC c) U s) _ a2 w2 hgt (hTx k _ U (by omega) hU1 hX hT) (weaken (W := writesC c) hf2 hU2 q2 hsR hsb hR hb).2 hMt
      | ret =>
        simp only at hK
        split at hK
        case h_2 => exact hK.elim
        rename_i U hU1
        obtain ⟨hX, hU2⟩ := hK
        obtain ⟨q1, q2⟩ := hEx _ _ _ hU1
        exact hQ .ret (xSt (writesC c) U s) _ a2 w2 hgt (hTx k _ U (by omega) hU1 hX hT) (weaken (W := writesC c) hf2 hU2 q2 hsR hsb hR hb).2 hMt
  have hst := (weaken (W := writesC c) hf h0 (hV 0).2 hsR hsb hR (fun t _ => .inr rfl)).1
  have he : e.take s.mem.length = e := by rw [← hlen]; exact List.take_length
  rw [he] at hst
  exact wp_loop_rounds (N + 1) (main N 0 (by omega) hJ e a w (Grows.refl e) hlen hst hM)

theorem xSt_after {W : List Nat} {U : List (Nat × SV)} {s : SSt β} (h : keysIn W U = true) : After (· ∈ W) s (xSt W U s) := by
  have key : ∀ (ts : List Nat), (∀ t ∈ ts, t ∈ W) → ∃ pre, anyB' ts s.base = pre ++ s.base ∧ ∀ p ∈ pre, p.1 ∈ W := by
    intro ts
    induction ts with
    | nil => intro _; exact ⟨[], rfl, fun p hp => by cases hp⟩
    | cons t ts ih =>
      intro ht
      obtain ⟨pre, h1, h2⟩ := ih fun u hu => ht u (List.mem_cons_of_mem _ hu)
      refine ⟨(t, anyS) :: pre, by simp only [anyB']; rw [h1]; rfl, fun p hp => ?_⟩
      rcases List.mem_cons.1 hp with rfl | hp
      · exact ht t (List.mem_cons_self ..)
      · exact h2 p hp
  obtain ⟨pre, h1, h2⟩ := key W fun t h => h
  refine ⟨⟨U ++ pre, by simp only [xSt]; rw [h1, List.append_assoc], fun p hp => ?_⟩, Nat.le_refl _, fun _ => rfl⟩
  rcases List.mem_append.1 hp with hp | hp
  · exact keysIn_mem h p hp
  · exact h2 p hp
end
end Go.Proofs.Ytcekfgcajcjooaa

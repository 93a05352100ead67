/- Texts put together: T10 T11 T12 T13 T14. -/
import Derived.Test.YtonomiljclemnaaE3
import Derived.Laws.StructEq

set_option linter.unusedVariables false
set_option linter.unusedSimpArgs false
namespace Go.Proofs.Ytonomiljclemnaa
open Go.RowKit

section
variable {β : Type} {S : Sy β} {I : ObI β} {W0 : World} {G : Nat → Prop} {P : Program} {w w' : World} {E e e' : Env} {MEM mem ms : Mem β}

/-- What it is does not go by other things. -/
def EnvFree (I : ObI β) (n : En β) : Prop := ∀ (e e' : Env) (w : World) (u : Value), Holds I e w u n.mu n.ob → Holds I e' w u n.mu n.ob
theorem isUs_free {n : En β} (h : isUs n = true) : EnvFree I n := fun e e' w u hh => by
  obtain ⟨ob, mu⟩ := n
  cases ob with
  | us b => exact hh
  | blk c => simp [isUs] at h
  | bx c => simp [isUs] at h
  | sl K b => simp [isUs] at h
  | dead => simp [isUs] at h
def dEn : En β := ⟨.dead, false⟩
def subM (MEM : Mem β) (is : List Nat) : Mem β := is.map fun i => match MEM[i]? with | some n => n | none => dEn
def setL : Mem β → List Nat → Mem β → Mem β
  | m, i :: is, x :: xs => setL (m.set i x) is xs
  | m, _, _ => m
theorem setL_len : ∀ (is : List Nat) (m xs : Mem β), (setL m is xs).length = m.length
  | [], m, xs => by cases xs <;> rfl
  | i :: is, m, [] => rfl
  | i :: is, m, x :: xs => by simp only [setL]; rw [setL_len is]; simp
theorem setL_out {i : Nat} : ∀ (is : List Nat) (m xs : Mem β), i ∉ is → (setL m is xs)[i]? = m[i]?
  | [], m, xs, _ => by cases xs <;> rfl
  | j :: is, m, [], _ => rfl
  | j :: is, m, x :: xs, h => by
    simp only [setL]
    rw [setL_out is _ _ (fun hm => h (List.mem_cons_of_mem _ hm)), List.getElem?_set_ne (fun e => h (by rw [e]; exact List.mem_cons_self ..))]
theorem setL_in : ∀ (is : List Nat) (m xs : Mem β) (j i : Nat) (x : En β), (∀ a b c : Nat, is[a]? = some c → is[b]? = some c → a = b) → is[j]? = some i → xs[j]? = some x → i < m.length → (setL m is xs)[i]? = some x
  | [], m, xs, j, i, x, _, h, _, _ => by simp at h
  | i0 :: is, m, [], j, i, x, _, _, h, _ => by simp at h
  | i0 :: is, m, x0 :: xs, j, i, x, hn, hi, hx, hl => by
    simp only [setL]
    cases j with
    | zero =>
      simp at hi hx
      subst hi; subst hx
      have : i0 ∉ is := fun hm => by
        obtain ⟨a, ha, hae⟩ := List.getElem_of_mem hm
        have := hn 0 (a + 1) i0 rfl (by simpa [ha] using hae)
        omega
      rw [setL_out is _ _ this, List.getElem?_set_self hl]
    | succ j =>
      refine setL_in is _ xs j i x (fun a b c ha hb => ?_) (by simpa using hi) (by simpa using hx) (by simpa using hl)
      have := hn (a + 1) (b + 1) c (by simpa using ha) (by simpa using hb)
      omega

theorem sub_ok (hM : MemOk W0 G I w E MEM) {is : List Nat} (hn : ∀ a b c : Nat, is[a]? = some c → is[b]? = some c → a = b) (hb : ∀ i ∈ is, i < MEM.length) (hl : e.length = is.length) (he : ∀ j i : Nat, is[j]? = some i → e[j]? = E[i]?)
    (hfree : ∀ n ∈ subM MEM is, EnvFree I n) : MemOk w (FootOf I w e (subM MEM is)) I w e (subM MEM is) := by
  have hget : ∀ (j : Nat) (u : Value) (n : En β), e[j]? = some u → (subM MEM is)[j]? = some n → ∃ i, is[j]? = some i ∧ E[i]? = some u ∧ MEM[i]? = some n := fun j u n hu hn => by
    obtain ⟨i, hi, hx⟩ := mapM_get hn
    have hlt := hb i (List.mem_of_getElem? hi)
    refine ⟨i, hi, by rw [← he j i hi]; exact hu, ?_⟩
    rw [List.getElem?_eq_getElem hlt] at hx ⊢
    exact congrArg some hx
  refine ⟨by simp [subM, hl], fun j u n hu hn => ?_, fun j u n hu hn k hk => ?_, fun j u n hu hn hmu k hk => .inr (footE.2 ⟨j, u, n, hu, hn, hmu, hk⟩), fun j j' u v n m hu hn' hmu hv hm hij k hk1 hk2 => ?_, Mod.refl _ w, fun j u n hu hn k hk => .inr (footO.2 ⟨j, u, n, hu, hn, hk⟩)⟩
  · obtain ⟨i, hi, h1, h2⟩ := hget j u n hu hn
    exact hfree n (List.mem_of_getElem? hn) E e w u (hM.holds i u n h1 h2)
  · obtain ⟨i, hi, h1, h2⟩ := hget j u n hu hn
    exact hM.lt i u n h1 h2 k hk
  · obtain ⟨i, hi, h1, h2⟩ := hget j u n hu hn'
    obtain ⟨i', hi', h3, h4⟩ := hget j' v m hv hm
    exact hM.sep i i' u v n m h1 h2 hmu h3 h4 (fun e => hij (by subst e; exact hn j j' i hi hi')) k hk1 hk2

/-- What stands beside stays. -/
theorem frame (hM : MemOk W0 G I w E MEM) {is : List Nat} (hn : ∀ a b c : Nat, is[a]? = some c → is[b]? = some c → a = b) (hb : ∀ i ∈ is, i < MEM.length) (hl : e.length = is.length) (he : ∀ j i : Nat, is[j]? = some i → e[j]? = E[i]?)
    (h' : MemOk w (FootOf I w e (subM MEM is)) I w' e' ms) (hg : Grows e e') (hk : is.length ≤ ms.length) (hfree : ∀ n ∈ ms, EnvFree I n)
    (hmu : ∀ (j : Nat) (n : En β), ms[j]? = some n → n.mu = true ∨ (j < is.length ∧ (subM MEM is)[j]? = some n)) : MemOk W0 G I w' (E ++ e'.drop is.length) (setL MEM is ms ++ ms.drop is.length) := by
  have hle' : e'.length = ms.length := h'.len
  have hFM : ∀ k, OwnOf I w e (subM MEM is) k → ∃ (i : Nat) (u : Value) (n : En β), i ∈ is ∧ E[i]? = some u ∧ MEM[i]? = some n ∧ n.mu = true ∧ Own I w u n.ob k := fun k ⟨j, u, n, hu, hn', hmu', hf⟩ => by
    obtain ⟨i, hi, hx⟩ := mapM_get hn'
    have hlt := hb i (List.mem_of_getElem? hi)
    refine ⟨i, u, n, List.mem_of_getElem? hi, by rw [← he j i hi]; exact hu, ?_, hmu', hf⟩
    rw [List.getElem?_eq_getElem hlt] at hx ⊢
    exact congrArg some hx
  have hRM : ∀ k, ReadOf I w e (subM MEM is) k → ∃ (i : Nat) (u : Value) (n : En β), i ∈ is ∧ E[i]? = some u ∧ MEM[i]? = some n ∧ Foot I w u n.ob k := fun k ⟨j, u, n, hu, hn', hf⟩ => by
    obtain ⟨i, hi, hx⟩ := mapM_get hn'
    have hlt := hb i (List.mem_of_getElem? hi)
    refine ⟨i, u, n, List.mem_of_getElem? hi, by rw [← he j i hi]; exact hu, ?_, hf⟩
    rw [List.getElem?_eq_getElem hlt] at hx ⊢
    exact congrArg some hx
  have hmd : Mod (OwnOf I w e (subM MEM is)) w w' := h'.mod.mono fun k _ hk => footE.1 hk
  -- an entry that is not turned
  have hdis : ∀ (i : Nat) (u : Value) (n : En β), i ∉ is → E[i]? = some u → MEM[i]? = some n → ∀ k, Foot I w u n.ob k → ¬ OwnOf I w e (subM MEM is) k := fun i u n hi hu hn' k hk hF => by
    obtain ⟨i2, u2, n2, h2, g1, g2, g3, g4⟩ := hFM k hF
    exact hM.sep i2 i u2 u n2 n g1 g2 g3 hu hn' (fun e => hi (e ▸ h2)) k g4 hk
  have hout : ∀ (i : Nat) (u : Value) (n : En β), i ∉ is → E[i]? = some u → MEM[i]? = some n → Holds I E w' u n.mu n.ob ∧ ∀ k, Foot I w' u n.ob k → Foot I w u n.ob k := fun i u n hi hu hn' =>
    (hM.holds i u n hu hn').stay hmd (hdis i u n hi hu hn')
  have houtO : ∀ (i : Nat) (u : Value) (n : En β), i ∉ is → E[i]? = some u → MEM[i]? = some n → ∀ k, Own I w' u n.ob k → Own I w u n.ob k := fun i u n hi hu hn' =>
    (hM.holds i u n hu hn').stayO hmd (hdis i u n hi hu hn')
  -- what is there behind the call
  have hget : ∀ (i : Nat) (u : Value) (n : En β), (E ++ e'.drop is.length)[i]? = some u → (setL MEM is ms ++ ms.drop is.length)[i]? = some n →
      (i < MEM.length ∧ i ∉ is ∧ E[i]? = some u ∧ MEM[i]? = some n) ∨ ∃ j, e'[j]? = some u ∧ ms[j]? = some n ∧ ((j < is.length ∧ is[j]? = some i) ∨ (is.length ≤ j ∧ i = MEM.length + (j - is.length))) := fun i u n hu hn' => by
    have hEl : E.length = MEM.length := hM.len
    have hsl := setL_len is MEM ms
    rcases Nat.lt_or_ge i MEM.length with hi | hi
    · rw [List.getElem?_append_left (by omega)] at hu
      rw [List.getElem?_append_left (by omega)] at hn'
      by_cases him : i ∈ is
      · obtain ⟨j, hj, hje⟩ := List.getElem_of_mem him
        have hji : is[j]? = some i := by rw [List.getElem?_eq_getElem hj, hje]
        have hjm : j < ms.length := by omega
        have := setL_in is MEM ms j i _ hn hji (List.getElem?_eq_getElem hjm) hi
        rw [this] at hn'
        refine .inr ⟨j, hg j u (by rw [he j i hji]; exact hu), by rw [List.getElem?_eq_getElem hjm]; exact hn', .inl ⟨hj, hji⟩⟩
      · rw [setL_out is MEM ms him] at hn'
        exact .inl ⟨hi, him, hu, hn'⟩
    · rw [List.getElem?_append_right (by omega), List.getElem?_drop] at hu
      rw [List.getElem?_append_right (by omega), List.getElem?_drop] at hn'
      rw [hEl] at hu
      rw [hsl] at hn'
      exact .inr ⟨is.length + (i - MEM.length), hu, hn', .inr ⟨by omega, by omega⟩⟩
  -- what the callee left: what it reads, what it may turn
  have hin : ∀ (j : Nat) (u : Value) (n : En β), e'[j]? = some u → ms[j]? = some n → ∀ k, Foot I w' u n.ob k → w.heap.size ≤ k ∨ ∃ (i : Nat) (u2 : Value) (n2 : En β), i ∈ is ∧ E[i]? = some u2 ∧ MEM[i]? = some n2 ∧ Foot I w u2 n2.ob k := fun j u n hu hn' k hk => by
    rcases h'.rd j u n hu hn' k hk with h1 | h1
    · exact .inl h1
    · exact .inr (hRM k (footO.1 h1))
  have hinO : ∀ (j : Nat) (u : Value) (n : En β), e'[j]? = some u → ms[j]? = some n → n.mu = true → ∀ k, Own I w' u n.ob k → w.heap.size ≤ k ∨ ∃ (i : Nat) (u2 : Value) (n2 : En β), i ∈ is ∧ E[i]? = some u2 ∧ MEM[i]? = some n2 ∧ n2.mu = true ∧ Own I w u2 n2.ob k := fun j u n hu hn' hmu k hk => by
    rcases h'.own j u n hu hn' hmu k hk with h1 | h1
    · exact .inl h1
    · exact .inr (hFM k (footE.1 h1))
  refine ⟨by simp [setL_len, hM.len, hle'], fun i u n hu hn' => ?_, fun i u n hu hn' k hk => ?_, fun i u n hu hn' hmv k hk => ?_, fun i1 i2 u1 u2 n1 n2 hu1 hn1 hmv hu2 hn2 hij k hk1 hk2 => ?_, ?_, fun i u n hu hn' k hk => ?_⟩
  · rcases hget i u n hu hn' with ⟨_, hi, h1, h2⟩ | ⟨j, h1, h2, _⟩
    · exact ((hout i u n hi h1 h2).1).mono fun a x hx => by rw [List.getElem?_append_left (List.getElem?_eq_some_iff.1 hx).1]; exact hx
    · exact hfree n (List.mem_of_getElem? h2) e' _ w' u (h'.holds j u n h1 h2)
  · rcases hget i u n hu hn' with ⟨_, hi, h1, h2⟩ | ⟨j, h1, h2, _⟩
    · exact Nat.lt_of_lt_of_le (hM.lt i u n h1 h2 k ((hout i u n hi h1 h2).2 k hk)) h'.mod.size
    · exact h'.lt j u n h1 h2 k hk
  · rcases hget i u n hu hn' with ⟨_, hi, h1, h2⟩ | ⟨j, h1, h2, _⟩
    · exact hM.own i u n h1 h2 hmv k (houtO i u n hi h1 h2 k hk)
    · rcases hinO j u n h1 h2 hmv k hk with h3 | ⟨i2, u2, n2, _, g1, g2, g3, g4⟩
      · exact .inl (Nat.le_trans hM.mod.size h3)
      · exact hM.own i2 u2 n2 g1 g2 g3 k g4
  · rcases hget i1 u1 n1 hu1 hn1 with ⟨_, hi1, h1, h2⟩ | ⟨j1, h1, h2, hp1⟩
    · have q1 := houtO i1 u1 n1 hi1 h1 h2 k hk1
      rcases hget i2 u2 n2 hu2 hn2 with ⟨_, hi2, g1, g2⟩ | ⟨j2, g1, g2, hp2⟩
      · exact hM.sep i1 i2 u1 u2 n1 n2 h1 h2 hmv g1 g2 hij k q1 ((hout i2 u2 n2 hi2 g1 g2).2 k hk2)
      · rcases hin j2 u2 n2 g1 g2 k hk2 with h3 | ⟨i3, u3, n3, h3, f1, f2, f4⟩
        · have := hM.lt i1 u1 n1 h1 h2 k q1.foot; omega
        · exact hM.sep i1 i3 u1 u3 n1 n3 h1 h2 hmv f1 f2 (fun e => hi1 (e ▸ h3)) k q1 f4
    · rcases hget i2 u2 n2 hu2 hn2 with ⟨_, hi2, g1, g2⟩ | ⟨j2, g1, g2, hp2⟩
      · have q2 := (hout i2 u2 n2 hi2 g1 g2).2 k hk2
        rcases hinO j1 u1 n1 h1 h2 hmv k hk1 with h3 | ⟨i3, u3, n3, h3, f1, f2, f3, f4⟩
        · have := hM.lt i2 u2 n2 g1 g2 k q2; omega
        · exact hM.sep i3 i2 u3 u2 n3 n2 f1 f2 f3 g1 g2 (fun e => hi2 (e ▸ h3)) k f4 q2
      · refine h'.sep j1 j2 u1 u2 n1 n2 h1 h2 hmv g1 g2 (fun e => hij ?_) k hk1 hk2
        subst e
        rcases hp1 with ⟨a1, a2⟩ | ⟨a1, a2⟩
        · rcases hp2 with ⟨b1, b2⟩ | ⟨b1, b2⟩
          · rw [a2] at b2; cases b2; rfl
          · omega
        · rcases hp2 with ⟨b1, b2⟩ | ⟨b1, b2⟩
          · omega
          · omega
  · refine Mod.trans hM.mod hmd fun k hF hl0 => ?_
    obtain ⟨i, u, n, _, g1, g2, g3, g4⟩ := hFM k hF
    rcases hM.own i u n g1 g2 g3 k g4 with h | h
    · omega
    · exact h
  · rcases hget i u n hu hn' with ⟨_, hi, h1, h2⟩ | ⟨j, h1, h2, _⟩
    · exact hM.rd i u n h1 h2 k ((hout i u n hi h1 h2).2 k hk)
    · rcases hin j u n h1 h2 k hk with h3 | ⟨i2, u2, n2, _, g1, g2, g4⟩
      · exact .inl (Nat.le_trans hM.mod.size h3)
      · exact hM.rd i2 u2 n2 g1 g2 k g4

/-! ### Numbers anew -/
def renN (is : List Nat) (m : Nat) (j : Nat) : Nat := match is[j]? with | some i => i | none => m + (j - is.length)
def renP (is : List Nat) (m : Nat) : PV → PV
  | .ptr j off => forceN (renN is m j) fun i => .ptr i off
  | .elt j sz idx off => forceN (renN is m j) fun i => .elt i sz idx off
  | .obj j => forceN (renN is m j) fun i => .obj i
  | .sub j sz lo hi => forceN (renN is m j) fun i => .sub i sz lo hi
  | p => p
def renC (is : List Nat) (m : Nat) : CV → CV
  | .one p => .one (renP is m p)
  | .agg ps => .agg (ps.map (renP is m))
def renS (is : List Nat) (m : Nat) : SV → SV
  | .c x => .c (renC is m x)
  | .tup xs => .tup (xs.map (renC is m))
  | x => x
theorem renP_is {is : List Nat} {m : Nat} (h : ∀ (j : Nat) (x : Value), e'[j]? = some x → E[renN is m j]? = some x) {p : PV} {u : Value} (hu : p.is e' u) : (renP is m p).is E u := by
  cases p with
  | v x => exact hu
  | kI k n => exact hu
  | kB b => exact hu
  | kS s => exact hu
  | ptr i off => obtain ⟨b, o, h1, h2⟩ := hu; simp only [renP, forceN_eq]; exact ⟨b, o, h _ _ h1, h2⟩
  | elt i sz idx off => obtain ⟨b, o, n, c, h1, h2⟩ := hu; simp only [renP, forceN_eq]; exact ⟨b, o, n, c, h _ _ h1, h2⟩
  | obj i => simp only [renP, forceN_eq]; exact h _ _ hu
  | sub i sz lo hi => obtain ⟨ao, n, c, h1, h2⟩ := hu; simp only [renP, forceN_eq]; exact ⟨ao, n, c, h _ _ h1, h2⟩
  | any => trivial
theorem renPs_is {is : List Nat} {m : Nat} (h : ∀ (j : Nat) (x : Value), e'[j]? = some x → E[renN is m j]? = some x) : ∀ {ps : List PV} {us : List Value}, AllIs e' ps us → AllIs E (ps.map (renP is m)) us
  | [], [], _ => trivial
  | _ :: _, _ :: _, ⟨h1, h2⟩ => ⟨renP_is h h1, renPs_is h h2⟩
  | [], _ :: _, h => h.elim
  | _ :: _, [], h => h.elim
theorem renC_is {is : List Nat} {m : Nat} (h : ∀ (j : Nat) (x : Value), e'[j]? = some x → E[renN is m j]? = some x) {c : CV} {u : Value} (hu : c.is e' u) : (renC is m c).is E u := by
  cases c with
  | one p => exact renP_is h hu
  | agg ps => obtain ⟨us, h1, rfl⟩ := hu; exact ⟨us, renPs_is h h1, rfl⟩
theorem renCs_is {is : List Nat} {m : Nat} (h : ∀ (j : Nat) (x : Value), e'[j]? = some x → E[renN is m j]? = some x) : ∀ {cs : List CV} {us : List Value}, AllC e' cs us → AllC E (cs.map (renC is m)) us
  | [], [], _ => trivial
  | _ :: _, _ :: _, ⟨h1, h2⟩ => ⟨renC_is h h1, renCs_is h h2⟩
  | [], _ :: _, h => h.elim
  | _ :: _, [], h => h.elim
def plainS : SV → Bool
  | .c _ => true
  | .tup _ => true
  | _ => false
theorem renS_is {is : List Nat} {m : Nat} (h : ∀ (j : Nat) (x : Value), e'[j]? = some x → E[renN is m j]? = some x) {s : SV} (hs : plainS s = true) {u : Value} (hu : s.is e' u) : (renS is m s).is E u := by
  cases s with
  | c x => exact renC_is h hu
  | tup xs => obtain ⟨us, h1, rfl⟩ := hu; exact ⟨us, renCs_is h h1, rfl⟩
  | fn f a b => cases hs
  | gd b x => cases hs

/-! ### Rows -/
/-- A callee that turns things: which they are, what it asks, its answer and what they are behind it, with what is new (in numbers of its own). -/
abbrev Spec (β : Type) := List CV → Mem β → Option (List Nat × List Prop × SV × Mem β)
def nodupB : List Nat → Bool
  | [] => true
  | x :: xs => !memL x xs && nodupB xs
def ltB (m : Nat) : List Nat → Bool
  | [] => true
  | x :: xs => leb (x + 1) m && ltB m xs
/-- What may be turned is turned; what is new may be. -/
def okMs (hard : β → Bool) (mem : Mem β) : List Nat → Mem β → Bool
  | i :: is, n :: ms => (match n.mu with
      | true => (match mem[i]? with | some x => !solid hard x | none => false)
      | false => true) && okMs hard mem is ms
  | [], n :: ms => n.mu && okMs hard mem [] ms
  | [], [] => true
  | _ :: _, [] => false
def rowG (hard : β → Bool) (spec : Spec β) : Fn2 β := fun us mem => match spec us mem with
  | some (is, ps, r, ms) => (match (nodupB is && ltB mem.length is) && (okMs hard mem is ms && plainS r) with
    | true => some (ps, renS is mem.length r, some (setL mem is ms ++ ms.drop is.length))
    | false => none)
  | none => none
theorem memL_iff {d : Nat} : ∀ {l : List Nat}, memL d l = true ↔ d ∈ l
  | [] => by simp [memL]
  | x :: l => by
    simp only [memL, Bool.or_eq_true, memL_iff (l := l), List.mem_cons, eqb_eq]
    constructor
    · rintro (h | h)
      · exact .inl h.symm
      · exact .inr h
    · rintro (h | h)
      · exact .inl h.symm
      · exact .inr h
theorem nodupB_iff : ∀ {is : List Nat}, nodupB is = true → ∀ a b c : Nat, is[a]? = some c → is[b]? = some c → a = b
  | [], _, a, b, c, ha, _ => by simp at ha
  | x :: xs, h, a, b, c, ha, hb => by
    simp only [nodupB, Bool.and_eq_true] at h
    have hx : x ∉ xs := fun hm => by rw [memL_iff.2 hm] at h; simp at h
    cases a with
    | zero =>
      cases b with
      | zero => rfl
      | succ b =>
        simp at ha hb
        subst ha
        exact absurd (List.mem_of_getElem? hb) hx
    | succ a =>
      cases b with
      | zero =>
        simp at ha hb
        subst hb
        exact absurd (List.mem_of_getElem? ha) hx
      | succ b =>
        have := nodupB_iff h.2 a b c (by simpa using ha) (by simpa using hb)
        omega
theorem ltB_mem {m : Nat} : ∀ {is : List Nat}, ltB m is = true → ∀ i ∈ is, i < m
  | [], _, i, h => by cases h
  | x :: xs, h, i, hi => by
    simp only [ltB, Bool.and_eq_true] at h
    rcases List.mem_cons.1 hi with rfl | hi
    · exact leb_le.1 h.1
    · exact ltB_mem h.2 i hi
theorem okMs_spec {hard : β → Bool} {mem : Mem β} : ∀ {is : List Nat} {ms : Mem β}, okMs hard mem is ms = true → is.length ≤ ms.length ∧ (∀ (j : Nat) (n : En β), ms[j]? = some n → n.mu = true ∨ j < is.length) ∧
    ∀ (j i : Nat) (n : En β), is[j]? = some i → ms[j]? = some n → n.mu = true → ∃ x, mem[i]? = some x ∧ solid hard x = false
  | [], [], _ => ⟨Nat.le_refl _, (fun j n h => by simp at h), fun j i n h => by simp at h⟩
  | [], n :: ms, h => by
    simp only [okMs, Bool.and_eq_true] at h
    obtain ⟨h1, h3⟩ := h
    obtain ⟨a, c, d⟩ := okMs_spec h3
    refine ⟨Nat.zero_le _, fun j m hm => ?_, fun j i n h => by simp at h⟩
    · cases j with
      | zero => simp at hm; subst hm; exact .inl h1
      | succ j => exact (c j m (by simpa using hm)).elim .inl fun h => absurd h (by simp)
  | i :: is, [], h => by simp [okMs] at h
  | i :: is, n :: ms, h => by
    simp only [okMs, Bool.and_eq_true] at h
    obtain ⟨h1, h3⟩ := h
    obtain ⟨a, c, d⟩ := okMs_spec h3
    refine ⟨by simpa using a, fun j m hm => ?_, fun j i' m hi hm hmu => ?_⟩
    · cases j with
      | zero => exact .inr (by simp)
      | succ j => exact (c j m (by simpa using hm)).elim .inl fun h => .inr (by simpa using h)
    · cases j with
      | zero =>
        simp at hi hm
        subst hi; subst hm
        rw [hmu] at h1
        simp only at h1
        split at h1
        · rename_i x hx; exact ⟨x, hx, by simpa using h1⟩
        · cases h1
      | succ j => exact d j i' m (by simpa using hi) (by simpa using hm) hmu
/-- What is known of a callee's row. -/
structure RowOk (P : Program) (I : ObI β) (hard : β → Bool) (f : FuncId) (g : Fn2 β) : Prop where
  enter : ∀ us w, (callFunc f us).run P w = .ok (.enter f us) w
  run : ∀ W0 G args mem ps r mo, g args mem = some (ps, r, mo) → (∀ p ∈ ps, p) → ∀ w e us, MemOk W0 G I w e mem → AllC e args us → Calls P f us.toArray w (fun x w' => ∃ v, x = .returned v ∧
      match mo with | none => r.is e v ∧ Ext w w' | some m' => ∃ e', Grows e e' ∧ r.is e' v ∧ MemOk W0 G I w' e' m')
  mono : ∀ args m m' ps r, g args m = some (ps, r, none) → MLe m m' → g args m' = some (ps, r, none)
  loc : ∀ args mem ps r m', g args mem = some (ps, r, some m') → SLe hard mem m'
theorem rowG_ok {hard : β → Bool} {f : FuncId} {spec : Spec β} (he : ∀ us w, (callFunc f us).run P w = .ok (.enter f us) w)
    (h : ∀ args mem is ps r ms, spec args mem = some (is, ps, r, ms) → (∀ (j i : Nat) (n : En β), is[j]? = some i → ms[j]? = some n → n.mu = false → mem[i]? = some n) ∧ (∀ n ∈ subM mem is, EnvFree I n) ∧ (∀ n ∈ ms, EnvFree I n) ∧
      ((∀ p ∈ ps, p) → ∀ W0 G w E us e, MemOk W0 G I w E mem → AllC E args us → e.length = is.length → (∀ j i : Nat, is[j]? = some i → e[j]? = E[i]?) → MemOk w (FootOf I w e (subM mem is)) I w e (subM mem is) →
        Calls P f us.toArray w (fun x w' => ∃ v e', x = .returned v ∧ Grows e e' ∧ r.is e' v ∧ MemOk w (FootOf I w e (subM mem is)) I w' e' ms))) : RowOk P I hard f (rowG hard spec) := by
  refine ⟨he, fun W0 G args mem ps r mo hr hp w E us hM ha => ?_, fun args m m' ps r hr => ?_, fun args mem ps r m' hr => ?_⟩
  · unfold rowG at hr
    split at hr
    · rename_i is ps' r' ms hs
      split at hr
      · rename_i hB
        simp only [Option.some.injEq, Prod.mk.injEq] at hr
        obtain ⟨rfl, rfl, rfl⟩ := hr
        simp only [Bool.and_eq_true] at hB
        obtain ⟨⟨hB1, hB2⟩, hB3, hB4⟩ := hB
        obtain ⟨hro, hfr, hfr2, hc⟩ := h args mem is ps' r' ms hs
        have hn := nodupB_iff hB1
        have hb := ltB_mem hB2
        obtain ⟨q1, q3, q4⟩ := okMs_spec hB3
        let e : Env := is.map fun i => E.getD i undef
        have hel : e.length = is.length := by simp [e]
        have hee : ∀ j i : Nat, is[j]? = some i → e[j]? = E[i]? := fun j i hj => by
          have hlt : i < E.length := by rw [hM.len]; exact hb i (List.mem_of_getElem? hj)
          simp only [e, List.getElem?_map, hj, Option.map_some, List.getD_eq_getElem?_getD]
          rw [List.getElem?_eq_getElem hlt]; rfl
        have hsub := sub_ok (e := e) hM hn hb hel hee hfr
        refine (hc hp W0 G w E us e hM ha hel hee hsub).mono fun x w' ⟨v, e', hx, hg, hv, hM'⟩ => ⟨v, hx, E ++ e'.drop is.length, fun i u hu => by rw [List.getElem?_append_left (List.getElem?_eq_some_iff.1 hu).1]; exact hu, ?_, ?_⟩
        · refine renS_is (fun j u hj => ?_) hB4 hv
          unfold renN
          cases hji : is[j]? with
          | some i =>
            simp only
            have hlt : i < E.length := by rw [hM.len]; exact hb i (List.mem_of_getElem? hji)
            rw [List.getElem?_append_left hlt]
            have h1 := hee j i hji
            rw [List.getElem?_eq_getElem hlt] at h1 ⊢
            have := hg j _ h1
            rw [hj] at this
            exact this.symm
          | none =>
            simp only
            have hge : is.length ≤ j := by
              rcases Nat.lt_or_ge j is.length with h | h
              · rw [List.getElem?_eq_getElem h] at hji; cases hji
              · exact h
            rw [← hM.len, List.getElem?_append_right (by omega), List.getElem?_drop, show is.length + (E.length + (j - is.length) - E.length) = j by omega]
            exact hj
        · refine frame hM hn hb hel hee hM' hg q1 hfr2 fun j n hj => ?_
          cases hmu : n.mu with
          | true => exact .inl rfl
          | false =>
            rcases q3 j n hj with h1 | h1
            · rw [hmu] at h1; cases h1
            · refine .inr ⟨h1, ?_⟩
              have hji : is[j]? = some is[j] := List.getElem?_eq_getElem h1
              have := hro j is[j] n hji hj hmu
              simp only [subM, List.getElem?_map, hji, Option.map_some, this]
      · cases hr
    · cases hr
  · unfold rowG at hr
    split at hr
    · split at hr <;> simp at hr
    · cases hr
  · unfold rowG at hr
    split at hr
    · rename_i is ps' r' ms hs
      split at hr
      · rename_i hB
        simp only [Option.some.injEq, Prod.mk.injEq] at hr
        obtain ⟨_, _, rfl⟩ := hr
        simp only [Bool.and_eq_true] at hB
        obtain ⟨⟨hB1, hB2⟩, hB3, _⟩ := hB
        obtain ⟨hro, _, _, _⟩ := h args mem is ps' r' ms hs
        have hn := nodupB_iff hB1
        have hb := ltB_mem hB2
        obtain ⟨q1, q3, q4⟩ := okMs_spec hB3
        intro i en hi hsol
        have hlt : i < mem.length := (List.getElem?_eq_some_iff.1 hi).1
        rw [List.getElem?_append_left (by rw [setL_len]; exact hlt)]
        by_cases him : i ∈ is
        · obtain ⟨j, hj, hje⟩ := List.getElem_of_mem him
          have hji : is[j]? = some i := by rw [List.getElem?_eq_getElem hj, hje]
          have hjm : j < ms.length := by omega
          have hmj := List.getElem?_eq_getElem hjm
          rw [setL_in is mem ms j i _ hn hji hmj hlt]
          cases hmu : ms[j].mu with
          | true =>
            obtain ⟨x, hx, hns⟩ := q4 j i _ hji hmj hmu
            rw [hi] at hx; cases hx
            rw [hns] at hsol; cases hsol
          | false =>
            have := hro j i _ hji hmj hmu
            rw [hi] at this
            exact this.symm
        · rw [setL_out is mem ms him]; exact hi
      · cases hr
    · cases hr
def FnsR (P : Program) (I : ObI β) (hard : β → Bool) (F : Fns β) : Prop := ∀ f g, fnGet f F = some g → RowOk P I hard f g
theorem FnsR.nil {hard : β → Bool} : FnsR P I hard ([] : Fns β) := fun f g h => by cases h
theorem FnsR.cons {hard : β → Bool} {F : Fns β} {f : FuncId} {g : Fn2 β} (h : RowOk P I hard f g) (ht : FnsR P I hard F) : FnsR P I hard ((f, g) :: F) := fun f' g' hg => by
  simp only [fnGet] at hg
  split at hg
  · rename_i hb
    have := eqb_eq.1 hb
    subst this
    simp only [Option.some.injEq] at hg
    subst hg
    exact h
  · exact ht f' g' hg
/-- One of values alone. -/
theorem vfn_ok {hard : β → Bool} {f : FuncId} {g : List Value → Option (List Prop × Value)} (he : ∀ us w, (callFunc f us).run P w = .ok (.enter f us) w)
    (h : ∀ args ps r, g args = some (ps, r) → (∀ p ∈ ps, p) → ∀ w, Calls P f args.toArray w (fun e w' => e = .returned r ∧ Ext w w')) : RowOk P I hard f (vfn g) := by
  have hno : ∀ (args : List CV) (mem : Mem β) ps r m', (vfn g args mem : Option (List Prop × SV × Option (Mem β))) = some (ps, r, some m') → False := fun args mem ps r m' hr => by
    unfold vfn at hr
    split at hr
    · split at hr
      · simp at hr
      · cases hr
    · cases hr
  refine ⟨he, fun W0 G args mem ps r mo hr hp w e us hM ha => ?_, fun args m m' ps r hr _ => hr, fun args mem ps r m' hr => (hno _ _ _ _ _ hr).elim⟩
  unfold vfn at hr
  split at hr
  · rename_i vs hvs
    split at hr
    · rename_i ps' v hg
      simp only [Option.some.injEq, Prod.mk.injEq] at hr
      obtain ⟨rfl, rfl, rfl⟩ := hr
      rw [mapO_valC hvs ha]
      exact (h vs ps' v hg hp w).mono fun x w' ⟨h1, h2⟩ => ⟨v, h1, svOf_is e v, h2⟩
    · cases hr
  · cases hr
/-- Operations with rows of their own. -/
structure HoOk (P : Program) (H : Ho β) (I : ObI β) : Prop where
  app : ∀ W0 G t args mem ps r m', H.app t args mem = some (ps, r, some m') → (∀ p ∈ ps, p) → ∀ ty w e us, MemOk W0 G I w e mem → AllC e args us →
    ∃ e' v w', Grows e e' ∧ (Builtin.append_ #[t, t] ty us.toArray).run P w = .ok v w' ∧ r.is e' v ∧ MemOk W0 G I w' e' m'
  ops : ∀ W0 G op args mem ps r mo, H.ops op args mem = some (ps, r, mo) → (∀ p ∈ ps, p) → ∀ (o : Oper) ρ w e, o.op = op → MemOk W0 G I w e mem → AllC e args (op.operands.toList.map ρ) →
    givesUpon P (fun v w' => match mo with | none => r.is e v ∧ Ext w w' | some m' => ∃ e', Grows e e' ∧ r.is e' v ∧ MemOk W0 G I w' e' m') ((execOp ρ o).run P w)
  opm : ∀ op args m m' ps r, H.ops op args m = some (ps, r, none) → MLe m m' → H.ops op args m' = some (ps, r, none)
  opb : ∀ t k qs args mem ps r m', allB noHC args = true → H.ops (.buildSlice t k qs) args mem = some (ps, r, some m') → SLe H.hard mem m'
  opa : ∀ t args mem ps r m', H.ops (.alloc t) args mem = some (ps, r, some m') → SLe H.hard mem m'
  apl : ∀ t u v mem ps r m', H.app t [u, v] mem = some (ps, r, some m') → ∀ j en, mem[j]? = some en → (∀ p, u = .one p → placeP p ≠ some j) → m'[j]? = some en
  ost : ∀ t x y p v mem ps r m', H.ops (.store t x y) [.one p, v] mem = some (ps, r, some m') → ∃ i, placeP p = some i ∧ ∀ j en, mem[j]? = some en → j ≠ i → m'[j]? = some en
theorem SyOk0.mk2 {E : EqFns} {fuel : Nat} {H : Ho β} {F : Fns β} (hm : P.follows .mixedOrders = true) (hH : HoOk P H I) (hF : FnsR P I H.hard F) (hE : ∀ ty g, eqGet ty E = some g → P.eqGuardType P.depth ty = false ∧ ∀ (u v : Array Value) b, g u.toList v.toList = some b → ∀ w, (Op.equal ty (.agg u) (.agg v)).run P w = .ok b w) :
    SyOk0 (⟨P, F, E, H, I.one, fuel⟩ : Sy β) I W0 G :=
  ⟨hm, rfl, (fun f g hg args mem ps r mo hr hp => ⟨(hF f g hg).enter, (hF f g hg).run W0 G args mem ps r mo hr hp⟩), hE, (fun t args mem ps r m' h hp => hH.app W0 G t args mem ps r m' h hp), (fun op args mem ps r mo h hp => hH.ops W0 G op args mem ps r mo h hp),
    (fun _ => hH.opm), (fun _ f g hg => (hF f g hg).mono), (fun _ f g hg => (hF f g hg).loc), (fun _ => hH.opb), (fun _ => hH.opa), (fun _ => hH.ost), (fun _ => hH.apl)⟩
theorem SyOk.mk2 {E : EqFns} {fuel : Nat} {H : Ho β} {F : Fns β} (hm : P.follows .mixedOrders = true) (hH : HoOk P H I) (hF : FnsR P I H.hard F) (hE : ∀ ty g, eqGet ty E = some g → P.eqGuardType P.depth ty = false ∧ ∀ (u v : Array Value) b, g u.toList v.toList = some b → ∀ w, (Op.equal ty (.agg u) (.agg v)).run P w = .ok b w) :
    SyOk (⟨P, F, E, H, I.one, fuel⟩ : Sy β) I W0 G := ⟨SyOk0.mk2 hm hH hF hE, fun _ W1 G1 => SyOk0.mk2 hm hH hF hE⟩
end
end Go.Proofs.Ytonomiljclemnaa


set_option linter.unusedVariables false
set_option linter.unusedSimpArgs false
namespace Go.Proofs.Ytonomiljclemnaa
open Go.RowKit

section
variable {β : Type} {S : Sy β} {I : ObI β} {W0 : World} {G : Nat → Prop} {L : Lps β} {sz : Nat} {w w' : World} {e e' : Env} {mem : Mem β}

/-- Things that are taken out of their places. -/
def killL : Mem β → List (Option Nat) → Mem β
  | m, [] => m
  | m, none :: xs => killL m xs
  | m, some i :: xs => killL (m.set i ⟨.dead, true⟩) xs
theorem killL_len : ∀ (xs : List (Option Nat)) (m : Mem β), (killL m xs).length = m.length
  | [], _ => rfl
  | none :: xs, m => by simp only [killL]; exact killL_len xs m
  | some i :: xs, m => by simp only [killL]; rw [killL_len xs]; simp
theorem killL_get {i : Nat} : ∀ (xs : List (Option Nat)) (m : Mem β), ((killL m xs)[i]? = m[i]? ∧ some i ∉ xs) ∨ ((killL m xs)[i]? = (m[i]?).map fun _ => ⟨.dead, true⟩)
  | [], m => .inl ⟨rfl, (fun h => by cases h)⟩
  | none :: xs, m => by
    simp only [killL]
    rcases killL_get xs m with ⟨h1, h2⟩ | h
    · exact .inl ⟨h1, fun hm => by
        rcases List.mem_cons.1 hm with h | h
        · cases h
        · exact h2 h⟩
    · exact .inr h
  | some j :: xs, m => by
    simp only [killL]
    by_cases hij : i = j
    · subst hij
      rcases killL_get xs (m.set i ⟨.dead, true⟩) with ⟨h1, _⟩ | h
      · right
        rw [h1]
        cases hm : m[i]? with
        | none => rw [List.getElem?_eq_none (by simpa using hm)]; rfl
        | some x => rw [List.getElem?_set_self (List.getElem?_eq_some_iff.1 hm).1]; rfl
      · right
        rw [h]
        cases hm : m[i]? with
        | none => rw [List.getElem?_eq_none (by simpa using hm)]
        | some x => rw [List.getElem?_set_self (List.getElem?_eq_some_iff.1 hm).1]; rfl
    · have hs : (m.set j ⟨.dead, true⟩)[i]? = m[i]? := List.getElem?_set_ne (fun e => hij e.symm)
      rcases killL_get xs (m.set j ⟨.dead, true⟩) with ⟨h1, h2⟩ | h
      · exact .inl ⟨h1.trans hs, fun hm => by
          rcases List.mem_cons.1 hm with h | h
          · simp only [Option.some.injEq] at h; exact hij h
          · exact h2 h⟩
      · exact .inr (by rw [h, hs])
def distB : List (Option Nat) → Bool
  | [] => true
  | none :: xs => distB xs
  | some i :: xs => !memO i xs && distB xs
theorem distB_iff : ∀ {xs : List (Option Nat)}, distB xs = true → ∀ (j j' i : Nat), xs[j]? = some (some i) → xs[j']? = some (some i) → j = j'
  | [], _, j, j', i, h, _ => by simp at h
  | none :: xs, h, j, j', i, h1, h2 => by
    cases j with
    | zero => simp at h1
    | succ j =>
      cases j' with
      | zero => simp at h2
      | succ j' =>
        have := distB_iff (xs := xs) h j j' i (by simpa using h1) (by simpa using h2)
        omega
  | some x :: xs, h, j, j', i, h1, h2 => by
    simp only [distB, Bool.and_eq_true] at h
    have hx : some x ∉ xs := fun hm => by rw [memO_mem.2 hm] at h; simp at h
    cases j with
    | zero =>
      cases j' with
      | zero => rfl
      | succ j' =>
        simp at h1 h2
        subst h1
        exact absurd (List.mem_of_getElem? h2) hx
    | succ j =>
      cases j' with
      | zero =>
        simp at h1 h2
        subst h2
        exact absurd (List.mem_of_getElem? h1) hx
      | succ j' =>
        have := distB_iff h.2 j j' i (by simpa using h1) (by simpa using h2)
        omega
theorem MemOk.move (h : MemOk W0 G I w e mem) {xs : List (Option Nat)} (hd : distB xs = true) (hus : allB (usOf mem) xs = true) {nl : β} (hnl : ∀ w, I.holds nl w nilV ∧ ∀ j, ¬ I.foot nl w nilV j) :
    MemOk W0 G I w (pEnv mem.length e xs) (killL mem xs ++ xs.map (enOf nl mem)) := by
  have hke : mem.length ≤ e.length := by rw [h.len]; exact Nat.le_refl _
  have hget : ∀ (i : Nat) (u : Value) (n : En β), (pEnv mem.length e xs)[i]? = some u → (killL mem xs ++ xs.map (enOf nl mem))[i]? = some n →
      (i < mem.length ∧ e[i]? = some u ∧ mem[i]? = some n ∧ some i ∉ xs) ∨ (i < mem.length ∧ e[i]? = some u ∧ n = ⟨.dead, true⟩ ∧ ∃ m, mem[i]? = some m) ∨
      (mem.length ≤ i ∧ ∃ i', xs[i - mem.length]? = some (some i') ∧ e[i']? = some u ∧ mem[i']? = some n ∧ isUs n = true) ∨ (mem.length ≤ i ∧ u = nilV ∧ n = ⟨.us nl, true⟩) := fun i u n hu hn => by
    rcases Nat.lt_or_ge i mem.length with hi | hi
    · rw [pEnv_lo hke xs hi] at hu
      rw [List.getElem?_append_left (by rw [killL_len]; exact hi)] at hn
      rcases killL_get (i := i) xs mem with ⟨h1, h2⟩ | h1
      · rw [h1] at hn; exact .inl ⟨hi, hu, hn, h2⟩
      · rw [h1, List.getElem?_eq_getElem hi] at hn
        simp only [Option.map_some, Option.some.injEq] at hn
        exact .inr (.inl ⟨hi, hu, hn.symm, _, List.getElem?_eq_getElem hi⟩)
    · obtain ⟨j, rfl⟩ : ∃ j, i = mem.length + j := ⟨i - mem.length, by omega⟩
      rw [pEnv_hi hke] at hu
      rw [List.getElem?_append_right (by rw [killL_len]; omega), killL_len, show mem.length + j - mem.length = j by omega] at hn
      obtain ⟨x, hxj, hn⟩ := mapM_get hn
      rw [hxj] at hu
      simp only [Option.map_some, Option.some.injEq] at hu
      rw [show mem.length + j - mem.length = j by omega]
      cases x with
      | none => exact .inr (.inr (.inr ⟨hi, hu.symm, hn.symm⟩))
      | some i' =>
        have hu' := allB_mem hus _ (List.mem_of_getElem? hxj)
        simp only [usOf] at hu'
        cases hm : mem[i']? with
        | none => rw [hm] at hu'; cases hu'
        | some m =>
          rw [hm] at hu'
          simp only [enOf, hm] at hn
          subst hn
          have hl : i' < e.length := by rw [h.len]; exact (List.getElem?_eq_some_iff.1 hm).1
          simp only [evOf, List.getElem?_eq_getElem hl] at hu
          exact .inr (.inr (.inl ⟨hi, i', hxj, by rw [List.getElem?_eq_getElem hl, hu], hm, hu'⟩))
  have hgr : Grows e (pEnv mem.length e xs) := fun i x hx => by
    have hi : i < mem.length := by rw [← h.len]; exact (List.getElem?_eq_some_iff.1 hx).1
    rw [pEnv_lo hke xs hi]; exact hx
  refine ⟨by rw [pEnv_len hke]; simp [killL_len], fun i u n hu hn => ?_, fun i u n hu hn k hk => ?_, fun i u n hu hn hmu k hk => ?_, fun i j u v n m hu hn hmu hv hm hij k hk1 hk2 => ?_, h.mod, fun i u n hu hn k hk => ?_⟩
  · rcases hget i u n hu hn with ⟨_, h1, h2, _⟩ | ⟨_, h1, rfl, m, hm⟩ | ⟨_, i', _, h1, h2, h3⟩ | ⟨_, rfl, rfl⟩
    · exact (h.holds i u n h1 h2).mono hgr
    · exact (h.holds i u m h1 hm).oneCell
    · exact (h.holds i' u n h1 h2).mono hgr
    · exact (hnl w).1
  · rcases hget i u n hu hn with ⟨_, h1, h2, _⟩ | ⟨_, h1, rfl, m, hm⟩ | ⟨_, i', _, h1, h2, h3⟩ | ⟨_, rfl, rfl⟩
    · exact h.lt i u n h1 h2 k hk
    · exact hk.elim
    · exact h.lt i' u n h1 h2 k hk
    · exact absurd hk ((hnl w).2 k)
  · rcases hget i u n hu hn with ⟨_, h1, h2, _⟩ | ⟨_, h1, rfl, m, hm⟩ | ⟨_, i', _, h1, h2, h3⟩ | ⟨_, rfl, rfl⟩
    · exact h.own i u n h1 h2 hmu k hk
    · exact hk.elim
    · exact h.own i' u n h1 h2 hmu k hk
    · exact absurd hk.foot ((hnl w).2 k)
  · rcases hget i u n hu hn with ⟨_, h1, h2, h3⟩ | ⟨_, h1, rfl, m, hm⟩ | ⟨hi, i', hxi, h1, h2, h3⟩ | ⟨_, rfl, rfl⟩
    · rcases hget j v m hv hm with ⟨_, g1, g2, g3⟩ | ⟨_, g1, rfl, m, gm⟩ | ⟨_, j', hxj, g1, g2, g3⟩ | ⟨_, rfl, rfl⟩
      · exact h.sep i j u v n m h1 h2 hmu g1 g2 hij k hk1 hk2
      · exact hk2.elim
      · exact h.sep i j' u v n m h1 h2 hmu g1 g2 (fun e => h3 (e ▸ List.mem_of_getElem? hxj)) k hk1 hk2
      · exact absurd hk2 ((hnl w).2 k)
    · exact hk1.elim
    · rcases hget j v m hv hm with ⟨_, g1, g2, g3⟩ | ⟨_, g1, rfl, m, gm⟩ | ⟨hj, j', hxj, g1, g2, g3⟩ | ⟨_, rfl, rfl⟩
      · exact h.sep i' j u v n m h1 h2 hmu g1 g2 (fun e => g3 (e ▸ List.mem_of_getElem? hxi)) k hk1 hk2
      · exact hk2.elim
      · refine h.sep i' j' u v n m h1 h2 hmu g1 g2 (fun e => hij ?_) k hk1 hk2
        subst e
        have := distB_iff hd _ _ i' hxi hxj
        omega
      · exact absurd hk2 ((hnl w).2 k)
    · exact absurd hk1.foot ((hnl w).2 k)
  · rcases hget i u n hu hn with ⟨_, h1, h2, _⟩ | ⟨_, h1, rfl, m, hm⟩ | ⟨_, i', _, h1, h2, h3⟩ | ⟨_, rfl, rfl⟩
    · exact h.rd i u n h1 h2 k hk
    · exact hk.elim
    · exact h.rd i' u n h1 h2 k hk
    · exact absurd hk ((hnl w).2 k)

/-! ### Slots, named anew -/
def fitI (k0 : Nat) (xs : List (Option Nat)) (i n : Nat) : Bool := (eqb n i && leb (i + 1) k0) || (leb k0 n && (match xs[n - k0]? with | some (some j) => eqb j i | _ => false))
def fitN (k0 : Nat) (xs : List (Option Nat)) (n : Nat) : Bool := leb k0 n && (match xs[n - k0]? with | some none => true | _ => false)
def fitR (k0 : Nat) (xs : List (Option Nat)) : SV → SV → Prop
  | .c (.one (.obj i)), .c (.one (.obj n)) => fitI k0 xs i n = true
  | .c (.one (.v (.slice none 0 0))), .c (.one (.obj n)) => fitN k0 xs n = true
  | y, x => vS y = vS x ∧ scS k0 x = true
def FitR (k0 : Nat) (xs : List (Option Nat)) : List (Nat × SV) → List (Nat × SV) → Prop
  | [], _ => True
  | (t, x) :: r, b => (match baseGet t b with | some y => fitR k0 xs y x | none => False) ∧ FitR k0 xs r b
theorem fitI_is {k0 : Nat} (hk : k0 ≤ e.length) {xs : List (Option Nat)} {i n : Nat} (h : fitI k0 xs i n = true) {u : Value} (hu : e[i]? = some u) : (pEnv k0 e xs)[n]? = some u := by
  unfold fitI at h
  rw [Bool.or_eq_true, Bool.and_eq_true, Bool.and_eq_true] at h
  rcases h with ⟨h1, h2⟩ | ⟨h1, h2⟩
  · have h1 := eqb_eq.1 h1
    subst h1
    rw [pEnv_lo hk xs (leb_le.1 h2)]; exact hu
  · have h1 := leb_le.1 h1
    split at h2
    · rename_i j hj
      have h2 := eqb_eq.1 h2
      subst h2
      obtain ⟨q, rfl⟩ : ∃ q, n = k0 + q := ⟨n - k0, by omega⟩
      rw [show k0 + q - k0 = q by omega] at hj
      rw [pEnv_hi hk, hj]
      simp [evOf, hu]
    · cases h2
theorem scS_pEnv {k0 : Nat} (hk : k0 ≤ e.length) (xs : List (Option Nat)) {x : SV} (h : scS k0 x = true) {u : Value} (hu : x.is e u) : x.is (pEnv k0 e xs) u :=
  SV.is_mono (fun i y hy => by
    rw [List.getElem?_take] at hy
    split at hy
    · rename_i hi; rw [pEnv_lo hk xs hi]; exact hy
    · cases hy) (scS_is h hu)
theorem fitR_is {k0 : Nat} (hk : k0 ≤ e.length) {xs : List (Option Nat)} {y x : SV} (h : fitR k0 xs y x) {u : Value} (hu : y.is e u) : x.is (pEnv k0 e xs) u := by
  unfold fitR at h
  split at h
  · exact fitI_is hk h hu
  · rename_i n
    unfold fitN at h
    rw [Bool.and_eq_true] at h
    have h1 := leb_le.1 h.1
    have h2 := h.2
    split at h2
    · rename_i hj
      obtain ⟨q, rfl⟩ : ∃ q, n = k0 + q := ⟨n - k0, by omega⟩
      rw [show k0 + q - k0 = q by omega] at hj
      have hu' : u = .slice none 0 0 := hu
      show (pEnv k0 e xs)[k0 + q]? = some u
      rw [pEnv_hi hk, hj, hu']
      simp [evOf, nilV]
    · cases h2
  · exact scS_pEnv hk xs h.2 (vS_is.1 (h.1 ▸ vS_is.2 hu))
theorem FitR.at_ {k0 : Nat} {xs : List (Option Nat)} {b : List (Nat × SV)} : ∀ {U : List (Nat × SV)}, FitR k0 xs U b → ∀ p ∈ U, ∃ y, baseGet p.1 b = some y ∧ fitR k0 xs y p.2
  | [], _, p, hp => by cases hp
  | (t, x) :: r, ⟨h1, h2⟩, p, hp => by
    rcases List.mem_cons.1 hp with rfl | hp
    · split at h1
      · rename_i y hy; exact ⟨y, hy, h1⟩
      · exact h1.elim
    · exact FitR.at_ h2 p hp
/-- Slots, as they stand at a round's head or at a way out. -/
theorem weaken2 {W : List Nat} {U R base b : List (Nat × SV)} {k0 : Nat} {xs : List (Option Nat)} {a : Act} (hk : k0 ≤ e.length) (hf : FrOk [] b e a sz) (hU : FitR k0 xs U b) (hsR : scBase k0 R = true) (hsb : scBase k0 base = true) (hR : FitL R base)
    (hb : ∀ t, t ∉ W → baseGet t b = baseGet t (R ++ base) ∨ baseGet t b = baseGet t base) : FrOk [] (U ++ anyB' W (R ++ base)) (pEnv k0 e xs) a sz ∧ FrOk [] (U ++ anyB' W base) (pEnv k0 e xs) a sz := by
  have slot : ∀ t x, EqO (baseGet t b) (some x) → scS k0 x = true → x.is (pEnv k0 e xs) (a.tmps.getD t undef) := fun t x hx hsx => by
    have := hf.slot t
    cases hy : baseGet t b with
    | none => rw [hy] at hx; exact hx.elim
    | some y =>
      simp only [SlotIs, recDst, hy] at this
      rw [hy] at hx
      have hx' : vS y = vS x := hx
      exact scS_pEnv hk xs hsx (vS_is.1 (hx' ▸ vS_is.2 this))
  have none' : ∀ t, baseGet t b = none → a.tmps.getD t undef = undef := fun t hx => by
    have := hf.slot t
    simpa only [SlotIs, recDst, hx] using this
  have hRe : ∀ t, EqO (baseGet t (R ++ base)) (baseGet t base) := fun t => by
    rcases baseGet_app (t := t) (r := base) (pre := R) with ⟨y, h1, h2⟩ | ⟨_, h2⟩
    · rw [h2]; exact (hR.mem _ (baseGet_key h1)).symm
    · rw [h2]; exact EqO.refl _
  have hRs : ∀ t x, baseGet t (R ++ base) = some x → scS k0 x = true := fun t x hx => by
    rcases baseGet_app (t := t) (r := base) (pre := R) with ⟨y, h1, h2⟩ | ⟨_, h2⟩
    · rw [hx] at h2; cases h2; exact scBase_get hsR h1
    · rw [hx] at h2; exact scBase_get hsb h2.symm
  have key : ∀ (r : List (Nat × SV)), (∀ t, EqO (baseGet t r) (baseGet t base)) → (∀ t x, baseGet t r = some x → scS k0 x = true) → FrOk [] (U ++ anyB' W r) (pEnv k0 e xs) a sz := fun r hr hrs => by
    refine ⟨hf.defers, hf.size, fun t => ?_⟩
    simp only [SlotIs, recDst]
    rcases baseGet_app (t := t) (r := anyB' W r) (pre := U) with ⟨x, h1, h2⟩ | ⟨_, h2⟩
    · rw [h2]
      obtain ⟨y, hy, hfit⟩ := hU.at_ _ (baseGet_key h1)
      have := hf.slot t
      simp only [SlotIs, recDst, show baseGet t b = some y from hy] at this
      exact fitR_is hk hfit this
    · rw [h2]
      by_cases ht : t ∈ W
      · rw [(anyB'_get (W := W)).1 ht]; trivial
      · rw [(anyB'_get (W := W)).2 ht]
        have hbt : EqO (baseGet t b) (baseGet t r) := by
          refine EqO.trans ?_ (hr t).symm
          rcases hb t ht with h | h
          · rw [h]; exact hRe t
          · rw [h]; exact EqO.refl _
        cases hx : baseGet t r with
        | some x => exact slot t x (by rw [← hx]; exact hbt) (hrs t x hx)
        | none =>
          rw [hx] at hbt
          cases hy : baseGet t b with
          | none => exact none' t hy
          | some y => rw [hy] at hbt; exact hbt.elim
  exact ⟨key _ hRe hRs, key _ (fun _ => EqO.refl _) fun t x hx => scBase_get hsb hx⟩

/-! ### Loops -/
/-- Which things stand for those ahead: by the slots that hold them. -/
def slotI (b : List (Nat × SV)) (n : Nat) : List (Nat × SV) → Option (Option Nat)
  | [] => none
  | (t, .c (.one (.obj m))) :: r => (match eqb m n with
    | true => (match baseGet t b with
      | some (.c (.one (.obj i))) => some (some i)
      | some (.c (.one (.v (.slice none 0 0)))) => some none
      | _ => slotI b n r)
    | false => slotI b n r)
  | _ :: r => slotI b n r
def xsOf (V b : List (Nat × SV)) : Nat → Nat → List (Option Nat)
  | _, 0 => []
  | n, m + 1 => forceN (n + 1) fun n1 => (match slotI b n V with | some x => x | none => some n) :: xsOf V b n1 m
def pickB (k0 len : Nat) : List (Option Nat) → Bool
  | [] => true
  | none :: xs => pickB k0 len xs
  | some i :: xs => leb k0 i && (leb (i + 1) len && pickB k0 len xs)
theorem pickB_mem {k0 len : Nat} : ∀ {xs : List (Option Nat)}, pickB k0 len xs = true → ∀ i, some i ∈ xs → k0 ≤ i ∧ i < len
  | [], _, i, h => by cases h
  | none :: xs, h, i, hi => by
    rcases List.mem_cons.1 hi with h1 | h1
    · cases h1
    · exact pickB_mem (xs := xs) h i h1
  | some x :: xs, h, i, hi => by
    simp only [pickB, Bool.and_eq_true] at h
    rcases List.mem_cons.1 hi with h1 | h1
    · simp only [Option.some.injEq] at h1
      subst h1
      exact ⟨leb_le.1 h.1, leb_le.1 h.2.1⟩
    · exact pickB_mem h.2.2 i h1
def EqM : Mem β → Mem β → Prop
  | [], [] => True
  | x :: xs, y :: ys => x = y ∧ EqM xs ys
  | _, _ => False
theorem EqM.eq : ∀ {a b : Mem β}, EqM a b → a = b
  | [], [], _ => rfl
  | _ :: _, _ :: _, ⟨h1, h2⟩ => by rw [h1, h2.eq]
  | [], _ :: _, h => h.elim
  | _ :: _, [], h => h.elim
/-- A state, named anew: its first things as they were, the others by the slots. -/
def Nrm (nl : β) (PM : Mem β) (V : List (Nat × SV)) (X : Mem β) (s' : SSt β) : Prop :=
  (s'.mem.take PM.length = PM ∧ (distB (xsOf V s'.base PM.length X.length) && (pickB PM.length s'.mem.length (xsOf V s'.base PM.length X.length) && allB (usOf s'.mem) (xsOf V s'.base PM.length X.length))) = true) ∧
  (EqM ((xsOf V s'.base PM.length X.length).map (enOf nl s'.mem)) X ∧ FitR PM.length (xsOf V s'.base PM.length X.length) V s'.base)
def RK2 (nl : β) (PM : Mem β) (V : Nat → List (Nat × SV)) (M : Nat → Mem β) (N : Nat) (J : Nat → Prop) (U : Nat → SX → Option (List (Nat × SV) × Mem β)) (X : Nat → SX → Prop) (k : Nat) (x : SX) (s' : SSt β) : Prop := match x with
  | .normal => (k < N ∧ J (k + 1)) ∧ Nrm nl PM (V (k + 1)) (M (k + 1)) s'
  | x => match U k x with
    | some u => X k x ∧ Nrm nl PM u.1 u.2 s'
    | none => False
/-- The state behind a loop. -/
def xSt2 (W : List Nat) (U : List (Nat × SV)) (PM X : Mem β) (s : SSt β) : SSt β := ⟨U ++ anyB' W s.base, PM ++ X, s.ver + 1⟩
theorem xSt2_after {W : List Nat} {U : List (Nat × SV)} {PM X : Mem β} {s : SSt β} (h : keysIn W U = true) : After (· ∈ W) s (xSt2 W U PM X s) := by
  obtain ⟨pre, h1, h2⟩ := (xSt_after (s := s) h).suf
  exact ⟨⟨pre, h1, h2⟩, Nat.le_succ _, fun hv => absurd hv (by simp [xSt2])⟩

/-- A loop whose k-th round begins with the slots V k and the things M k behind PM. -/
theorem loop_rule2 (hS : SyOk S I W0 G) {c : Code} (hL : LpsOk S I W0 G L sz c) {nl : β} (hnl : ∀ w, I.holds nl w nilV ∧ ∀ j, ¬ I.foot nl w nilV j)
    {xs0 : List (Option Nat)} {PM : Mem β} {V : Nat → List (Nat × SV)} {M : Nat → Mem β} {R : List (Nat × SV)} {N : Nat} {Ux : Nat → SX → Option (List (Nat × SV) × Mem β)} {X : Nat → SX → Prop} {J : Nat → Prop}
    {s : SSt β} (hm : killL s.mem xs0 = PM) (hd : (distB xs0 && allB (usOf s.mem) xs0) = true) (hM0 : EqM (xs0.map (enOf nl s.mem)) (M 0)) (hsB : allB (scEnB PM.length) PM = true) (hsP : ∀ p ∈ scEnP PM.length PM, p)
    (hsR : scBase PM.length R = true) (hV : ∀ k, keysIn (writesC c) (V k) = true) (hEx : ∀ k x U, Ux k x = some U → keysIn (writesC c) U.1 = true)
    (hJ : J 0) (hr : ∀ k, k ≤ N → J k → ∀ base ver, (symC S L sz c ⟨V k ++ anyB' (writesC c) (R ++ base), PM ++ M k, ver⟩).holds (RK2 nl PM V M N J Ux X k))
    (h0 : FitR PM.length xs0 (V 0) s.base) (hR : FitL R s.base) (hsb : scBase PM.length s.base = true) {K : SX → SSt β → Prop} (hTx : ∀ k x U, k ≤ N → Ux k x = some U → X k x → K x (xSt2 (writesC c) U.1 PM U.2 s))
    {Q : Exit → Act → World → Prop} {a : Act} {w : World} {e : Env} (hf : FrOk [] s.base e a sz) (hM : MemOk W0 G I w e s.mem)
    (hQ : ∀ x s' e' a' w', Grows e e' → K x s' → FrOk [] s'.base e' a' sz → MemOk W0 G I w' e' s'.mem → Q x.exit' a' w') : (Code.loop c).wp S.P Q a w := by
  have hPl : PM.length = s.mem.length := by rw [← hm, killL_len]
  have hel : e.length = PM.length := by rw [hPl]; exact hM.len
  rw [Bool.and_eq_true] at hd
  -- a state behind a round, named anew
  have nrm : ∀ (V' : List (Nat × SV)) (X' : Mem β) (b : List (Nat × SV)) (s' : SSt β) (e1 e2 : Env) (a2 : Act) (w2 : World), Nrm nl PM V' X' s' → Grows e e1 → Grows e1 e2 → FrOk [] s'.base e2 a2 sz → MemOk W0 G I w2 e2 s'.mem →
      (∀ t, t ∉ writesC c → baseGet t s'.base = baseGet t (R ++ s.base) ∨ baseGet t s'.base = baseGet t s.base) →
      ∃ e3, Grows e e3 ∧ e3.length = PM.length + X'.length ∧ MemOk W0 G I w2 e3 (PM ++ X') ∧ FrOk [] (V' ++ anyB' (writesC c) (R ++ s.base)) e3 a2 sz ∧ FrOk [] (V' ++ anyB' (writesC c) s.base) e3 a2 sz := fun V' X' b s' e1 e2 a2 w2 ⟨⟨q1, q2⟩, q3, q4⟩ hg1 hg2 hf2 hM2 hb => by
    simp only [Bool.and_eq_true] at q2
    obtain ⟨q5, q6, q7⟩ := q2
    have hkm : PM.length ≤ s'.mem.length := by
      have := congrArg List.length q1
      rw [List.length_take] at this
      omega
    have hke : PM.length ≤ e2.length := by rw [hM2.len]; exact hkm
    have hpick := hM2.pick hkm (by rw [q1]; exact hsB) (by rw [q1]; exact hsP) (xs := xsOf V' s'.base PM.length X'.length) ⟨fun i hi => by
      have := pickB_mem q6 i hi
      exact ⟨this.1, by rw [hM2.len]; exact this.2⟩, distB_iff q5⟩ q7 (fun _ => hnl)
    have hwk := weaken2 hke hf2 q4 hsR hsb hR hb
    have hX := q3.eq
    rw [q1, hX] at hpick
    refine ⟨_, fun i x hx => ?_, ?_, hpick, hwk.1, hwk.2⟩
    · have hi : i < PM.length := by rw [← hel]; exact (List.getElem?_eq_some_iff.1 hx).1
      rw [pEnv_lo hke _ hi]
      exact hg2 i x (hg1 i x hx)
    · rw [hpick.len]; simp
  have main : ∀ m k, k + m = N → J k → ∀ e' a' w', Grows e e' → FrOk [] (V k ++ anyB' (writesC c) (R ++ s.base)) e' a' sz → MemOk W0 G I w' e' (PM ++ M k) → Code.rounds S.P c Q (m + 1) a' w' := by
    intro m
    induction m with
    | zero =>
      intro k hk hJk e' a' w' hg hf' hM'
      rw [rounds_succ]
      have hafter := symC_after c hL ⟨V k ++ anyB' (writesC c) (R ++ s.base), PM ++ M k, s.ver⟩
      refine symC_sound hS c hL (Tr.holds_all (hr k (by omega) hJk s.base s.ver) hafter) hf' hM' fun x s' e2 a2 w2 hg2 hK hf2 hM2 => ?_
      obtain ⟨hK, haf⟩ := hK
      obtain ⟨pre, hpre, hprew⟩ := haf.suf
      have hb : ∀ t, t ∉ writesC c → baseGet t s'.base = baseGet t (R ++ s.base) ∨ baseGet t s'.base = baseGet t s.base := fun t ht => .inl (by
        rw [hpre]
        rcases baseGet_app (t := t) (r := V k ++ anyB' (writesC c) (R ++ s.base)) (pre := pre) with ⟨y, h1, _⟩ | ⟨_, h2⟩
        · exact absurd (hprew _ (baseGet_key h1)) ht
        · rw [h2]
          rcases baseGet_app (t := t) (r := anyB' (writesC c) (R ++ s.base)) (pre := V k) with ⟨y, h1, _⟩ | ⟨_, h3⟩
          · exact absurd (keysIn_mem (hV k) _ (baseGet_key h1)) ht
          · rw [h3]; exact (anyB'_get (W := writesC c)).2 ht)
      cases x with
      | normal => exact absurd hK.1.1 (by omega)
      | exit id =>
        simp only [RK2] at hK
        split at hK
        case h_2 => exact hK.elim
        rename_i U hU1
        obtain ⟨e3, g1, _, g2, _, g3⟩ := nrm U.1 U.2 s'.base s' e' e2 a2 w2 hK.2 hg hg2 hf2 hM2 hb
        exact hQ (.exit id) (xSt2 (writesC c) U.1 PM U.2 s) e3 a2 w2 g1 (hTx k _ U (by omega) hU1 hK.1) g3 g2
      | ret =>
        simp only [RK2] at hK
        split at hK
        case h_2 => exact hK.elim
        rename_i U hU1
        obtain ⟨e3, g1, _, g2, _, g3⟩ := nrm U.1 U.2 s'.base s' e' e2 a2 w2 hK.2 hg hg2 hf2 hM2 hb
        exact hQ .ret (xSt2 (writesC c) U.1 PM U.2 s) e3 a2 w2 g1 (hTx k _ U (by omega) hU1 hK.1) g3 g2
    | succ m ih =>
      intro k hk hJk e' a' w' hg hf' hM'
      rw [rounds_succ]
      have hafter := symC_after c hL ⟨V k ++ anyB' (writesC c) (R ++ s.base), PM ++ M k, s.ver⟩
      refine symC_sound hS c hL (Tr.holds_all (hr k (by omega) hJk s.base s.ver) hafter) hf' hM' fun x s' e2 a2 w2 hg2 hK hf2 hM2 => ?_
      obtain ⟨hK, haf⟩ := hK
      obtain ⟨pre, hpre, hprew⟩ := haf.suf
      have hb : ∀ t, t ∉ writesC c → baseGet t s'.base = baseGet t (R ++ s.base) ∨ baseGet t s'.base = baseGet t s.base := fun t ht => .inl (by
        rw [hpre]
        rcases baseGet_app (t := t) (r := V k ++ anyB' (writesC c) (R ++ s.base)) (pre := pre) with ⟨y, h1, _⟩ | ⟨_, h2⟩
        · exact absurd (hprew _ (baseGet_key h1)) ht
        · rw [h2]
          rcases baseGet_app (t := t) (r := anyB' (writesC c) (R ++ s.base)) (pre := V k) with ⟨y, h1, _⟩ | ⟨_, h3⟩
          · exact absurd (keysIn_mem (hV k) _ (baseGet_key h1)) ht
          · rw [h3]; exact (anyB'_get (W := writesC c)).2 ht)
      cases x with
      | normal =>
        obtain ⟨⟨_, hJ1⟩, hn⟩ := hK
        obtain ⟨e3, g1, _, g2, g3, _⟩ := nrm (V (k + 1)) (M (k + 1)) s'.base s' e' e2 a2 w2 hn hg hg2 hf2 hM2 hb
        exact ih (k + 1) (by omega) hJ1 e3 a2 w2 g1 g3 g2
      | exit id =>
        simp only [RK2] at hK
        split at hK
        case h_2 => exact hK.elim
        rename_i U hU1
        obtain ⟨e3, g1, _, g2, _, g3⟩ := nrm U.1 U.2 s'.base s' e' e2 a2 w2 hK.2 hg hg2 hf2 hM2 hb
        exact hQ (.exit id) (xSt2 (writesC c) U.1 PM U.2 s) e3 a2 w2 g1 (hTx k _ U (by omega) hU1 hK.1) g3 g2
      | ret =>
        simp only [RK2] at hK
        split at hK
        case h_2 => exact hK.elim
        rename_i U hU1
        obtain ⟨e3, g1, _, g2, _, g3⟩ := nrm U.1 U.2 s'.base s' e' e2 a2 w2 hK.2 hg hg2 hf2 hM2 hb
        exact hQ .ret (xSt2 (writesC c) U.1 PM U.2 s) e3 a2 w2 g1 (hTx k _ U (by omega) hU1 hK.1) g3 g2
  have hke : PM.length ≤ e.length := by omega
  have hst := (weaken2 (W := writesC c) hke hf h0 hsR hsb hR (fun t _ => .inr rfl)).1
  have hmv := hM.move hd.1 hd.2 hnl
  rw [hm, hM0.eq, ← hPl] at hmv
  refine wp_loop_rounds (N + 1) (main N 0 (by omega) hJ (pEnv PM.length e xs0) a w (fun i x hx => ?_) hst hmv)
  have hi : i < PM.length := by rw [← hel]; exact (List.getElem?_eq_some_iff.1 hx).1
  rw [pEnv_lo hke xs0 hi]; exact hx
end
end Go.Proofs.Ytonomiljclemnaa


set_option linter.unusedVariables false
set_option linter.unusedSimpArgs false
namespace Go.Proofs.Ytonomiljclemnaa
open Go.RowKit

section
variable {β : Type} {I : ObI β} {P : Program} {hard : β → Bool} {f : FuncId}

/-- A thing by its handle, or by a pointer to it. -/
def hOf : PV → Option Nat
  | .obj i => some i
  | .ptr i 0 => some i
  | _ => none
theorem hOf_is {e : Env} {p : PV} {i : Nat} (h : hOf p = some i) {u : Value} (hu : p.is e u) : e[i]? = some u := by
  unfold hOf at h
  split at h
  · simp only [Option.some.injEq] at h; subst h; exact hu
  · simp only [Option.some.injEq] at h; subst h
    obtain ⟨b, o, h1, rfl⟩ := hu
    exact h1
  · cases h
theorem is_one {x : PV} {e : Env} {u : Value} (h : (CV.one x).is e u) : x.is e u := h

/-- One that turns one thing. -/
abbrev Spec1 (β : Type) := List CV → Mem β → Option (Nat × List Prop × SV × β)
def row1 (hard : β → Bool) (sp : Spec1 β) : Fn2 β := rowG hard fun us mem => match sp us mem with
  | some (i, ps, r, b') => (match mem[i]? with
    | some ⟨.us _, true⟩ => some ([i], ps, r, [⟨.us b', true⟩])
    | _ => none)
  | none => none
theorem row1_ok {sp : Spec1 β} (he : ∀ us w, (callFunc f us).run P w = .ok (.enter f us) w)
    (h : ∀ args mem i ps r b b', sp args mem = some (i, ps, r, b') → mem[i]? = some ⟨.us b, true⟩ → (∀ p ∈ ps, p) → ∀ W0 G w E us u, MemOk W0 G I w E mem → AllC E args us → E[i]? = some u → I.holds b w u →
      Calls P f us.toArray w (fun x w' => ∃ v, x = .returned v ∧ r.is [u] v ∧ Mod (fun k => I.own b w u k) w w' ∧ I.holds b' w' u ∧ ∀ k, I.foot b' w' u k → (I.own b w u k ∨ w.heap.size ≤ k) ∧ k < w'.heap.size)) : RowOk P I hard f (row1 hard sp) := by
  refine rowG_ok he fun args mem is ps r ms hs => ?_
  split at hs
  · rename_i i ps' r' b' hsp
    split at hs
    · rename_i b hm
      simp only [Option.some.injEq, Prod.mk.injEq] at hs
      obtain ⟨rfl, rfl, rfl, rfl⟩ := hs
      have hsub : subM mem [i] = [⟨.us b, true⟩] := by simp [subM, hm]
      refine ⟨fun j i' n hj hn hmu => ?_, fun n hn => ?_, fun n hn => ?_, fun hp W0 G w E us e hM ha hl hee h0 => ?_⟩
      · cases j with
        | zero => simp at hn; subst hn; cases hmu
        | succ j => simp at hn
      · rw [hsub] at hn; simp at hn; subst hn; exact isUs_free rfl
      · simp at hn; subst hn; exact isUs_free rfl
      · rw [hsub] at h0 ⊢
        have hi : i < E.length := by rw [hM.len]; exact (List.getElem?_eq_some_iff.1 hm).1
        have hE := List.getElem?_eq_getElem hi
        have he0 := hee 0 i rfl
        rw [hE] at he0
        obtain ⟨u, rfl⟩ : ∃ u, e = [u] := by
          match e, hl with
          | [u], _ => exact ⟨u, rfl⟩
        simp at he0
        subst he0
        refine (h args mem i ps' r' b b' hsp hm hp W0 G w E us _ hM ha hE (hM.holds i _ _ hE hm)).mono fun x w' ⟨v, hx, hv, hmod, hh, hf⟩ => ⟨v, _, hx, Grows.refl _, hv, ?_⟩
        exact h0.upd (i := 0) (o := .us b) rfl rfl hmod ⟨.us b', true⟩ hh hf
    · cases hs
  · cases hs

/-- One that makes one thing. -/
abbrev SpecN (β : Type) := List CV → Mem β → Option (List Prop × SV × β)
def rowN (hard : β → Bool) (sp : SpecN β) : Fn2 β := rowG hard fun us mem => match sp us mem with
  | some (ps, r, b) => some ([], ps, r, [⟨.us b, true⟩])
  | none => none
theorem rowN_ok {sp : SpecN β} (he : ∀ us w, (callFunc f us).run P w = .ok (.enter f us) w)
    (h : ∀ args mem ps r b, sp args mem = some (ps, r, b) → (∀ p ∈ ps, p) → ∀ W0 G w E us, MemOk W0 G I w E mem → AllC E args us →
      Calls P f us.toArray w (fun x w' => ∃ v v0, x = .returned v ∧ r.is [v0] v ∧ Ext w w' ∧ I.holds b w' v0 ∧ ∀ k, I.foot b w' v0 k → w.heap.size ≤ k ∧ k < w'.heap.size)) : RowOk P I hard f (rowN hard sp) := by
  refine rowG_ok he fun args mem is ps r ms hs => ?_
  split at hs
  · rename_i ps' r' b hsp
    simp only [Option.some.injEq, Prod.mk.injEq] at hs
    obtain ⟨rfl, rfl, rfl, rfl⟩ := hs
    refine ⟨fun j i' n hj => by simp at hj, fun n hn => by simp [subM] at hn, fun n hn => ?_, fun hp W0 G w E us e hM ha hl hee h0 => ?_⟩
    · simp at hn; subst hn; exact isUs_free rfl
    · have he0 : e = [] := List.eq_nil_of_length_eq_zero hl
      subst he0
      refine (h args mem ps' r' b hsp hp W0 G w E us hM ha).mono fun x w' ⟨v, v0, hx, hv, hext, hh, hf⟩ => ⟨v, [v0], hx, (fun i x h => by simp at h), hv, ?_⟩
      have := h0.push hext v0 ⟨.us b, true⟩ hh hf
      exact this
  · cases hs

/-- One that answers a value, and turns nothing. -/
abbrev SpecP (β : Type) := List CV → Mem β → Option (List Prop × Value)
def rowP (sp : SpecP β) : Fn2 β := fun us mem => match sp us mem with
  | some (ps, v) => some (ps, svOf v, none)
  | none => none
theorem rowP_ok {sp : SpecP β} (he : ∀ us w, (callFunc f us).run P w = .ok (.enter f us) w) (hm : ∀ args m m' ps v, sp args m = some (ps, v) → MLe m m' → sp args m' = some (ps, v))
    (h : ∀ args mem ps v, sp args mem = some (ps, v) → (∀ p ∈ ps, p) → ∀ W0 G w E us, MemOk W0 G I w E mem → AllC E args us → Calls P f us.toArray w (fun x w' => x = .returned v ∧ Ext w w')) : RowOk P I hard f (rowP sp) := by
  refine ⟨he, fun W0 G args mem ps r mo hr hp w E us hM ha => ?_, fun args m m' ps r hr hl => ?_, fun args mem ps r m' hr => ?_⟩
  · unfold rowP at hr
    split at hr
    · rename_i ps' v hs
      simp only [Option.some.injEq, Prod.mk.injEq] at hr
      obtain ⟨rfl, rfl, rfl⟩ := hr
      exact (h args mem ps' v hs hp W0 G w E us hM ha).mono fun x w' ⟨h1, h2⟩ => ⟨v, h1, svOf_is E v, h2⟩
    · cases hr
  · unfold rowP at hr ⊢
    split at hr
    · rename_i ps' v hs
      rw [hm _ _ _ _ _ hs hl]; exact hr
    · cases hr
  · unfold rowP at hr
    split at hr <;> simp at hr
theorem allC1 {e : Env} {x : CV} {us : List Value} (h : AllC e [x] us) : ∃ u, us = [u] ∧ x.is e u := by
  match us, h with
  | [u], h => exact ⟨u, rfl, h.1⟩
  | u :: v :: us, h => exact h.2.elim
theorem allC2 {e : Env} {x y : CV} {us : List Value} (h : AllC e [x, y] us) : ∃ u v, us = [u, v] ∧ x.is e u ∧ y.is e v := by
  match us, h with
  | u :: us, h => obtain ⟨v, rfl, h2⟩ := allC1 h.2; exact ⟨u, v, rfl, h.1, h2⟩
theorem allC3 {e : Env} {x y z : CV} {us : List Value} (h : AllC e [x, y, z] us) : ∃ u v t, us = [u, v, t] ∧ x.is e u ∧ y.is e v ∧ z.is e t := by
  match us, h with
  | u :: us, h => obtain ⟨v, t, rfl, h2⟩ := allC2 h.2; exact ⟨u, v, t, rfl, h.1, h2⟩
theorem allC0 {e : Env} {us : List Value} (h : AllC e [] us) : us = [] := by cases us with | nil => rfl | cons u us => exact h.elim
end
end Go.Proofs.Ytonomiljclemnaa



set_option linter.unusedVariables false
set_option linter.unusedSimpArgs false
namespace Go.Proofs.Ytonomiljclemnaa
open Go.RowKit

section
variable {P : Program}
def isBlank (s : String) : Bool := decide (s = "_")
def eqFs (P : Program) (rec : TypeId → Value → Value → Option Bool) (xs ys : Array Value) : List Field → Option Bool
  | [] => some true
  | f :: fs => match isBlank f.name with
    | true => eqFs P rec xs ys fs
    | false => match pureSem P (part f.type xs f.offset), pureSem P (part f.type ys f.offset) with
      | some a, some b => (match rec f.type a b, eqFs P rec xs ys fs with
        | some r, some rs => some (r && rs)
        | _, _ => none)
      | _, _ => none
def eqEs (P : Program) (rec : TypeId → Value → Value → Option Bool) (e : TypeId) (n : Nat) (xs ys : Array Value) : List Nat → Option Bool
  | [] => some true
  | i :: is => match pureSem P (part e xs (i * n)), pureSem P (part e ys (i * n)) with
      | some a, some b => (match rec e a b, eqEs P rec e n xs ys is with
        | some r, some rs => some (r && rs)
        | _, _ => none)
      | _, _ => none
def eqVs (P : Program) : Nat → TypeId → Value → Value → Option Bool
  | 0, _, _, _ => none
  | d + 1, t, x, y => match P.underlying t, x, y with
    | some .bool, .bool a, .bool b => some (a == b)
    | some (.int _), .int k a, .int k' b => (match eqK k k' with | true => some (a == b) | false => none)
    | some .string, .string a, .string b => some (a == b)
    | some (.struct fs), .agg xs, .agg ys => (match P.stoodInHeld t with
      | false => eqFs P (eqVs P d) xs ys fs.toList
      | true => none)
    | some (.array len e), .agg xs, .agg ys => (match pureSem P (sizeOf e) with
      | some n => eqEs P (eqVs P d) e n xs ys (List.range' 0 len)
      | none => none)
    | _, _, _ => none
theorem eqVs_run : ∀ (d : Nat) (t : TypeId) (x y : Value) (b : Bool), eqVs P d t x y = some b → ∀ (D : Nat) (w : World), d ≤ D → (Op.equalIn D t x y).run P w = .ok b w
  | 0, _, _, _, _, h, _, _, _ => by cases h
  | d + 1, t, x, y, b, h, D, w, hD => by
    obtain ⟨D, rfl⟩ : ∃ D', D = D' + 1 := ⟨D - 1, by omega⟩
    have ih := eqVs_run d
    unfold eqVs at h
    split at h
    · rename_i a c hu
      simp only [Option.some.injEq] at h; subst h
      exact run_equalIn_bool w D t a c hu
    · rename_i k k' a k'' c hu
      split at h
      · rename_i hk
        simp only [eqK, decide_eq_true_eq] at hk
        subst hk
        simp only [Option.some.injEq] at h; subst h
        exact run_equalIn_int w D t k' k a c hu
      · cases h
    · rename_i a c hu
      simp only [Option.some.injEq] at h; subst h
      rw [run_equalIn_string w D t a c hu, beq_toListBytes]
    · rename_i fs xs ys hu
      split at h
      · rename_i hst
        have hF : P.fieldsOf t = fs := by simp [Program.fieldsOf, hu]
        rw [run_equalIn_struct w D t xs ys (by rw [hF]; exact hu) hst, hF]
        have key : ∀ (l : List Field) (b : Bool), eqFs P (eqVs P d) xs ys l = some b → ∀ w, (Op.eqFields D xs ys l).run P w = .ok b w := by
          intro l
          induction l with
          | nil => intro b hb w; simp only [eqFs, Option.some.injEq] at hb; subst hb; simp [Op.eqFields]
          | cons f l ihl =>
            intro b hb w
            simp only [eqFs] at hb
            split at hb
            · rename_i hbl
              have hbl : f.name = "_" := of_decide_eq_true hbl
              simp only [Op.eqFields, if_neg (show ¬ f.name ≠ "_" from fun h => h hbl)]
              exact ihl b hb w
            · rename_i hbl
              have hbl : f.name ≠ "_" := of_decide_eq_false hbl
              split at hb
              · rename_i a c ha hc
                split at hb
                · rename_i r rs hr hrs
                  simp only [Option.some.injEq] at hb
                  subst hb
                  simp only [Op.eqFields, if_pos hbl, Sem.run_bind, pureSem_run _ ha, pureSem_run _ hc, Result.andThen_ok, ih f.type a c r hr D _ (by omega)]
                  cases r with
                  | true => simpa using ihl rs hrs w
                  | false => simp
                · cases hb
              · cases hb
        exact key fs.toList b h w
      · cases h
    · rename_i len e xs ys hu
      split at h
      · rename_i n hn
        have hn' := fun w => pureSem_run (sizeOf e) hn w
        simp only [Op.equalIn, Sem.run_bind, run_underlying hu, Result.andThen_ok, hn']
        rw [Std.Legacy.Range.forIn_eq_forIn_range']
        have hr : List.range' ([0:len] : Std.Legacy.Range).start ([0:len] : Std.Legacy.Range).size ([0:len] : Std.Legacy.Range).step = List.range' 0 len := by simp [Std.Legacy.Range.size]
        rw [hr]
        have key : ∀ (l : List Nat) (b : Bool), eqEs P (eqVs P d) e n xs ys l = some b → ∀ w, (do
            let r ← forIn l ((none, ()) : Option Bool × Unit) (fun i r => do
              let a ← part e xs (i * n)
              let c ← part e ys (i * n)
              let q ← Op.equalIn D e a c
              if q = false then pure (ForInStep.done (some false, ())) else pure (ForInStep.yield (none, ())))
            match r.fst with
            | some q => pure q
            | none => pure true : Sem Bool).run P w = .ok b w := by
          intro l
          induction l with
          | nil => intro b hb w; simp only [eqEs, Option.some.injEq] at hb; subst hb; simp
          | cons i l ihl =>
            intro b hb w
            simp only [eqEs] at hb
            split at hb
            · rename_i a c ha hc
              split at hb
              · rename_i r rs hr hrs
                simp only [Option.some.injEq] at hb
                subst hb
                have ihl' := ihl rs hrs w
                simp only [Sem.run_bind] at ihl'
                simp only [List.forIn_cons, Sem.run_bind, pureSem_run _ ha, pureSem_run _ hc, Result.andThen_ok, ih e a c r hr D _ (by omega)]
                cases r with
                | true => simpa using ihl'
                | false => simp
              · cases hb
            · cases hb
        have := key _ b h w
        simp only [Sem.run_bind] at this
        simp at this ⊢
        rw [← this]
        congr 1
        funext a w2
        rcases a with ⟨q, _⟩
        cases q <;> rfl
      · cases h
    · cases h
/-- Of a type whose values may be compared so. -/
def E_of (P : Program) (ty : TypeId) : TypeId × (List Value → List Value → Option Bool) := (ty, fun u v => eqVs P 12 ty (.agg u.toArray) (.agg v.toArray))
theorem E_of_ok {ty : TypeId} {E : EqFns} (hg : P.eqGuardType P.depth ty = false) (ht : ∀ ty g, eqGet ty E = some g → P.eqGuardType P.depth ty = false ∧ ∀ (u v : Array Value) b, g u.toList v.toList = some b → ∀ w, (Op.equal ty (.agg u) (.agg v)).run P w = .ok b w) :
    ∀ ty' g', eqGet ty' (E_of P ty :: E) = some g' → P.eqGuardType P.depth ty' = false ∧ ∀ (u v : Array Value) b, g' u.toList v.toList = some b → ∀ w, (Op.equal ty' (.agg u) (.agg v)).run P w = .ok b w :=
  EqsOk.cons hg (fun u v b h w => eqVs_run 12 ty _ _ b (by simpa using h) Op.maxDepth w (by decide)) ht
end
end Go.Proofs.Ytonomiljclemnaa


set_option linter.unusedVariables false
set_option linter.unusedSimpArgs false
namespace Go.Proofs.Ytonomiljclemnaa
open Go.RowKit

/-- The ways out of a loop: how, the slots, the things behind it. -/
inductive SmT (β : Type) where
  | leaf (x : SX) (U : List (Nat × SV)) (X : Mem β)
  | br (b : Bool) (t e : SmT β)
  | need (ps : List Prop) (t : SmT β)
section
variable {β : Type} {S : Sy β} {I : ObI β} {W0 : World} {G : Nat → Prop} {L : Lps β} {sz : Nat} {w w' : World} {e e' : Env} {mem : Mem β}
def SmT.holds (K : SX → List (Nat × SV) → Mem β → Prop) : SmT β → Prop
  | .leaf x U X => K x U X
  | .br b t e => (b = true → t.holds K) ∧ (b = false → e.holds K)
  | .need ps t => (∀ p ∈ ps, p) ∧ t.holds K
theorem SmT.holds_mono {K K' : SX → List (Nat × SV) → Mem β → Prop} (hk : ∀ x U X, K x U X → K' x U X) : ∀ {t : SmT β}, t.holds K → t.holds K'
  | .leaf _ _ _, h => hk _ _ _ h
  | .br _ _ _, h => ⟨fun hb => holds_mono hk (h.1 hb), fun hb => holds_mono hk (h.2 hb)⟩
  | .need _ _, h => ⟨h.1, holds_mono hk h.2⟩
def zipS : List Nat → List SV → List (Nat × SV)
  | t :: ts, x :: xs => (t, x) :: zipS ts xs
  | _, _ => []
/-- The slots' own values. -/
def tmpsB (a : Act) : List Nat → List (Nat × SV)
  | [] => []
  | t :: ts => (t, svV (a.tmps.getD t undef)) :: tmpsB a ts
theorem tmpsB_get {a : Act} {t : Nat} : ∀ {ts : List Nat}, (t ∈ ts → baseGet t (tmpsB a ts) = some (svV (a.tmps.getD t undef))) ∧ (t ∉ ts → baseGet t (tmpsB a ts) = none)
  | [] => ⟨(fun h => by cases h), fun _ => rfl⟩
  | u :: ts => by
    refine ⟨fun h => ?_, fun h => ?_⟩
    · simp only [tmpsB, baseGet]
      cases he : eqb u t with
      | true => rw [eqb_eq.1 he]
      | false =>
        rcases List.mem_cons.1 h with rfl | h
        · rw [eqb_eq.2 rfl] at he; cases he
        · exact (tmpsB_get (ts := ts)).1 h
    · simp only [tmpsB, baseGet]
      rw [eqb_ne (fun e => h (by rw [e]; exact List.mem_cons_self ..))]
      exact (tmpsB_get (ts := ts)).2 fun hm => h (List.mem_cons_of_mem _ hm)
theorem tmpsB_sc {a : Act} {n : Nat} : ∀ (ts : List Nat), scBase n (tmpsB a ts) = true
  | [] => rfl
  | t :: ts => by simp only [tmpsB, scBase, Bool.and_eq_true]; exact ⟨rfl, tmpsB_sc ts⟩
abbrev SmG (β : Type) := List SV → Mem β → Option (SmT β)
/-- What is known of a loop among its own things alone. -/
def SmSound (S : Sy β) (I : ObI β) (sz : Nat) (c : Code) (ts : List Nat) (g : SmG β) : Prop := ∀ svs M t, g svs M = some t → ∀ K, t.holds K → ∀ (w : World) (e : Env) (a : Act) (base : List (Nat × SV)) (Q : Exit → Act → World → Prop),
  scBase M.length base = true → FrOk [] (zipS ts svs ++ base) e a sz → MemOk w (FootOf I w e M) I w e M →
  (∀ x U X e' a' w', Grows e e' → K x U X → FrOk [] (U ++ anyB' (writesC c) (zipS ts svs ++ base)) e' a' sz → MemOk w (FootOf I w e M) I w' e' X → Q x.exit' a' w') → (Code.loop c).wp S.P Q a w

/-! ### Among other things -/
def idxN (i : Nat) : List Nat → Nat → Option Nat
  | [], _ => none
  | x :: xs, n => match eqb x i with | true => some n | false => forceN (n + 1) fun m => idxN i xs m
def hsP : PV → List Nat → List Nat
  | .obj i, is => (match memL i is with | true => is | false => is ++ [i])
  | .ptr i _, is => (match memL i is with | true => is | false => is ++ [i])
  | .elt i _ _ _, is => (match memL i is with | true => is | false => is ++ [i])
  | .sub i _ _ _, is => (match memL i is with | true => is | false => is ++ [i])
  | _, is => is
def hsPs : List PV → List Nat → List Nat
  | [], is => is
  | p :: ps, is => hsPs ps (hsP p is)
def hsS : SV → List Nat → List Nat
  | .c (.one p), is => hsP p is
  | .c (.agg ps), is => hsPs ps is
  | _, is => is
def hsL : List SV → List Nat → List Nat
  | [], is => is
  | x :: xs, is => hsL xs (hsS x is)
/-- Named by the few. -/
def dnP (is : List Nat) : PV → Option PV
  | .obj i => (match idxN i is 0 with | some j => some (.obj j) | none => none)
  | .ptr i off => (match idxN i is 0 with | some j => some (.ptr j off) | none => none)
  | .elt i s x off => (match idxN i is 0 with | some j => some (.elt j s x off) | none => none)
  | .sub i s lo hi => (match idxN i is 0 with | some j => some (.sub j s lo hi) | none => none)
  | p => some p
def dnS (is : List Nat) : SV → Option SV
  | .c (.one p) => (match dnP is p with | some q => some (.c (.one q)) | none => none)
  | .c (.agg ps) => (match mapO (dnP is) ps with | some qs => some (.c (.agg qs)) | none => none)
  | _ => none
theorem idxN_get {i : Nat} : ∀ {is : List Nat} {n j : Nat}, idxN i is n = some j → n ≤ j ∧ is[j - n]? = some i
  | [], _, _, h => by cases h
  | x :: xs, n, j, h => by
    simp only [idxN] at h
    split at h
    · rename_i he
      simp only [Option.some.injEq] at h
      subst h
      rw [eqb_eq.1 he]; simp
    · rw [forceN_eq] at h
      obtain ⟨h1, h2⟩ := idxN_get h
      exact ⟨by omega, by rw [show j - n = (j - (n + 1)) + 1 by omega]; simpa using h2⟩
theorem dnP_is {is : List Nat} {E e0 : Env} (he : ∀ j i : Nat, is[j]? = some i → e0[j]? = E[i]?) {p q : PV} (h : dnP is p = some q) {u : Value} (hu : p.is E u) : q.is e0 u := by
  have key : ∀ (i j : Nat) (x : Value), idxN i is 0 = some j → E[i]? = some x → e0[j]? = some x := fun i j x hj hx => by
    have := (idxN_get hj).2
    rw [Nat.sub_zero] at this
    rw [he j i this]; exact hx
  unfold dnP at h
  split at h
  · split at h
    · rename_i j hj
      simp only [Option.some.injEq] at h; subst h
      exact key _ j u hj hu
    · cases h
  · split at h
    · rename_i j hj
      simp only [Option.some.injEq] at h; subst h
      obtain ⟨b, o, h1, h2⟩ := hu
      exact ⟨b, o, key _ j _ hj h1, h2⟩
    · cases h
  · split at h
    · rename_i j hj
      simp only [Option.some.injEq] at h; subst h
      obtain ⟨b, o, n, c, h1, h2⟩ := hu
      exact ⟨b, o, n, c, key _ j _ hj h1, h2⟩
    · cases h
  · split at h
    · rename_i j hj
      simp only [Option.some.injEq] at h; subst h
      obtain ⟨ao, n, c, h1, h2⟩ := hu
      exact ⟨ao, n, c, key _ j _ hj h1, h2⟩
    · cases h
  · simp only [Option.some.injEq] at h; subst h
    cases p with
    | v x => exact hu
    | kI k n => exact hu
    | kB b => exact hu
    | kS s => exact hu
    | any => trivial
    | obj i => rename_i h1 _ _ _; exact (h1 i rfl).elim
    | ptr i off => rename_i _ h2 _ _; exact (h2 i off rfl).elim
    | elt i a b c => rename_i _ _ h3 _; exact (h3 i a b c rfl).elim
    | sub i a b c => rename_i _ _ _ h4; exact (h4 i a b c rfl).elim
theorem dnPs_is {is : List Nat} {E e0 : Env} (he : ∀ j i : Nat, is[j]? = some i → e0[j]? = E[i]?) : ∀ {ps qs : List PV} {us : List Value}, mapO (dnP is) ps = some qs → AllIs E ps us → AllIs e0 qs us
  | [], qs, us, h, hu => by
    simp only [mapO, Option.some.injEq] at h; subst h
    cases us <;> exact hu
  | p :: ps, qs, us, h, hu => by
    cases us with
    | nil => exact hu.elim
    | cons u us =>
      simp only [mapO] at h
      split at h
      · cases h
      · rename_i y hy
        split at h
        · cases h
        · rename_i ys hys
          simp only [Option.some.injEq] at h
          subst h
          exact ⟨dnP_is he hy hu.1, dnPs_is he hys hu.2⟩
theorem dnS_is {is : List Nat} {E e0 : Env} (he : ∀ j i : Nat, is[j]? = some i → e0[j]? = E[i]?) {x y : SV} (h : dnS is x = some y) {u : Value} (hu : x.is E u) : y.is e0 u := by
  unfold dnS at h
  split at h
  · split at h
    · rename_i q hq
      simp only [Option.some.injEq] at h; subst h
      exact dnP_is he hq hu
    · cases h
  · split at h
    · rename_i q hq
      simp only [Option.some.injEq] at h; subst h
      obtain ⟨us, h1, rfl⟩ := hu
      exact ⟨us, dnPs_is he hq h1, rfl⟩
    · cases h
  · cases h
theorem renN_idx {is : List Nat} {m i j : Nat} (h : idxN i is 0 = some j) : renN is m j = i := by
  have := (idxN_get h).2
  rw [Nat.sub_zero] at this
  unfold renN
  rw [this]
theorem dnP_up {is : List Nat} {m : Nat} {p q : PV} (h : dnP is p = some q) : renP is m q = p := by
  unfold dnP at h
  split at h
  · split at h
    · rename_i j hj
      simp only [Option.some.injEq] at h; subst h
      simp only [renP, forceN_eq, renN_idx hj]
    · cases h
  · split at h
    · rename_i j hj
      simp only [Option.some.injEq] at h; subst h
      simp only [renP, forceN_eq, renN_idx hj]
    · cases h
  · split at h
    · rename_i j hj
      simp only [Option.some.injEq] at h; subst h
      simp only [renP, forceN_eq, renN_idx hj]
    · cases h
  · split at h
    · rename_i j hj
      simp only [Option.some.injEq] at h; subst h
      simp only [renP, forceN_eq, renN_idx hj]
    · cases h
  · simp only [Option.some.injEq] at h; subst h
    cases p with
    | v x => rfl
    | kI k n => rfl
    | kB b => rfl
    | kS s => rfl
    | any => rfl
    | obj i => rename_i h1 _ _ _; exact (h1 i rfl).elim
    | ptr i off => rename_i _ h2 _ _; exact (h2 i off rfl).elim
    | elt i a b c => rename_i _ _ h3 _; exact (h3 i a b c rfl).elim
    | sub i a b c => rename_i _ _ _ h4; exact (h4 i a b c rfl).elim
theorem dnPs_up {is : List Nat} {m : Nat} : ∀ {ps qs : List PV}, mapO (dnP is) ps = some qs → qs.map (renP is m) = ps
  | [], qs, h => by simp only [mapO, Option.some.injEq] at h; subst h; rfl
  | p :: ps, qs, h => by
    simp only [mapO] at h
    split at h
    · cases h
    · rename_i y hy
      split at h
      · cases h
      · rename_i ys hys
        simp only [Option.some.injEq] at h
        subst h
        rw [List.map_cons, dnP_up hy, dnPs_up hys]
theorem dnS_up {is : List Nat} {m : Nat} {x y : SV} (h : dnS is x = some y) : renS is m y = x ∧ plainS y = true := by
  unfold dnS at h
  split at h
  · split at h
    · rename_i q hq
      simp only [Option.some.injEq] at h; subst h
      exact ⟨by simp only [renS, renC, dnP_up hq], rfl⟩
    · cases h
  · split at h
    · rename_i q hq
      simp only [Option.some.injEq] at h; subst h
      exact ⟨by simp only [renS, renC, dnPs_up hq], rfl⟩
    · cases h
  · cases h
def upU (is : List Nat) (m : Nat) : List (Nat × SV) → List (Nat × SV)
  | [] => []
  | (t, x) :: r => (t, renS is m x) :: upU is m r
def plainU : List (Nat × SV) → Bool
  | [] => true
  | (_, x) :: r => plainS x && plainU r
def valB (p : PV) : Bool := match p with
  | .v _ => true
  | .kI _ _ => true
  | .kB _ => true
  | .kS _ => true
  | _ => false
theorem valB_is {p : PV} (h : valB p = true) {e e' : Env} {u : Value} (hu : p.is e u) : p.is e' u := by
  cases p <;> first | exact hu | cases h
def freeB (n : En β) : Bool := match n.ob with
  | .us _ => true
  | .dead => true
  | .blk cs => allB valB cs
  | .bx cs => allB valB cs
  | _ => false
theorem freeB_free {n : En β} (h : freeB n = true) : EnvFree I n := fun e e' w u hh => by
  obtain ⟨ob, mu⟩ := n
  cases ob with
  | us b => exact hh
  | dead => exact hh
  | blk c =>
    obtain ⟨b, o, rfl, hc⟩ := hh
    refine ⟨b, o, rfl, fun j p hp => ?_⟩
    obtain ⟨x, h1, h2, h3⟩ := hc j p hp
    exact ⟨x, h1, valB_is (allB_mem h p (List.mem_of_getElem? hp)) h2, h3⟩
  | bx c =>
    obtain ⟨b, o, rfl, hc⟩ := hh
    refine ⟨b, o, rfl, fun j p hp => ?_⟩
    obtain ⟨x, h1, h2, h3⟩ := hc j p hp
    exact ⟨x, h1, valB_is (allB_mem h p (List.mem_of_getElem? hp)) h2, h3⟩
  | sl K b => simp [freeB] at h
/-- What is new and what is turned may be so. -/
def okFr (is : List Nat) : Mem β → Mem β → Bool
  | n :: ns, x :: xs => (match is with | _ :: _ => true | [] => false) && (x.mu && (freeB x && okFr is.tail ns xs))
  | [], x :: xs => x.mu && (freeB x && okFr [] [] xs)
  | [], [] => true
  | _ :: _, [] => false
def frT (W : List Nat) (s : SSt β) (is : List Nat) (M : Mem β) : SmT β → Option (Tr β)
  | .leaf x U X => (match (keysIn W U && plainU U) && okFr is M X with
    | true => some (.leaf x ⟨upU is s.mem.length U ++ anyB' W s.base, setL s.mem is X ++ X.drop is.length, s.ver + 1⟩)
    | false => none)
  | .br b t e => (match frT W s is M t, frT W s is M e with | some t, some e => some (.br b t e) | _, _ => none)
  | .need ps t => (match frT W s is M t with | some t => some (.need ps t) | none => none)
/-- The loop, wherever its few things lie. -/
def frG (c : Code) (ts : List Nat) (g : SmG β) : SSt β → Option (Tr β) := fun s => match mapO (fun t => baseGet t s.base) ts with
  | none => none
  | some svs => match mapO (dnS (hsL svs [])) svs, nodupB (hsL svs []) && (ltB s.mem.length (hsL svs []) && allB freeB (subM s.mem (hsL svs []))) with
    | some svs0, true => (match g svs0 (subM s.mem (hsL svs [])) with
      | some t => frT (writesC c) s (hsL svs []) (subM s.mem (hsL svs [])) t
      | none => none)
    | _, _ => none
theorem okFr_spec : ∀ {is : List Nat} {ns xs : Mem β}, okFr is ns xs = true → is.length = ns.length → is.length ≤ xs.length ∧ ∀ x ∈ xs, x.mu = true ∧ freeB x = true
  | is, n :: ns, x :: xs, h, hl => by
    simp only [okFr, Bool.and_eq_true] at h
    obtain ⟨_, h1, h2, h3⟩ := h
    cases is with
    | nil => simp at hl
    | cons i is =>
      obtain ⟨g1, g2⟩ := okFr_spec (is := is) h3 (by simpa using hl)
      refine ⟨by simpa using g1, fun y hy => ?_⟩
      rcases List.mem_cons.1 hy with rfl | hy
      · exact ⟨h1, h2⟩
      · exact g2 y hy
  | is, [], x :: xs, h, hl => by
    have : is = [] := List.eq_nil_of_length_eq_zero (by simpa using hl)
    subst this
    simp only [okFr, Bool.and_eq_true] at h
    obtain ⟨h1, h2, h3⟩ := h
    obtain ⟨g1, g2⟩ := okFr_spec (is := []) h3 rfl
    refine ⟨Nat.zero_le _, fun y hy => ?_⟩
    rcases List.mem_cons.1 hy with rfl | hy
    · exact ⟨h1, h2⟩
    · exact g2 y hy
  | is, [], [], h, hl => ⟨by rw [hl]; exact Nat.le_refl _, fun x hx => by cases hx⟩
  | is, n :: ns, [], h, hl => by simp [okFr] at h
theorem upU_keys {W : List Nat} {is : List Nat} {m : Nat} : ∀ {U : List (Nat × SV)}, keysIn W U = true → keysIn W (upU is m U) = true
  | [], _ => rfl
  | (t, x) :: r, h => by
    simp only [keysIn, upU, Bool.and_eq_true] at h ⊢
    exact ⟨h.1, upU_keys h.2⟩
theorem upU_get {is : List Nat} {m t : Nat} : ∀ {U : List (Nat × SV)}, baseGet t (upU is m U) = (baseGet t U).map (renS is m)
  | [] => rfl
  | (u, x) :: r => by
    simp only [upU, baseGet]
    cases eqb u t with
    | true => rfl
    | false => exact upU_get
theorem plainU_get {t : Nat} {x : SV} : ∀ {U : List (Nat × SV)}, plainU U = true → baseGet t U = some x → plainS x = true
  | [], _, h => by cases h
  | (u, y) :: r, hp, h => by
    simp only [plainU, Bool.and_eq_true] at hp
    simp only [baseGet] at h
    split at h
    · simp only [Option.some.injEq] at h; subst h; exact hp.1
    · exact plainU_get hp.2 h
theorem zipS_get {t : Nat} {x : SV} : ∀ {ts : List Nat} {xs : List SV}, baseGet t (zipS ts xs) = some x → ∃ j : Nat, ts[j]? = some t ∧ xs[j]? = some x
  | [], _, h => by simp [zipS, baseGet] at h
  | _ :: _, [], h => by simp [zipS, baseGet] at h
  | u :: ts, y :: xs, h => by
    simp only [zipS, baseGet] at h
    split at h
    · rename_i he
      simp only [Option.some.injEq] at h
      subst h
      exact ⟨0, by rw [eqb_eq.1 he]; rfl, rfl⟩
    · obtain ⟨j, h1, h2⟩ := zipS_get h
      exact ⟨j + 1, by simpa using h1, by simpa using h2⟩
theorem frT_after {W : List Nat} {s : SSt β} {is : List Nat} {M : Mem β} : ∀ {t : SmT β} {t' : Tr β}, frT W s is M t = some t' → t'.all (After (· ∈ W) s)
  | .leaf x U X, t', h => by
    simp only [frT] at h
    split at h
    · rename_i hk
      simp only [Option.some.injEq] at h
      subst h
      simp only [Bool.and_eq_true] at hk
      obtain ⟨pre, h1, h2⟩ := (xSt_after (W := W) (s := s) (upU_keys (is := is) (m := s.mem.length) hk.1.1)).suf
      exact ⟨⟨pre, h1, h2⟩, Nat.le_succ _, fun hv => absurd hv (by simp)⟩
    · cases h
  | .br b t e, t', h => by
    simp only [frT] at h
    split at h
    · rename_i h1 h2
      simp only [Option.some.injEq] at h
      subst h
      exact ⟨frT_after h1, frT_after h2⟩
    · cases h
  | .need ps t, t', h => by
    simp only [frT] at h
    split at h
    · rename_i h1
      simp only [Option.some.injEq] at h
      subst h
      have := frT_after (t := t) h1
      exact this
    · cases h
theorem frT_holds {W : List Nat} {s : SSt β} {is : List Nat} {M : Mem β} {K : SX → SSt β → Prop} : ∀ {t : SmT β} {t' : Tr β}, frT W s is M t = some t' → t'.holds K →
    t.holds fun x U X => ((keysIn W U && plainU U) && okFr is M X) = true ∧ K x ⟨upU is s.mem.length U ++ anyB' W s.base, setL s.mem is X ++ X.drop is.length, s.ver + 1⟩
  | .leaf x U X, t', h, hK => by
    simp only [frT] at h
    split at h
    · rename_i hk
      simp only [Option.some.injEq] at h
      subst h
      exact ⟨hk, hK⟩
    · cases h
  | .br b t e, t', h, hK => by
    simp only [frT] at h
    split at h
    · rename_i h1 h2
      simp only [Option.some.injEq] at h
      subst h
      exact ⟨fun hb => frT_holds h1 (hK.1 hb), fun hb => frT_holds h2 (hK.2 hb)⟩
    · cases h
  | .need ps t, t', h, hK => by
    simp only [frT] at h
    split at h
    · rename_i h1
      simp only [Option.some.injEq] at h
      subst h
      exact ⟨hK.1, frT_holds (t := t) h1 hK.2⟩
    · cases h
theorem frG_sound {c : Code} {ts : List Nat} {g : SmG β} (hg : SmSound S I sz c ts g) : LoopSound S I W0 G sz c (frG c ts g) := by
  intro s t ht
  unfold frG at ht
  split at ht
  · cases ht
  · rename_i svs hsvs
    split at ht
    · rename_i svs0 hsvs0 hB
      split at ht
      · rename_i t0 hg0
        refine ⟨frT_after ht, fun K hK Q a w e hf hM hQ => ?_⟩
        have hh := frT_holds ht hK
        simp only [Bool.and_eq_true] at hB
        obtain ⟨hB1, hB2, hB3⟩ := hB
        generalize his : hsL svs [] = is at *
        have hn := nodupB_iff hB1
        have hb := ltB_mem hB2
        let e0 : Env := is.map fun i => e.getD i undef
        have hel : e0.length = is.length := by simp [e0]
        have hee : ∀ j i : Nat, is[j]? = some i → e0[j]? = e[i]? := fun j i hj => by
          have hlt : i < e.length := by rw [hM.len]; exact hb i (List.mem_of_getElem? hj)
          simp only [e0, List.getElem?_map, hj, Option.map_some, List.getD_eq_getElem?_getD]
          rw [List.getElem?_eq_getElem hlt]; rfl
        have hfr : ∀ n ∈ subM s.mem is, EnvFree I n := fun n hn' => freeB_free (allB_mem hB3 n hn')
        have h0 := sub_ok (e := e0) hM hn hb hel hee hfr
        have hMl : (subM s.mem is).length = is.length := by simp [subM]
        refine hg svs0 (subM s.mem is) t0 hg0 _ hh w e0 a (tmpsB a (List.range sz)) Q (tmpsB_sc _) ⟨hf.defers, hf.size, fun t => ?_⟩ h0 fun x U X e' a' w' hg' ⟨hk, hKx⟩ hf' hM' => ?_
        · simp only [SlotIs, recDst]
          rcases baseGet_app (t := t) (r := tmpsB a (List.range sz)) (pre := zipS ts svs0) with ⟨y, h1, h2⟩ | ⟨_, h2⟩
          · rw [h2]
            obtain ⟨j, hj1, hj2⟩ := zipS_get h1
            obtain ⟨q1, q2⟩ := mapO_get hsvs
            obtain ⟨x, hx1, hx2⟩ := q2 j t hj1
            obtain ⟨q3, q4⟩ := mapO_get hsvs0
            obtain ⟨y', hy1, hy2⟩ := q4 j x hx1
            rw [hj2] at hy1
            cases hy1
            have := hf.slot t
            simp only [SlotIs, recDst, hx2] at this
            exact dnS_is hee hy2 this
          · rw [h2]
            by_cases hts : t ∈ List.range sz
            · rw [(tmpsB_get (ts := List.range sz)).1 hts]; rfl
            · rw [(tmpsB_get (ts := List.range sz)).2 hts]
              simp only
              have : a.tmps.size ≤ t := by rw [hf.size]; simpa using hts
              rw [Array.getD_eq_getD_getElem?, Array.getElem?_eq_none this]; rfl
        · simp only [Bool.and_eq_true] at hk
          obtain ⟨⟨hk1, hk2⟩, hk3⟩ := hk
          obtain ⟨k1, k2⟩ := okFr_spec hk3 (by rw [hMl])
          have hfm := frame hM hn hb hel hee hM' hg' k1 (fun n hn' => freeB_free (k2 n hn').2) (fun j n hj => .inl (k2 n (List.mem_of_getElem? hj)).1)
          refine hQ x _ (e ++ e'.drop is.length) a' w' (fun i u hu => by rw [List.getElem?_append_left (List.getElem?_eq_some_iff.1 hu).1]; exact hu) hKx ⟨hf'.defers, hf'.size, fun t => ?_⟩ hfm
          have hren : ∀ (j : Nat) (u : Value), e'[j]? = some u → (e ++ e'.drop is.length)[renN is s.mem.length j]? = some u := fun j u hj => by
            unfold renN
            cases hji : is[j]? with
            | some i =>
              simp only
              have hlt : i < e.length := by rw [hM.len]; exact hb i (List.mem_of_getElem? hji)
              rw [List.getElem?_append_left hlt]
              have h1 := hee j i hji
              rw [List.getElem?_eq_getElem hlt] at h1 ⊢
              have := hg' j _ h1
              rw [hj] at this
              exact this.symm
            | none =>
              simp only
              have hge : is.length ≤ j := by
                rcases Nat.lt_or_ge j is.length with h | h
                · rw [List.getElem?_eq_getElem h] at hji; cases hji
                · exact h
              rw [← hM.len, List.getElem?_append_right (by omega), List.getElem?_drop, show is.length + (e.length + (j - is.length) - e.length) = j by omega]
              exact hj
          have hs' := hf'.slot t
          simp only [SlotIs, recDst] at hs' ⊢
          rcases baseGet_app (t := t) (r := anyB' (writesC c) s.base) (pre := upU is s.mem.length U) with ⟨y, h1, h2⟩ | ⟨h1, h2⟩
          · rw [h2]
            rw [upU_get] at h1
            cases hU : baseGet t U with
            | none => rw [hU] at h1; cases h1
            | some z =>
              rw [hU] at h1
              simp only [Option.map_some, Option.some.injEq] at h1
              subst h1
              rcases baseGet_app (t := t) (r := anyB' (writesC c) (zipS ts svs0 ++ tmpsB a (List.range sz))) (pre := U) with ⟨y, g1, g2⟩ | ⟨g1, _⟩
              · rw [hU] at g1; cases g1
                rw [g2] at hs'
                exact renS_is hren (plainU_get hk2 hU) hs'
              · rw [hU] at g1; cases g1
          · rw [h2]
            by_cases htw : t ∈ writesC c
            · rw [(anyB'_get (W := writesC c)).1 htw]; trivial
            · rw [(anyB'_get (W := writesC c)).2 htw]
              have hUn : baseGet t U = none := by
                cases hU : baseGet t U with
                | none => rfl
                | some z => exact absurd (keysIn_mem hk1 _ (baseGet_key hU)) htw
              rcases baseGet_app (t := t) (r := anyB' (writesC c) (zipS ts svs0 ++ tmpsB a (List.range sz))) (pre := U) with ⟨y, g1, _⟩ | ⟨_, g2⟩
              · rw [hUn] at g1; cases g1
              · rw [g2, (anyB'_get (W := writesC c)).2 htw] at hs'
                have hslot := hf.slot t
                simp only [SlotIs, recDst] at hslot
                rcases baseGet_app (t := t) (r := tmpsB a (List.range sz)) (pre := zipS ts svs0) with ⟨y, f1, f2⟩ | ⟨_, f2⟩
                · -- one of the named slots
                  rw [f2] at hs'
                  obtain ⟨j, hj1, hj2⟩ := zipS_get f1
                  obtain ⟨q1, q2⟩ := mapO_get hsvs
                  obtain ⟨x0, hx1, hx2⟩ := q2 j t hj1
                  obtain ⟨q3, q4⟩ := mapO_get hsvs0
                  obtain ⟨y', hy1, hy2⟩ := q4 j x0 hx1
                  rw [hj2] at hy1
                  cases hy1
                  obtain ⟨u1, u2⟩ := dnS_up (m := s.mem.length) hy2
                  rw [hx2]
                  simp only
                  rw [← u1]
                  exact renS_is hren u2 hs'
                · rw [f2] at hs'
                  have hval : a'.tmps.getD t undef = a.tmps.getD t undef := by
                    by_cases hts : t ∈ List.range sz
                    · rw [(tmpsB_get (ts := List.range sz)).1 hts] at hs'; exact hs'
                    · rw [(tmpsB_get (ts := List.range sz)).2 hts] at hs'
                      have h3 : a.tmps.size ≤ t := by rw [hf.size]; simpa using hts
                      rw [show a'.tmps.getD t undef = undef from hs', Array.getD_eq_getD_getElem?, Array.getElem?_eq_none h3]; rfl
                  rw [hval]
                  cases hz : baseGet t s.base with
                  | some z =>
                    rw [hz] at hslot
                    exact SV.is_mono (fun i u hu => by rw [List.getElem?_append_left (List.getElem?_eq_some_iff.1 hu).1]; exact hu) hslot
                  | none =>
                    rw [hz] at hslot
                    exact hslot
      · cases ht
    · cases ht

/-! ### The rule, with what it asks as a list -/
def eqMs : Mem β → Mem β → Option (List Prop)
  | [], [] => some []
  | x :: xs, y :: ys => (match eqMs xs ys with | some ps => some ((x = y) :: ps) | none => none)
  | _, _ => none
theorem eqMs_is : ∀ {a b : Mem β} {ps : List Prop}, eqMs a b = some ps → (∀ p ∈ ps, p) → EqM a b
  | [], [], _, _, _ => trivial
  | x :: xs, y :: ys, ps, h, hp => by
    simp only [eqMs] at h
    split at h
    · rename_i qs hq
      simp only [Option.some.injEq] at h
      subst h
      exact ⟨hp _ (List.mem_cons_self ..), eqMs_is hq fun p h => hp p (List.mem_cons_of_mem _ h)⟩
    · cases h
  | [], _ :: _, _, h, _ => by simp [eqMs] at h
  | _ :: _, [], _, h, _ => by simp [eqMs] at h
def fitRs (k0 : Nat) (xs : List (Option Nat)) : List (Nat × SV) → List (Nat × SV) → Option (List Prop)
  | [], _ => some []
  | (t, x) :: r, b => (match baseGet t b, fitRs k0 xs r b with | some y, some ps => some (fitR k0 xs y x :: ps) | _, _ => none)
theorem fitRs_is {k0 : Nat} {xs : List (Option Nat)} {b : List (Nat × SV)} : ∀ {U : List (Nat × SV)} {ps : List Prop}, fitRs k0 xs U b = some ps → (∀ p ∈ ps, p) → FitR k0 xs U b
  | [], _, _, _ => trivial
  | (t, x) :: r, ps, h, hp => by
    simp only [fitRs] at h
    split at h
    · rename_i y qs hy hq
      simp only [Option.some.injEq] at h
      subst h
      refine ⟨?_, fitRs_is hq fun p h => hp p (List.mem_cons_of_mem _ h)⟩
      rw [hy]
      exact hp _ (List.mem_cons_self ..)
    · cases h
def nrmOb (nl : β) (PM : Mem β) (V : List (Nat × SV)) (X : Mem β) (s' : SSt β) : Option (List Prop) :=
  match distB (xsOf V s'.base PM.length X.length) && (pickB PM.length s'.mem.length (xsOf V s'.base PM.length X.length) && allB (usOf s'.mem) (xsOf V s'.base PM.length X.length)) with
  | true => (match eqMs ((xsOf V s'.base PM.length X.length).map (enOf nl s'.mem)) X, fitRs PM.length (xsOf V s'.base PM.length X.length) V s'.base with
    | some ps, some qs => some ((s'.mem.take PM.length = PM) :: (ps ++ qs))
    | _, _ => none)
  | false => none
theorem nrmOb_is {nl : β} {PM : Mem β} {V : List (Nat × SV)} {X : Mem β} {s' : SSt β} {ps : List Prop} (h : nrmOb nl PM V X s' = some ps) (hp : ∀ p ∈ ps, p) : Nrm nl PM V X s' := by
  unfold nrmOb at h
  split at h
  · rename_i hb
    split at h
    · rename_i qs rs hq hr
      simp only [Option.some.injEq] at h
      subst h
      exact ⟨⟨hp _ (List.mem_cons_self ..), hb⟩, eqMs_is hq fun p h => hp p (List.mem_cons_of_mem _ (List.mem_append_left _ h)), fitRs_is hr fun p h => hp p (List.mem_cons_of_mem _ (List.mem_append_right _ h))⟩
    · cases h
  · cases h
def rkOb (nl : β) (PM : Mem β) (V : Nat → List (Nat × SV)) (M : Nat → Mem β) (N : Nat) (J : Nat → Prop) (U : Nat → SX → Option (List (Nat × SV) × Mem β)) (X : Nat → SX → Prop) (k : Nat) : Tr β → Option (List Prop)
  | .leaf .normal s' => (match nrmOb nl PM (V (k + 1)) (M (k + 1)) s' with | some ps => some ((k < N) :: J (k + 1) :: ps) | none => none)
  | .leaf x s' => (match U k x with
    | some u => (match nrmOb nl PM u.1 u.2 s' with | some ps => some (X k x :: ps) | none => none)
    | none => none)
  | .br b t e => (match rkOb nl PM V M N J U X k t, rkOb nl PM V M N J U X k e with | some ps, some qs => some (guardP b ps ++ guardN b qs) | _, _ => none)
  | .need ps t => (match rkOb nl PM V M N J U X k t with | some qs => some (ps ++ qs) | none => none)
  | .fail => none
theorem rkOb_is {nl : β} {PM : Mem β} {V : Nat → List (Nat × SV)} {M : Nat → Mem β} {N : Nat} {J : Nat → Prop} {U : Nat → SX → Option (List (Nat × SV) × Mem β)} {X : Nat → SX → Prop} {k : Nat} : ∀ {t : Tr β} {ps : List Prop}, rkOb nl PM V M N J U X k t = some ps → (∀ p ∈ ps, p) → t.holds (RK2 nl PM V M N J U X k)
  | .leaf .normal s', ps, h, hp => by
    simp only [rkOb] at h
    split at h
    · rename_i qs hq
      simp only [Option.some.injEq] at h
      subst h
      exact ⟨⟨hp _ (List.mem_cons_self ..), hp _ (List.mem_cons_of_mem _ (List.mem_cons_self ..))⟩, nrmOb_is hq fun p h => hp p (List.mem_cons_of_mem _ (List.mem_cons_of_mem _ h))⟩
    · cases h
  | .leaf (.exit id) s', ps, h, hp => by
    simp only [rkOb] at h
    split at h
    · rename_i u hu
      split at h
      · rename_i qs hq
        simp only [Option.some.injEq] at h
        subst h
        show RK2 nl PM V M N J U X k (.exit id) s'
        simp only [RK2, hu]
        exact ⟨hp _ (List.mem_cons_self ..), nrmOb_is hq fun p h => hp p (List.mem_cons_of_mem _ h)⟩
      · cases h
    · cases h
  | .leaf .ret s', ps, h, hp => by
    simp only [rkOb] at h
    split at h
    · rename_i u hu
      split at h
      · rename_i qs hq
        simp only [Option.some.injEq] at h
        subst h
        show RK2 nl PM V M N J U X k .ret s'
        simp only [RK2, hu]
        exact ⟨hp _ (List.mem_cons_self ..), nrmOb_is hq fun p h => hp p (List.mem_cons_of_mem _ h)⟩
      · cases h
    · cases h
  | .br b t e, ps, h, hp => by
    simp only [rkOb] at h
    split at h
    · rename_i qs rs hq hr
      simp only [Option.some.injEq] at h
      subst h
      refine ⟨fun hb => ?_, fun hb => ?_⟩
      · have := guardP_mem hb fun p hq => hp p (List.mem_append_left _ hq)
        exact rkOb_is hq this
      · have := guardN_mem hb fun p hq => hp p (List.mem_append_right _ hq)
        exact rkOb_is hr this
    · cases h
  | .need qs t, ps, h, hp => by
    simp only [rkOb] at h
    split at h
    · rename_i rs hr
      simp only [Option.some.injEq] at h
      subst h
      exact ⟨fun p hq => hp p (List.mem_append_left _ hq), rkOb_is (t := t) hr fun p hq => hp p (List.mem_append_right _ hq)⟩
    · cases h
  | .fail, _, h, _ => by simp [rkOb] at h
/-- A loop among its own things, by its rounds. -/
theorem sm_rule {c : Code} (hS : ∀ w G, SyOk S I w G) {nl : β} (hnl : ∀ w, I.holds nl w nilV ∧ ∀ j, ¬ I.foot nl w nilV j) {ts : List Nat} {svs : List SV} {M0 : Mem β} {t : SmT β}
    (xs0 : List (Option Nat)) (PM : Mem β) (V : Nat → List (Nat × SV)) (M : Nat → Mem β) (R : List (Nat × SV)) (N : Nat) (Ux : Nat → SX → Option (List (Nat × SV) × Mem β)) (X : Nat → SX → Prop) (J : Nat → Prop)
    (hL : ∀ w G, LpsOk S I w G L sz c) (hm : killL M0 xs0 = PM) (hd : (distB xs0 && allB (usOf M0) xs0) = true) (hM0 : EqM (xs0.map (enOf nl M0)) (M 0)) (hsB : allB (scEnB PM.length) PM = true) (hsP : ∀ p ∈ scEnP PM.length PM, p)
    (hsR : scBase PM.length R = true) (hsv : scBase PM.length (zipS ts svs) = true) (hV : ∀ k, keysIn (writesC c) (V k) = true) (hEx : ∀ k x U, Ux k x = some U → keysIn (writesC c) U.1 = true) (hJ : J 0)
    (hr : ∀ k, k ≤ N → J k → ∀ base ver, ∃ ps, rkOb nl PM V M N J Ux X k (symC S L sz c ⟨V k ++ anyB' (writesC c) (R ++ base), PM ++ M k, ver⟩) = some ps ∧ ∀ p ∈ ps, p)
    (h0 : ∀ base, FitR PM.length xs0 (V 0) (zipS ts svs ++ base)) (hR : ∀ base, FitL R (zipS ts svs ++ base))
    (hTx : ∀ K, t.holds K → ∀ k x U, k ≤ N → Ux k x = some U → X k x → K x U.1 (PM ++ U.2)) :
    ∀ K, t.holds K → ∀ (w : World) (e : Env) (a : Act) (base : List (Nat × SV)) (Q : Exit → Act → World → Prop),
      scBase M0.length base = true → FrOk [] (zipS ts svs ++ base) e a sz → MemOk w (FootOf I w e M0) I w e M0 →
      (∀ x U X e' a' w', Grows e e' → K x U X → FrOk [] (U ++ anyB' (writesC c) (zipS ts svs ++ base)) e' a' sz → MemOk w (FootOf I w e M0) I w' e' X → Q x.exit' a' w') → (Code.loop c).wp S.P Q a w := by
  intro K hK w e a base Q hsb hf hM hQ
  have hPl : PM.length = M0.length := by rw [← hm, killL_len]
  have hsb' : scBase PM.length (zipS ts svs ++ base) = true := by
    have key : ∀ (a b : List (Nat × SV)), scBase PM.length a = true → scBase PM.length b = true → scBase PM.length (a ++ b) = true := by
      intro a
      induction a with
      | nil => intro b _ h; exact h
      | cons p a ih =>
        intro b h1 h2
        obtain ⟨t, x⟩ := p
        simp only [scBase, Bool.and_eq_true, List.cons_append] at h1 ⊢
        exact ⟨h1.1, ih b h1.2 h2⟩
    exact key _ _ hsv (by rw [hPl]; exact hsb)
  refine loop_rule2 (K := fun x s' => ∃ U Y, s' = xSt2 (writesC c) U PM Y ⟨zipS ts svs ++ base, M0, 0⟩ ∧ K x U (PM ++ Y)) (hS w _) (hL w _) hnl (s := ⟨zipS ts svs ++ base, M0, 0⟩) hm hd hM0 hsB hsP hsR hV hEx hJ
    (fun k hk hJk base ver => by obtain ⟨ps, h1, h2⟩ := hr k hk hJk base ver; exact rkOb_is h1 h2) (h0 base) (hR base) hsb' (fun k x U hk hU hX => ⟨U.1, U.2, rfl, hTx K hK k x U hk hU hX⟩) hf hM ?_
  rintro x s' e' a' w' hg ⟨U, Y, rfl, hKx⟩ hf' hM'
  exact hQ x U (PM ++ Y) e' a' w' hg hKx hf' hM'
end
end Go.Proofs.Ytonomiljclemnaa


/- A symbolic run, wider: what lies in memory. No program in sight. -/
import Derived.Test.YtcekfgcajcjooaaT1
set_option linter.unusedVariables false
set_option linter.unusedSimpArgs false
namespace Go.Proofs.Ytcekfgcajcjooaa
open Go.RowKit

theorem pureSem_run {α : Type} {P : Program} : ∀ (s : Sem α) {x : α}, pureSem P s = some x → ∀ w, s.run P w = .ok x w
  | .pure a, x, h, w => by simp only [pureSem, Option.some.injEq] at h; subst h; rfl
  | .program k, x, h, w => by
    simp only [pureSem] at h
    simp only [Sem.run]
    exact pureSem_run (k P) h w
  | .load _ _ _, _, h, _ => by simp [pureSem] at h
  | .store _ _ _ _, _, h, _ => by simp [pureSem] at h
  | .new _ _, _, h, _ => by simp [pureSem] at h
  | .shape _ _, _, h, _ => by simp [pureSem] at h
  | .freeze _ _ _, _, h, _ => by simp [pureSem] at h
  | .frozen _ _, _, h, _ => by simp [pureSem] at h
  | .getObj _ _, _, h, _ => by simp [pureSem] at h
  | .setObj _ _ _, _, h, _ => by simp [pureSem] at h
  | .choose _ _, _, h, _ => by simp [pureSem] at h
  | .sys _ _, _, h, _ => by simp [pureSem] at h
  | .mark _ _, _, h, _ => by simp [pureSem] at h
  | .halt _, _, h, _ => by simp [pureSem] at h

theorem eqb_eq {a b : Nat} : eqb a b = true ↔ a = b := ⟨fun h => Nat.eq_of_beq_eq_true h, fun h => by subst h; exact Nat.beq_refl a⟩
theorem eqb_ne {a b : Nat} (h : a ≠ b) : eqb a b = false := by
  cases hb : eqb a b with
  | false => rfl
  | true => exact absurd (eqb_eq.1 hb) h
theorem leb_le {a b : Nat} : leb a b = true ↔ a ≤ b := ⟨fun h => Nat.le_of_ble_eq_true h, fun h => Nat.ble_eq_true_of_le h⟩
theorem beqB_eq {a b : Bool} : beqB a b = true ↔ a = b := by cases a <;> cases b <;> simp [beqB]
theorem allB_mem {α : Type} {f : α → Bool} : ∀ {l : List α}, allB f l = true → ∀ x ∈ l, f x = true
  | [], _, x, hx => by cases hx
  | y :: l, h, x, hx => by
    simp only [allB, Bool.and_eq_true] at h
    rcases List.mem_cons.1 hx with rfl | hx
    · exact h.1
    · exact allB_mem h.2 x hx
theorem mapO_get {α β : Type} {f : α → Option β} : ∀ {l : List α} {r : List β}, mapO f l = some r → r.length = l.length ∧ ∀ (i : Nat) (x : α), l[i]? = some x → ∃ y, r[i]? = some y ∧ f x = some y
  | [], r, h => by simp only [mapO, Option.some.injEq] at h; subst h; simp
  | x :: l, r, h => by
    simp only [mapO] at h
    split at h
    · cases h
    · rename_i y hy
      split at h
      · cases h
      · rename_i ys hys
        simp only [Option.some.injEq] at h
        subst h
        obtain ⟨h1, h2⟩ := mapO_get hys
        refine ⟨by simp [h1], fun i z hz => ?_⟩
        cases i with
        | zero => simp at hz; subst hz; exact ⟨y, rfl, hy⟩
        | succ i => simpa using h2 i z (by simpa using hz)

abbrev Env := List Value
def PV.is (e : Env) : PV → Value → Prop
  | .v x, u => u = x
  | .kI k n, u => u = .int k n
  | .kB b, u => u = .bool b
  | .kS s, u => u = .string s
  | .ptr i off, u => ∃ b o, e[i]? = some (.pointer (some ⟨b, o, none⟩)) ∧ u = .pointer (some ⟨b, o + off, none⟩)
  | .elt i sz idx off, u => ∃ b o n cap, e[i]? = some (.slice (some ⟨b, o, none⟩) n cap) ∧ idxOk idx n ∧ u = .pointer (some ⟨b, o + (idx.toNat * sz + off), none⟩)
  | .obj i, u => e[i]? = some u
  | .any, _ => True
def AllIs (e : Env) : List PV → List Value → Prop
  | [], [] => True
  | x :: xs, u :: us => x.is e u ∧ AllIs e xs us
  | _, _ => False
def CV.is (e : Env) : CV → Value → Prop
  | .one p, u => p.is e u
  | .agg cs, u => ∃ us, AllIs e cs us ∧ u = .agg us.toArray
def AllC (e : Env) : List CV → List Value → Prop
  | [], [] => True
  | x :: xs, u :: us => x.is e u ∧ AllC e xs us
  | _, _ => False
def SV.is (e : Env) : SV → Value → Prop
  | .c x, u => x.is e u
  | .tup xs, u => ∃ us, AllC e xs us ∧ u = .tuple us.toArray
  | .fn f fi ca, u => ∃ us vs, AllIs e fi us ∧ AllIs e ca vs ∧ u = .func (.func f) us.toArray vs.toArray
  | .gd b x, u => (b = true → x.is e u) ∧ (b = false → u = undef)

def Grows (e e' : Env) : Prop := ∀ (i : Nat) (x : Value), e[i]? = some x → e'[i]? = some x
theorem Grows.refl (e : Env) : Grows e e := fun _ _ h => h
theorem Grows.trans {a b c : Env} (h : Grows a b) (k : Grows b c) : Grows a c := fun i x hx => k i x (h i x hx)
theorem Grows.push (e : Env) (x : Value) : Grows e (e ++ [x]) := fun i y h => by
  rw [List.getElem?_append_left (List.getElem?_eq_some_iff.1 h).1]; exact h
theorem PV.is_mono {e e' : Env} (h : Grows e e') : ∀ {x : PV} {u : Value}, x.is e u → x.is e' u
  | .v _, _, hx => hx
  | .kI _ _, _, hx => hx
  | .kB _, _, hx => hx
  | .kS _, _, hx => hx
  | .ptr _ _, _, ⟨b, o, h1, h2⟩ => ⟨b, o, h _ _ h1, h2⟩
  | .elt _ _ _ _, _, ⟨b, o, n, c, h1, h2⟩ => ⟨b, o, n, c, h _ _ h1, h2⟩
  | .obj _, _, hx => h _ _ hx
  | .any, _, _ => trivial
theorem AllIs.mono {e e' : Env} (h : Grows e e') : ∀ {xs : List PV} {us : List Value}, AllIs e xs us → AllIs e' xs us
  | [], [], hx => hx
  | _ :: _, _ :: _, ⟨h1, h2⟩ => ⟨PV.is_mono h h1, h2.mono h⟩
  | [], _ :: _, hx => hx.elim
  | _ :: _, [], hx => hx.elim
theorem CV.is_mono {e e' : Env} (h : Grows e e') : ∀ {x : CV} {u : Value}, x.is e u → x.is e' u
  | .one _, _, hx => PV.is_mono h hx
  | .agg _, _, ⟨us, h1, h2⟩ => ⟨us, h1.mono h, h2⟩
theorem AllC.mono {e e' : Env} (h : Grows e e') : ∀ {xs : List CV} {us : List Value}, AllC e xs us → AllC e' xs us
  | [], [], hx => hx
  | _ :: _, _ :: _, ⟨h1, h2⟩ => ⟨CV.is_mono h h1, h2.mono h⟩
  | [], _ :: _, hx => hx.elim
  | _ :: _, [], hx => hx.elim
theorem SV.is_mono {e e' : Env} (h : Grows e e') : ∀ {x : SV} {u : Value}, x.is e u → x.is e' u
  | .c _, _, hx => CV.is_mono h hx
  | .tup _, _, ⟨us, h1, h2⟩ => ⟨us, h1.mono h, h2⟩
  | .fn _ _ _, _, ⟨us, vs, h1, h2, h3⟩ => ⟨us, vs, h1.mono h, h2.mono h, h3⟩
  | .gd _ _, _, ⟨h1, h2⟩ => ⟨fun hb => SV.is_mono h (h1 hb), h2⟩
theorem AllIs.len {e : Env} : ∀ {xs : List PV} {us : List Value}, AllIs e xs us → us.length = xs.length
  | [], [], _ => rfl
  | _ :: xs, _ :: us, ⟨_, h⟩ => by simp [AllIs.len h]
  | [], _ :: _, h => h.elim
  | _ :: _, [], h => h.elim
theorem AllC.len {e : Env} : ∀ {xs : List CV} {us : List Value}, AllC e xs us → us.length = xs.length
  | [], [], _ => rfl
  | _ :: xs, _ :: us, ⟨_, h⟩ => by simp [AllC.len h]
  | [], _ :: _, h => h.elim
  | _ :: _, [], h => h.elim
theorem AllIs.get {e : Env} : ∀ {xs : List PV} {us : List Value}, AllIs e xs us → ∀ (j : Nat) (p : PV) (u : Value), xs[j]? = some p → us[j]? = some u → p.is e u
  | [], [], _, j, p, u, h, _ => by simp at h
  | x :: xs, v :: us, ⟨h1, h2⟩, j, p, u, hp, hu => by
    cases j with
    | zero => simp at hp hu; subst hp; subst hu; exact h1
    | succ j => exact h2.get j p u (by simpa using hp) (by simpa using hu)
  | [], _ :: _, h, _, _, _, _, _ => h.elim
  | _ :: _, [], h, _, _, _, _, _ => h.elim
theorem AllC.get {e : Env} : ∀ {xs : List CV} {us : List Value}, AllC e xs us → ∀ (j : Nat) (p : CV) (u : Value), xs[j]? = some p → us[j]? = some u → p.is e u
  | [], [], _, j, p, u, h, _ => by simp at h
  | x :: xs, v :: us, ⟨h1, h2⟩, j, p, u, hp, hu => by
    cases j with
    | zero => simp at hp hu; subst hp; subst hu; exact h1
    | succ j => exact h2.get j p u (by simpa using hp) (by simpa using hu)
  | [], _ :: _, h, _, _, _, _, _ => h.elim
  | _ :: _, [], h, _, _, _, _, _ => h.elim
theorem AllIs.mk {e : Env} : ∀ {xs : List PV} {us : List Value}, us.length = xs.length → (∀ (j : Nat) (p : PV) (u : Value), xs[j]? = some p → us[j]? = some u → p.is e u) → AllIs e xs us
  | [], [], _, _ => trivial
  | x :: xs, u :: us, hl, h => ⟨h 0 x u rfl rfl, AllIs.mk (by simpa using hl) fun j p v hp hv => h (j + 1) p v (by simpa using hp) (by simpa using hv)⟩
  | [], _ :: _, hl, _ => by simp at hl
  | _ :: _, [], hl, _ => by simp at hl
theorem AllIs.append {e : Env} : ∀ {xs ys : List PV} {us vs : List Value}, AllIs e xs us → AllIs e ys vs → AllIs e (xs ++ ys) (us ++ vs)
  | [], _, [], _, _, h => h
  | _ :: _, _, _ :: _, _, ⟨h1, h2⟩, h => ⟨h1, h2.append h⟩
  | [], _, _ :: _, _, h, _ => h.elim
  | _ :: _, _, [], _, h, _ => h.elim
theorem AllC.append {e : Env} : ∀ {xs ys : List CV} {us vs : List Value}, AllC e xs us → AllC e ys vs → AllC e (xs ++ ys) (us ++ vs)
  | [], _, [], _, _, h => h
  | _ :: _, _, _ :: _, _, ⟨h1, h2⟩, h => ⟨h1, h2.append h⟩
  | [], _, _ :: _, _, h, _ => h.elim
  | _ :: _, _, [], _, h, _ => h.elim
theorem AllIs.ones {e : Env} : ∀ {xs : List PV} {us : List Value}, AllIs e xs us → AllC e (xs.map .one) us
  | [], [], h => h
  | _ :: _, _ :: _, ⟨h1, h2⟩ => ⟨h1, h2.ones⟩
  | [], _ :: _, h => h.elim
  | _ :: _, [], h => h.elim
theorem allIs_v (e : Env) : ∀ us : List Value, AllIs e (us.map .v) us
  | [] => trivial
  | _ :: us => ⟨rfl, allIs_v e us⟩
theorem valP_is {e : Env} {p : PV} {x u : Value} (h : valP p = some x) (hu : p.is e u) : u = x := by
  cases p <;> simp only [valP, Option.some.injEq, reduceCtorEq] at h
  all_goals subst h; exact hu
theorem is_valP {e : Env} {p : PV} {x : Value} (h : valP p = some x) : p.is e x := by
  cases p <;> simp only [valP, Option.some.injEq, reduceCtorEq] at h
  all_goals subst h; rfl
theorem mapO_valP {e : Env} : ∀ {ps : List PV} {xs us : List Value}, mapO valP ps = some xs → AllIs e ps us → us = xs
  | [], xs, [], h, _ => by simp only [mapO, Option.some.injEq] at h; exact h
  | p :: ps, xs, u :: us, h, ⟨h1, h2⟩ => by
    simp only [mapO] at h
    split at h
    · cases h
    · rename_i y hy
      split at h
      · cases h
      · rename_i ys hys
        simp only [Option.some.injEq] at h
        subst h
        rw [valP_is hy h1, mapO_valP hys h2]
  | [], _, _ :: _, _, h => h.elim
  | _ :: _, _, [], _, h => h.elim
theorem valC_is {e : Env} {c : CV} {x u : Value} (h : valC c = some x) (hu : c.is e u) : u = x := by
  cases c with
  | one p => exact valP_is h hu
  | agg cs =>
    simp only [valC] at h
    split at h
    · rename_i xs hxs
      simp only [Option.some.injEq] at h
      subst h
      obtain ⟨us, h1, rfl⟩ := hu
      rw [mapO_valP hxs h1]
    · cases h
theorem mapO_valC {e : Env} : ∀ {ps : List CV} {xs us : List Value}, mapO valC ps = some xs → AllC e ps us → us = xs
  | [], xs, [], h, _ => by simp only [mapO, Option.some.injEq] at h; exact h
  | p :: ps, xs, u :: us, h, ⟨h1, h2⟩ => by
    simp only [mapO] at h
    split at h
    · cases h
    · rename_i y hy
      split at h
      · cases h
      · rename_i ys hys
        simp only [Option.some.injEq] at h
        subst h
        rw [valC_is hy h1, mapO_valC hys h2]
  | [], _, _ :: _, _, h => h.elim
  | _ :: _, _, [], _, h => h.elim

/-- What the things of one's own are. -/
structure ObI (β : Type) where
  holds : β → World → Value → Prop
  foot : β → World → Value → Nat → Prop
  one : β → Bool
  stays : ∀ b w u, holds b w u → ∀ (F : Nat → Prop) w', Mod F w w' → (∀ k, foot b w u k → ¬ F k) → holds b w' u ∧ ∀ k, foot b w' u k → foot b w u k
  ones : ∀ b w u, holds b w u → one b = true → u.oneCell' = true

section
variable {β : Type}
def Holds (I : ObI β) (e : Env) (w : World) (u : Value) (m : Bool) : Ob β → Prop
  | .blk cells => ∃ b o, u = .pointer (some ⟨b, o, none⟩) ∧ ∀ (j : Nat) (p : PV), cells[j]? = some p → ∃ x, w.cell? ⟨b, o + j, none⟩ = some x ∧ p.is e x ∧ (m = true → w.frozen? ⟨b, o + j, none⟩ = false)
  | .sl k _ => ∃ ao cap, u = .slice ao k.n cap ∧ k.n ≤ cap ∧ cap ≤ 9223372036854775807 ∧ (ao = none → cap = 0) ∧ ∀ a, ao = some a → (k.n ≠ 0 → a.spot = none) ∧ ∀ i, i < k.n → ∀ (j : Nat) (p : PV), (k.cells i)[j]? = some p → ∃ x, w.cell? ⟨a.block, a.off + (i * k.sz + j), none⟩ = some x ∧ p.is e x
  | .us b => I.holds b w u
  | .dead => True
def Foot (I : ObI β) (w : World) (u : Value) : Ob β → Nat → Prop
  | .blk _, k => ∃ b o, u = .pointer (some ⟨b, o, none⟩) ∧ k = b
  | .sl s _, k => s.n ≠ 0 ∧ u.ownBlock = some k
  | .us b, k => I.foot b w u k
  | .dead, _ => False

theorem Holds.stay {I : ObI β} {e : Env} {w w' : World} {u : Value} {m : Bool} {o : Ob β} {F : Nat → Prop} (h : Holds I e w u m o) (hm : Mod F w w') (hf : ∀ k, Foot I w u o k → ¬ F k) : Holds I e w' u m o ∧ ∀ k, Foot I w' u o k → Foot I w u o k := by
  cases o with
  | blk cells =>
    refine ⟨?_, fun k hk => hk⟩
    obtain ⟨b, o, rfl, h⟩ := h
    refine ⟨b, o, rfl, fun j p hp => ?_⟩
    obtain ⟨x, h1, h2, h3⟩ := h j p hp
    have hb : ¬ F b := hf b ⟨b, o, rfl, rfl⟩
    exact ⟨x, hm.cell h1 hb, h2, fun hmu => hm.frozen (World.block_lt_of_cell? w _ h1) hb (h3 hmu)⟩
  | sl k lb =>
    refine ⟨?_, fun k hk => hk⟩
    obtain ⟨ao, cap, rfl, h1, h2, h3, h4⟩ := h
    refine ⟨ao, cap, rfl, h1, h2, h3, fun a ha => ⟨(h4 a ha).1, fun i hi j p hp => ?_⟩⟩
    obtain ⟨x, g1, g2⟩ := (h4 a ha).2 i hi j p hp
    exact ⟨x, hm.cell g1 (hf a.block ⟨by omega, by subst ha; rfl⟩), g2⟩
  | us b => exact I.stays b w u h F w' hm hf
  | dead => exact ⟨trivial, fun k hk => hk⟩
theorem Holds.mono {I : ObI β} {e e' : Env} {w : World} {u : Value} {m : Bool} {o : Ob β} (h : Holds I e w u m o) (hg : Grows e e') : Holds I e' w u m o := by
  cases o with
  | blk cells =>
    obtain ⟨b, o, rfl, h⟩ := h
    exact ⟨b, o, rfl, fun j p hp => by obtain ⟨x, h1, h2, h3⟩ := h j p hp; exact ⟨x, h1, PV.is_mono hg h2, h3⟩⟩
  | sl k lb =>
    obtain ⟨ao, cap, rfl, h1, h2, h3, h4⟩ := h
    exact ⟨ao, cap, rfl, h1, h2, h3, fun a ha => ⟨(h4 a ha).1, fun i hi j p hp => by obtain ⟨x, g1, g2⟩ := (h4 a ha).2 i hi j p hp; exact ⟨x, g1, PV.is_mono hg g2⟩⟩⟩
  | us b => exact h
  | dead => trivial

structure MemOk (W0 : World) (G : Nat → Prop) (I : ObI β) (w : World) (e : Env) (mem : Mem β) : Prop where
  len : e.length = mem.length
  holds : ∀ (i : Nat) (u : Value) (n : En β), e[i]? = some u → mem[i]? = some n → Holds I e w u n.mu n.ob
  lt : ∀ (i : Nat) (u : Value) (n : En β), e[i]? = some u → mem[i]? = some n → ∀ k, Foot I w u n.ob k → k < w.heap.size
  own : ∀ (i : Nat) (u : Value) (n : En β), e[i]? = some u → mem[i]? = some n → n.mu = true → ∀ k, Foot I w u n.ob k → W0.heap.size ≤ k ∨ G k
  sep : ∀ (i j : Nat) (u v : Value) (n m : En β), e[i]? = some u → mem[i]? = some n → n.mu = true → e[j]? = some v → mem[j]? = some m → i ≠ j → ∀ k, Foot I w u n.ob k → ¬ Foot I w v m.ob k
  mod : Mod G W0 w

variable {W0 : World} {G : Nat → Prop} {I : ObI β} {w w' : World} {e : Env} {mem : Mem β}
theorem MemOk.ext (h : MemOk W0 G I w e mem) (hx : Ext w w') : MemOk W0 G I w' e mem := by
  have st : ∀ (i : Nat) (u : Value) (n : En β), e[i]? = some u → mem[i]? = some n → Holds I e w' u n.mu n.ob ∧ ∀ k, Foot I w' u n.ob k → Foot I w u n.ob k := fun i u n hu hn => (h.holds i u n hu hn).stay hx (fun _ _ => id)
  exact ⟨h.len, fun i u n hu hn => (st i u n hu hn).1, fun i u n hu hn k hk => Nat.lt_of_lt_of_le (h.lt i u n hu hn k ((st i u n hu hn).2 k hk)) hx.size, fun i u n hu hn hm k hk => h.own i u n hu hn hm k ((st i u n hu hn).2 k hk),
    fun i j u v n m hu hn hmu hv hm hij k hk hk' => h.sep i j u v n m hu hn hmu hv hm hij k ((st i u n hu hn).2 k hk) ((st j v m hv hm).2 k hk'), h.mod.ext hx⟩

theorem MemOk.en (h : MemOk W0 G I w e mem) {i : Nat} {u : Value} (hu : e[i]? = some u) : ∃ n, mem[i]? = some n := by
  have := (List.getElem?_eq_some_iff.1 hu).1
  exact ⟨mem[i]'(by rw [← h.len]; exact this), List.getElem?_eq_getElem _⟩
theorem MemOk.ev (h : MemOk W0 G I w e mem) {i : Nat} {n : En β} (hn : mem[i]? = some n) : ∃ u, e[i]? = some u := by
  have := (List.getElem?_eq_some_iff.1 hn).1
  exact ⟨e[i]'(by rw [h.len]; exact this), List.getElem?_eq_getElem _⟩

/-- A thing turns, by its own blocks alone. -/
theorem MemOk.upd (h : MemOk W0 G I w e mem) {i : Nat} {u : Value} {o : Ob β} (hu : e[i]? = some u) (hn : mem[i]? = some ⟨o, true⟩) (hm : Mod (fun k => Foot I w u o k) w w') (n' : En β)
    (hold : Holds I e w' u n'.mu n'.ob) (hf : ∀ k, Foot I w' u n'.ob k → (Foot I w u o k ∨ w.heap.size ≤ k) ∧ k < w'.heap.size) : MemOk W0 G I w' e (mem.set i n') := by
  have hset : ∀ (j : Nat) (m : En β), (mem.set i n')[j]? = some m → (j = i ∧ m = n') ∨ (j ≠ i ∧ mem[j]? = some m) := fun j m hj => by
    by_cases he : j = i
    · subst he
      rw [List.getElem?_set_self (List.getElem?_eq_some_iff.1 hn).1] at hj
      exact .inl ⟨rfl, by simpa using hj.symm⟩
    · rw [List.getElem?_set_ne (fun e => he e.symm)] at hj
      exact .inr ⟨he, hj⟩
  have st : ∀ (j : Nat) (v : Value) (m : En β), j ≠ i → e[j]? = some v → mem[j]? = some m → Holds I e w' v m.mu m.ob ∧ ∀ k, Foot I w' v m.ob k → Foot I w v m.ob k := fun j v m hj hv hmm =>
    (h.holds j v m hv hmm).stay hm (fun k hk hk' => h.sep i j u v _ m hu hn rfl hv hmm (fun e => hj e.symm) k hk' hk)
  refine ⟨by rw [h.len]; simp, fun j v m hv hmm => ?_, fun j v m hv hmm k hk => ?_, fun j v m hv hmm hmu k hk => ?_, fun j1 j2 v1 v2 m1 m2 hv1 hm1 hmu hv2 hm2 hne k hk1 hk2 => ?_, ?_⟩
  · rcases hset j m hmm with ⟨rfl, rfl⟩ | ⟨hne, h1⟩
    · rw [hu] at hv; cases hv; exact hold
    · exact (st j v m hne hv h1).1
  · rcases hset j m hmm with ⟨rfl, rfl⟩ | ⟨hne, h1⟩
    · rw [hu] at hv; cases hv; exact (hf k hk).2
    · exact Nat.lt_of_lt_of_le (h.lt j v m hv h1 k ((st j v m hne hv h1).2 k hk)) hm.size
  · rcases hset j m hmm with ⟨rfl, rfl⟩ | ⟨hne, h1⟩
    · rw [hu] at hv; cases hv
      rcases (hf k hk).1 with h2 | h2
      · exact h.own j u _ hu hn rfl k h2
      · exact .inl (Nat.le_trans h.mod.size h2)
    · exact h.own j v m hv h1 hmu k ((st j v m hne hv h1).2 k hk)
  · rcases hset j1 m1 hm1 with ⟨rfl, rfl⟩ | ⟨hne1, g1⟩
    · rw [hu] at hv1; cases hv1
      rcases hset j2 m2 hm2 with ⟨h2, _⟩ | ⟨hne2, g2⟩
      · exact hne h2.symm
      · have q := (st j2 v2 m2 hne2 hv2 g2).2 k hk2
        rcases (hf k hk1).1 with h3 | h3
        · exact h.sep j1 j2 u v2 _ m2 hu hn rfl hv2 g2 hne k h3 q
        · have := h.lt j2 v2 m2 hv2 g2 k q; omega
    · have q1 := (st j1 v1 m1 hne1 hv1 g1).2 k hk1
      rcases hset j2 m2 hm2 with ⟨rfl, rfl⟩ | ⟨hne2, g2⟩
      · rw [hu] at hv2; cases hv2
        rcases (hf k hk2).1 with h3 | h3
        · exact h.sep j1 j2 v1 u m1 _ hv1 g1 hmu hu hn hne k q1 h3
        · have := h.lt j1 v1 m1 hv1 g1 k q1; omega
      · exact h.sep j1 j2 v1 v2 m1 m2 hv1 g1 hmu hv2 g2 hne k q1 ((st j2 v2 m2 hne2 hv2 g2).2 k hk2)
  · refine Mod.trans h.mod hm fun k hk hl => ?_
    rcases h.own i u _ hu hn rfl k hk with h1 | h1
    · omega
    · exact h1

/-- A thing more, in blocks of its own. -/
theorem MemOk.push (h : MemOk W0 G I w e mem) (hx : Ext w w') (u : Value) (n : En β) (hold : Holds I (e ++ [u]) w' u n.mu n.ob) (hf : ∀ k, Foot I w' u n.ob k → w.heap.size ≤ k ∧ k < w'.heap.size) : MemOk W0 G I w' (e ++ [u]) (mem ++ [n]) := by
  have h' := h.ext hx
  have hg : Grows e (e ++ [u]) := Grows.push e u
  have he : ∀ (i : Nat) (v : Value), (e ++ [u])[i]? = some v → (i < e.length ∧ e[i]? = some v) ∨ (i = e.length ∧ v = u) := fun i v hv => by
    rcases Nat.lt_or_ge i e.length with hi | hi
    · rw [List.getElem?_append_left hi] at hv; exact .inl ⟨hi, hv⟩
    · rw [List.getElem?_append_right hi] at hv
      have : i - e.length = 0 := by
        rcases Nat.eq_zero_or_pos (i - e.length) with h0 | h0
        · exact h0
        · rw [List.getElem?_eq_none (by simp; omega)] at hv; cases hv
      rw [this] at hv
      simp at hv
      exact .inr ⟨by omega, hv.symm⟩
  have hmm : ∀ (i : Nat) (m : En β), (mem ++ [n])[i]? = some m → (i < e.length ∧ mem[i]? = some m) ∨ (i = e.length ∧ m = n) := fun i m hv => by
    have hl := h.len
    rcases Nat.lt_or_ge i mem.length with hi | hi
    · rw [List.getElem?_append_left hi] at hv; exact .inl ⟨by omega, hv⟩
    · rw [List.getElem?_append_right hi] at hv
      have : i - mem.length = 0 := by
        rcases Nat.eq_zero_or_pos (i - mem.length) with h0 | h0
        · exact h0
        · rw [List.getElem?_eq_none (by simp; omega)] at hv; cases hv
      rw [this] at hv
      simp at hv
      exact .inr ⟨by omega, hv.symm⟩
  have old : ∀ (i : Nat) (v : Value) (m : En β), i < e.length → e[i]? = some v → mem[i]? = some m → ∀ k, Foot I w' v m.ob k → k < w.heap.size := fun i v m _ hv hm k hk =>
    h.lt i v m hv hm k (((h.holds i v m hv hm).stay hx (fun _ _ => id)).2 k hk)
  refine ⟨by simp [h.len], fun i v m hv hm => ?_, fun i v m hv hm k hk => ?_, fun i v m hv hm hmu k hk => ?_, fun i j v1 v2 m1 m2 hv1 hm1 hmu hv2 hm2 hne k hk1 hk2 => ?_, h'.mod⟩
  · rcases he i v hv with ⟨hi, h1⟩ | ⟨hi, rfl⟩
    · rcases hmm i m hm with ⟨_, h2⟩ | ⟨h2, _⟩
      · exact (h'.holds i v m h1 h2).mono hg
      · omega
    · rcases hmm i m hm with ⟨h2, _⟩ | ⟨_, rfl⟩
      · omega
      · exact hold
  · rcases he i v hv with ⟨hi, h1⟩ | ⟨hi, rfl⟩
    · rcases hmm i m hm with ⟨_, h2⟩ | ⟨h2, _⟩
      · exact h'.lt i v m h1 h2 k hk
      · omega
    · rcases hmm i m hm with ⟨h2, _⟩ | ⟨_, rfl⟩
      · omega
      · exact (hf k hk).2
  · rcases he i v hv with ⟨hi, h1⟩ | ⟨hi, rfl⟩
    · rcases hmm i m hm with ⟨_, h2⟩ | ⟨h2, _⟩
      · exact h'.own i v m h1 h2 hmu k hk
      · omega
    · rcases hmm i m hm with ⟨h2, _⟩ | ⟨_, rfl⟩
      · omega
      · exact .inl (Nat.le_trans h.mod.size (hf k hk).1)
  · rcases he i v1 hv1 with ⟨hi, h1⟩ | ⟨hi, rfl⟩
    · rcases hmm i m1 hm1 with ⟨_, h2⟩ | ⟨h2, _⟩
      · rcases he j v2 hv2 with ⟨hj, h3⟩ | ⟨hj, rfl⟩
        · rcases hmm j m2 hm2 with ⟨_, h4⟩ | ⟨h4, _⟩
          · exact h'.sep i j v1 v2 m1 m2 h1 h2 hmu h3 h4 hne k hk1 hk2
          · omega
        · rcases hmm j m2 hm2 with ⟨h4, _⟩ | ⟨_, rfl⟩
          · omega
          · have := old i v1 m1 hi h1 h2 k hk1
            have := (hf k hk2).1
            omega
      · omega
    · rcases hmm i m1 hm1 with ⟨h2, _⟩ | ⟨_, rfl⟩
      · omega
      · rcases he j v2 hv2 with ⟨hj, h3⟩ | ⟨hj, rfl⟩
        · rcases hmm j m2 hm2 with ⟨_, h4⟩ | ⟨h4, _⟩
          · have := old j v2 m2 hj h3 h4 k hk2
            have := (hf k hk1).1
            omega
          · omega
        · omega

theorem partS_run {P : Program} {ty : TypeId} {cells : List PV} {off : Nat} {y : CV} (h : partS P ty cells off = some y) :
    (∃ n, (isAgg ty).run P w = .ok true w ∧ (sizeOf ty).run P w = .ok n w ∧ off + n ≤ cells.length ∧ y = .agg ((cells.drop off).take n)) ∨ ∃ p, (isAgg ty).run P w = .ok false w ∧ cells[off]? = some p ∧ y = .one p := by
  unfold partS at h
  split at h
  · rename_i hA
    split at h
    · rename_i n hn
      split at h
      · rename_i hle
        simp only [Option.some.injEq] at h
        exact .inl ⟨n, pureSem_run _ hA w, pureSem_run _ hn w, leb_le.1 hle, h.symm⟩
      · cases h
    · cases h
  · rename_i hA
    split at h
    · rename_i p hp
      simp only [Option.some.injEq] at h
      exact .inr ⟨p, pureSem_run _ hA w, hp, h.symm⟩
    · cases h
  · cases h

/-- What lies in a row of cells is read. -/
theorem loadPart {P : Program} {ty : TypeId} {cells : List PV} {off : Nat} {y : CV} (h : partS P ty cells off = some y) {b o : Nat} (hc : ∀ (j : Nat) (p : PV), cells[j]? = some p → ∃ x, w.cell? ⟨b, o + j, none⟩ = some x ∧ p.is e x) :
    ∃ u, (loadVar ty ⟨b, o + off, none⟩).run P w = .ok u w ∧ y.is e u := by
  rcases partS_run (w := w) h with ⟨n, h1, h2, h3, rfl⟩ | ⟨p, h1, h2, rfl⟩
  · have key : ∀ j, j < n → ∃ x, w.cell? ⟨b, o + off + j, none⟩ = some x ∧ ∃ p, cells[off + j]? = some p ∧ p.is e x := fun j hj => by
      have hcl : cells[off + j]? = some (cells[off + j]'(by omega)) := List.getElem?_eq_getElem (by omega)
      obtain ⟨x, g1, g2⟩ := hc _ _ hcl
      exact ⟨x, by rw [Nat.add_assoc]; exact g1, _, hcl, g2⟩
    have : ∃ xs : List Value, xs.length = n ∧ ∀ (j : Nat) (x : Value), xs[j]? = some x → w.cell? ⟨b, o + off + j, none⟩ = some x ∧ ∃ p, cells[off + j]? = some p ∧ p.is e x := by
      clear h h1 h2
      have gen : ∀ m, m ≤ n → ∃ xs : List Value, xs.length = m ∧ ∀ (j : Nat) (x : Value), xs[j]? = some x → w.cell? ⟨b, o + off + j, none⟩ = some x ∧ ∃ p, cells[off + j]? = some p ∧ p.is e x := by
        intro m
        induction m with
        | zero => intro _; exact ⟨[], rfl, fun j x h => by simp at h⟩
        | succ m ih =>
          intro hm
          obtain ⟨xs, hl, hx⟩ := ih (by omega)
          obtain ⟨y, hy⟩ := key m (by omega)
          refine ⟨xs ++ [y], by simp [hl], fun j x hj => ?_⟩
          by_cases hjm : j < m
          · rw [List.getElem?_append_left (by omega)] at hj; exact hx j x hj
          · rw [List.getElem?_append_right (by omega), hl] at hj
            have : j - m = 0 := by
              rcases Nat.eq_zero_or_pos (j - m) with h0 | h0
              · exact h0
              · rw [List.getElem?_eq_none (by simp; omega)] at hj; cases hj
            rw [this] at hj
            simp at hj
            have hjm' : j = m := by omega
            subst hjm'; subst hj; exact hy
      exact gen n (Nat.le_refl _)
    obtain ⟨xs, hl, hx⟩ := this
    have hr : (loadCells ⟨b, o + off, none⟩ xs.length).run P w = .ok xs.toArray w := run_loadCells_list (P := P) w ⟨b, o + off, none⟩ xs fun j v hv => by
      rw [Addr.add_mid]; exact (hx j v hv).1
    rw [hl] at hr
    refine ⟨.agg xs.toArray, by simp [loadVar, Sem.run_bind, h1, h2, hr], xs, AllIs.mk (by simp [hl]; omega) fun j p u hp hu => ?_, rfl⟩
    rw [List.getElem?_take] at hp
    split at hp
    · rw [List.getElem?_drop] at hp
      obtain ⟨_, p', hp', his⟩ := hx j u hu
      rw [hp] at hp'; cases hp'
      exact his
    · cases hp
  · obtain ⟨x, g1, g2⟩ := hc off p h2
    exact ⟨x, by simp [loadVar, Sem.run_bind, h1, load, Sem.run, g1], g2⟩

theorem loadS_run {P : Program} (hM : MemOk W0 G I w e mem) {ty : TypeId} {p : PV} {y : CV} {v : Value} (h : loadS P mem ty p = some y) (hp : p.is e v) : ∃ a u, v = .pointer (some a) ∧ (loadVar ty a).run P w = .ok u w ∧ y.is e u := by
  unfold loadS at h
  split at h
  · rename_i i off
    split at h
    · rename_i cells mu hn
      obtain ⟨b, o, hb, rfl⟩ := hp
      obtain ⟨b', o', he, hc⟩ := hM.holds i _ _ hb hn
      simp only [Value.pointer.injEq, Option.some.injEq, Addr.mk.injEq] at he
      obtain ⟨rfl, rfl, _⟩ := he
      obtain ⟨u, h1, h2⟩ := loadPart h (fun j p hp => by obtain ⟨x, g1, g2, _⟩ := hc j p hp; exact ⟨x, g1, g2⟩)
      exact ⟨_, u, rfl, h1, h2⟩
    · cases h
  · rename_i i sz idx off
    split at h
    · rename_i k mu hn
      split at h
      · rename_i hsz
        obtain ⟨b, o, n, cap, hb, hi, rfl⟩ := hp
        obtain ⟨ao, cap', he, _, _, _, hc⟩ := hM.holds i _ _ hb hn
        simp only [Value.slice.injEq] at he
        obtain ⟨rfl, rfl, rfl⟩ := he
        have hsz := eqb_eq.1 hsz
        have hcell := (hc _ rfl).2 idx.toNat hi.2
        obtain ⟨u, h1, h2⟩ := loadPart (b := b) (o := o + idx.toNat * sz) h (fun j p hp => by
          obtain ⟨x, g1, g2⟩ := hcell j p hp
          simp only [← hsz] at g1
          exact ⟨x, by rw [Nat.add_assoc]; exact g1, g2⟩)
        refine ⟨_, u, rfl, ?_, h2⟩
        rw [← Nat.add_assoc]; exact h1
      · cases h
    · cases h
  · cases h

theorem oneP_is (hM : MemOk W0 G I w e mem) {p : PV} {u : Value} (h : oneP I.one mem p = true) (hu : p.is e u) : u.oneCell' = true := by
  cases p with
  | v x => have : u = x := hu; rw [this]; exact h
  | kI k n => have : u = .int k n := hu; rw [this]; rfl
  | kB b => have : u = .bool b := hu; rw [this]; rfl
  | kS s => have : u = .string s := hu; rw [this]; rfl
  | ptr i off => obtain ⟨b, o, _, rfl⟩ := hu; rfl
  | elt i sz idx off => obtain ⟨b, o, n, c, _, _, rfl⟩ := hu; rfl
  | obj i =>
    have hu' : e[i]? = some u := hu
    obtain ⟨n, hn⟩ := hM.en hu'
    have hh := hM.holds i u n hu' hn
    simp only [oneP, hn] at h
    obtain ⟨ob, mu⟩ := n
    cases ob with
    | blk cells => obtain ⟨b, o, rfl, _⟩ := hh; rfl
    | sl k lb => obtain ⟨ao, cap, rfl, _⟩ := hh; rfl
    | us b => exact I.ones b w u hh h
    | dead => cases h
  | any => cases h

theorem cellsC_is {y : CV} {u : Value} (h : y.is e u) (h1 : ∀ p x, y = .one p → p.is e x → x.oneCell' = true) : AllIs e (cellsC y) u.cells.toList := by
  cases y with
  | one p =>
    have : u.cells.toList = [u] := by
      have := h1 p u rfl h
      cases u <;> simp_all [Value.cells, Value.oneCell']
    simp only [cellsC]
    rw [this]
    exact ⟨h, trivial⟩
  | agg cs =>
    obtain ⟨us, h2, rfl⟩ := h
    simpa [cellsC, Value.cells] using h2

theorem storeS_run {P : Program} (hM : MemOk W0 G I w e mem) {ty : TypeId} {i off : Nat} {y : CV} {u v : Value} {m' : Mem β} (h : storeS P I.one mem ty i off y = some m') (hp : (PV.ptr i off).is e v) (hy : y.is e u) :
    ∃ a w', v = .pointer (some a) ∧ (storeVar ty a u).run P w = .ok () w' ∧ MemOk W0 G I w' e m' := by
  unfold storeS at h
  split at h
  · rename_i cells hn
    split at h
    · cases h
    · rename_i n hsz
      split at h
      · rename_i hcond
        simp only [Option.some.injEq] at h
        subst h
        simp only [Bool.and_eq_true] at hcond
        obtain ⟨hlen, hle, hone⟩ := hcond
        have hlen := eqb_eq.1 hlen
        have hle := leb_le.1 hle
        obtain ⟨b, o, hb, rfl⟩ := hp
        have hh := hM.holds i _ _ hb hn
        have hh0 := hh
        obtain ⟨b', o', he, hc⟩ := hh
        simp only [Value.pointer.injEq, Option.some.injEq, Addr.mk.injEq] at he
        obtain ⟨rfl, rfl, _⟩ := he
        have hcs := cellsC_is hy (fun p x hyp hx => oneP_is hM (allB_mem hone p (by rw [hyp]; exact List.mem_cons_self ..)) hx)
        have hul : u.cells.toList.length = n := by rw [hcs.len, hlen]
        have h1u : ∀ z ∈ u.cells.toList, z.oneCell' = true := fun z hz => by
          obtain ⟨j, hj, rfl⟩ := List.getElem_of_mem hz
          have hjc : j < (cellsC y).length := by rw [← hcs.len]; exact hj
          exact oneP_is hM (allB_mem hone _ (List.getElem_mem hjc)) (hcs.get j _ _ (List.getElem?_eq_getElem hjc) (List.getElem?_eq_getElem hj))
        have hcell : ∀ j, j < cells.length → ∃ z, w.cell? ⟨b, o + j, none⟩ = some z ∧ w.frozen? ⟨b, o + j, none⟩ = false := fun j hj => by
          obtain ⟨z, g1, _, g3⟩ := hc j _ (List.getElem?_eq_getElem hj)
          exact ⟨z, g1, g3 rfl⟩
        have hin : ∀ j, j < u.cells.toList.length → (w.cell? ⟨b, o + off + j, none⟩).isSome = true := fun j hj => by
          obtain ⟨z, g1, _⟩ := hcell (off + j) (by omega)
          rw [Nat.add_assoc, g1]; rfl
        have hrun := run_storeCells_cells (P := P) b (o + off) u.cells.toList 0 w (fun j hj => by rw [Nat.add_zero]; exact hin j hj) (fun j hj => by
            obtain ⟨z, _, g2⟩ := hcell (off + j) (by omega)
            rw [Nat.add_zero, Nat.add_assoc]; exact g2) h1u
        simp only [Nat.add_zero] at hrun
        have hs := pureSem_run _ hsz w
        have hus : u.cells.size = n := by simpa using hul
        refine ⟨_, w.setCells b (o + off) u.cells.toList, rfl, by simp [storeVar, Sem.run_bind, hs, hus, hrun], ?_⟩
        have hmod := setCells_mod b u.cells.toList (o + off) w
        refine hM.upd hb hn (hmod.mono fun k _ hk => ⟨b, o, rfl, hk⟩) _ ⟨b, o, rfl, fun j p hp => ?_⟩ (fun k hk => ?_)
        · have hl1 : (cells.take off).length = off := by simp; omega
          have hin' : ∀ j, j < u.cells.toList.length → (w.cell? ⟨b, o + off + j, none⟩).isSome = true := hin
          have old : ∀ j', (j' < off ∨ off + n ≤ j') → (w.setCells b (o + off) u.cells.toList).cell? ⟨b, o + j', none⟩ = w.cell? ⟨b, o + j', none⟩ := fun j' hj' =>
            World.cell?_setCells_out b _ (o + off) w ⟨b, o + j', none⟩ fun _ _ => by
              rcases hj' with hj' | hj'
              · left; show o + j' < o + off; omega
              · right; show o + off + u.cells.toList.length ≤ o + j'; omega
          rcases Nat.lt_or_ge j off with hj | hj
          · rw [List.getElem?_append_left (by omega), List.getElem?_take, if_pos hj] at hp
            obtain ⟨z, g1, g2, g3⟩ := hc j p hp
            exact ⟨z, by rw [old j (.inl hj)]; exact g1, g2, fun _ => by rw [World.frozen?_setCells]; exact g3 rfl⟩
          · rw [List.getElem?_append_right (by omega), hl1] at hp
            rcases Nat.lt_or_ge (j - off) n with hjn | hjn
            · rw [List.getElem?_append_left (by omega)] at hp
              have hx : u.cells.toList[j - off]? = some (u.cells.toList[j - off]'(by omega)) := List.getElem?_eq_getElem (by omega)
              refine ⟨u.cells.toList[j - off]'(by omega), ?_, hcs.get _ _ _ hp hx, fun _ => ?_⟩
              · have := World.cell?_setCells_in b u.cells.toList (o + off) w hin (j - off) (by omega)
                rw [show o + j = o + off + (j - off) by omega]
                rw [this]
              · rw [World.frozen?_setCells]
                exact (hcell j (by omega)).elim fun _ h => h.2
            · rw [List.getElem?_append_right (by omega), List.getElem?_drop, hlen] at hp
              rw [show off + n + (j - off - n) = j by omega] at hp
              obtain ⟨z, g1, g2, g3⟩ := hc j p hp
              exact ⟨z, by rw [old j (.inr (by omega))]; exact g1, g2, fun _ => by rw [World.frozen?_setCells]; exact g3 rfl⟩
        · obtain ⟨b2, o2, he, rfl⟩ := hk
          simp only [Value.pointer.injEq, Option.some.injEq, Addr.mk.injEq] at he
          obtain ⟨rfl, _, _⟩ := he
          exact ⟨.inl ⟨b, o, rfl, rfl⟩, Nat.lt_of_lt_of_le (hM.lt i _ _ hb hn b ⟨b, o, rfl, rfl⟩) hmod.size⟩
      · cases h
  · cases h

theorem newBlock_ok (hM : MemOk W0 G I w e mem) (C : Array Value) (t : TypeId) (ps : List PV) (hp : AllIs e ps C.toList) :
    MemOk W0 G I (w.alloc (.cells C t)) (e ++ [.pointer (some ⟨w.heap.size, 0, none⟩)]) (mem ++ [⟨.blk ps, true⟩]) := by
  refine hM.push ((Ext.refl w).alloc _) _ _ ⟨w.heap.size, 0, rfl, fun j p hj => ?_⟩ (fun k hk => ?_)
  · have hjl : j < C.size := by have := hp.len; have := (List.getElem?_eq_some_iff.1 hj).1; simp at *; omega
    have hCj : C[j]? = some C[j] := Array.getElem?_eq_getElem hjl
    refine ⟨C[j], ?_, PV.is_mono (Grows.push _ _) (hp.get j p _ hj (by simp)), fun _ => ?_⟩
    · rw [Nat.zero_add, cell_of_blk (blk_new w _)]; exact hCj
    · rw [Nat.zero_add]; exact frozen_of_blk (blk_new w _) j
  · obtain ⟨b, o, he, rfl⟩ := hk
    simp only [Value.pointer.injEq, Option.some.injEq, Addr.mk.injEq] at he
    obtain ⟨rfl, _, _⟩ := he
    exact ⟨Nat.le_refl _, by simp⟩
end
end Go.Proofs.Ytcekfgcajcjooaa

/- Callees run in their place: what they answer of a block, what they turn. -/
import Derived.Test.YtonomiljclemnaaE4
import Derived.Test.YtonomiljclemnaaE3


set_option linter.unusedVariables false
set_option linter.unusedSimpArgs false
namespace Go.Proofs.Ytonomiljclemnaa
open Go.RowKit

def vlB (p : PV) : Bool := match p with
  | .v _ => true
  | .kI _ _ => true
  | .kB _ => true
  | .kS _ => true
  | _ => false
def canP (p : PV) : PV := match vlB p with
  | true => p
  | false => .any
/-- Values, closed. -/
def clP (p : PV) : PV := match p with
  | .v (.bool b) => .kB b
  | .v (.int k n) => .kI k n
  | .v (.string s) => .kS s
  | p => p
theorem clP_is {p : PV} {e : Env} {u : Value} (h : p.is e u) : (clP p).is e u := by
  unfold clP
  split <;> exact h
/-- A cell's value, closed. -/
def cnP (p : PV) : PV := clP (canP p)
def canC (c : CV) : CV := match c with
  | .one p => .one (canP p)
  | .agg ps => .agg (ps.map canP)
theorem canP_is {p : PV} {e e' : Env} {u : Value} (h : p.is e u) : (canP p).is e' u := by
  unfold canP
  cases p <;> first | exact h | trivial
theorem cnP_is {p : PV} {e e' : Env} {u : Value} (h : p.is e u) : (cnP p).is e' u := clP_is (canP_is h)
theorem canPs_is {e e' : Env} : ∀ {ps : List PV} {us : List Value}, AllIs e ps us → AllIs e' (ps.map canP) us
  | [], [], _ => trivial
  | [], _ :: _, h => h.elim
  | _ :: _, [], h => h.elim
  | p :: ps, u :: us, ⟨h1, h2⟩ => ⟨canP_is h1, canPs_is h2⟩
theorem canC_is {c : CV} {e e' : Env} {u : Value} (h : c.is e u) : (canC c).is e' u := by
  cases c with
  | one p => exact canP_is (p := p) h
  | agg ps => obtain ⟨us, h1, h2⟩ := h; exact ⟨us, canPs_is h1, h2⟩
theorem canCs_is {e e' : Env} : ∀ {cs : List CV} {us : List Value}, AllC e cs us → AllC e' (cs.map canC) us
  | [], [], _ => trivial
  | [], _ :: _, h => h.elim
  | _ :: _, [], h => h.elim
  | p :: ps, u :: us, ⟨h1, h2⟩ => ⟨canC_is h1, canCs_is h2⟩
section
variable {β : Type} {I : ObI β} {P : Program}
def outB (t : RT β) : Option (List Prop × SV × Option (Mem β)) := match t with
  | .leaf x _ => (match valS (some x) with | some _ => some ([], x, none) | none => none)
  | _ => none
/-- What a callee answers of a block (or of nil), the block as it is. -/
def inlB (S : Sy β) (fn : Func) : Fn2 β := fun us mem => match us with
  | .one p :: rest => (match leb (rest.length + 1) fn.ntmps with
    | true => (match p with
      | .ptr i 0 => (match mem[i]? with
        | some ⟨.blk cells, _⟩ => outB (runFn S [] fn (.one (.ptr 0 0) :: rest.map canC) [⟨.blk (cells.map cnP), false⟩])
        | _ => none)
      | .v (.pointer none) => outB (runFn S [] fn (.one (.v (.pointer none)) :: rest.map canC) [])
      | _ => none)
    | false => none)
  | _ => none
theorem outB_some {t : RT β} {ps : List Prop} {r : SV} {mo : Option (Mem β)} (h : outB t = some (ps, r, mo)) : ∃ s v, t = .leaf r s ∧ valS (some r) = some v ∧ ps = [] ∧ mo = none := by
  unfold outB at h
  split at h
  · rename_i x s
    split at h
    · rename_i v hv
      simp only [Option.some.injEq, Prod.mk.injEq] at h
      obtain ⟨rfl, rfl, rfl⟩ := h
      exact ⟨s, v, rfl, hv, rfl, rfl⟩
    · cases h
  · cases h
theorem inlB_ok {S : Sy β} {hard : β → Bool} {f : FuncId} {fn : Func} (hP : S.P = P) (hS : ∀ W0 G, SyOk S I W0 G) (hf : P.funcs[f]? = some fn) (hb : fn.body = some (bodyOf fn)) (he : ∀ us w, (callFunc f us).run P w = .ok (.enter f us) w) : RowOk P I hard f (inlB S fn) := by
  subst hP
  refine ⟨he, fun W0 G args mem ps r mo hr hp w e us hM ha => ?_, fun args m m' ps r hr hl => ?_, fun args mem ps r m' hr => ?_⟩
  · unfold inlB at hr
    split at hr
    · rename_i p rest
      split at hr
      · rename_i hle
        split at hr
        · rename_i i
          split at hr
          · rename_i cells mu hmi
            obtain ⟨s, v, ht, hv, rfl, rfl⟩ := outB_some hr
            match us, ha with
            | u :: us, ⟨⟨b, o, h1, h2⟩, ha⟩ =>
              have hh := hM.holds i _ _ h1 hmi
              obtain ⟨b', o', e1, hc⟩ := hh
              cases e1
              have hM' : MemOk w (fun _ => False) I w [.pointer (some ⟨b, o, none⟩)] [⟨.blk (cells.map cnP), false⟩] := by
                refine ⟨rfl, fun j u n hu hn => ?_, fun j u n hu hn k hk => ?_, fun j u n hu hn hmu => ?_, fun j j' u u' n m hu hn hmu => ?_, Mod.refl _ w, fun _ _ _ _ _ _ _ => .inr id⟩
                · match j, hu, hn with
                  | 0, hu, hn =>
                    simp at hu hn
                    subst hu; subst hn
                    refine ⟨b, o, rfl, fun j p hp => ?_⟩
                    rw [List.getElem?_map] at hp
                    cases hq : cells[j]? with
                    | none => rw [hq] at hp; cases hp
                    | some q =>
                      rw [hq] at hp
                      simp at hp
                      subst hp
                      obtain ⟨x, g1, g2, _⟩ := hc j q hq
                      exact ⟨x, g1, cnP_is g2, fun h => by cases h⟩
                  | j + 1, hu, hn => simp at hu
                · match j, hu, hn with
                  | 0, hu, hn =>
                    simp at hu hn
                    subst hu; subst hn
                    exact hM.lt i _ _ h1 hmi k hk
                  | j + 1, hu, hn => simp at hu
                · match j, hu, hn with
                  | 0, hu, hn => simp at hn; subst hn; cases hmu
                  | j + 1, hu, hn => simp at hu
                · match j, hu, hn with
                  | 0, hu, hn => simp at hn; subst hn; cases hmu
                  | j + 1, hu, hn => simp at hu
              have ha' : AllC [.pointer (some ⟨b, o, none⟩)] (.one (.ptr 0 0) :: rest.map canC) (u :: us) := ⟨⟨b, o, rfl, h2⟩, canCs_is ha⟩
              refine sym_calls (hS w fun _ => False) hf hb (LpsOk.nil _) ha' (by simpa using hle) hM' (K := fun y _ => y = r) (by rw [ht]; rfl) fun y s' e' w' u' _ hy hu hM2 => ?_
              subst hy
              have : u' = v := valS_is hv fun z hz => by cases hz; exact hu
              exact ⟨u', rfl, by rw [this]; exact scalar_is (e' := e) hv, hM2.mod⟩
          · cases hr
        · obtain ⟨s, v, ht, hv, rfl, rfl⟩ := outB_some hr
          match us, ha with
          | u :: us, ⟨hu, ha⟩ =>
            have ha' : AllC [] (.one (.v (.pointer none)) :: rest.map canC) (u :: us) := ⟨hu, canCs_is ha⟩
            refine sym_calls (hS w fun _ => False) hf hb (LpsOk.nil _) ha' (by simpa using hle) (memOk_nil I w) (K := fun y _ => y = r) (by rw [ht]; rfl) fun y s' e' w' u' _ hy hu hM2 => ?_
            subst hy
            have : u' = v := valS_is hv fun z hz => by cases hz; exact hu
            exact ⟨u', rfl, by rw [this]; exact scalar_is (e' := e) hv, hM2.mod⟩
        · cases hr
      · cases hr
    · cases hr
  · unfold inlB at hr ⊢
    split at hr
    · split at hr
      · split at hr
        · split at hr
          · rename_i hmi
            rw [hl _ _ hmi (by simp)]
            exact hr
          · cases hr
        · exact hr
        · cases hr
      · cases hr
    · cases hr
  · unfold inlB at hr
    split at hr
    · split at hr
      · split at hr
        · split at hr
          · obtain ⟨s, v, _, _, _, h⟩ := outB_some hr; cases h
          · cases hr
        · obtain ⟨s, v, _, _, _, h⟩ := outB_some hr; cases h
        · cases hr
      · cases hr
    · cases hr

theorem clPs_is {e : Env} : ∀ {ps : List PV} {us : List Value}, AllIs e ps us → AllIs e (ps.map clP) us
  | [], [], _ => trivial
  | [], _ :: _, h => h.elim
  | _ :: _, [], h => h.elim
  | p :: ps, u :: us, ⟨h1, h2⟩ => ⟨clP_is h1, clPs_is h2⟩
def clC (c : CV) : CV := match c with
  | .one p => .one (clP p)
  | .agg ps => .agg (ps.map clP)
theorem clC_is {c : CV} {e : Env} {u : Value} (h : c.is e u) : (clC c).is e u := by
  cases c with
  | one p => exact clP_is (p := p) h
  | agg ps => obtain ⟨us, h1, h2⟩ := h; exact ⟨us, clPs_is h1, h2⟩
theorem clCs_is {e : Env} : ∀ {cs : List CV} {us : List Value}, AllC e cs us → AllC e (cs.map clC) us
  | [], [], _ => trivial
  | [], _ :: _, h => h.elim
  | _ :: _, [], h => h.elim
  | p :: ps, u :: us, ⟨h1, h2⟩ => ⟨clC_is h1, clCs_is h2⟩
def clS (x : SV) : SV := match x with
  | .c c => .c (clC c)
  | .tup xs => .tup (xs.map clC)
  | x => x
theorem clS_is {x : SV} {e : Env} {u : Value} (h : x.is e u) : (clS x).is e u := by
  cases x with
  | c c => exact clC_is (c := c) h
  | tup xs => obtain ⟨us, h1, h2⟩ := h; exact ⟨us, clCs_is h1, h2⟩
  | fn f a b => exact h
  | gd b x => exact h
def clE (n : En β) : En β := match n with
  | ⟨.blk cells, mu⟩ => ⟨.blk (cells.map clP), mu⟩
  | n => n
theorem clE_mu (n : En β) : (clE n).mu = n.mu := by
  unfold clE
  split <;> rfl
theorem clE_foot {w : World} {u : Value} {k : Nat} (n : En β) : Foot I w u (clE n).ob k ↔ Foot I w u n.ob k := by
  unfold clE
  split <;> exact Iff.rfl
theorem clE_own {w : World} {u : Value} {k : Nat} (n : En β) : Own I w u (clE n).ob k ↔ Own I w u n.ob k := by
  unfold clE
  split <;> exact Iff.rfl
theorem clE_holds {e : Env} {w : World} {u : Value} (n : En β) (h : Holds I e w u n.mu n.ob) : Holds I e w u (clE n).mu (clE n).ob := by
  unfold clE
  split
  · rename_i cells mu
    obtain ⟨b, o, rfl, hc⟩ := h
    refine ⟨b, o, rfl, fun j p hp => ?_⟩
    rw [List.getElem?_map] at hp
    cases hq : cells[j]? with
    | none => rw [hq] at hp; cases hp
    | some q =>
      rw [hq] at hp
      simp at hp
      subst hp
      obtain ⟨x, g1, g2, g3⟩ := hc j q hq
      exact ⟨x, g1, clP_is g2, g3⟩
  · exact h
theorem MemOk.cl {W0 : World} {G : Nat → Prop} {w : World} {e : Env} {mem : Mem β} (h : MemOk W0 G I w e mem) : MemOk W0 G I w e (mem.map clE) := by
  have hg : ∀ (i : Nat) (n : En β), (mem.map clE)[i]? = some n → ∃ m, mem[i]? = some m ∧ n = clE m := fun i n hn => by
    rw [List.getElem?_map] at hn
    cases hm : mem[i]? with
    | none => rw [hm] at hn; cases hn
    | some m => rw [hm] at hn; simp at hn; exact ⟨m, rfl, hn.symm⟩
  refine ⟨by simp [h.len], fun i u n hu hn => ?_, fun i u n hu hn k hk => ?_, fun i u n hu hn hmu k hk => ?_, fun i j u v n m hu hn hmu hv hm hij k hk hk' => ?_, h.mod, fun i u n hu hn k hk => ?_⟩
  · obtain ⟨m, hm, rfl⟩ := hg i n hn
    exact clE_holds m (h.holds i u m hu hm)
  · obtain ⟨m, hm, rfl⟩ := hg i n hn
    exact h.lt i u m hu hm k ((clE_foot m).1 hk)
  · obtain ⟨m, hm, rfl⟩ := hg i n hn
    exact h.own i u m hu hm (by rw [← clE_mu m]; exact hmu) k ((clE_own m).1 hk)
  · obtain ⟨n', hn', rfl⟩ := hg i n hn
    obtain ⟨m', hm', rfl⟩ := hg j m hm
    exact h.sep i j u v n' m' hu hn' (by rw [← clE_mu n']; exact hmu) hv hm' hij k ((clE_own n').1 hk) ((clE_foot m').1 hk')
  · obtain ⟨m, hm, rfl⟩ := hg i n hn
    exact h.rd i u m hu hm k ((clE_foot m).1 hk)
def outE (t : RT β) : Option (List Prop × SV × Option (Mem β)) := match t with
  | .leaf x s => some ([], clS x, some (s.mem.map clE))
  | .need ps (.leaf x s) => some (ps, clS x, some (s.mem.map clE))
  | .need ps (.need qs (.leaf x s)) => some (ps ++ qs, clS x, some (s.mem.map clE))
  | _ => none
theorem outE_some {t : RT β} {ps : List Prop} {r : SV} {mo : Option (Mem β)} (h : outE t = some (ps, r, mo)) (hp : ∀ p ∈ ps, p) : ∃ x m, r = clS x ∧ mo = some (m.map clE) ∧ t.holds (fun y s => y = x ∧ s.mem = m) := by
  unfold outE at h
  split at h
  · simp only [Option.some.injEq, Prod.mk.injEq] at h
    obtain ⟨rfl, rfl, rfl⟩ := h
    exact ⟨_, _, rfl, rfl, rfl, rfl⟩
  · simp only [Option.some.injEq, Prod.mk.injEq] at h
    obtain ⟨rfl, rfl, rfl⟩ := h
    exact ⟨_, _, rfl, rfl, hp, rfl, rfl⟩
  · simp only [Option.some.injEq, Prod.mk.injEq] at h
    obtain ⟨rfl, rfl, rfl⟩ := h
    exact ⟨_, _, rfl, rfl, fun p h => hp p (List.mem_append_left _ h), fun p h => hp p (List.mem_append_right _ h), rfl, rfl⟩
  · cases h
/-- What a callee turns, run in its place. -/
def inlE (S : Sy β) (fn : Func) : Fn2 β := fun us mem => match leb us.length fn.ntmps with
  | true => outE (runFn S [] fn us mem)
  | false => none
theorem FnsOk.consE {W0 : World} {G : Nat → Prop} {F : Fns β} {S' : Sy β} {f : FuncId} {fn : Func} (he : ∀ us w, (callFunc f us).run P w = .ok (.enter f us) w) (hP : S'.P = P) (hf : P.funcs[f]? = some fn) (hb : fn.body = some (bodyOf fn))
    (hS' : ∀ W0 G, SyOk S' I W0 G) (ht : FnsOk P I W0 G F) : FnsOk P I W0 G ((f, inlE S' fn) :: F) := by
  subst hP
  exact FnsOk.cons he (fun args mem ps r mo hr hp w e us hM ha => by
    unfold inlE at hr
    split at hr
    · rename_i hle
      obtain ⟨x, m, rfl, rfl, hh⟩ := outE_some hr hp
      refine sym_calls (hS' W0 G) hf hb (LpsOk.nil _) ha hle hM hh ?_
      rintro y s e' w' v hg ⟨rfl, rfl⟩ hy hM'
      exact ⟨v, rfl, e', hg, clS_is hy, hM'.cl⟩
    · cases hr) ht
/-- Rows of the one kind are rows of the other. -/
theorem FnsOk.ofR {W0 : World} {G : Nat → Prop} {F : Fns β} {hard : β → Bool} {f : FuncId} {g : Fn2 β} (h : RowOk P I hard f g) (ht : FnsOk P I W0 G F) : FnsOk P I W0 G ((f, g) :: F) :=
  FnsOk.cons h.enter (fun args mem ps r mo hr hp w e us hM ha => h.run W0 G args mem ps r mo hr hp w e us hM ha) ht
end
end Go.Proofs.Ytonomiljclemnaa

/- Blocks of closed cells, as things. -/
import Derived.Test.YtklemhmdbfhcdaaO1
import Derived.Test.YtklemhmdbfhcdaaM29


set_option linter.unusedVariables false
set_option linter.unusedSimpArgs false
namespace Go.Proofs.Ytklemhmdbfhcdaa
open Go.RowKit

theorem memOk1 {W0 : World} {G : Nat → Prop} {w : World} {u : Value} {ob : Ob Lab} : MemOk W0 G labI w [u] [⟨ob, true⟩] ↔ Holds labI [u] w u true ob ∧ (∀ k, Foot labI w u ob k → k < w.heap.size) ∧ (∀ k, Own labI w u ob k → W0.heap.size ≤ k ∨ G (2 * k)) ∧ Mod (fun k => G (2 * k)) W0 w ∧ ∀ k, Foot labI w u ob k → W0.heap.size ≤ k ∨ ¬ G (2 * k + 1) := by
  constructor
  · intro h
    exact ⟨h.holds 0 u _ rfl rfl, h.lt 0 u _ rfl rfl, h.own 0 u _ rfl rfl rfl, h.mod, h.rd 0 u _ rfl rfl⟩
  · rintro ⟨h1, h2, h3, h4, h5⟩
    refine ⟨rfl, fun i v n hu hn => ?_, fun i v n hu hn => ?_, fun i v n hu hn hmu => ?_, fun i j v v' n m hu hn hmu hv hm hij => ?_, h4, fun i v n hu hn => ?_⟩
    · match i, hu, hn with
      | 0, hu, hn => simp at hu hn; subst hu; subst hn; exact h1
      | i + 1, hu, hn => simp at hu
    · match i, hu, hn with
      | 0, hu, hn => simp at hu hn; subst hu; subst hn; exact h2
      | i + 1, hu, hn => simp at hu
    · match i, hu, hn with
      | 0, hu, hn => simp at hu hn; subst hu; subst hn; exact h3
      | i + 1, hu, hn => simp at hu
    · match i, j, hu, hv with
      | 0, 0, _, _ => exact absurd rfl hij
      | i + 1, _, hu, _ => simp at hu
      | _, j + 1, _, hv => simp at hv
    · match i, hu, hn with
      | 0, hu, hn => simp at hu hn; subst hu; subst hn; exact h5
      | i + 1, hu, hn => simp at hu
theorem vlB_is {p : PV} (h : vlB p = true) {e e' : Env} {u : Value} (hu : p.is e u) : p.is e' u := by
  cases p <;> first | exact hu | cases h
theorem box_iff {e : Env} {w : World} {u : Value} {cs : List PV} (hc : allB vlB cs = true) : Holds labI e w u true (.blk cs) ↔ Holds labI e w u true (.us (.box cs)) := by
  constructor
  · rintro ⟨b, o, rfl, h⟩
    refine ⟨b, o, rfl, fun j p hp => ?_⟩
    obtain ⟨x, h1, h2, h3⟩ := h j p hp
    exact ⟨x, h1, vlB_is (allB_mem hc p (List.mem_of_getElem? hp)) h2, h3 rfl⟩
  · rintro ⟨b, o, rfl, h⟩
    refine ⟨b, o, rfl, fun j p hp => ?_⟩
    obtain ⟨x, h1, h2, h3⟩ := h j p hp
    exact ⟨x, h1, vlB_is (allB_mem hc p (List.mem_of_getElem? hp)) h2, fun _ => h3⟩
theorem box_mem {W0 : World} {G : Nat → Prop} {w : World} {u : Value} {cs : List PV} (hc : allB vlB cs = true) : MemOk W0 G labI w [u] [⟨.blk cs, true⟩] ↔ MemOk W0 G labI w [u] [⟨.us (.box cs), true⟩] := by
  rw [memOk1, memOk1, box_iff hc]
  exact Iff.rfl
theorem vl_sc {n : Nat} : ∀ {cs : List PV}, allB vlB cs = true → allB (scP n) cs = true
  | [], _ => rfl
  | p :: cs, h => by
    simp only [allB, Bool.and_eq_true] at h ⊢
    refine ⟨?_, vl_sc h.2⟩
    cases p <;> first | rfl | cases h.1
/-- The first block alone, closed. -/
theorem box_take {W0 : World} {G : Nat → Prop} {w : World} {e : Env} {cs : List PV} {r : Mem Lab} (hc : allB vlB (cs.map clP) = true) (h : MemOk W0 G labI w e (⟨.blk cs, true⟩ :: r)) : ∃ u, e[0]? = some u ∧ e.take 1 = [u] ∧ MemOk W0 G labI w [u] [⟨.us (.box (cs.map clP)), true⟩] := by
  have h1 := h.cl
  have h2 := MemOk.take (n := 1) h1 (by
    intro en hen
    simp [clE] at hen
    subst hen
    exact vl_sc hc)
  match e, h with
  | [], h => have := h.len; simp at this
  | u :: e, h =>
    refine ⟨u, rfl, rfl, (box_mem hc).1 ?_⟩
    simpa [clE] using h2
def clsC (c : CV) : Bool := match c with
  | .one p => vlB p
  | .agg ps => allB vlB ps
theorem vlPs_is {e e' : Env} : ∀ {ps : List PV} {us : List Value}, allB vlB ps = true → AllIs e ps us → AllIs e' ps us
  | [], [], _, _ => trivial
  | [], _ :: _, _, h => h.elim
  | _ :: _, [], _, h => h.elim
  | p :: ps, u :: us, h, ⟨h1, h2⟩ => by
    simp only [allB, Bool.and_eq_true] at h
    exact ⟨vlB_is h.1 h1, vlPs_is h.2 h2⟩
theorem clsC_is {c : CV} (h : clsC c = true) {e e' : Env} {u : Value} (hu : c.is e u) : c.is e' u := by
  cases c with
  | one p => exact vlB_is (p := p) h hu
  | agg ps => obtain ⟨us, h1, h2⟩ := hu; exact ⟨us, vlPs_is h h1, h2⟩
theorem clsCs_is {e e' : Env} : ∀ {cs : List CV} {us : List Value}, allB clsC cs = true → AllC e cs us → AllC e' cs us
  | [], [], _, _ => trivial
  | [], _ :: _, _, h => h.elim
  | _ :: _, [], _, h => h.elim
  | p :: ps, u :: us, h, ⟨h1, h2⟩ => by
    simp only [allB, Bool.and_eq_true] at h
    exact ⟨clsC_is h.1 h1, clsCs_is h.2 h2⟩
def clsS (x : SV) : Bool := match x with
  | .c c => clsC c
  | .tup xs => allB clsC xs
  | _ => false
theorem clsS_is {x : SV} (h : clsS x = true) {e e' : Env} {u : Value} (hu : x.is e u) : x.is e' u := by
  cases x with
  | c c => exact clsC_is (c := c) h hu
  | tup xs => obtain ⟨us, h1, h2⟩ := hu; exact ⟨us, clsCs_is h h1, h2⟩
  | fn f a b => cases h
  | gd b x => cases h
section
variable {P : Program}
/-- What a callee turns, of a box; and answers. -/
def bxG (S : Sy Lab) (fn : Func) : Spec Lab := fun us mem => match us with
  | .one (.obj i) :: rest => (match mem[i]? with
    | some ⟨.us (.box cs), true⟩ => (match (allB vlB cs && allB clsC rest) && leb (rest.length + 1) fn.ntmps with
      | true => (match outE (runFn S [] fn (.one (.ptr 0 0) :: rest.map clC) [⟨.blk cs, true⟩]) with
        | some (ps, r, some (⟨.blk cs', true⟩ :: _)) => (match clsS r && allB vlB cs' with
          | true => some ([i], ps, r, [⟨.us (.box cs'), true⟩])
          | false => none)
        | _ => none)
      | false => none)
    | _ => none)
  | _ => none
/-- A new one. -/
def nwG (S : Sy Lab) (fn : Func) : Spec Lab := fun us mem => match allB clsC us && leb us.length fn.ntmps with
  | true => (match outE (runFn S [] fn (us.map clC) []) with
    | some (ps, .tup [.one (.ptr 0 0), .one p], some (⟨.blk cs', true⟩ :: _)) => (match vlB p && allB vlB cs' with
      | true => some ([], ps, .tup [.one (.obj 0), .one p], [⟨.us (.box cs'), true⟩])
      | false => none)
    | _ => none)
  | false => none
theorem bxG_ok {S : Sy Lab} {f : FuncId} {fn : Func} (hP : S.P = P) (hS : ∀ W0 G, SyOk S labI W0 G) (hf : P.funcs[f]? = some fn) (hb : fn.body = some (bodyOf fn)) (he : ∀ us w, (callFunc f us).run P w = .ok (.enter f us) w) : RowOk P labI hardL f (rowG hardL (bxG S fn)) := by
  subst hP
  refine rowG_ok he fun args mem is ps r ms hs => ?_
  unfold bxG at hs
  split at hs
  · rename_i i rest
    split at hs
    · rename_i cs hmi
      split at hs
      · rename_i hc
        split at hs
        · rename_i ps' r' cs' m' hout
          split at hs
          · rename_i hcl
            simp only [Option.some.injEq, Prod.mk.injEq] at hs
            obtain ⟨rfl, rfl, rfl, rfl⟩ := hs
            simp only [Bool.and_eq_true] at hc hcl
            refine ⟨fun j i' n h1 h2 hmu => ?_, fun n hn => ?_, fun n hn => ?_, fun hp W0 G w E us e hM ha hlen hmap hsub => ?_⟩
            · match j, h2 with
              | 0, h2 => simp at h2; subst h2; cases hmu
              | j + 1, h2 => simp at h2
            · simp [subM, hmi] at hn
              subst hn
              exact fun _ _ _ _ h => h
            · simp at hn
              subst hn
              exact fun _ _ _ _ h => h
            · obtain ⟨x, m, hr, hm', hh⟩ := outE_some hout hp
              match us, ha with
              | u :: us, ⟨hu, ha⟩ =>
                match e, hlen with
                | [u0], _ =>
                  have h0 := hmap 0 i rfl
                  rw [show E[i]? = some u from hu] at h0
                  simp at h0
                  subst h0
                  have hsb : subM mem [i] = [⟨.us (.box cs), true⟩] := by simp [subM, hmi]
                  rw [hsb] at hsub ⊢
                  have hM1 := (box_mem hc.1.1).2 hsub
                  obtain ⟨B, O, hB, _⟩ := hsub.holds 0 u0 _ rfl rfl
                  have ha' : AllC [u0] (.one (.ptr 0 0) :: rest.map clC) (u0 :: us) := ⟨⟨B, O, by rw [hB]; rfl, hB⟩, clCs_is (clsCs_is hc.1.2 ha)⟩
                  refine sym_calls (hS _ _) hf hb (LpsOk.nil _) ha' (by simpa using hc.2) hM1 hh ?_
                  rintro y s e' w' v hg ⟨rfl, rfl⟩ hy hM'
                  subst hr
                  cases hmm : s.mem with
                  | nil => rw [hmm] at hm'; cases hm'
                  | cons x0 xr =>
                    rw [hmm] at hm' hM'
                    simp only [List.map_cons, Option.some.injEq, List.cons.injEq] at hm'
                    obtain ⟨hx0, rfl⟩ := hm'
                    obtain ⟨cs0, rfl, rfl⟩ : ∃ cs0, x0 = ⟨.blk cs0, true⟩ ∧ cs' = cs0.map clP := by
                      obtain ⟨ob, mu⟩ := x0
                      cases ob with
                      | blk cells => simp [clE] at hx0; obtain ⟨h1, rfl⟩ := hx0; exact ⟨cells, rfl, h1⟩
                      | sl K b => simp [clE] at hx0
                      | us b => simp [clE] at hx0
                      | bx b => simp [clE] at hx0
                      | dead => simp [clE] at hx0
                    obtain ⟨u2, e1, e2, hM2⟩ := box_take hcl.2 hM'
                    have hu2 : u2 = u0 := by
                      have := hg 0 u0 rfl
                      rw [e1] at this
                      cases this; rfl
                    subst hu2
                    exact ⟨v, [u2], rfl, Grows.refl _, clsS_is hcl.1 (clS_is hy), hM2⟩
          · cases hs
        · cases hs
      · cases hs
    · cases hs
  · cases hs
theorem nwG_ok {S : Sy Lab} {f : FuncId} {fn : Func} (hP : S.P = P) (hS : ∀ W0 G, SyOk S labI W0 G) (hf : P.funcs[f]? = some fn) (hb : fn.body = some (bodyOf fn)) (he : ∀ us w, (callFunc f us).run P w = .ok (.enter f us) w) : RowOk P labI hardL f (rowG hardL (nwG S fn)) := by
  subst hP
  refine rowG_ok he fun args mem is ps r ms hs => ?_
  unfold nwG at hs
  split at hs
  · rename_i hc
    split at hs
    · rename_i ps' p cs' m' hout
      split at hs
      · rename_i hcl
        simp only [Option.some.injEq, Prod.mk.injEq] at hs
        obtain ⟨rfl, rfl, rfl, rfl⟩ := hs
        simp only [Bool.and_eq_true] at hc hcl
        refine ⟨fun j i' n h1 h2 hmu => ?_, fun n hn => ?_, fun n hn => ?_, fun hp W0 G w E us e hM ha hlen hmap hsub => ?_⟩
        · simp at h1
        · simp [subM] at hn
        · simp at hn
          subst hn
          exact fun _ _ _ _ h => h
        · obtain ⟨x, m, hr, hm', hh⟩ := outE_some hout hp
          match e, hlen with
          | [], _ =>
            have hsb : subM mem [] = [] := rfl
            rw [hsb] at hsub ⊢
            refine sym_calls (hS _ _) hf hb (LpsOk.nil _) (e := []) (clCs_is (clsCs_is hc.1 ha)) (by simpa using hc.2) hsub hh ?_
            rintro y s e' w' v hg ⟨rfl, rfl⟩ hy hM'
            cases hmm : s.mem with
            | nil => rw [hmm] at hm'; cases hm'
            | cons x0 xr =>
              rw [hmm] at hm' hM'
              simp only [List.map_cons, Option.some.injEq, List.cons.injEq] at hm'
              obtain ⟨hx0, rfl⟩ := hm'
              obtain ⟨cs0, rfl, rfl⟩ : ∃ cs0, x0 = ⟨.blk cs0, true⟩ ∧ cs' = cs0.map clP := by
                obtain ⟨ob, mu⟩ := x0
                cases ob with
                | blk cells => simp [clE] at hx0; obtain ⟨h1, rfl⟩ := hx0; exact ⟨cells, rfl, h1⟩
                | sl K b => simp [clE] at hx0
                | us b => simp [clE] at hx0
                | bx b => simp [clE] at hx0
                | dead => simp [clE] at hx0
              obtain ⟨u2, e1, e2, hM2⟩ := box_take hcl.2 hM'
              have hy2 := clS_is hy
              rw [← hr] at hy2
              obtain ⟨us2, hu2, rfl⟩ := hy2
              match us2, hu2 with
              | [a, b], ⟨⟨B, O, g1, g2⟩, g3, _⟩ =>
                rw [e1] at g1
                simp only [Option.some.injEq] at g1
                subst g1
                refine ⟨_, [.pointer (some ⟨B, O, none⟩)], rfl, fun i x h => by simp at h, ⟨[a, b], ⟨?_, vlB_is hcl.1 g3, trivial⟩, rfl⟩, hM2⟩
                show ([Value.pointer (some ⟨B, O, none⟩)] : Env)[0]? = some a
                rw [g2]; rfl
      · cases hs
    · cases hs
  · cases hs
/-- What a callee answers of a box. -/
def bxV (S : Sy Lab) (fn : Func) : Fn2 Lab := fun us mem => match us with
  | .one (.obj i) :: rest => (match leb (rest.length + 1) fn.ntmps with
    | true => (match mem[i]? with
      | some ⟨.us (.box cells), _⟩ => outB (runFn S [] fn (.one (.ptr 0 0) :: rest.map canC) [⟨.blk (cells.map cnP), false⟩])
      | _ => none)
    | false => none)
  | _ => none
theorem bxV_ok {S : Sy Lab} {f : FuncId} {fn : Func} (hP : S.P = P) (hS : ∀ W0 G, SyOk S labI W0 G) (hf : P.funcs[f]? = some fn) (hb : fn.body = some (bodyOf fn)) (he : ∀ us w, (callFunc f us).run P w = .ok (.enter f us) w) : RowOk P labI hardL f (bxV S fn) := by
  subst hP
  refine ⟨he, fun W0 G args mem ps r mo hr hp w e us hM ha => ?_, fun args m m' ps r hr hl => ?_, fun args mem ps r m' hr => ?_⟩
  · unfold bxV at hr
    split at hr
    · rename_i i rest
      split at hr
      · rename_i hle
        split at hr
        · rename_i cells mu hmi
          obtain ⟨s, v, ht, hv, rfl, rfl⟩ := outB_some hr
          match us, ha with
          | u :: us, ⟨h1, ha⟩ =>
            have h1 : e[i]? = some u := h1
            have hh := hM.holds i _ _ h1 hmi
            obtain ⟨b, o, rfl, hc⟩ := hh
            have hM' : MemOk w (fun _ => False) labI w [.pointer (some ⟨b, o, none⟩)] [⟨.blk (cells.map cnP), false⟩] := by
              refine ⟨rfl, fun j u n hu hn => ?_, fun j u n hu hn k hk => ?_, fun j u n hu hn hmu => ?_, fun j j' u u' n m hu hn hmu => ?_, Mod.refl _ w, fun _ _ _ _ _ _ _ => .inr id⟩
              · match j, hu, hn with
                | 0, hu, hn =>
                  simp at hu hn
                  subst hu; subst hn
                  refine ⟨b, o, rfl, fun j p hp => ?_⟩
                  rw [List.getElem?_map] at hp
                  cases hq : cells[j]? with
                  | none => rw [hq] at hp; cases hp
                  | some q =>
                    rw [hq] at hp
                    simp at hp
                    subst hp
                    obtain ⟨x, g1, g2, _⟩ := hc j q hq
                    exact ⟨x, g1, cnP_is g2, fun h => by cases h⟩
                | j + 1, hu, hn => simp at hu
              · match j, hu, hn with
                | 0, hu, hn =>
                  simp at hu hn
                  subst hu; subst hn
                  exact hM.lt i _ _ h1 hmi k hk
                | j + 1, hu, hn => simp at hu
              · match j, hu, hn with
                | 0, hu, hn => simp at hn; subst hn; cases hmu
                | j + 1, hu, hn => simp at hu
              · match j, hu, hn with
                | 0, hu, hn => simp at hn; subst hn; cases hmu
                | j + 1, hu, hn => simp at hu
            have ha' : AllC [.pointer (some ⟨b, o, none⟩)] (.one (.ptr 0 0) :: rest.map canC) (.pointer (some ⟨b, o, none⟩) :: us) := ⟨⟨b, o, rfl, rfl⟩, canCs_is ha⟩
            refine sym_calls (hS w fun _ => False) hf hb (LpsOk.nil _) ha' (by simpa using hle) hM' (K := fun y _ => y = r) (by rw [ht]; rfl) fun y s' e' w' u' _ hy hu hM2 => ?_
            subst hy
            have : u' = v := valS_is hv fun z hz => by cases hz; exact hu
            exact ⟨u', rfl, by rw [this]; exact scalar_is (e' := e) hv, hM2.mod⟩
        · cases hr
      · cases hr
    · cases hr
  · unfold bxV at hr ⊢
    split at hr
    · split at hr
      · split at hr
        · rename_i hmi
          rw [hl _ _ hmi (by simp)]
          exact hr
        · cases hr
      · cases hr
    · cases hr
  · unfold bxV at hr
    split at hr
    · split at hr
      · split at hr
        · obtain ⟨s, v, _, _, _, h⟩ := outB_some hr; cases h
        · cases hr
      · cases hr
    · cases hr
end
end Go.Proofs.Ytklemhmdbfhcdaa

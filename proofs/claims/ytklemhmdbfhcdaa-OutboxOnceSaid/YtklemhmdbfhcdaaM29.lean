/- Messages: rows for drawn chains. -/
import Derived.Test.YtklemhmdbfhcdaaM18
import Derived.Test.YtklemhmdbfhcdaaM9
import Derived.Test.YtklemhmdbfhcdaaMRd
import Derived.Test.YtklemhmdbfhcdaaE4




set_option linter.unusedVariables false
set_option linter.unusedSimpArgs false
namespace Go.Proofs.Ytklemhmdbfhcdaa
open Go.RowKit

def hardL : Lab → Bool := fun b => match b with
  | .ents _ => true
  | .box _ => false
  | .kn _ => true
  | .tape _ => false
def hoL : Ho Lab := ⟨fun _ _ _ => none, fun _ _ _ => none, hardL, true, []⟩
theorem hoL_ok : HoOk Try.prog hoL labI := ⟨fun _ _ _ _ _ _ _ _ h => (by cases h), fun _ _ _ _ _ _ _ _ h => (by cases h), fun _ _ _ _ _ _ h => (by cases h), fun _ _ _ _ _ _ _ _ h => (by cases h)⟩
theorem allIs_split {e : Env} : ∀ {a b : List PV} {us : List Value}, AllIs e (a ++ b) us → ∃ u1 u2, us = u1 ++ u2 ∧ AllIs e a u1 ∧ AllIs e b u2
  | [], b, us, h => ⟨[], us, rfl, trivial, h⟩
  | x :: a, b, [], h => h.elim
  | x :: a, b, u :: us, h => by
    obtain ⟨u1, u2, rfl, h1, h2⟩ := allIs_split (a := a) (b := b) h.2
    exact ⟨u :: u1, u2, rfl, ⟨h.1, h1⟩, h2⟩
theorem allIs_vals {e : Env} : ∀ {ps : List PV} {vs us : List Value}, mapO valP ps = some vs → AllIs e ps us → us = vs
  | [], vs, us, h, hu => by
    simp only [mapO, Option.some.injEq] at h
    subst h
    cases us with
    | nil => rfl
    | cons u us => exact hu.elim
  | p :: ps, vs, us, h, hu => by
    simp only [mapO] at h
    split at h
    · cases h
    · rename_i y hy
      split at h
      · cases h
      · rename_i ys hys
        simp only [Option.some.injEq] at h
        subst h
        cases us with
        | nil => exact hu.elim
        | cons u us => rw [valP_is hy hu.1, allIs_vals hys hu.2]
/-- A message, by its cells. -/
def msgP (mem : Mem Lab) : CV → Option (Msg × List Prop)
  | .agg ps => (match mapO valP (ps.take 17), ps.drop 17 with
    | some [.int .i64 ty, .int .i64 cl, .int .u64 ss, .int .u64 sq, .int .u64 bo, .int .i64 kd, .int .i64 er, .int .i64 f1, .int .i64 f2, .int .i64 d1, .int .i64 d2, .string nm, .string ot, .int .i64 mo, .int .i64 pl, .string da, .int .u64 ve], [.obj o] => (match mem[o]? with
      | some ⟨.sl k (.ents en), _⟩ => some (⟨ty, cl, ss, sq, bo, kd, er, f1, f2, d1, d2, nm, ot, mo, pl, da, ve, en⟩, [k = entKS en])
      | _ => none)
    | _, _ => none)
  | _ => none
theorem msgP_is {W0 : World} {G : Nat → Prop} {w : World} {e : Env} {mem : Mem Lab} {x : CV} {m : Msg} {ps : List Prop} {u : Value} (hM : MemOk W0 G labI w e mem) (h : msgP mem x = some (m, ps)) (hp : ∀ p ∈ ps, p) (hx : x.is e u) :
    ∃ v, u = .agg (m.vals v).toArray ∧ Es w v m.en := by
  unfold msgP at h
  split at h
  · rename_i cs
    split at h
    · rename_i o hvs hob
      split at h
      · rename_i k en mu hmo
        simp only [Option.some.injEq, Prod.mk.injEq] at h
        obtain ⟨rfl, rfl⟩ := h
        obtain ⟨us, hus, rfl⟩ := hx
        rw [← List.take_append_drop 17 cs] at hus
        obtain ⟨u1, u2, rfl, h1, h2⟩ := allIs_split hus
        rw [hob] at h2
        rw [allIs_vals hvs h1]
        match u2, h2 with
        | [v], h2 => exact ⟨v, rfl, es_of hM h2.1 hmo (hp _ (List.mem_cons_self ..))⟩
        | v :: v' :: r, h2 => exact h2.2.elim
      · cases h
    · cases h
  · cases h
theorem msgP_mono {m1 m2 : Mem Lab} (hl : MLe m1 m2) {x : CV} {m : Msg} {ps : List Prop} (h : msgP m1 x = some (m, ps)) : msgP m2 x = some (m, ps) := by
  unfold msgP at h ⊢
  split at h
  · split at h
    · rename_i hvs hob
      split at h
      · rename_i hmo
        simp only [hvs, hob, hl _ _ hmo (by simp)]
        exact h
      · cases h
    · cases h
  · cases h
/-- One that answers for two messages. -/
def row2m (g : Msg → Msg → Bool) : Fn2 Lab := rowP fun us mem => match us with
  | [x, y] => (match msgP mem x, msgP mem y with
    | some (a, ps), some (b, qs) => some (ps ++ qs, .bool (g a b))
    | _, _ => none)
  | _ => none
theorem row2m_ok {f : FuncId} {g : Msg → Msg → Bool} (he : ∀ us w, (callFunc f us).run Try.prog w = .ok (.enter f us) w)
    (h : ∀ (m n : Msg) (v v' : Value) (w : World), Es w v m.en → Es w v' n.en → Calls Try.prog f #[.agg (m.vals v).toArray, .agg (n.vals v').toArray] w fun e w' => e = .returned (.bool (g m n)) ∧ Ext w w') : RowOk Try.prog labI hardL f (row2m g) := by
  refine rowP_ok he (fun args m m' ps v hs hl => ?_) fun args mem ps v hs hp W0 G w E us hM ha => ?_
  · split at hs
    · split at hs
      · rename_i h1 h2
        simp only [msgP_mono hl h1, msgP_mono hl h2]; exact hs
      · cases hs
    · cases hs
  · split at hs
    · split at hs
      · rename_i a ps1 b qs h1 h2
        simp only [Option.some.injEq, Prod.mk.injEq] at hs
        obtain ⟨rfl, rfl⟩ := hs
        obtain ⟨u0, u1, rfl, a0, a1⟩ := allC2 ha
        obtain ⟨v0, rfl, e0⟩ := msgP_is hM h1 (fun p hp' => hp p (List.mem_append_left _ hp')) a0
        obtain ⟨v1, rfl, e1⟩ := msgP_is hM h2 (fun p hp' => hp p (List.mem_append_right _ hp')) a1
        exact h a b v0 v1 w e0 e1
      · cases hs
    · cases hs
def F_rsmV : Nat × Fn2 Lab := (12, row2m sameR)
theorem F_rsmV_ok : RowOk Try.prog labI hardL F_rsmV.1 F_rsmV.2 := row2m_ok Try.call12 fun m n v v' w h h' => rsm_c m.ty m.cl m.ss m.sq m.bo m.kd m.er m.f1 m.f2 m.d1 m.d2 m.nm m.ot m.mo m.pl m.da m.ve m.en v n.ty n.cl n.ss n.sq n.bo n.kd n.er n.f1 n.f2 n.d1 n.d2 n.nm n.ot n.mo n.pl n.da n.ve n.en v' w h h'
/-- Short: a new message. -/
def F_shortV : Nat × Fn2 Lab := (9, fun us mem => match us with
  | [x] => (match msgP mem x with
    | some (m, ps) => some (ps, .c (.agg ([.v (.int .i64 m.ty), .v (.int .i64 m.cl), .v (.int .u64 m.ss), .v (.int .u64 m.sq), .v (.int .u64 m.bo), .v (.int .i64 m.kd), .v (.int .i64 m.er), .v (.int .i64 m.f1), .v (.int .i64 m.f2), .v (.int .i64 m.d1), .v (.int .i64 m.d2), .v (.string (shortS m.nm 20)), .v (.string (shortS m.ot 20)), .v (.int .i64 m.mo), .v (.int .i64 m.pl), .v (.string (shortS m.da 70)), .v (.int .u64 m.ve)] ++ [.obj mem.length])), some (mem ++ [⟨.sl (entKS (shortL m.en)) (.ents (shortL m.en)), true⟩]))
    | none => none)
  | _ => none)
theorem F_shortV_ok : RowOk Try.prog labI hardL F_shortV.1 F_shortV.2 := by
  refine ⟨Try.call9, fun W0 G args mem ps r mo hr hp w e us hM ha => ?_, fun args m m' ps r hr => ?_, fun args mem ps r m' hr => ?_⟩
  · simp only [F_shortV] at hr
    split at hr
    · split at hr
      · rename_i x m qs hm
        simp only [Option.some.injEq, Prod.mk.injEq] at hr
        obtain ⟨rfl, rfl, rfl⟩ := hr
        obtain ⟨u0, rfl, a0⟩ := allC1 ha
        obtain ⟨v0, rfl, e0⟩ := msgP_is hM hm hp a0
        refine (shortM_c m.ty m.cl m.ss m.sq m.bo m.kd m.er m.f1 m.f2 m.d1 m.d2 m.nm m.ot m.mo m.pl m.da m.ve m.en v0 w e0).mono fun x w' ⟨v', h1, hx, hes, hf⟩ => ⟨_, h1, e ++ [v'], Grows.push _ _, ?_, hM.push hx v' _ (es_env hes) (fun k hk => hf k hk.2)⟩
        exact ⟨[.int .i64 m.ty, .int .i64 m.cl, .int .u64 m.ss, .int .u64 m.sq, .int .u64 m.bo, .int .i64 m.kd, .int .i64 m.er, .int .i64 m.f1, .int .i64 m.f2, .int .i64 m.d1, .int .i64 m.d2, .string (shortS m.nm 20), .string (shortS m.ot 20), .int .i64 m.mo, .int .i64 m.pl, .string (shortS m.da 70), .int .u64 m.ve, v'], ⟨rfl, rfl, rfl, rfl, rfl, rfl, rfl, rfl, rfl, rfl, rfl, rfl, rfl, rfl, rfl, rfl, rfl, by rw [← hM.len]; simp [PV.is], trivial⟩, rfl⟩
      · cases hr
    · cases hr
  · simp only [F_shortV] at hr
    split at hr
    · split at hr <;> simp at hr
    · cases hr
  · simp only [F_shortV] at hr
    split at hr
    · split at hr
      · simp only [Option.some.injEq, Prod.mk.injEq] at hr
        obtain ⟨_, _, rfl⟩ := hr
        exact SLe.push _ _ _
      · cases hr
    · cases hr
end Go.Proofs.Ytklemhmdbfhcdaa

/- Short messages, as a row. -/
import Derived.Test.YtklemhmdbfhcdaaM16
import Derived.Test.YtklemhmdbfhcdaaM17


set_option linter.unusedVariables false
set_option linter.unusedSimpArgs false
namespace Go.Proofs.Ytklemhmdbfhcdaa
open Go.RowKit

theorem shortS_size (s : ByteArray) (n : Nat) (hn : n ≤ 9223372036854775807) : (shortS s n).size ≤ 9223372036854775807 := by
  unfold shortS
  split
  · rw [ByteArray.size_extract]; omega
  · omega
theorem shortL_szs (l : List Ent) : Szs (shortL l) := fun i => by
  unfold entAt
  rw [List.getD_eq_getElem?_getD]
  cases h : (shortL l)[i]? with
  | none => exact Nat.zero_le _
  | some d =>
    obtain ⟨a, _, rfl⟩ := List.mem_map.1 (List.mem_of_getElem? h)
    exact shortS_size a.nm 20 (by decide)
def F_short : Nat × Fn2 Lab := (9, fun us mem => match us with | [.agg a0] => (match a0 with | [b0_0, b0_1, b0_2, b0_3, b0_4, b0_5, b0_6, b0_7, b0_8, b0_9, b0_10, b0_11, b0_12, b0_13, b0_14, b0_15, b0_16, .obj o_v] => (match valP b0_0 with | some (.int .i64 ty) => (match valP b0_1 with | some (.int .i64 cl) => (match valP b0_2 with | some (.int .u64 ss) => (match valP b0_3 with | some (.int .u64 sq) => (match valP b0_4 with | some (.int .u64 bo) => (match valP b0_5 with | some (.int .i64 kd) => (match valP b0_6 with | some (.int .i64 er) => (match valP b0_7 with | some (.int .i64 f1) => (match valP b0_8 with | some (.int .i64 f2) => (match valP b0_9 with | some (.int .i64 d1) => (match valP b0_10 with | some (.int .i64 d2) => (match valP b0_11 with | some (.string nm) => (match valP b0_12 with | some (.string ot) => (match valP b0_13 with | some (.int .i64 mo) => (match valP b0_14 with | some (.int .i64 pl) => (match valP b0_15 with | some (.string da) => (match valP b0_16 with | some (.int .u64 ve) => (match mem[o_v]? with | some ⟨.sl K_v (.ents en), _⟩ => some ([K_v = entKS en], .c (.agg [.v (.int .i64 ty), .v (.int .i64 cl), .v (.int .u64 ss), .v (.int .u64 sq), .v (.int .u64 bo), .v (.int .i64 kd), .v (.int .i64 er), .v (.int .i64 f1), .v (.int .i64 f2), .v (.int .i64 d1), .v (.int .i64 d2), .v (.string (shortS nm 20)), .v (.string (shortS ot 20)), .v (.int .i64 mo), .v (.int .i64 pl), .v (.string (shortS da 70)), .v (.int .u64 ve), .obj mem.length]), some (mem ++ [enS (shortL en)])) | _ => none) | _ => none) | _ => none) | _ => none) | _ => none) | _ => none) | _ => none) | _ => none) | _ => none) | _ => none) | _ => none) | _ => none) | _ => none) | _ => none) | _ => none) | _ => none) | _ => none) | _ => none) | _ => none) | _ => none)
theorem F_short_ok {W0 : World} {G : Nat → Prop} {F : Fns Lab} (ht : FnsOk Try.prog labI W0 G F) : FnsOk Try.prog labI W0 G (F_short :: F) :=
  FnsOk.cons Try.call9 (fun args mem ps r mo h hp w e us hM ha => by
    repeat' split at h
    all_goals first
      | (cases h; done)
      | skip
    simp only [Option.some.injEq, Prod.mk.injEq] at h
    obtain ⟨rfl, rfl, rfl⟩ := h
    simp only [allC_cons, allC_nil] at ha
    obtain ⟨u0, t0, rfl, hc0, rfl⟩ := ha
    obtain ⟨xs0, hxs0, rfl⟩ := hc0
    simp only [allIs_cons, allIs_nil] at hxs0
    obtain ⟨y0_0, s0_0, rfl, hb0_0, y0_1, s0_1, rfl, hb0_1, y0_2, s0_2, rfl, hb0_2, y0_3, s0_3, rfl, hb0_3, y0_4, s0_4, rfl, hb0_4, y0_5, s0_5, rfl, hb0_5, y0_6, s0_6, rfl, hb0_6, y0_7, s0_7, rfl, hb0_7, y0_8, s0_8, rfl, hb0_8, y0_9, s0_9, rfl, hb0_9, y0_10, s0_10, rfl, hb0_10, y0_11, s0_11, rfl, hb0_11, y0_12, s0_12, rfl, hb0_12, y0_13, s0_13, rfl, hb0_13, y0_14, s0_14, rfl, hb0_14, y0_15, s0_15, rfl, hb0_15, y0_16, s0_16, rfl, hb0_16, y0_17, s0_17, rfl, hb0_17, rfl⟩ := hxs0
    obtain rfl := valP_is (by assumption) hb0_0
    obtain rfl := valP_is (by assumption) hb0_1
    obtain rfl := valP_is (by assumption) hb0_2
    obtain rfl := valP_is (by assumption) hb0_3
    obtain rfl := valP_is (by assumption) hb0_4
    obtain rfl := valP_is (by assumption) hb0_5
    obtain rfl := valP_is (by assumption) hb0_6
    obtain rfl := valP_is (by assumption) hb0_7
    obtain rfl := valP_is (by assumption) hb0_8
    obtain rfl := valP_is (by assumption) hb0_9
    obtain rfl := valP_is (by assumption) hb0_10
    obtain rfl := valP_is (by assumption) hb0_11
    obtain rfl := valP_is (by assumption) hb0_12
    obtain rfl := valP_is (by assumption) hb0_13
    obtain rfl := valP_is (by assumption) hb0_14
    obtain rfl := valP_is (by assumption) hb0_15
    obtain rfl := valP_is (by assumption) hb0_16
    refine (shortM_c _ _ _ _ _ _ _ _ _ _ _ _ _ _ _ _ _ _ _ w (es_of hM (by assumption) (by assumption) (hp _ (List.mem_cons_self ..)))).mono fun x w' ⟨v', h1, hx, he, hf⟩ => ⟨_, h1, e ++ [v'], Grows.push _ _, ⟨[_, _, _, _, _, _, _, _, _, _, _, _, _, _, _, _, _, v'], ⟨rfl, rfl, rfl, rfl, rfl, rfl, rfl, rfl, rfl, rfl, rfl, rfl, rfl, rfl, rfl, rfl, rfl, by rw [← hM.len]; simp [PV.is], trivial⟩, rfl⟩, hM.push hx v' _ (es_env he) (fun k hk => hf k hk.2)⟩) ht
/-- A message cut short. -/
def shortMsg (m : Msg) : Msg := ⟨m.ty, m.cl, m.ss, m.sq, m.bo, m.kd, m.er, m.f1, m.f2, m.d1, m.d2, shortS m.nm 20, shortS m.ot 20, m.mo, m.pl, shortS m.da 70, m.ve, shortL m.en⟩

end Go.Proofs.Ytklemhmdbfhcdaa

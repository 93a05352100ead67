/- L13 H65 H62 H61. -/
import Derived.Test.YtonomiljclemnaaL12p
import Derived.Test.YtonomiljclemnaaH60p
set_option linter.unusedVariables false
set_option linter.unusedSimpArgs false
namespace Go.Proofs.Ytonomiljclemnaa
open Go.RowKit
def secNL (l : List UInt8) : Nat := if isSec l then 0 else 4
def secP (l : List UInt8) : Pc := if isSec l then pcOf l else ⟨0, 0, false, false, []⟩
theorem unseal_x (v : Value) (l : List UInt8) (w : World) (hv : Bs w v l) :
    Calls Try.prog 54 #[v] w fun r w' => ∃ ao cap, r = .returned (.tuple #[(secP l).agg (.slice ao (secP l).d.length cap), .int .i64 (secNL l : Int)]) ∧ Ext w w' ∧ w'.ownsRow w.heap.size 5 1 (.slice ao (secP l).d.length cap) (secP l).d.length ((secP l).d.map bv) := by
  unfold secP secNL
  refine (unseal_c v l w hv).mono ?_
  rintro r w' ⟨hx, ⟨hs, ao, cap, h1, h2⟩ | ⟨hs, h1⟩⟩
  · rw [if_pos hs, if_pos hs]; exact ⟨ao, cap, h1, hx, h2⟩
  · rw [if_neg hs, if_neg hs]; exact ⟨none, 0, h1, hx, World.ownsRow_nil _ _ _ _⟩
end Go.Proofs.Ytonomiljclemnaa
set_option linter.unusedVariables false
set_option linter.unusedSimpArgs false
namespace Go.Proofs.Ytonomiljclemnaa
open Go.RowKit
def C_unseal : Ctr Td := fun us sub => match us, sub with
  | [.one (.obj 0)], [⟨.us (.bal b), true⟩] => some ([], .tup [.agg [.v (.int .u64 ((secP b).ep : Int)), .v (.int .u64 ((secP b).ct : Int)), .v (.bool (secP b).fi), .v (.bool (secP b).la), .obj 1], .one (.v (.int .i64 (secNL b : Int)))], [⟨.us (.bal b), true⟩, ⟨.us (.own (secP b).d), true⟩])
  | _, _ => none
theorem C_unseal_ok : CtrOk Try.prog Id' 54 C_unseal := by
  intro us sub ps x sm h hp w e vs hM ha
  unfold C_unseal at h
  split at h
  · rename_i b
    simp only [Option.some.injEq, Prod.mk.injEq] at h
    obtain ⟨rfl, rfl, rfl⟩ := h
    match vs, ha with
    | [u], ha =>
      have hE : e[0]? = some u := ha.1
      have hb : Bs w u b := bs_bal (J := dkI) (hM.holds 0 _ _ hE rfl)
      have hlen : e.length = 1 := hM.len
      have hfin : ∀ (s : Value), (e ++ [s])[1]? = some s := fun s => by rw [List.getElem?_append_right (by omega), hlen]; rfl
      refine (unseal_x u b w hb).mono fun r w' ⟨ao, cap, h1, h2, h3⟩ => ⟨_, e ++ [.slice ao (secP b).d.length cap], h1, Grows.push _ _, ⟨[(secP b).agg (.slice ao (secP b).d.length cap), .int .i64 (secNL b : Int)], ⟨?_, rfl, trivial⟩, rfl⟩, hM.push h2 _ ⟨.us (.own (secP b).d), true⟩ ⟨w.heap.size, h2.size, h3⟩ fun k hk => ?_⟩
      · exact ⟨[.int .u64 ((secP b).ep : Int), .int .u64 ((secP b).ct : Int), .bool (secP b).fi, .bool (secP b).la, .slice ao (secP b).d.length cap], ⟨rfl, rfl, rfl, rfl, (by show (e ++ [_])[1]? = some _; exact hfin _), trivial⟩, rfl⟩
      · have hk : (Value.slice ao (secP b).d.length cap).ownBlock = some k := hk
        rcases h3.2 with ⟨hn, _⟩ | ⟨g, cap', cur, hn, k1, k2, _⟩
        · rw [hn] at hk; cases hk
        · rw [hn] at hk
          cases hk
          exact ⟨k1, (Array.getElem?_eq_some_iff.1 k2).1⟩
  · cases h
theorem R_unseal : RowOk Try.prog Id' hardD 54 (ctrF Id' C_unseal hardD) := ctrF_ok Try.call54 C_unseal_ok
end Go.Proofs.Ytonomiljclemnaa
set_option linter.unusedVariables false
set_option linter.unusedSimpArgs false
namespace Go.Proofs.Ytonomiljclemnaa
open Go.RowKit
def pcI (ep ct : Int) (fi la : Bool) (d : List UInt8) : Pc := ⟨ep.toNat, ct.toNat, fi, la, d⟩
def C_seal : Ctr Td := fun us sub => match us, sub with
  | [.agg [.v (.int .u64 ep), .v (.int .u64 ct), .v (.bool fi), .v (.bool la), .obj 0]], [⟨.us (.own d), true⟩] => some ([0 ≤ ep ∧ 0 ≤ ct], .tup [.one (.obj 1), .one (.v (.int .i64 (okN (pcI ep ct fi la d) : Int)))], [⟨.us (.own d), true⟩, ⟨.us (.own (okL (pcI ep ct fi la d))), true⟩])
  | _, _ => none
theorem C_seal_ok : CtrOk Try.prog Id' 50 C_seal := by
  intro us sub ps x sm h hp w e vs hM ha
  unfold C_seal at h
  split at h
  · rename_i ep ct fi la d
    simp only [Option.some.injEq, Prod.mk.injEq] at h
    obtain ⟨rfl, rfl, rfl⟩ := h
    have h0 : 0 ≤ ep ∧ 0 ≤ ct := hp _ (by simp)
    match vs, ha with
    | [v], ha =>
      obtain ⟨us, hu, rfl⟩ := ha.1
      match us, hu with
      | [a1, a2, a3, a4, u], ⟨q1, q2, q3, q4, hE, _⟩ =>
        have q1 : a1 = .int .u64 ep := q1
        have q2 : a2 = .int .u64 ct := q2
        have q3 : a3 = .bool fi := q3
        have q4 : a4 = .bool la := q4
        have hE : e[0]? = some u := hE
        subst q1 q2 q3 q4
        obtain ⟨B, hB, hown⟩ : Id'.holds (.own d) w u := hM.holds 0 _ _ hE rfl
        have hb : Bs w u d := Rs.of_owns hown
        have hlen : e.length = 1 := hM.len
        have hagg : #[(.agg #[.int .u64 ep, .int .u64 ct, .bool fi, .bool la, u] : Value)] = #[(pcI ep ct fi la d).agg u] := by
          unfold pcI Pc.agg
          rw [Int.toNat_of_nonneg h0.1, Int.toNat_of_nonneg h0.2]
        show Calls _ _ #[(.agg #[.int .u64 ep, .int .u64 ct, .bool fi, .bool la, u] : Value)] _ _
        rw [hagg]
        have hfin : ∀ (s : Value), (e ++ [s])[1]? = some s := fun s => by rw [List.getElem?_append_right (by omega), hlen]; rfl
        by_cases hok : (pcI ep ct fi la d).ok
        · refine (seal_ok _ u w hok hb).mono fun r w' ⟨g, h1, h2, h3, h4⟩ => ⟨_, e ++ [.slice (some ⟨g, 0, none⟩) 128 128], h1, Grows.push _ _, ⟨[.slice (some ⟨g, 0, none⟩) 128 128, .int .i64 0], ⟨(by show (e ++ [Value.slice (some ⟨g, 0, none⟩) 128 128])[1]? = some _; exact hfin _), ?_, trivial⟩, rfl⟩, hM.push h2 _ ⟨.us (.own (okL (pcI ep ct fi la d))), true⟩ ?_ fun k hk => ?_⟩
          · show _ = Value.int .i64 (okN _ : Int)
            unfold okN; rw [if_pos hok]; rfl
          · refine ⟨g, Nat.le_of_lt h4.lt, ?_⟩
            unfold okL; rw [if_pos hok, h4.1]
            exact h4.owns (Nat.le_refl g)
          · have hk : some g = some k := hk
            cases hk
            exact ⟨h3, h4.lt⟩
        · refine (seal_bad _ u w hok hb).mono fun r w' ⟨h1, h2⟩ => ⟨_, e ++ [nilV], h1, Grows.push _ _, ⟨[nilV, .int .i64 2], ⟨(by show (e ++ [nilV])[1]? = some _; exact hfin _), ?_, trivial⟩, rfl⟩, hM.push h2 _ ⟨.us (.own (okL (pcI ep ct fi la d))), true⟩ ?_ fun k hk => ?_⟩
          · show _ = Value.int .i64 (okN _ : Int)
            unfold okN; rw [if_neg hok]; rfl
          · refine ⟨0, Nat.zero_le _, ?_⟩
            unfold okL; rw [if_neg hok]
            exact owns_nilV w' 0 _ _
          · have hk : (none : Option Nat) = some k := hk
            cases hk
  · cases h
theorem R_seal : RowOk Try.prog Id' hardD 50 (ctrF Id' C_seal hardD) := ctrF_ok Try.call50 C_seal_ok
end Go.Proofs.Ytonomiljclemnaa
set_option linter.unusedVariables false
set_option linter.unusedSimpArgs false
namespace Go.Proofs.Ytonomiljclemnaa
open Go.RowKit
def hpI (i gn : Int) : Int := IntKind.i64.wrap (i + IntKind.i64.wrap (IntKind.u64.wrap ((BitVec.ofInt IntKind.u64.bits gn &&& BitVec.ofInt IntKind.u64.bits 1).toNat : Int)))
set_option maxRecDepth 100000 in
theorem hplace_w0 (i gn : Int)  : ∃ qs, wayV ((runFn (⟨Try.prog, [], [], dkHo, Id'.one, 60⟩ : Sy Td) [] Try.f51 [.one (.v (.int .i64 i)), .one (.v (.int .u64 gn))] (roM ([] : Mem Td))).al []) (fun u => u = .int .i64 (hpI i gn)) = some qs ∧ ∀ q ∈ qs, q :=
  ⟨[Value.int IntKind.i64 (IntKind.i64.wrap (i + IntKind.i64.wrap (IntKind.u64.wrap (↑(BitVec.ofInt IntKind.u64.bits gn &&& BitVec.ofInt IntKind.u64.bits (1 : Int)).toNat : Int)))) = Value.int IntKind.i64 (hpI i gn)], by kernel_rfl, (by refine mcons ?_ mnil <;> first | rfl | trivial)⟩
def C_hplace : CtrV Td := fun us sub => match us, sub with
  | [.one (.v (.int .i64 i)), .one (.v (.int .u64 gn))], [] => some ([], .int .i64 (hpI i gn))
  | _, _ => none
set_option maxRecDepth 100000 in
theorem C_hplace_ok : CtrVOk Try.prog Id' 51 C_hplace := by
  intro us sub ps x h hp w e vs hM ha
  unfold C_hplace at h
  split at h
  · rename_i i gn
    simp only [Option.some.injEq, Prod.mk.injEq] at h
    obtain ⟨rfl, rfl⟩ := h
    exact ctrv_way (I := Id') (fun (W0 : World) (G : Nat → Prop) => SyOk.mk2 Try.mixed dkHo_ok (FnsR.nil) EqsOk.nil) rfl Try.func51 (by kernel_rfl) (fun _ _ => LpsOk.nil _) (cs := []) (by kernel_rfl) (hplace_w0 i gn ) w e vs hM ha
  · cases h
theorem R_hplace : RowOk Try.prog Id' hardD 51 (ctrV C_hplace hardD) := ctrV_ok Try.call51 C_hplace_ok
end Go.Proofs.Ytonomiljclemnaa

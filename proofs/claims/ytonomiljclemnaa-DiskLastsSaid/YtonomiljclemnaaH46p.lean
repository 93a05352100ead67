/- H46. -/
import Derived.Test.YtonomiljclemnaaH45p
set_option linter.unusedVariables false
set_option linter.unusedSimpArgs false
namespace Go.Proofs.Ytonomiljclemnaa
open Go.RowKit
theorem wr_ok (d : DoD) (Q : List (Int × List UInt8)) (fu : Int) : wrE 6 (withI d.at' 0 5) ((sectO d.b).length : Int) false false fu = 0 ∧ wrQ Q 6 (withI d.at' 0 5) (sectO d.b) false false fu = Q ++ [(withI d.at' 0 5, sectO d.b)] ∧ wrFu 6 (withI d.at' 0 5) ((sectO d.b).length : Int) false false fu = fu ∧ wrOff 6 (withI d.at' 0 5) ((sectO d.b).length : Int) false false fu = false := by
  have hb := wr_b (d := d)
  have ha : wrongI 6 (withI d.at' 0 5) = 0 := by simpa using wr_at (d := d)
  refine ⟨by unfold wrE; rw [ha, sect_len]; rfl, by unfold wrQ; rw [hb]; rfl, by unfold wrFu; rw [hb]; rfl, by unfold wrOff; rw [hb]; rfl⟩
set_option maxRecDepth 100000 in
theorem las1_lp (l m : List DoD) (ks : List Int) (L W : List (List UInt8)) (fu : Int) (hL : L.length = 6) {W0 : World} {G : Nat → Prop} (S0 : Sy Td) (hS0 : S0.P = Try.prog) : LoopSound S0 Id' W0 G 176 (hdC (loopsC (bodyOf Try.f3)) 0) (lpG Id' 176 (hdC (loopsC (bodyOf Try.f3)) 0) 8 [(13, .c (.one (.v (.int .i64 ((0 : Nat) : Int))))), (11, .c (.one (.obj 9))), (12, .c (.one (.obj 10)))] [(1, .c (.one (.obj 1))), (9, .c (.one (.ptr 3 0)))] [⟨.us (.ext (.shr 6 l.length (doEl l))), false⟩, ⟨.us (.ext (.shr 6 m.length (doEl m))), false⟩, ⟨.us (.ext (.nums ks)), false⟩, ⟨.bx [.obj 4, .obj 8, .v (.int .i64 fu), .v (.bool false), .v (.bool false)], true⟩, ⟨.us (.ext (.flat (.secs L))), true⟩, ⟨.dead, true⟩, ⟨.dead, true⟩, ⟨.us (.ext (.tab (.bs W))), true⟩, ⟨.us (.ext (.flat (.pens (lsQ m 0)))), true⟩, ⟨.us (.ins ((lsQ m 0).map (·.1))), true⟩, ⟨.us (.ext (.tab (.bs ((lsQ m 0).map (·.2))))), true⟩] (.leaf (.exit 0) [(11, .c (.one (.obj 9))), (12, .c (.one (.obj 10)))] [⟨.us (.ext (.shr 6 l.length (doEl l))), false⟩, ⟨.us (.ext (.shr 6 m.length (doEl m))), false⟩, ⟨.us (.ext (.nums ks)), false⟩, ⟨.bx [.obj 4, .obj 8, .v (.int .i64 fu), .v (.bool false), .v (.bool false)], true⟩, ⟨.us (.ext (.flat (.secs L))), true⟩, ⟨.dead, true⟩, ⟨.dead, true⟩, ⟨.us (.ext (.tab (.bs W))), true⟩, ⟨.us (.ext (.flat (.pens (lsQ m (min m.length 10))))), true⟩, ⟨.us (.ins ((lsQ m (min m.length 10)).map (·.1))), true⟩, ⟨.us (.ext (.tab (.bs ((lsQ m (min m.length 10)).map (·.2))))), true⟩])) := by
  refine lp_sound (V := fun k => [(13, .c (.one (.v (.int .i64 (k : Int))))), (11, .c (.one (.obj 9))), (12, .c (.one (.obj 10)))]) (M := (fun k => [⟨.us (.ext (.shr 6 l.length (doEl l))), false⟩, ⟨.us (.ext (.shr 6 m.length (doEl m))), false⟩, ⟨.us (.ext (.nums ks)), false⟩, ⟨.bx [.obj 4, .obj 8, .v (.int .i64 fu), .v (.bool false), .v (.bool false)], true⟩, ⟨.us (.ext (.flat (.secs L))), true⟩, ⟨.dead, true⟩, ⟨.dead, true⟩, ⟨.us (.ext (.tab (.bs W))), true⟩, ⟨.us (.ext (.flat (.pens (lsQ m k)))), true⟩, ⟨.us (.ins ((lsQ m k).map (·.1))), true⟩, ⟨.us (.ext (.tab (.bs ((lsQ m k).map (·.2))))), true⟩] : Nat → Mem Td)) (N := 10) (Ux := fun k x => match x with | .exit 0 => some ([(11, .c (.one (.obj 9))), (12, .c (.one (.obj 10)))], ([⟨.us (.ext (.shr 6 l.length (doEl l))), false⟩, ⟨.us (.ext (.shr 6 m.length (doEl m))), false⟩, ⟨.us (.ext (.nums ks)), false⟩, ⟨.bx [.obj 4, .obj 8, .v (.int .i64 fu), .v (.bool false), .v (.bool false)], true⟩, ⟨.us (.ext (.flat (.secs L))), true⟩, ⟨.dead, true⟩, ⟨.dead, true⟩, ⟨.us (.ext (.tab (.bs W))), true⟩, ⟨.us (.ext (.flat (.pens (lsQ m (min m.length 10))))), true⟩, ⟨.us (.ins ((lsQ m (min m.length 10)).map (·.1))), true⟩, ⟨.us (.ext (.tab (.bs ((lsQ m (min m.length 10)).map (·.2))))), true⟩] : Mem Td)) | _ => none) (X := fun _ _ => True) (J := fun k => k ≤ (min m.length 10)) (fun k => by kernel_rfl) (Nat.zero_le _) (fun k hk hJ f => ?_) (fun K hK k x U hk hU hX => ?_)
  · rw [hS0]
    cases hc : (decide ((k : Int) < (m.length : Int)) && decide ((k : Int) < 10)) with
    | false =>
      have hke : k = (min m.length 10) := by simp at hc; omega
      obtain ⟨ps, h1, h2⟩ := (las1_x l m ks L W (lsQ m k) (lsQ m (min m.length 10)) fu ((lsQ m k).map (·.1)) ((lsQ m (min m.length 10)).map (·.1)) ((lsQ m k).map (·.2)) ((lsQ m (min m.length 10)).map (·.2)) k f hc (by rw [← hke]) (by rw [← hke]) (by rw [← hke]))
      exact rnd_x (⟨Try.prog, [(13, ctrV C_within hardD), (14, ctrF Id' C_sect hardD), (15, ctrF Id' C_write hardD)], [], dkHo, Id'.one, 60⟩ : Sy Td) [] rfl ((fun (W0 : World) (G : Nat → Prop) => SyOk.mk2 Try.mixed dkHo_ok (FnsR.cons (R_within) (FnsR.cons (R_sect) (FnsR.cons (R_write) (FnsR.nil)))) EqsOk.nil) W0 G) (LpsOk.nil _) (fun w e h => h) _ 0 ps h1 h2 rfl trivial
    | true =>
      have hk0 : k < m.length ∧ k < 10 := by simp at hc; omega
      have hW : IntKind.i64.wrap ((k : Int) + 1) = ((k + 1 : Nat) : Int) := by rw [IntWalk.i64_in _ (by omega)]; omega
      obtain ⟨e1, e2, e3, e4⟩ := wr_ok (m.getD ((k : Int).toNat) DoD.zero) (lsQ m k) fu
      have h6 : (L.length : Int) = 6 := by rw [hL]; rfl
      have hlen := lsQ_len m k
      obtain ⟨ps, h1, h2⟩ := (las1_n l m ks L W (lsQ m k) (lsQ m (k + 1)) fu ((lsQ m k).map (·.1)) ((lsQ m (k + 1)).map (·.1)) ((lsQ m k).map (·.2)) ((lsQ m (k + 1)).map (·.2)) k f hc hW hk0.1 (by rw [h6]; exact e1) (by omega) (by rw [List.length_map]; omega) (by rw [List.length_map]; omega) (by rw [h6, e2, lsQ_succ, Int.toNat_natCast]) (by rw [h6]; exact e3) (by rw [h6]; exact e4) (by rw [lsQ_succ, List.map_append, Int.toNat_natCast]; rfl) (by rw [lsQ_succ, List.map_append, Int.toNat_natCast]; rfl))
      exact rnd_n (⟨Try.prog, [(13, ctrV C_within hardD), (14, ctrF Id' C_sect hardD), (15, ctrF Id' C_write hardD)], [], dkHo, Id'.one, 60⟩ : Sy Td) [] rfl ((fun (W0 : World) (G : Nat → Prop) => SyOk.mk2 Try.mixed dkHo_ok (FnsR.cons (R_within) (FnsR.cons (R_sect) (FnsR.cons (R_write) (FnsR.nil)))) EqsOk.nil) W0 G) (LpsOk.nil _) (fun w e h => h) _ ps h1 h2 rfl rfl (by omega) (by omega)
  · revert hU
    match x with
    | .exit 0 => intro hU; simp only [Option.some.injEq] at hU; subst hU; exact hK
    | .normal => intro hU; cases hU
    | .ret => intro hU; cases hU
    | .exit (n + 1) => intro hU; cases hU
set_option maxRecDepth 100000 in
theorem las3_lp (l m : List DoD) (ks : List Int) (L W : List (List UInt8)) (fu : Int) (aa : List Int) (da : List (List UInt8)) (g : List UInt8) (i : Int) (hd : aa.length = da.length) (hn : aa.length ≤ 100000) {W0 : World} {G : Nat → Prop} (S0 : Sy Td) (hS0 : S0.P = Try.prog) : LoopSound S0 Id' W0 G 176 (hdC (loopsC (bodyOf Try.f3)) 2) (lpG Id' 176 (hdC (loopsC (bodyOf Try.f3)) 2) 14 [(20, .c (.one (.v (.int .i64 ((0 : Nat) : Int))))), (19, .c (.one (.v (.bool (decide (g = (W.getD i.toNat [])))))))] [(11, .c (.one (.obj 9))), (12, .c (.one (.obj 10))), (16, .c (.one (.v (.int .i64 i)))), (17, .c (.one (.obj 12)))] [⟨.us (.ext (.shr 6 l.length (doEl l))), false⟩, ⟨.us (.ext (.shr 6 m.length (doEl m))), false⟩, ⟨.us (.ext (.nums ks)), false⟩, ⟨.bx [.obj 4, .obj 11, .v (.int .i64 fu), .v (.bool false), .v (.bool false)], true⟩, ⟨.us (.ext (.flat (.secs L))), true⟩, ⟨.dead, true⟩, ⟨.dead, true⟩, ⟨.us (.ext (.tab (.bs W))), true⟩, ⟨.dead, true⟩, ⟨.us (.ins aa), true⟩, ⟨.us (.ext (.tab (.bs da))), true⟩, ⟨.us (.ext (.flat (.pens []))), true⟩, ⟨.us (.bal g), true⟩, ⟨.dead, true⟩] (.leaf (.exit 4) [(19, .c (.one (.v (.bool (fitL (W.getD i.toNat []) g aa da i aa.length)))))] [⟨.us (.ext (.shr 6 l.length (doEl l))), false⟩, ⟨.us (.ext (.shr 6 m.length (doEl m))), false⟩, ⟨.us (.ext (.nums ks)), false⟩, ⟨.bx [.obj 4, .obj 11, .v (.int .i64 fu), .v (.bool false), .v (.bool false)], true⟩, ⟨.us (.ext (.flat (.secs L))), true⟩, ⟨.dead, true⟩, ⟨.dead, true⟩, ⟨.us (.ext (.tab (.bs W))), true⟩, ⟨.dead, true⟩, ⟨.us (.ins aa), true⟩, ⟨.us (.ext (.tab (.bs da))), true⟩, ⟨.us (.ext (.flat (.pens []))), true⟩, ⟨.us (.bal g), true⟩, ⟨.dead, true⟩])) := by
  refine lp_sound (V := fun k => [(20, .c (.one (.v (.int .i64 (k : Int))))), (19, .c (.one (.v (.bool (fitL (W.getD i.toNat []) g aa da i k)))))]) (M := (fun k => [⟨.us (.ext (.shr 6 l.length (doEl l))), false⟩, ⟨.us (.ext (.shr 6 m.length (doEl m))), false⟩, ⟨.us (.ext (.nums ks)), false⟩, ⟨.bx [.obj 4, .obj 11, .v (.int .i64 fu), .v (.bool false), .v (.bool false)], true⟩, ⟨.us (.ext (.flat (.secs L))), true⟩, ⟨.dead, true⟩, ⟨.dead, true⟩, ⟨.us (.ext (.tab (.bs W))), true⟩, ⟨.dead, true⟩, ⟨.us (.ins aa), true⟩, ⟨.us (.ext (.tab (.bs da))), true⟩, ⟨.us (.ext (.flat (.pens []))), true⟩, ⟨.us (.bal g), true⟩, ⟨.dead, true⟩] : Nat → Mem Td)) (N := 100001) (Ux := fun k x => match x with | .exit 4 => some ([(19, .c (.one (.v (.bool (fitL (W.getD i.toNat []) g aa da i aa.length)))))], ([⟨.us (.ext (.shr 6 l.length (doEl l))), false⟩, ⟨.us (.ext (.shr 6 m.length (doEl m))), false⟩, ⟨.us (.ext (.nums ks)), false⟩, ⟨.bx [.obj 4, .obj 11, .v (.int .i64 fu), .v (.bool false), .v (.bool false)], true⟩, ⟨.us (.ext (.flat (.secs L))), true⟩, ⟨.dead, true⟩, ⟨.dead, true⟩, ⟨.us (.ext (.tab (.bs W))), true⟩, ⟨.dead, true⟩, ⟨.us (.ins aa), true⟩, ⟨.us (.ext (.tab (.bs da))), true⟩, ⟨.us (.ext (.flat (.pens []))), true⟩, ⟨.us (.bal g), true⟩, ⟨.dead, true⟩] : Mem Td)) | _ => none) (X := fun _ _ => True) (J := fun k => k ≤ aa.length) (fun k => by kernel_rfl) (Nat.zero_le _) (fun k hk hJ f => ?_) (fun K hK k x U hk hU hX => ?_)
  · rw [hS0]
    cases hT : decide ((k : Int) < (aa.length : Int)) with
    | false =>
      have hk1 : k = aa.length := by have := of_decide_eq_false hT; omega
      exact rnd_xD (⟨Try.prog, [(F_rsame : Nat × Fn2 Td), (17, ctrF Id' C_readG hardD), (19, ctrV C_tails hardD)], [], dkHo, Id'.one, 60⟩ : Sy Td) rfl ((fun (W0 : World) (G : Nat → Prop) => SyOk.mk2 Try.mixed dkHo_ok (FnsR.cons (F_rsame_ok (J := dkI) (hx := hardDk)) (FnsR.cons (R_readG) (FnsR.cons (R_tails) (FnsR.nil)))) EqsOk.nil) W0 G) (las3_x l m ks L W fu aa da g i (fitL (W.getD i.toNat []) g aa da i k) (fitL (W.getD i.toNat []) g aa da i aa.length) k f hT (by rw [hk1])) rfl trivial
    | true =>
      have hk1 : k < aa.length := by have := of_decide_eq_true hT; omega
      have hW : IntKind.i64.wrap ((k : Int) + 1) = ((k + 1 : Nat) : Int) := by rw [IntWalk.i64_in _ (by omega)]; omega
      have hKA : (k : Int).toNat < aa.length ∧ (k : Int).toNat < da.length ∧ 0 ≤ (k : Int) := ⟨by omega, by omega, by omega⟩
      cases hat : (aa.getD (k : Int).toNat 0 == i) with
      | false => exact rnd_nD (⟨Try.prog, [(F_rsame : Nat × Fn2 Td), (17, ctrF Id' C_readG hardD), (19, ctrV C_tails hardD)], [], dkHo, Id'.one, 60⟩ : Sy Td) rfl ((fun (W0 : World) (G : Nat → Prop) => SyOk.mk2 Try.mixed dkHo_ok (FnsR.cons (F_rsame_ok (J := dkI) (hx := hardDk)) (FnsR.cons (R_readG) (FnsR.cons (R_tails) (FnsR.nil)))) EqsOk.nil) W0 G) (las3_n0 l m ks L W fu aa da g i (fitL (W.getD i.toNat []) g aa da i k) (fitL (W.getD i.toNat []) g aa da i (k + 1)) k f hT hW hKA rfl hat) rfl rfl (by omega) (by omega)
      | true =>
        cases hx : fitL (W.getD i.toNat []) g aa da i k with
        | true => 
          obtain ⟨ps, h1, h2⟩ := las3_n1 l m ks L W fu aa da g i (fitL (W.getD i.toNat []) g aa da i k) (fitL (W.getD i.toNat []) g aa da i (k + 1)) k f hT hW hKA rfl hat hx
          rw [hx] at h1
          exact rnd_nD (⟨Try.prog, [(F_rsame : Nat × Fn2 Td), (17, ctrF Id' C_readG hardD), (19, ctrV C_tails hardD)], [], dkHo, Id'.one, 60⟩ : Sy Td) rfl ((fun (W0 : World) (G : Nat → Prop) => SyOk.mk2 Try.mixed dkHo_ok (FnsR.cons (F_rsame_ok (J := dkI) (hx := hardDk)) (FnsR.cons (R_readG) (FnsR.cons (R_tails) (FnsR.nil)))) EqsOk.nil) W0 G) ⟨ps, h1, h2⟩ rfl rfl (by omega) (by omega)
        | false =>
          obtain ⟨ps, h1, h2⟩ := las3_n2 l m ks L W fu aa da g i (fitL (W.getD i.toNat []) g aa da i k) (fitL (W.getD i.toNat []) g aa da i (k + 1)) k f hT hW hKA rfl hat hx
          rw [hx] at h1
          exact rnd_nD (⟨Try.prog, [(F_rsame : Nat × Fn2 Td), (17, ctrF Id' C_readG hardD), (19, ctrV C_tails hardD)], [], dkHo, Id'.one, 60⟩ : Sy Td) rfl ((fun (W0 : World) (G : Nat → Prop) => SyOk.mk2 Try.mixed dkHo_ok (FnsR.cons (F_rsame_ok (J := dkI) (hx := hardDk)) (FnsR.cons (R_readG) (FnsR.cons (R_tails) (FnsR.nil)))) EqsOk.nil) W0 G) ⟨ps, h1, h2⟩ rfl rfl (by omega) (by omega)
  · revert hU
    match x with
    | .normal => intro hU; cases hU
    | .ret => intro hU; cases hU
    | .exit n =>
      intro hU
      by_cases h : n = 4
      · subst h; simp only [Option.some.injEq] at hU; subst hU; exact hK
      · exfalso; split at hU
        · rename_i he; cases he; exact h rfl
        · cases hU
end Go.Proofs.Ytonomiljclemnaa

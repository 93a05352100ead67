/- CallRequests. -/
import Derived.Test.YtcekfgcajcjooaaK7
import Derived.Test.YtcekfgcajcjooaaM25
import Derived.Test.YtcekfgcajcjooaaM23



set_option linter.unusedVariables false
set_option linter.unusedSimpArgs false
namespace Go.Proofs.Ytcekfgcajcjooaa
open Go.RowKit

/-- A request, sent. -/
def sentM (m : Msg) : Msg := ⟨1, m.cl, 1, 1, 1, m.kd, m.er, m.f1, m.f2, m.d1, m.d2, m.nm, m.ot, m.mo, m.pl, m.da, m.ve, []⟩
/-- The law CallRequests, in plain words. -/
def crL (c : CC) : Bool := cond (!sameR (reqM c) (reqM c)) false (cond (decide (c.k > 6) || chkI c.plain != 0) true (checkI (sentM (reqM c)) == 0 && true))
theorem en_nil (c : CC) : (reqM c).en = [] := by
  unfold reqM
  cases (decide (c.k < 1) || decide (c.k > 6)) <;> rfl
theorem eta_nil {m : Msg} (h : m.en = []) : (⟨m.ty, m.cl, m.ss, m.sq, m.bo, m.kd, m.er, m.f1, m.f2, m.d1, m.d2, m.nm, m.ot, m.mo, m.pl, m.da, m.ve, []⟩ : Msg) = m := by
  cases m; simp only at h; subst h; rfl
def crL' (c : CC) : Bool := cond (!sameR ⟨(reqM c).ty, (reqM c).cl, (reqM c).ss, (reqM c).sq, (reqM c).bo, (reqM c).kd, (reqM c).er, (reqM c).f1, (reqM c).f2, (reqM c).d1, (reqM c).d2, (reqM c).nm, (reqM c).ot, (reqM c).mo, (reqM c).pl, (reqM c).da, (reqM c).ve, []⟩ ⟨(reqM c).ty, (reqM c).cl, (reqM c).ss, (reqM c).sq, (reqM c).bo, (reqM c).kd, (reqM c).er, (reqM c).f1, (reqM c).f2, (reqM c).d1, (reqM c).d2, (reqM c).nm, (reqM c).ot, (reqM c).mo, (reqM c).pl, (reqM c).da, (reqM c).ve, []⟩) false (cond (decide (c.k > 6) || chkI c.plain != 0) true (checkI (sentM (reqM c)) == 0 && true))
theorem crL_eq (c : CC) : crL' c = crL c := by
  unfold crL' crL
  rw [eta_nil (en_nil c)]
set_option maxRecDepth 100000 in
theorem lawCR_c (k f1 f2 d1 d2 : Int) (n o : ByteArray) (a : Int) (t : ByteArray) (w : World) : Calls Try.prog 10 #[.agg #[.int .i64 k, .int .i64 f1, .int .i64 f2, .int .i64 d1, .int .i64 d2, .string n, .string o, .int .i64 a, .string t]] w fun e w' => e = .returned (.bool (crL' (CC.short (⟨k, f1, f2, d1, d2, n, o, a, t⟩ : CC)))) ∧ Ext w w' :=
  (sym_b (S := (⟨Try.prog, [F_short29, F_request29, F_rrequest29, F_rsame29, F_check29, F_mchk29, F_lives29], [], hoK, noI.one, 60⟩ : Sy Unit)) (I := noI) (L := []) (args := [.agg [.v (.int .i64 k), .v (.int .i64 f1), .v (.int .i64 f2), .v (.int .i64 d1), .v (.int .i64 d2), .v (.string n), .v (.string o), .v (.int .i64 a), .v (.string t)]]) (us := [.agg #[.int .i64 k, .int .i64 f1, .int .i64 f2, .int .i64 d1, .int .i64 d2, .string n, .string o, .int .i64 a, .string t]]) (e := []) (mem := []) (W0 := w) (G := fun _ => False) (SyOk.mk2 Try.mixed hoK_ok (FnsR.cons F_short29_ok (FnsR.cons F_request29_ok (FnsR.cons F_rrequest29_ok (FnsR.cons F_rsame29_ok (FnsR.cons F_check29_ok (FnsR.cons F_mchk29_ok (FnsR.cons F_lives29_ok (FnsR.nil)))))))) (EqsOk.nil)) Try.func10 (by kernel_rfl) (LpsOk.nil _) (⟨⟨[.int .i64 k, .int .i64 f1, .int .i64 f2, .int .i64 d1, .int .i64 d2, .string n, .string o, .int .i64 a, .string t], ⟨rfl, rfl, rfl, rfl, rfl, rfl, rfl, rfl, rfl, trivial⟩, rfl⟩, trivial⟩) (by kernel_rfl) (memOk_nil noI w) (v := crL' (CC.short (⟨k, f1, f2, d1, d2, n, o, a, t⟩ : CC))) [] (by kernel_rfl) (by kernel_rfl) (mnil)).mono fun x w' h => ⟨h.1, h.2⟩
theorem fil_eq (x y : Int) : fileB x y = rfilB x y := by
  rw [Bool.eq_iff_iff]
  simp [fileB, rfilB]
  omega
theorem sent_1 (f1 f2 d1 d2 : Int) (n o : ByteArray) (a : Int) (t : ByteArray) (h : rchkI (⟨1, f1, f2, d1, d2, n, o, a, t⟩ : CC) = 0) : checkI (sentM (reqM (⟨1, f1, f2, d1, d2, n, o, a, t⟩ : CC))) = 0 := by
  have hn : nameB n = true := by
    cases hn : nameB n with
    | true => rfl
    | false =>
      have : rchkI (⟨1, f1, f2, d1, d2, n, o, a, t⟩ : CC) = 9 := by unfold rchkI rchk; simp [hn]
      omega
  have hd : rfilB d1 d2 = true := by
    cases hd : rfilB d1 d2 with
    | true => rfl
    | false =>
      have : rchkI (⟨1, f1, f2, d1, d2, n, o, a, t⟩ : CC) = 14 := by unfold rchkI rchk; simp [hn, hd]
      omega
  rw [← fil_eq] at hd
  rw [← namedB_eq] at hn
  show checkI (⟨1, 0, 1, 1, 1, 3, 0, 0, 0, d1, d2, n, ⟨#[]⟩, 0, 0, ⟨#[]⟩, 0, []⟩ : Msg) = 0
  have hb : hasB (⟨1, 0, 1, 1, 1, 3, 0, 0, 0, d1, d2, n, ⟨#[]⟩, 0, 0, ⟨#[]⟩, 0, []⟩ : Msg) (askedI 3) = true := by
    simp only [hasB, hasPre, hd, hn]
    kernel_rfl
  have hr : req2 (⟨1, 0, 1, 1, 1, 3, 0, 0, 0, d1, d2, n, ⟨#[]⟩, 0, 0, ⟨#[]⟩, 0, []⟩ : Msg) = true := by
    show (req1 (⟨1, 0, 1, 1, 1, 3, 0, 0, 0, d1, d2, n, ⟨#[]⟩, 0, 0, ⟨#[]⟩, 0, []⟩ : Msg) && hasB (⟨1, 0, 1, 1, 1, 3, 0, 0, 0, d1, d2, n, ⟨#[]⟩, 0, 0, ⟨#[]⟩, 0, []⟩ : Msg) (askedI 3)) = true
    rw [hb]
    kernel_rfl
  unfold checkI
  rw [hr]
  rfl
theorem sent_2 (f1 f2 d1 d2 : Int) (n o : ByteArray) (a : Int) (t : ByteArray) (h : rchkI (⟨2, f1, f2, d1, d2, n, o, a, t⟩ : CC) = 0) : checkI (sentM (reqM (⟨2, f1, f2, d1, d2, n, o, a, t⟩ : CC))) = 0 := by
  have hn : nameB n = true := by
    cases hn : nameB n with
    | true => rfl
    | false =>
      have : rchkI (⟨2, f1, f2, d1, d2, n, o, a, t⟩ : CC) = 9 := by unfold rchkI rchk; simp [hn]
      omega
  have hd : rfilB d1 d2 = true := by
    cases hd : rfilB d1 d2 with
    | true => rfl
    | false =>
      have : rchkI (⟨2, f1, f2, d1, d2, n, o, a, t⟩ : CC) = 14 := by unfold rchkI rchk; simp [hn, hd]
      omega
  rw [← fil_eq] at hd
  rw [← namedB_eq] at hn
  show checkI (⟨1, 0, 1, 1, 1, 4, 0, 0, 0, d1, d2, n, ⟨#[]⟩, 2, 0, ⟨#[]⟩, 0, []⟩ : Msg) = 0
  have hb : hasB (⟨1, 0, 1, 1, 1, 4, 0, 0, 0, d1, d2, n, ⟨#[]⟩, 2, 0, ⟨#[]⟩, 0, []⟩ : Msg) (askedI 4) = true := by
    simp only [hasB, hasPre, hd, hn]
    kernel_rfl
  have hr : req2 (⟨1, 0, 1, 1, 1, 4, 0, 0, 0, d1, d2, n, ⟨#[]⟩, 2, 0, ⟨#[]⟩, 0, []⟩ : Msg) = true := by
    show (req1 (⟨1, 0, 1, 1, 1, 4, 0, 0, 0, d1, d2, n, ⟨#[]⟩, 2, 0, ⟨#[]⟩, 0, []⟩ : Msg) && hasB (⟨1, 0, 1, 1, 1, 4, 0, 0, 0, d1, d2, n, ⟨#[]⟩, 2, 0, ⟨#[]⟩, 0, []⟩ : Msg) (askedI 4)) = true
    rw [hb]
    kernel_rfl
  unfold checkI
  rw [hr]
  rfl
theorem sent_3 (f1 f2 d1 d2 : Int) (n o : ByteArray) (a : Int) (t : ByteArray) (h : rchkI (⟨3, f1, f2, d1, d2, n, o, a, t⟩ : CC) = 0) : checkI (sentM (reqM (⟨3, f1, f2, d1, d2, n, o, a, t⟩ : CC))) = 0 := by
  have hn : nameB n = true := by
    cases hn : nameB n with
    | true => rfl
    | false =>
      have : rchkI (⟨3, f1, f2, d1, d2, n, o, a, t⟩ : CC) = 9 := by unfold rchkI rchk; simp [hn]
      omega
  have hd : rfilB d1 d2 = true := by
    cases hd : rfilB d1 d2 with
    | true => rfl
    | false =>
      have : rchkI (⟨3, f1, f2, d1, d2, n, o, a, t⟩ : CC) = 14 := by unfold rchkI rchk; simp [hn, hd]
      omega
  rw [← fil_eq] at hd
  rw [← namedB_eq] at hn
  show checkI (⟨1, 0, 1, 1, 1, 4, 0, 0, 0, d1, d2, n, ⟨#[]⟩, 1, 0, ⟨#[]⟩, 0, []⟩ : Msg) = 0
  have hb : hasB (⟨1, 0, 1, 1, 1, 4, 0, 0, 0, d1, d2, n, ⟨#[]⟩, 1, 0, ⟨#[]⟩, 0, []⟩ : Msg) (askedI 4) = true := by
    simp only [hasB, hasPre, hd, hn]
    kernel_rfl
  have hr : req2 (⟨1, 0, 1, 1, 1, 4, 0, 0, 0, d1, d2, n, ⟨#[]⟩, 1, 0, ⟨#[]⟩, 0, []⟩ : Msg) = true := by
    show (req1 (⟨1, 0, 1, 1, 1, 4, 0, 0, 0, d1, d2, n, ⟨#[]⟩, 1, 0, ⟨#[]⟩, 0, []⟩ : Msg) && hasB (⟨1, 0, 1, 1, 1, 4, 0, 0, 0, d1, d2, n, ⟨#[]⟩, 1, 0, ⟨#[]⟩, 0, []⟩ : Msg) (askedI 4)) = true
    rw [hb]
    kernel_rfl
  unfold checkI
  rw [hr]
  rfl
theorem sent_4 (f1 f2 d1 d2 : Int) (n o : ByteArray) (a : Int) (t : ByteArray) (h : rchkI (⟨4, f1, f2, d1, d2, n, o, a, t⟩ : CC) = 0) : checkI (sentM (reqM (⟨4, f1, f2, d1, d2, n, o, a, t⟩ : CC))) = 0 := by
  have hn : nameB n = true := by
    cases hn : nameB n with
    | true => rfl
    | false =>
      have : rchkI (⟨4, f1, f2, d1, d2, n, o, a, t⟩ : CC) = 9 := by unfold rchkI rchk; simp [hn]
      omega
  have hd : rfilB d1 d2 = true := by
    cases hd : rfilB d1 d2 with
    | true => rfl
    | false =>
      have : rchkI (⟨4, f1, f2, d1, d2, n, o, a, t⟩ : CC) = 14 := by unfold rchkI rchk; simp [hn, hd]
      omega
  rw [← fil_eq] at hd
  rw [← namedB_eq] at hn
  show checkI (⟨1, 0, 1, 1, 1, 5, 0, 0, 0, d1, d2, n, ⟨#[]⟩, 0, 0, ⟨#[]⟩, 0, []⟩ : Msg) = 0
  have hb : hasB (⟨1, 0, 1, 1, 1, 5, 0, 0, 0, d1, d2, n, ⟨#[]⟩, 0, 0, ⟨#[]⟩, 0, []⟩ : Msg) (askedI 5) = true := by
    simp only [hasB, hasPre, hd, hn]
    kernel_rfl
  have hr : req2 (⟨1, 0, 1, 1, 1, 5, 0, 0, 0, d1, d2, n, ⟨#[]⟩, 0, 0, ⟨#[]⟩, 0, []⟩ : Msg) = true := by
    show (req1 (⟨1, 0, 1, 1, 1, 5, 0, 0, 0, d1, d2, n, ⟨#[]⟩, 0, 0, ⟨#[]⟩, 0, []⟩ : Msg) && hasB (⟨1, 0, 1, 1, 1, 5, 0, 0, 0, d1, d2, n, ⟨#[]⟩, 0, 0, ⟨#[]⟩, 0, []⟩ : Msg) (askedI 5)) = true
    rw [hb]
    kernel_rfl
  unfold checkI
  rw [hr]
  rfl
theorem sent_5 (f1 f2 d1 d2 : Int) (n o : ByteArray) (a : Int) (t : ByteArray) (h : rchkI (⟨5, f1, f2, d1, d2, n, o, a, t⟩ : CC) = 0) : checkI (sentM (reqM (⟨5, f1, f2, d1, d2, n, o, a, t⟩ : CC))) = 0 := by
  have hn : nameB n = true := by
    cases hn : nameB n with
    | true => rfl
    | false =>
      have : rchkI (⟨5, f1, f2, d1, d2, n, o, a, t⟩ : CC) = 9 := by unfold rchkI rchk; simp [hn]
      omega
  have ho : nameB o = true := by
    cases ho : nameB o with
    | true => rfl
    | false =>
      have : rchkI (⟨5, f1, f2, d1, d2, n, o, a, t⟩ : CC) = 9 := by unfold rchkI rchk; simp [hn, ho]
      omega
  have hd : rfilB d1 d2 = true := by
    cases hd : rfilB d1 d2 with
    | true => rfl
    | false =>
      have : rchkI (⟨5, f1, f2, d1, d2, n, o, a, t⟩ : CC) = 14 := by unfold rchkI rchk; simp [hn, ho, hd]
      omega
  have hf : rfilB f1 f2 = true := by
    cases hf : rfilB f1 f2 with
    | true => rfl
    | false =>
      have : rchkI (⟨5, f1, f2, d1, d2, n, o, a, t⟩ : CC) = 14 := by unfold rchkI rchk; simp [hn, ho, hd, hf]
      omega
  rw [← fil_eq] at hd
  rw [← fil_eq] at hf
  rw [← namedB_eq] at hn
  rw [← namedB_eq] at ho
  show checkI (⟨1, 0, 1, 1, 1, 6, 0, f1, f2, d1, d2, n, o, 0, 0, ⟨#[]⟩, 0, []⟩ : Msg) = 0
  have hb : hasB (⟨1, 0, 1, 1, 1, 6, 0, f1, f2, d1, d2, n, o, 0, 0, ⟨#[]⟩, 0, []⟩ : Msg) (askedI 6) = true := by
    simp only [hasB, hasPre, hd, hf, hn, ho]
    kernel_rfl
  have hr : req2 (⟨1, 0, 1, 1, 1, 6, 0, f1, f2, d1, d2, n, o, 0, 0, ⟨#[]⟩, 0, []⟩ : Msg) = true := by
    show (req1 (⟨1, 0, 1, 1, 1, 6, 0, f1, f2, d1, d2, n, o, 0, 0, ⟨#[]⟩, 0, []⟩ : Msg) && hasB (⟨1, 0, 1, 1, 1, 6, 0, f1, f2, d1, d2, n, o, 0, 0, ⟨#[]⟩, 0, []⟩ : Msg) (askedI 6)) = true
    rw [hb]
    kernel_rfl
  unfold checkI
  rw [hr]
  rfl
theorem sent_6 (f1 f2 d1 d2 : Int) (n o : ByteArray) (a : Int) (t : ByteArray) (h : rchkI (⟨6, f1, f2, d1, d2, n, o, a, t⟩ : CC) = 0) : checkI (sentM (reqM (⟨6, f1, f2, d1, d2, n, o, a, t⟩ : CC))) = 0 := by
  have hd : rfilB d1 d2 = true := by
    cases hd : rfilB d1 d2 with
    | true => rfl
    | false =>
      have : rchkI (⟨6, f1, f2, d1, d2, n, o, a, t⟩ : CC) = 14 := by unfold rchkI rchk; simp [hd]
      omega
  rw [← fil_eq] at hd
  show checkI (⟨1, 0, 1, 1, 1, 7, 0, 0, 0, d1, d2, ⟨#[]⟩, ⟨#[]⟩, 0, 0, ⟨#[]⟩, 0, []⟩ : Msg) = 0
  have hb : hasB (⟨1, 0, 1, 1, 1, 7, 0, 0, 0, d1, d2, ⟨#[]⟩, ⟨#[]⟩, 0, 0, ⟨#[]⟩, 0, []⟩ : Msg) (askedI 7) = true := by
    simp only [hasB, hasPre, hd]
    kernel_rfl
  have hr : req2 (⟨1, 0, 1, 1, 1, 7, 0, 0, 0, d1, d2, ⟨#[]⟩, ⟨#[]⟩, 0, 0, ⟨#[]⟩, 0, []⟩ : Msg) = true := by
    show (req1 (⟨1, 0, 1, 1, 1, 7, 0, 0, 0, d1, d2, ⟨#[]⟩, ⟨#[]⟩, 0, 0, ⟨#[]⟩, 0, []⟩ : Msg) && hasB (⟨1, 0, 1, 1, 1, 7, 0, 0, 0, d1, d2, ⟨#[]⟩, ⟨#[]⟩, 0, 0, ⟨#[]⟩, 0, []⟩ : Msg) (askedI 7)) = true
    rw [hb]
    kernel_rfl
  unfold checkI
  rw [hr]
  rfl
theorem crL_true (c : CC) : crL c = true := by
  unfold crL
  rw [sameR_refl]
  show cond (decide (c.k > 6) || chkI c.plain != 0) true (checkI (sentM (reqM c)) == 0 && true) = true
  cases hk : decide (c.k > 6)
  · have hk := of_decide_eq_false hk
    rw [chk_same]
    by_cases hz : rchkI c = 0
    · have h1 : 1 ≤ c.k := by
        refine Int.not_lt.1 fun hlt => ?_
        have : rchkI c = 2 := by unfold rchkI; rw [if_neg]; omega
        omega
      have hs : checkI (sentM (reqM c)) = 0 := by
        obtain ⟨k, f1, f2, d1, d2, n, o, a, t⟩ := c
        rcases (by simp only at h1 hk; omega : k = 1 ∨ k = 2 ∨ k = 3 ∨ k = 4 ∨ k = 5 ∨ k = 6) with rfl | rfl | rfl | rfl | rfl | rfl
        · exact sent_1 f1 f2 d1 d2 n o a t hz
        · exact sent_2 f1 f2 d1 d2 n o a t hz
        · exact sent_3 f1 f2 d1 d2 n o a t hz
        · exact sent_4 f1 f2 d1 d2 n o a t hz
        · exact sent_5 f1 f2 d1 d2 n o a t hz
        · exact sent_6 f1 f2 d1 d2 n o a t hz
      rw [hs, hz]; rfl
    · have : (rchkI c != 0) = true := by simp [hz]
      rw [this]; rfl
  · rfl
theorem callRequests_calls (c : CC) (W : World) (h : c.ok) : Calls Try.prog 10 #[c.agg] W fun r w' => r = .returned (.bool true) ∧ Below W.heap.size W w' := by
  refine (lawCR_c c.k c.f1 c.f2 c.d1 c.d2 c.n c.o c.a c.t W).mono fun r w' hh => ⟨?_, hh.2.below⟩
  rw [hh.1, crL_eq, crL_true]

end Go.Proofs.Ytcekfgcajcjooaa

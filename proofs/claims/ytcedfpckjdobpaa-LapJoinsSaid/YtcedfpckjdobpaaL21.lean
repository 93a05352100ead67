/- Which record any pieces are: the law's walk. -/
import Derived.Test.YtcedfpckjdobpaaL20
import Derived.Test.YtcedfpckjdobpaaApp
set_option linter.unusedVariables false
set_option linter.unusedSimpArgs false
namespace Go.Proofs.Ytcedfpckjdobpaa
open Go.RowKit

/-- A piece as a value, its bytes in memory of its own. -/
def PV (w : World) (B : Nat) (p : Pc) (v : Value) : Prop := ∃ ao cap, v = .agg #[.int .u64 (p.ep : Int), .int .u64 (p.ct : Int), .bool p.fi, .bool p.la, .slice ao p.d.length cap] ∧ w.ownsRow B 5 1 (.slice ao p.d.length cap) p.d.length (p.d.map bv)
/-- A row of one piece. -/
def PB (w : World) (B : Nat) (e : TypeId) (p : Pc) (v : Value) : Prop := ∃ dao dcap, w.ownsRow B 5 1 (.slice dao p.d.length dcap) p.d.length (p.d.map bv) ∧ ∃ ao cap, v = .slice ao 1 cap ∧ w.ownsRow 0 e 5 (.slice ao 1 cap) 1 (p.cells (.slice dao p.d.length dcap))
theorem PV.ext {w w' : World} {B : Nat} {p : Pc} {v : Value} (h : PV w B p v) (hx : Ext w w') : PV w' B p v := by
  obtain ⟨ao, cap, h1, h2⟩ := h; exact ⟨ao, cap, h1, owns_ext h2 hx⟩
theorem PB.ext {w w' : World} {B : Nat} {e : TypeId} {p : Pc} {v : Value} (h : PB w B e p v) (hx : Ext w w') : PB w' B e p v := by
  obtain ⟨dao, dcap, h1, ao, cap, h2, h3⟩ := h; exact ⟨dao, dcap, owns_ext h1 hx, ao, cap, h2, owns_ext h3 hx⟩
section
variable {w w' : World} {B B' n : Nat} {e : TypeId} {v : Value} {xs : List Value} (ha : w.ownsRow B' e 5 v n xs) (hg : w.grownBy w' v.ownBlock) (he8 : 5 ≠ e)
include ha hg he8
theorem PV.app {p : Pc} {u : Value} (h : PV w B p u) : PV w' B p u := by
  obtain ⟨ao, cap, h1, h2⟩ := h; exact ⟨ao, cap, h1, owns_beside h2 ha he8 hg⟩
theorem PB.app {e' : TypeId} (hee : e' ≠ e) {p : Pc} {u : Value} (h : PB w B e' p u) : PB w' B e' p u := by
  obtain ⟨dao, dcap, h1, ao, cap, h2, h3⟩ := h; exact ⟨dao, dcap, owns_beside h1 ha he8 hg, ao, cap, h2, owns_beside h3 ha hee hg⟩
theorem PRow.app {e' : TypeId} (hee : e' ≠ e) {ps : List Pc} {u : Value} (h : PRow w B e' u ps) : PRow w' B e' u ps := by
  obtain ⟨vs, h1, h2, h3, h4⟩ := h
  exact ⟨vs, h1, h2, owns_beside h3 ha hee hg, fun d hd => ⟨(h4 d hd).1, owns_beside (h4 d hd).2 ha he8 hg⟩⟩
end
theorem PRow.le5 {w : World} {B : Nat} {e : TypeId} {v : Value} {ps : List Pc} (h : PRow w B e v ps) : ∃ vs : List (Pc × Value), vs.map (·.1) = ps ∧ (∃ ao cap, v = .slice ao ps.length cap) ∧ w.ownsRow B e 5 v ps.length (vs.flatMap fun d => d.1.cells d.2) ∧
    ∀ d ∈ vs, (∃ ao cap, d.2 = .slice ao d.1.d.length cap) ∧ w.ownsRow B 5 1 d.2 d.1.d.length (d.1.d.map bv) := h
theorem mine_y (p : Pc) (v : Value) (B : Nat) (w : World) (hB : B ≤ w.heap.size) (hv : Bs w v p.d) :
    Calls Try.prog 14 #[.agg #[.int .u64 (p.ep : Int), .int .u64 (p.ct : Int), .bool p.fi, .bool p.la, v]] w fun r w' => ∃ u, r = .returned u ∧ Ext w w' ∧ PV w' B p.cut u := by
  refine (mine_c p v w hv).mono ?_
  rintro r w' ⟨ao, cap, h1, h2, h3⟩
  exact ⟨_, h1, h2, ao, cap, rfl, owns_base h3 hB⟩

set_option maxRecDepth 100000 in
set_option maxHeartbeats 8000000 in
theorem lapJoins_walk (ds : List (Pc × Value)) (vl : Value) (ep0 ct0 : Nat) (b0 : List UInt8) (vb : Value) (W : World) (hd : Pcs W vl ds) (hv : Bs W vb b0) (he : ep0 < 18446744073709551616) (hc : ct0 < 18446744073709551616) :
    Calls Try.prog 8 #[vl, .int .u64 (ep0 : Int), .int .u64 (ct0 : Int), vb] W fun e w' => e = .returned (.bool true) ∧ Below W.heap.size W w' := by
  obtain ⟨lao, lcap, rfl, l1, l2, l3⟩ := hd
  have hv0 := hv
  obtain ⟨vao, vcap, rfl, _⟩ := hv.open
  obtain ⟨n, hn⟩ : ∃ x, x = ds.length := ⟨_, rfl⟩
  rw [← hn] at l1 ⊢
  have HN := Lib.hid hn
  have HD := Lib.hid l3
  have HV0 := Lib.hid hv0
  have HEC := Lib.hid (And.intro he hc)
  have hnm : n ≤ 9223372036854775807 := by omega
  have HLV := fun w => lives_c w
  have HL := Lib.hid HLV
  obtain ⟨B, hB⟩ : ∃ x, x = W.heap.size := ⟨_, rfl⟩
  have HB := Lib.hid hB
  have HBW : Hid (∀ w', Below B W w' → Below W.heap.size W w') := Lib.hid (fun w' h => by rw [← hB]; exact h)
  clear hv hv0 HLV he hc hn l3 hB
  go_enter Try.func8, Try.ntmps8
  go_wp2_with fail
  go_loopw [11, 9, 10] (fun i a c wr => ∃ j : Nat, j ≤ n ∧ j ≤ 6 ∧ i = .int .i64 j ∧ Hid (Below B W wr ∧ B ≤ wr.heap.size ∧ PRow wr B 34 a ((ds.take j).map (·.1.cut)) ∧ PRow wr B 31 c ((ds.take j).map (·.1.cut)))) (fun i _ _ _ => 6 - (intOf i).toNat)
  case atStart => exact ⟨0, by omega, by omega, rfl, Lib.hid ⟨Below.refl _ _, by rw [HB.out]; exact Nat.le_refl _, PRow.nil _ _ _, PRow.nil _ _ _⟩⟩
  case round =>
    obtain ⟨j, hj, hj6, rfl, HR⟩ := hrel
    by_cases hlt : j < n ∧ j < 6
    · obtain ⟨d, hd⟩ : ∃ d, ds[j]? = some d := ⟨_, List.getElem?_eq_getElem (by rw [← HN.out]; exact hlt.1)⟩
      obtain ⟨hwf, hbs, b, o, rfl, c0, c1, c2, c3, c4⟩ := HD.out j d hd
      have hle : ((ds.take j).map (·.1.cut)).length = j := by rw [List.length_map, List.length_take, ← HN.out]; omega
      have hsn : (ds.take (j + 1)).map (·.1.cut) = (ds.take j).map (·.1.cut) ++ [d.1.cut] := by
        obtain ⟨hj', rfl⟩ := List.getElem?_eq_some_iff.1 hd
        rw [List.take_succ_eq_append_getElem hj', List.map_append]; rfl
      obtain ⟨p, dv⟩ := d
      simp only at hbs c0 c1 c2 c3 c4 hsn hwf
      obtain ⟨ao5, cap5, hdv, _⟩ := hbs.open
      obtain ⟨mp, hmp⟩ : ∃ x, x = p.d.length := ⟨_, rfl⟩
      rw [← hmp] at hdv
      subst hdv
      have HBS := Lib.hid hbs
      have HSN := Lib.hid hsn
      have HLE := Lib.hid hle
      have HLT := Lib.hid hlt
      have HC0 := Lib.hid (And.intro c0 (And.intro c1 (And.intro c2 (And.intro c3 c4))))
      obtain ⟨pa, hpa⟩ : ∃ x, x = (ds.take j).map (·.1.cut) := ⟨_, rfl⟩
      have HPA := Lib.hid hpa
      have HR' : Hid (Below B W wr ∧ B ≤ wr.heap.size ∧ PRow wr B 34 u9 pa ∧ PRow wr B 31 u10 pa) := Lib.hid (by rw [hpa]; exact HR.out)
      have hji1 : (0 : Int) ≤ (j : Int) := by omega
      have hji2 : (j : Int) < (n : Int) := by omega
      have hji3 : decide ((j : Int) < 6) = true := by simp; omega
      have hji4 : j < n := by omega
      clear hd hwf hbs c0 c1 c2 c3 c4 hle hsn hmp hlt hpa
      go_wp2_with fail
      refine wp_region_rs 17 _ [7, 13, 14, 16]
        (fun k w' => Below B W w' ∧ B ≤ w'.heap.size ∧ (k = 0 → PRow w' B 34 u9 pa) ∧ (k ≤ 3 → PRow w' B 31 u10 pa)) Ext
        (svl [exk u9,
          exk (.slice (some ⟨b, o, none⟩) n lcap),
          exk (.int .i64 (j : Int)),
          exk (.pointer (some ⟨b, o + j * 5, none⟩)),
          exk (.agg #[.int .u64 (p.ep : Int), .int .u64 (p.ct : Int), .bool p.fi, .bool p.la, .slice ao5 mp cap5]),
          (fun _ v w' => PV w' B p.cut v),
          (fun k v w' => k = 0 → PB w' B 34 p.cut v),
          (fun _ _ _ => True),
          exk u10,
          exk (.slice (some ⟨b, o, none⟩) n lcap),
          exk (.int .i64 (j : Int)),
          exk (.pointer (some ⟨b, o + j * 5, none⟩)),
          exk (.agg #[.int .u64 (p.ep : Int), .int .u64 (p.ct : Int), .bool p.fi, .bool p.la, .slice ao5 mp cap5]),
          (fun _ _ _ => True),
          (fun _ _ _ => True),
          (fun k v w' => k ≤ 3 → PB w' B 31 p.cut v),
          (fun _ _ _ => True)]
          [7, 13, 14, 16] (fun m k v w' => (m = 0 → PRow w' B 34 v (pa ++ [p.cut])) ∧ (m = 1 → PV w' B p.cut v) ∧ (m = 2 → PV w' B p.cut v) ∧ (m = 3 → PRow w' B 31 v (pa ++ [p.cut]))))
        (by kernel_rfl) (by kernel_rfl) (by kernel_rfl) (by kernel_rfl) rfl ⟨HR'.out.1.trans ((Ext.refl wr).drew.below.mono HR'.out.2.1), Nat.le_trans HR'.out.2.1 (Ext.refl wr).drew.size, (fun _ => HR'.out.2.2.1.ext (Ext.refl wr).drew), (fun _ => HR'.out.2.2.2.ext (Ext.refl wr).drew)⟩ (fun _ w _ => Ext.refl w) (fun b w1 w2 h hx => ⟨h.1.trans (hx.below.mono h.2.1), Nat.le_trans h.2.1 hx.size, (fun h0 => (h.2.2.1 h0).ext hx), (fun h0 => (h.2.2.2 h0).ext hx)⟩)
        (fun b i v w1 w2 _ _ hV hx => svl_stays (R := Ext) (by exact ⟨exk_st, exk_st, exk_st, exk_st, exk_st, (fun _ v w1 w2 h hx => h.ext hx), (fun _ v w1 w2 h hx h0 => (h h0).ext hx), (fun _ _ _ _ _ _ => trivial), exk_st, exk_st, exk_st, exk_st, exk_st, (fun _ _ _ _ _ _ => trivial), (fun _ _ _ _ _ _ => trivial), (fun _ v w1 w2 h hx h0 => (h h0).ext hx), (fun _ _ _ _ _ _ => trivial), trivial⟩) (fun m k v w1 w2 h hx => ⟨(fun h0 => (h.1 h0).ext hx), (fun h0 => (h.2.1 h0).ext hx), (fun h0 => (h.2.2.1 h0).ext hx), (fun h0 => (h.2.2.2 h0).ext hx)⟩) b i v w1 w2 hV hx) ?_ ?_
      · simp only [List.take_succ_cons, List.take_zero]
        go_tidy
        refine RsOps.mk (RsOp.moveA rfl (fun b => .free rfl) 9 (fun _ w _ => Ext.refl w) rfl rfl u9 rfl (fun _ _ _ => rfl)) ?_
        refine RsOps.mk (RsOp.moveA rfl (fun b => .free rfl) 0 (fun _ w _ => Ext.refl w) rfl rfl (.slice (some ⟨b, o, none⟩) n lcap) rfl (fun _ _ _ => rfl)) ?_
        refine RsOps.mk (RsOp.moveA rfl (fun b => .free rfl) 11 (fun _ w _ => Ext.refl w) rfl rfl (.int .i64 (j : Int)) rfl (fun _ _ _ => rfl)) ?_
        refine RsOps.mk (RsOp.at rfl (fun b => .free rfl) ?_) ?_
        rotate_left
        refine RsOps.mk (RsOp.at rfl (fun b => .free rfl) ?_) ?_
        rotate_left
        refine RsOps.mk (RsOp.at rfl (fun b => .free rfl) ?_) ?_
        rotate_left
        refine RsOps.mk (RsOp.at rfl (fun b => .free rfl) ?_) ?_
        rotate_left
        refine RsOps.mk (RsOp.chain 0 rfl (fun b => .free rfl) ?_) ?_
        rotate_left
        refine RsOps.mk (RsOp.moveA rfl (fun b => .free rfl) 10 (fun _ w _ => Ext.refl w) rfl rfl u10 rfl (fun _ _ _ => rfl)) ?_
        refine RsOps.mk (RsOp.moveA rfl (fun b => .free rfl) 0 (fun _ w _ => Ext.refl w) rfl rfl (.slice (some ⟨b, o, none⟩) n lcap) rfl (fun _ _ _ => rfl)) ?_
        refine RsOps.mk (RsOp.moveA rfl (fun b => .free rfl) 11 (fun _ w _ => Ext.refl w) rfl rfl (.int .i64 (j : Int)) rfl (fun _ _ _ => rfl)) ?_
        refine RsOps.mk (RsOp.at rfl (fun b => .free rfl) ?_) ?_
        rotate_left
        refine RsOps.mk (RsOp.at rfl (fun b => .free rfl) ?_) ?_
        rotate_left
        refine RsOps.mk (RsOp.chain 1 rfl (fun b => .free rfl) ?_) ?_
        rotate_left
        refine RsOps.mk (RsOp.chain 2 rfl (fun b => .free rfl) ?_) ?_
        rotate_left
        refine RsOps.mk (RsOp.at rfl (fun b => .free rfl) ?_) ?_
        rotate_left
        refine RsOps.mk (RsOp.chain 3 rfl (fun b => .free rfl) ?_) ?_
        rotate_left
        exact RsOps.done
        · intro bb vals ρ w' hC hd hS
          have r37 : ρ (.tmp 37) = .slice (some ⟨b, o, none⟩) n lcap := (hS.tmp 37).trans (hd.at 1 rfl)
          have r38 : ρ (.tmp 38) = .int .i64 (j : Int) := (hS.tmp 38).trans (hd.at 2 rfl)
          refine (show givesR _ _ _ _ (fun v w'' => Ext w' w'' ∧ v = .pointer (some ⟨b, o + j * 5, none⟩)) from ?_)
          clear hC hd hS
          go_simp
          exact Ext.refl _
        · intro bb vals ρ w' hC hd hS
          have r39 : ρ (.tmp 39) = .pointer (some ⟨b, o + j * 5, none⟩) := (hS.tmp 39).trans (hd.at 3 rfl)
          refine (show givesR _ _ _ _ (fun v w'' => Ext w' w'' ∧ v = .agg #[.int .u64 (p.ep : Int), .int .u64 (p.ct : Int), .bool p.fi, .bool p.la, .slice ao5 mp cap5]) from ?_)
          have q0 := Below.cellw (HBW.out _ hC.1) HC0.out.1
          have q1 := Below.cellw (HBW.out _ hC.1) HC0.out.2.1
          have q2 := Below.cellw (HBW.out _ hC.1) HC0.out.2.2.1
          have q3 := Below.cellw (HBW.out _ hC.1) HC0.out.2.2.2.1
          have q4 := Below.cellw (HBW.out _ hC.1) HC0.out.2.2.2.2
          clear hC hd hS
          go_simp
          exact Ext.refl _
        · intro bb vals ρ w' hC hd hS
          have r40 : ρ (.tmp 40) = .agg #[.int .u64 (p.ep : Int), .int .u64 (p.ct : Int), .bool p.fi, .bool p.la, .slice ao5 mp cap5] := (hS.tmp 40).trans (hd.at 4 rfl)
          have rf := hS.func
          refine (show givesR _ _ _ _ (fun v w'' => Ext w' w'' ∧ (fun _ v w' => PV w' B p.cut v) bb v w'') from ?_)
          have hx0 := HBS.out.ext (Ext.of_below (HBW.out _ hC.1))
          have hbz := hC.2.1
          have H1' := Lib.hid hx0
          have HZ' := Lib.hid hbz
          clear hC hd hS hx0 hbz
          go_simp
          refine (mine_y p _ B w' HZ'.out H1'.out).mono ?_
          rintro e w'' ⟨u, rfl, hx, hp⟩
          exact ⟨_, rfl, hx, hp⟩
        · intro bb vals ρ w' hC hd hS
          have d5 := hd.at 5 rfl
          have r41 : ρ (.tmp 41) = vals 5 := hS.tmp 41
          refine (show givesR _ _ _ _ (fun v w'' => Ext w' w'' ∧ (fun k v w' => k = 0 → PB w' B 34 p.cut v) bb v w'') from ?_)
          obtain ⟨qao, qcap, e1, o1⟩ := d5
          rw [e1] at r41
          have HO1 := Lib.hid o1
          clear hC hd hS o1 e1
          go_simp
          exact ⟨(Ext.refl _).alloc _, fun _ => ⟨qao, qcap, owns_ext HO1.out ((Ext.refl _).alloc _), _, _, rfl, owns_lit (w := w') (B := 0) (n := 1) (size := 5) rfl (Nat.zero_le _) (by decide)⟩⟩
        · intro vals ρ w' hC hd hS
          have r36 : ρ (.tmp 36) = u9 := (hS.tmp 36).trans (hd.at 0 rfl)
          have d6 := hd.at 6 rfl
          have r42 : ρ (.tmp 42) = vals 6 := hS.tmp 42
          obtain ⟨dao, dcap, hdat, bao, bcap, e1, hrow⟩ := d6 rfl
          rw [e1] at r42
          obtain ⟨vs, hvs, ⟨rao, rcap, hsh⟩, h3, h4⟩ := hC.2.2.1 rfl
          have HCC := Lib.hid hC
          have hlj : pa.length = j := by rw [HPA.out]; exact HLE.out
          clear hd hS
          refine givesR_app (.tmp 36) (.tmp 42) 54 rfl etPc B r36 h3 r42 (Rs.of_owns hrow) (oneCell_pc _ _ _ _) (by have := HLT.out; omega) (by have := HLT.out; omega) hC.2.1 ?_
          intro v'' w'' ho hg hat
          have hbz : B ≤ w''.heap.size := Nat.le_trans hC.2.1 hg.size
          have hbel : Below B W w'' := hC.1.trans (Mod.below (Mod.grown_row hg) hC.2.1 (fun q hq => (owns_block h3 hq).1))
          have hpush : PRow w'' B 34 v'' (pa ++ [p.cut]) := PRow.push (vs := vs) (dao := dao) (dcap := dcap) hvs h3 h4 (by decide) hdat rfl ho hg
          have hPV : ∀ v, PV w' B p.cut v → PV w'' B p.cut v := fun v h => PV.app h3 hg (by decide) h
          have hPB : ∀ v, PB w' B 31 p.cut v → PB w'' B 31 p.cut v := fun v h => PB.app h3 hg (by decide) (by decide) h
          exact ⟨⟨hbel, hbz, (fun h => absurd h (by decide)), (fun _ => PRow.app h3 hg (by decide) (by decide) (hC.2.2.2 (by decide)))⟩, ⟨(fun _ => hpush), (fun h => absurd h (by decide)), (fun h => absurd h (by decide)), (fun h => absurd h (by decide))⟩, svl_next rfl ⟨exk_nx, exk_nx, exk_nx, exk_nx, exk_nx, (fun v h => hPV v h), (fun v h h0 => absurd h0 (by omega)), (fun _ _ => trivial), exk_nx, exk_nx, exk_nx, exk_nx, exk_nx, (fun _ _ => trivial), (fun _ _ => trivial), (fun v h h3 => by first | exact hPB v (h (by omega)) | (exfalso; omega)), (fun _ _ => trivial), trivial⟩ (fun q v hm hq => ⟨(fun h => absurd hm (by omega)), (fun h => hPV v (hq.2.1 h)), (fun h => hPV v (hq.2.2.1 h)), (fun h => absurd hm (by omega))⟩)⟩
        · intro bb vals ρ w' hC hd hS
          have r45 : ρ (.tmp 45) = .slice (some ⟨b, o, none⟩) n lcap := (hS.tmp 45).trans (hd.at 9 rfl)
          have r46 : ρ (.tmp 46) = .int .i64 (j : Int) := (hS.tmp 46).trans (hd.at 10 rfl)
          refine (show givesR _ _ _ _ (fun v w'' => Ext w' w'' ∧ v = .pointer (some ⟨b, o + j * 5, none⟩)) from ?_)
          clear hC hd hS
          go_simp
          exact Ext.refl _
        · intro bb vals ρ w' hC hd hS
          have r47 : ρ (.tmp 47) = .pointer (some ⟨b, o + j * 5, none⟩) := (hS.tmp 47).trans (hd.at 11 rfl)
          refine (show givesR _ _ _ _ (fun v w'' => Ext w' w'' ∧ v = .agg #[.int .u64 (p.ep : Int), .int .u64 (p.ct : Int), .bool p.fi, .bool p.la, .slice ao5 mp cap5]) from ?_)
          have q0 := Below.cellw (HBW.out _ hC.1) HC0.out.1
          have q1 := Below.cellw (HBW.out _ hC.1) HC0.out.2.1
          have q2 := Below.cellw (HBW.out _ hC.1) HC0.out.2.2.1
          have q3 := Below.cellw (HBW.out _ hC.1) HC0.out.2.2.2.1
          have q4 := Below.cellw (HBW.out _ hC.1) HC0.out.2.2.2.2
          clear hC hd hS
          go_simp
          exact Ext.refl _
        · intro vals ρ w' hC hd hS
          have r48 : ρ (.tmp 48) = .agg #[.int .u64 (p.ep : Int), .int .u64 (p.ct : Int), .bool p.fi, .bool p.la, .slice ao5 mp cap5] := (hS.tmp 48).trans (hd.at 12 rfl)
          have rf := hS.func
          have hx0 := HBS.out.ext (Ext.of_below (HBW.out _ hC.1))
          have hbz := hC.2.1
          have H1' := Lib.hid hx0
          have HZ' := Lib.hid hbz
          have HCC := Lib.hid hC
          clear hC hd hS hx0 hbz
          refine givesR_via (Post' := fun v w'' => Ext w' w'' ∧ PV w'' B p.cut v) ?_ ?_
          · go_simp
            refine (mine_y p _ B w' HZ'.out H1'.out).mono ?_
            rintro e w'' ⟨u, rfl, hx, hp⟩
            exact ⟨_, rfl, hx, hp⟩
          rintro v w'' ⟨hx, hp⟩
          have hPV : ∀ v, PV w' B p.cut v → PV w'' B p.cut v := fun v h => h.ext hx
          have hPB : ∀ v, PB w' B 31 p.cut v → PB w'' B 31 p.cut v := fun v h => h.ext hx
          exact ⟨⟨HCC.out.1.trans (hx.below.mono HCC.out.2.1), Nat.le_trans HCC.out.2.1 hx.size, (fun h => absurd h (by decide)), (fun h => (HCC.out.2.2.2 (by decide)).ext hx)⟩, ⟨(fun h => absurd h (by decide)), (fun _ => hp), (fun h => absurd h (by decide)), (fun h => absurd h (by decide))⟩, svl_next rfl ⟨exk_nx, exk_nx, exk_nx, exk_nx, exk_nx, (fun v h => hPV v h), (fun v h h0 => absurd h0 (by omega)), (fun _ _ => trivial), exk_nx, exk_nx, exk_nx, exk_nx, exk_nx, (fun _ _ => trivial), (fun _ _ => trivial), (fun v h h3 => by first | exact hPB v (h (by omega)) | (exfalso; omega)), (fun _ _ => trivial), trivial⟩ (fun q v hm hq => ⟨(fun h => (hq.1 h).ext hx), (fun h => (hq.2.1 h).ext hx), (fun h => (hq.2.2.1 h).ext hx), (fun h => (hq.2.2.2 h).ext hx)⟩)⟩
        · intro vals ρ w' hC hd hS
          have d13 := hd.at 13 rfl
          have r49 : ρ (.tmp 49) = vals 13 := hS.tmp 49
          have rf := hS.func
          have hp0 := (svl_done (m := 1) rfl d13).2.2.1 rfl
          obtain ⟨qao, qcap, e13, o13⟩ := hp0
          rw [e13] at r49
          have HO13 := Lib.hid o13
          have HCC := Lib.hid hC
          clear hC hd hS d13 o13 e13
          refine givesR_via (Post' := fun v w'' => Ext w' w'' ∧ PV w'' B p.cut v) ?_ ?_
          · go_simp
            refine (plain_c _ _ _ _ _ _ _ w').mono ?_
            rintro e w'' ⟨rfl, hx⟩
            exact ⟨_, rfl, hx, qao, qcap, rfl, owns_ext HO13.out hx⟩
          rintro v w'' ⟨hx, hp⟩
          have hPV : ∀ v, PV w' B p.cut v → PV w'' B p.cut v := fun v h => h.ext hx
          have hPB : ∀ v, PB w' B 31 p.cut v → PB w'' B 31 p.cut v := fun v h => h.ext hx
          exact ⟨⟨HCC.out.1.trans (hx.below.mono HCC.out.2.1), Nat.le_trans HCC.out.2.1 hx.size, (fun h => absurd h (by decide)), (fun h => (HCC.out.2.2.2 (by decide)).ext hx)⟩, ⟨(fun h => absurd h (by decide)), (fun h => absurd h (by decide)), (fun _ => hp), (fun h => absurd h (by decide))⟩, svl_next rfl ⟨exk_nx, exk_nx, exk_nx, exk_nx, exk_nx, (fun v h => hPV v h), (fun v h h0 => absurd h0 (by omega)), (fun _ _ => trivial), exk_nx, exk_nx, exk_nx, exk_nx, exk_nx, (fun _ _ => trivial), (fun _ _ => trivial), (fun v h h3 => by first | exact hPB v (h (by omega)) | (exfalso; omega)), (fun _ _ => trivial), trivial⟩ (fun q v hm hq => ⟨(fun h => (hq.1 h).ext hx), (fun h => (hq.2.1 h).ext hx), (fun h => (hq.2.2.1 h).ext hx), (fun h => (hq.2.2.2 h).ext hx)⟩)⟩
        · intro bb vals ρ w' hC hd hS
          have d14 := hd.at 14 rfl
          have r50 : ρ (.tmp 50) = vals 14 := hS.tmp 50
          refine (show givesR _ _ _ _ (fun v w'' => Ext w' w'' ∧ (fun k v w' => k ≤ 3 → PB w' B 31 p.cut v) bb v w'') from ?_)
          obtain ⟨qao, qcap, e1, o1⟩ := (svl_done (m := 2) rfl d14).2.2.2.1 rfl
          rw [e1] at r50
          have HO1 := Lib.hid o1
          clear hC hd hS o1 e1
          go_simp
          exact ⟨(Ext.refl _).alloc _, fun _ => ⟨qao, qcap, owns_ext HO1.out ((Ext.refl _).alloc _), _, _, rfl, owns_lit (w := w') (B := 0) (n := 1) (size := 5) rfl (Nat.zero_le _) (by decide)⟩⟩
        · intro vals ρ w' hC hd hS
          have r44 : ρ (.tmp 44) = u10 := (hS.tmp 44).trans (hd.at 8 rfl)
          have d15 := hd.at 15 rfl
          have r51 : ρ (.tmp 51) = vals 15 := hS.tmp 51
          obtain ⟨dao, dcap, hdat, bao, bcap, e1, hrow⟩ := d15 (by decide)
          rw [e1] at r51
          obtain ⟨vs, hvs, ⟨rao, rcap, hsh⟩, h3, h4⟩ := hC.2.2.2 (by decide)
          have HCC := Lib.hid hC
          have hlj : pa.length = j := by rw [HPA.out]; exact HLE.out
          clear hd hS
          refine givesR_app (.tmp 44) (.tmp 51) 57 rfl etRPc B r44 h3 r51 (Rs.of_owns hrow) (oneCell_pc _ _ _ _) (by have := HLT.out; omega) (by have := HLT.out; omega) hC.2.1 ?_
          intro v'' w'' ho hg hat
          have hbz : B ≤ w''.heap.size := Nat.le_trans hC.2.1 hg.size
          have hbel : Below B W w'' := hC.1.trans (Mod.below (Mod.grown_row hg) hC.2.1 (fun q hq => (owns_block h3 hq).1))
          have hpush : PRow w'' B 31 v'' (pa ++ [p.cut]) := PRow.push (vs := vs) (dao := dao) (dcap := dcap) hvs h3 h4 (by decide) hdat rfl ho hg
          have hPV : ∀ v, PV w' B p.cut v → PV w'' B p.cut v := fun v h => PV.app h3 hg (by decide) h
          skip
          exact ⟨⟨hbel, hbz, (fun h => absurd h (by decide)), (fun h => absurd h (by decide))⟩, ⟨(fun h => absurd h (by decide)), (fun h => absurd h (by decide)), (fun h => absurd h (by decide)), (fun _ => hpush)⟩, svl_next rfl ⟨exk_nx, exk_nx, exk_nx, exk_nx, exk_nx, (fun v h => hPV v h), (fun v h h0 => absurd h0 (by omega)), (fun _ _ => trivial), exk_nx, exk_nx, exk_nx, exk_nx, exk_nx, (fun _ _ => trivial), (fun _ _ => trivial), (fun v h h3 => by first | exact hPB v (h (by omega)) | (exfalso; omega)), (fun _ _ => trivial), trivial⟩ (fun q v hm hq => ⟨(fun h => PRow.app h3 hg (by decide) (by decide) (hq.1 h)), (fun h => hPV v (hq.2.1 h)), (fun h => hPV v (hq.2.2.1 h)), (fun h => absurd hm (by omega))⟩)⟩
      intro vals w' hC hV
      have e7 := (svl_done (m := 0) rfl (hV 7 (by decide))).2.1 rfl
      have e16 := (svl_done (m := 3) rfl (hV 16 (by decide))).2.2.2.2 rfl
      have HC' := Lib.hid hC; clear hC hV
      simp only [List.drop_succ_cons, List.drop_zero]
      go_simp -- the frame
      have HE7 := Lib.hid e7
      have HE16 := Lib.hid e16
      clear e7 e16
      go_wp2_with fail
      go_roundw
      case rel =>
        refine ⟨j + 1, HLT.out.1, HLT.out.2, by go_num, Lib.hid ⟨HC'.out.1, HC'.out.2.1, ?_, ?_⟩⟩
        · rw [HSN.out, ← HPA.out]; exact HE7.out
        · rw [HSN.out, ← HPA.out]; exact HE16.out
      case measure => have := HLT.out; simp [intOf]; omega
    · obtain ⟨xs, hxs⟩ : ∃ x, x = (ds.take j).map (·.1.cut) := ⟨_, rfl⟩
      rw [← hxs] at HR
      have hxl : xs.length ≤ 6 := by rw [hxs, List.length_map, List.length_take]; omega
      have hxw : ∀ p ∈ xs, p.wf ∧ p.d.length ≤ 120 := by
        intro p hp
        rw [hxs] at hp
        obtain ⟨d, hd, rfl⟩ := List.mem_map.1 hp
        obtain ⟨k, hk⟩ := List.mem_iff_getElem?.1 (List.mem_of_mem_take hd)
        exact ⟨(HD.out k d hk).1, by simp only [Pc.cut, List.length_take]; exact Nat.min_le_left _ _⟩
      have hcat : (catP xs).length ≤ 120 * xs.length := by
        clear hxs hxl HR
        induction xs with
        | nil => simp [catP]
        | cons p ps ih =>
          have h1 := (hxw p (by simp)).2
          have h2 := ih (fun q hq => hxw q (by simp [hq]))
          have e : catP (p :: ps) = p.d ++ catP ps := by simp [catP]
          rw [e, List.length_append, List.length_cons]
          omega
      have HXS : Hid ((catP xs).length ≤ 100000 ∧ ∀ p ∈ xs, p.wf) := Lib.hid ⟨by omega, fun p hp => (hxw p hp).1⟩
      have hd2 : ¬ j < n ∨ (j < n ∧ decide ((j : Int) < 6) = false) := by
        simp only [decide_eq_false_iff_not]; omega
      clear hxs hxl hxw hcat hlt
      rcases hd2 with x1 | ⟨x1, x2⟩
      all_goals
        go_wp2_with fail
        refine (ljoin_c xs _ B wr HR.out.2.2.1 HXS.out.1 HXS.out.2).mono ?_
        rintro e w1 ⟨v1, rfl, hx1, hb1⟩
        have HX1 := Lib.hid hx1
        have HB1 := Lib.hid hb1
        clear hx1 hb1
        go_wp2_with fail
        refine (rjoin_c xs _ B w1 (HR.out.2.2.2.ext HX1.out) HXS.out.1 HXS.out.2).mono ?_
        rintro e w2 ⟨v2, rfl, hx2, hb2⟩
        have HX2 := Lib.hid (HX1.out.trans hx2)
        have HB12 := Lib.hid (And.intro (HB1.out.ext hx2) hb2)
        clear hx2 hb2
        go_wp2_with fail
        refine (same_c _ _ _ _ w2 HB12.out.1 HB12.out.2).mono ?_
        rintro e w2' ⟨rfl, nd, rfl⟩
        rw [show decide (joinL xs = joinL xs) = true by simp]
        obtain ⟨w3, hw3⟩ : ∃ x, x = w2.drewN nd := ⟨_, rfl⟩
        rw [← hw3]
        have HX3 : Hid (Below B W w3 ∧ B ≤ w3.heap.size) := Lib.hid (by
          have hx : Ext wr w3 := by rw [hw3]; exact HX2.out.drewN _
          exact ⟨HR.out.1.trans (hx.below.mono HR.out.2.1), Nat.le_trans HR.out.2.1 hx.size⟩)
        clear hw3
        go_wp2_with fail
        refine (cut_c _ b0 500 (by decide) (by decide) w3 (HV0.out.ext (Ext.of_below (HBW.out _ HX3.out.1)))).mono ?_
        rintro e w3' ⟨bo, bcap, rfl, rfl, hcb, _⟩
        obtain ⟨bl, hbl⟩ : ∃ x, x = b0.take (500 : Int).toNat := ⟨_, rfl⟩
        rw [← hbl] at hcb ⊢
        have hbl5 : bl.length ≤ 500 := by rw [hbl, List.length_take]; exact Nat.min_le_left _ _
        obtain ⟨q, hq⟩ : ∃ x, x = bl.length := ⟨_, rfl⟩
        rw [← hq] at hcb hbl5 ⊢
        have HQ := Lib.hid (And.intro hbl5 hq)
        have HCB := Lib.hid hcb
        clear hbl hcb hbl5 hq
        rename World => w3
        go_wp2_with fail
        refine (lcut_c ep0 ct0 (.slice bo q bcap) bl w3 HCB.out (by have := HQ.out; omega) HEC.out.1 HEC.out.2).mono ?_
        rintro e w4 ⟨vm, rfl, hx4, hp4⟩
        obtain ⟨K, hK⟩ : ∃ x, x = cutN ep0 ct0 bl.length := ⟨_, rfl⟩
        obtain ⟨PL, hPL⟩ : ∃ x, x = cutL ep0 ct0 bl := ⟨_, rfl⟩
        rw [← hPL] at hp4
        rw [← hK]
        obtain ⟨mao, mcap, hsh⟩ := hp4.shape
        obtain ⟨L, hL⟩ : ∃ x, x = PL.length := ⟨_, rfl⟩
        rw [← hL] at hsh
        subst hsh
        have HKP := Lib.hid (And.intro hK (And.intro hPL hL))
        have hLm : L ≤ 9223372036854775807 := by rw [hL]; exact hp4.le
        have HX4 : Hid (Ext w3 w4 ∧ Below B W w4 ∧ B ≤ w4.heap.size) := Lib.hid ⟨hx4, HX3.out.1.trans (hx4.below.mono HX3.out.2), Nat.le_trans HX3.out.2 hx4.size⟩
        have HP4 := Lib.hid hp4
        have HB4 := Lib.hid (HCB.out.ext hx4)
        clear hK hPL hL hx4 hp4
        by_cases hk : K = 0
        · have hk0 : ((K : Int) != 0) = false := by simp; omega
          have HZ : Hid (cutN ep0 ct0 bl.length = 0) := Lib.hid (by rw [← HKP.out.1]; exact hk)
          clear hk
          go_wp2_with fail
          go_loopw [19, 18] (fun i a wr => ∃ j : Nat, j ≤ L ∧ i = .int .i64 j ∧ Hid (Ext w4 wr ∧ PRow wr w4.heap.size 34 a (PL.take j))) (fun i _ _ => L - (intOf i).toNat)
          case atStart => exact ⟨0, by omega, rfl, Lib.hid ⟨Ext.refl _, PRow.nil _ _ _⟩⟩
          case round =>
            obtain ⟨j2, hj2, rfl, HR2⟩ := hrel
            by_cases hlt : j2 < L
            · obtain ⟨p, hp⟩ : ∃ p, PL[j2]? = some p := ⟨_, List.getElem?_eq_getElem (by rw [← HKP.out.2.2]; exact hlt)⟩
              obtain ⟨g, dao, dcap, rfl, _, _, hbs, _, hc⟩ := (HP4.out.ext HR2.out.1).at hp
              have hok : p.ok := by
                have hj3 : j2 < cntN bl.length := by have := cutL_length HZ.out; rw [← HKP.out.2.1, ← HKP.out.2.2] at this; omega
                have h := cutL_get HZ.out hj3
                rw [← HKP.out.2.1, hp] at h
                rw [Option.some.inj h]
                exact cutP_ok HZ.out hj3
              have hts : PL.take (j2 + 1) = PL.take j2 ++ [p] := by
                obtain ⟨hj', rfl⟩ := List.getElem?_eq_some_iff.1 hp
                rw [List.take_succ_eq_append_getElem hj']
              have htl : (PL.take j2).length = j2 := by rw [List.length_take, ← HKP.out.2.2]; omega
              obtain ⟨vs, hvs, ⟨rao, rcap, hsh⟩, h3, h4⟩ := HR2.out.2
              rw [htl] at hsh h3
              subst hsh
              have HVS := Lib.hid hvs
              have H3 := Lib.hid h3
              have H4 := Lib.hid h4
              have HXR := Lib.hid HR2.out.1
              clear hvs h3 h4 HR2
              obtain ⟨mp, hmp⟩ : ∃ x, x = p.d.length := ⟨_, rfl⟩
              have HMP := Lib.hid hmp
              have hbs' : Bs wr (.slice dao mp dcap) p.d := by rw [hmp]; exact hbs
              rw [← hmp] at hc
              obtain ⟨ep, hep⟩ : ∃ x, x = p.ep := ⟨_, rfl⟩
              obtain ⟨ct, hct⟩ : ∃ x, x = p.ct := ⟨_, rfl⟩
              obtain ⟨fi, hfi⟩ : ∃ x, x = p.fi := ⟨_, rfl⟩
              obtain ⟨la, hla⟩ : ∃ x, x = p.la := ⟨_, rfl⟩
              have HAG : Hid (∀ v, p.agg v = .agg #[.int .u64 (ep : Int), .int .u64 (ct : Int), .bool fi, .bool la, v]) := Lib.hid (fun v => by rw [hep, hct, hfi, hla]; rfl)
              have HCL : Hid (∀ v, p.cells v = [.int .u64 (ep : Int), .int .u64 (ct : Int), .bool fi, .bool la, v]) := Lib.hid (fun v => by rw [hep, hct, hfi, hla]; rfl)
              have p0 : wr.cell? ⟨g, j2 * 5, none⟩ = some (.int .u64 (ep : Int)) := by rw [hep]; exact hc 0 (by decide)
              have p1 : wr.cell? ⟨g, j2 * 5 + 1, none⟩ = some (.int .u64 (ct : Int)) := by rw [hct]; exact hc 1 (by decide)
              have p2 : wr.cell? ⟨g, j2 * 5 + 2, none⟩ = some (.bool fi) := by rw [hfi]; exact hc 2 (by decide)
              have p3 : wr.cell? ⟨g, j2 * 5 + 3, none⟩ = some (.bool la) := by rw [hla]; exact hc 3 (by decide)
              have p4 : wr.cell? ⟨g, j2 * 5 + 4, none⟩ = some (.slice dao mp dcap) := hc 4 (by decide)
              have HOK := Lib.hid hok
              have HTS := Lib.hid hts
              have HTL := Lib.hid htl
              have HBS := Lib.hid hbs'
              have HLT := Lib.hid hlt
              have hi1 : (0 : Int) ≤ (j2 : Int) := by omega
              have hi2 : (j2 : Int) < (L : Int) := by omega
              clear hp hbs hc hok hts htl hmp hbs' hep hct hfi hla
              go_wp2_with fail
              rw [← HAG.out]
              refine (seal_ok p _ wr HOK.out HBS.out).mono ?_
              rintro e w5 ⟨g5, rfl, hx5, _, hs5⟩
              have HX5 := Lib.hid hx5
              have HS5 := Lib.hid hs5
              clear hx5 hs5 p0 p1 p2 p3 p4
              go_wp2_with fail
              refine (unseal_c _ p.sec w5 HS5.out.bs).mono ?_
              rintro e w6 ⟨hx6, ⟨_, ao6, cap6, rfl, ho6⟩ | ⟨hn6, _⟩⟩
              case inr => exact absurd (isSec_sec HOK.out) hn6
              rw [pcOf_sec HOK.out, ← HMP.out] at ho6 ⊢
              rw [HAG.out]
              have HX6 := Lib.hid (HX5.out.trans hx6)
              have HO6 := Lib.hid ho6
              have HX56 := Lib.hid hx6
              clear hx6 ho6
              have hj8 : j2 ≤ 100 := by
                have h1 := HQ.out
                have h2 := HLT.out
                have h3 := cutL_length HZ.out
                have h4 := cntN_le bl.length
                rw [← HKP.out.2.1, ← HKP.out.2.2] at h3
                omega
              have HBLK : Hid (Rs ((w6.alloc (.cells #[.int .u64 (ep : Int), .int .u64 (ct : Int), .bool fi, .bool la, .slice ao6 mp cap6] 34)).alloc (.cells #[.int .u64 (ep : Int), .int .u64 (ct : Int), .bool fi, .bool la, .slice ao6 mp cap6] 34)) 5 (.slice (some ⟨w6.heap.size + 1, 0, none⟩) 1 1) 1 [Value.int .u64 (ep : Int), .int .u64 (ct : Int), .bool fi, .bool la, .slice ao6 mp cap6]) := Lib.hid (by
                have h := Rs.of_owns (owns_lit (w := w6.alloc (.cells #[.int .u64 (ep : Int), .int .u64 (ct : Int), .bool fi, .bool la, .slice ao6 mp cap6] 34)) (B := 0) (n := 1) (size := 5) (e := 34) (cs := #[Value.int .u64 (ep : Int), .int .u64 (ct : Int), .bool fi, .bool la, .slice ao6 mp cap6]) rfl (Nat.zero_le _) (by decide))
                rw [World.size_alloc] at h
                exact h)
              go_wp2_with (first
                | (at_builtin; refine wpList_app rfl (.tmp 114) (.tmp 116) 54 rfl etPc w4.heap.size rfl (owns_ext (owns_ext H3.out HX6.out) (((Ext.refl _).alloc _).alloc _)) rfl HBLK.out (by simp [Value.oneCell']) (by omega) (by omega) (by have := HXR.out.size; have := HX6.out.size; simp; omega) ?_; intro v' w9 ho hg _)
                | fail)
              have hx9 : Ext w4 w9 := (((HXR.out.trans HX6.out).alloc _).alloc _).grown hg (fun i hi => (owns_block H3.out hi).1)
              have hp9 : PRow w9 w4.heap.size 34 v' (PL.take (j2 + 1)) := by
                rw [HTS.out]
                refine PRow.push (vs := vs) (dao := ao6) (dcap := cap6) HVS.out (owns_ext (owns_ext H3.out HX6.out) (((Ext.refl _).alloc _).alloc _)) (fun d hd => ⟨(H4.out d hd).1, owns_ext (owns_ext (H4.out d hd).2 HX6.out) (((Ext.refl _).alloc _).alloc _)⟩) (by decide) ?_ (by rw [HTL.out]) ?_ hg
                · rw [← HMP.out]
                  exact owns_base (owns_ext HO6.out (((Ext.refl _).alloc _).alloc _)) (by have := HXR.out.size; have := HX5.out.size; omega)
                · rw [← HMP.out, HCL.out]
                  exact ho
              have HX9 := Lib.hid hx9
              have HP9 := Lib.hid hp9
              clear ho hg hx9 hp9
              go_roundw
              case rel => exact ⟨j2 + 1, HLT.out, by go_num, Lib.hid ⟨HX9.out, HP9.out⟩⟩
              case measure => have := HLT.out; simp [intOf]; omega
            · obtain rfl : L = j2 := by omega
              have htk : PL.take L = cutL ep0 ct0 bl := by rw [List.take_of_length_le (by rw [← HKP.out.2.2]; exact Nat.le_refl _), HKP.out.2.1]
              rw [htk] at HR2
              have hjo := joinOk_cutL HZ.out
              have HJN : Hid (joinN (cutL ep0 ct0 bl) = 0 ∧ joinL (cutL ep0 ct0 bl) = bl) := Lib.hid ⟨by unfold joinN; rw [if_pos hjo], by unfold joinL; rw [if_pos hjo, catP_cutL HZ.out]⟩
              clear htk hjo
              go_wp2_with fail
              refine (ljoin_c (cutL ep0 ct0 bl) _ _ wr HR2.out.2 (by rw [catP_cutL HZ.out]; have := HQ.out; omega) (fun p hp => by
                obtain ⟨i, hi⟩ := List.mem_iff_getElem?.1 hp
                have hin : i < cntN bl.length := by have := (List.getElem?_eq_some_iff.1 hi).1; rw [cutL_length HZ.out] at this; exact this
                have h := cutL_get HZ.out hin
                rw [hi] at h
                have hok := cutP_ok HZ.out hin
                rw [← Option.some.inj h] at hok
                exact ⟨by have := hok.1; omega, by have := hok.2.1; omega⟩)).mono ?_
              rintro e w5 ⟨vz, rfl, hx5, hz5⟩
              rw [HJN.out.1]
              rw [HJN.out.2] at hz5
              have HX5 := Lib.hid (HR2.out.1.trans hx5)
              have HZ5 := Lib.hid hz5
              clear hx5 hz5
              go_wp2_with fail
              refine (same_c _ _ bl bl w5 HZ5.out (HB4.out.ext HX5.out)).mono ?_
              rintro e w6 ⟨rfl, nd2, rfl⟩
              rw [show decide (bl = bl) = true by simp]
              go_wp2_with fail
              refine (HL.out _).mono ?_
              rintro e w7 ⟨rfl, hx7⟩
              have hx8 : Ext w4 w7 := (HX5.out.drewN _).trans hx7
              have HX8 := Lib.hid (HX4.out.2.1.trans (hx8.below.mono HX4.out.2.2))
              clear hx7 hx8
              go_wp2_with fail
              go_ret
              exact ⟨rfl, HBW.out _ HX8.out⟩
        · have hk0 : ((K : Int) != 0) = true := by simp; omega
          have HZ : Hid (L = 0) := Lib.hid (by rw [HKP.out.2.2, HKP.out.2.1]; unfold cutL; rw [if_neg (by rw [← HKP.out.1]; exact hk)]; rfl)
          have hl0 : ((L : Int) == 0) = true := by have := HZ.out; simp; omega
          clear hk
          go_wp2_with fail
          refine (HL.out w4).mono ?_
          rintro e w5 ⟨rfl, hx5⟩
          have HX5 := Lib.hid (HX4.out.2.1.trans (hx5.below.mono HX4.out.2.2))
          clear hx5
          go_wp2_with fail
          go_ret
          exact ⟨rfl, HBW.out _ HX5.out⟩

end Go.Proofs.Ytcedfpckjdobpaa

/- What was put is got: the law BitsBack, walked to what was written. -/
import Derived.Test.YtlfnpbpbgncbpaaB15
import Derived.Test.YtlfnpbpbgncbpaaB12
import Derived.Test.YtlfnpbpbgncbpaaRs
set_option linter.unusedVariables false
set_option linter.unusedSimpArgs false
namespace Go.Proofs.Ytlfnpbpbgncbpaa
open Go.RowKit

theorem bitsFrom_packed (bl : List Bool) {off m : Nat} (h : off + m ≤ bl.length) : bitsFrom (packed bl) off m = (bl.drop off).take m := by
  obtain ⟨k, hk, e⟩ := bitsAll_packed _ bl (Nat.le_refl _)
  unfold bitsFrom
  rw [e, List.drop_append_of_le_length (by omega), List.take_append_of_le_length (by rw [List.length_drop]; omega)]
theorem packed_room (bl : List Bool) : bl.length ≤ 8 * (packed bl).length := by rw [packed_length]; omega
theorem seg_at {ds : List BDo} {k : Nat} {d : BDo} (hd : ds[k]? = some d) : ds.flatMap seg = (ds.take k).flatMap seg ++ (seg d ++ (ds.drop (k + 1)).flatMap seg) := by
  obtain ⟨hk, e⟩ := List.getElem?_eq_some_iff.1 hd
  conv => lhs; rw [← List.take_append_drop k ds, List.drop_eq_getElem_cons hk, e]
  rw [List.flatMap_append, List.flatMap_cons]
theorem seg_bits {ds : List BDo} {k : Nat} {d : BDo} (hd : ds[k]? = some d) {bl : List Bool} (hb : bl = ds.flatMap seg) {off : Nat} (ho : off = ((ds.take k).flatMap seg).length) :
    off + (seg d).length ≤ bl.length ∧ bitsFrom (packed bl) off (seg d).length = seg d := by
  have e := seg_at hd
  rw [← hb] at e
  have hl : off + (seg d).length ≤ bl.length := by rw [e, ho]; simp only [List.length_append]; omega
  refine ⟨hl, ?_⟩
  rw [bitsFrom_packed bl hl, e, ho, List.drop_left, List.take_left]
theorem seg_num {ds : List BDo} {k : Nat} {d : BDo} (hd : ds[k]? = some d) {bl : List Bool} (hb : bl = ds.flatMap seg) {off m : Nat} (ho : off = ((ds.take k).flatMap seg).length) (h0 : d.kind = 0) (hm : d.n = (m : Int)) (hf : fitsN d.x d.n) :
    m ≤ 64 ∧ off + m ≤ 8 * (packed bl).length ∧ val (bitsFrom (packed bl) off m) = d.x := by
  obtain ⟨h1, h2⟩ := seg_bits hd hb ho
  have hs : seg d = bitsOf d.x m := by unfold seg; rw [if_pos h0, hm, Int.toNat_natCast]
  rw [hs, bitsOf_length] at h1 h2
  obtain ⟨f1, f2, f3⟩ := hf
  rw [hm] at f2 f3
  rw [Int.toNat_natCast] at f3
  have := packed_room bl
  refine ⟨by omega, by omega, ?_⟩
  rw [h2, val_bitsOf, Nat.mod_eq_of_lt f3]
theorem seg_text {ds : List BDo} {k : Nat} {d : BDo} (hd : ds[k]? = some d) {bl : List Bool} (hb : bl = ds.flatMap seg) {off : Nat} (ho : off = ((ds.take k).flatMap seg).length) (h0 : ¬ d.kind = 0) (hs40 : d.s.size ≤ 40) :
    d.s.size = val (bitsFrom (packed bl) off 16) ∧ off + 16 + 8 * d.s.size ≤ 8 * (packed bl).length ∧ (⟨(bytesFrom (packed bl) (off + 16) d.s.size).toArray⟩ : ByteArray) = d.s := by
  obtain ⟨h1, h2⟩ := seg_bits hd hb ho
  have hs : seg d = textBits d.s.data.toList := by unfold seg; rw [if_neg h0]
  have hsz : d.s.data.toList.length = d.s.size := rfl
  rw [hs, textBits_length, hsz] at h1 h2
  have hr := packed_room bl
  rw [bitsFrom_add] at h2
  have hl16 : (bitsFrom (packed bl) off 16).length = 16 := bitsFrom_length (by omega)
  obtain ⟨e1, e2⟩ := List.append_inj (h2.trans (show textBits d.s.data.toList = bitsOf d.s.data.toList.length 16 ++ bitsAll d.s.data.toList from rfl)) (by rw [hl16, bitsOf_length])
  refine ⟨?_, by omega, ?_⟩
  · rw [e1, val_bitsOf, hsz, Nat.mod_eq_of_lt (by omega)]
  · have hb : bytesFrom (packed bl) (off + 16) d.s.size = d.s.data.toList := by
      refine List.ext_getElem? fun i => ?_
      by_cases hi : i < d.s.size
      · have hi' : i < d.s.data.toList.length := by rw [hsz]; exact hi
        have h3 := bitsAll_piece d.s.data.toList (8 * i) 8 (by omega) (by omega)
        rw [show 8 * i / 8 = i by omega, show 8 - 8 * i % 8 - 8 = 0 by omega, Nat.shiftRight_zero, ← e2] at h3
        have h4 : bitsFrom (packed bl) (off + 16 + 8 * i) 8 = ((bitsFrom (packed bl) (off + 16) (8 * d.s.size)).drop (8 * i)).take 8 := by
          unfold bitsFrom
          rw [List.drop_take, List.take_take, Nat.min_eq_left (by omega), List.drop_drop]
        have h5 : (bytesFrom (packed bl) (off + 16) d.s.size)[i]? = some (UInt8.ofNat (val (bitsFrom (packed bl) (off + 16 + 8 * i) 8))) := by
          unfold bytesFrom
          rw [List.getElem?_map, List.getElem?_range hi]
          rfl
        rw [h5, h4, h3, val_bitsOf, List.getElem?_eq_getElem hi', Nat.mod_eq_of_lt (UInt8.toNat_lt _)]
        simp [List.getD, List.getElem?_eq_getElem hi']
      · rw [List.getElem?_eq_none (by rw [bytesFrom_length]; omega), List.getElem?_eq_none (by rw [hsz]; omega)]
    rw [hb]

set_option maxRecDepth 100000 in
set_option maxHeartbeats 8000000 in
theorem bitsBack_calls (v : Value) (ds0 : List BDo) (W : World) (h : BDos W v ds0) :
    Calls Try.prog 7 #[v] W fun e w' => e = .returned (.bool true) ∧ Below W.heap.size W w' := by
  have H := Lib.hid h; clear h
  go_enter Try.func7, Try.ntmps7
  go_wp2_with fail
  refine (few_c v ds0 W H.out).mono ?_
  rintro e w1 ⟨v', ds, rfl, hx1, r1, r2, ⟨ao, cap, rfl⟩, r4⟩
  obtain ⟨n, hn⟩ : ∃ n, n = ds.length := ⟨_, rfl⟩
  rw [← hn] at r1 r4 ⊢
  have HN := Lib.hid hn
  have HX1 := Lib.hid hx1
  have HR2 := Lib.hid r2
  have HR4 := Lib.hid r4
  clear hn hx1 r2 r4
  go_wp2_with fail
  refine (wnew_c w1.heap.size w1 (Nat.le_refl _)).mono ?_
  rintro e w2 ⟨wb, rfl, hwb, hx2, h2⟩
  have HX2 := Lib.hid hx2
  have H2 := Lib.hid h2
  clear hx2 h2 hwb
  go_wp2_with fail
  go_loopw [3, 4] (fun v i wr => ∃ (k : Nat) (bl : List Bool) (err : Int), k ≤ n ∧ i = .int .i64 k ∧ v = .pointer (some ⟨wb, 0, none⟩) ∧ bl.length ≤ 400 * k ∧ Wrote (ds.take k) bl err ∧ WrIs wr w1.heap.size wb bl err ∧ Below w1.heap.size w1 wr) (fun _ i _ => n - (intOf i).toNat)
  case atStart => exact ⟨0, [], 0, Nat.zero_le _, rfl, rfl, by decide, .inl ⟨rfl, rfl, by simp⟩, H2.out, HX2.out.below⟩
  case round =>
    obtain ⟨k, bl, err, hk, rfl, rfl, hbl, hwr, hw, hb⟩ := hrel
    have HW := Lib.hid hw
    have HB := Lib.hid hb
    have HWR := Lib.hid hwr
    have HBK := Lib.hid hbl
    have HBL : Hid (bl.length ≤ 549755813888) := Lib.hid (by omega)
    clear hw hb hwr hbl
    by_cases hlt : k < n
    · obtain ⟨d, hd⟩ : ∃ d, ds[k]? = some d := ⟨_, List.getElem?_eq_getElem (by rw [← HN.out]; exact hlt)⟩
      obtain ⟨g, cap', he, hg1, hg2⟩ := World.ownsRow.form HR4.out (by omega)
      simp only [Value.slice.injEq] at he
      obtain ⟨rfl, _, rfl⟩ := he
      have q0 : w1.cell? ⟨g, k * 4, none⟩ = some (.int .i64 d.kind) := BRow.at HR4.out hd HN.out 0 (by decide)
      have q1 : w1.cell? ⟨g, k * 4 + 1, none⟩ = some (.int .u64 (d.x : Int)) := BRow.at HR4.out hd HN.out 1 (by decide)
      have q2 : w1.cell? ⟨g, k * 4 + 2, none⟩ = some (.int .i64 d.n) := BRow.at HR4.out hd HN.out 2 (by decide)
      have q3 : w1.cell? ⟨g, k * 4 + 3, none⟩ = some (.string d.s) := BRow.at HR4.out hd HN.out 3 (by decide)
      have c0 := Below.cellw HB.out q0
      have c3 := Below.cellw HB.out q3
      have HOK := Lib.hid (HR2.out d (List.mem_of_getElem? hd)).1
      have HS40 := Lib.hid (HR2.out d (List.mem_of_getElem? hd)).2
      have HTK : Hid (ds.take (k + 1) = ds.take k ++ [d]) := Lib.hid (by rw [List.take_add_one, hd]; rfl)
      have hki : (k : Int) < (n : Int) := by omega
      have HST := Lib.hid (stepL_length bl err d HS40.out)
      clear hd hg1 hg2
      by_cases hk0 : d.kind = 0
      · have HK0 := Lib.hid hk0
        have hk0' : (d.kind == 0) = true := by simp [hk0]
        rw [hk0] at c0
        clear hk0 hk0'
        go_wp2_with fail
        refine wp_region_rs 12 _ [11]
          (fun k w' => (WrIs w' w1.heap.size wb (if k = 0 then bl else putL bl err d.x d.n) (if k = 0 then err else putE err d.x d.n)) ∧ Below w1.heap.size w1 w') Ext
          (svl [exk (.pointer (some ⟨wb, 0, none⟩)),
            exk (.slice (some ⟨g, 0, none⟩) n cap),
            exk (.int .i64 (k : Int)),
            exk (.pointer (some ⟨g, k * 4, none⟩)),
            exk (.pointer (some ⟨g, k * 4 + 1, none⟩)),
            exk (.int .u64 (d.x : Int)),
            exk (.slice (some ⟨g, 0, none⟩) n cap),
            exk (.int .i64 (k : Int)),
            exk (.pointer (some ⟨g, k * 4, none⟩)),
            exk (.pointer (some ⟨g, k * 4 + 2, none⟩)),
            exk (.int .i64 d.n),
            (fun _ _ _ => True)]
            [11] (fun _ _ v _ => v = .pointer (some ⟨wb, 0, none⟩)))
          (by kernel_rfl) (by kernel_rfl) (by kernel_rfl) (by kernel_rfl) rfl ⟨HW.out.ext (Ext.refl _).drew, HB.out.trans ((Ext.refl _).drew.below.mono HB.out.size)⟩ (fun _ w _ => Ext.refl w) (fun _ _ _ h hx => ⟨h.1.ext hx, h.2.trans (hx.below.mono h.2.size)⟩)
          (fun b i v w1 w2 _ _ hV hx => svl_stays (R := Ext) (by exact ⟨exk_st, exk_st, exk_st, exk_st, exk_st, exk_st, exk_st, exk_st, exk_st, exk_st, exk_st, (fun _ _ _ _ _ _ => trivial), trivial⟩) (fun _ _ _ _ _ h _ => h) b i v w1 w2 hV hx) ?_ ?_
        · simp only [List.take_succ_cons, List.take_zero]
          go_tidy
          refine RsOps.mk (RsOp.moveA rfl (fun b => .free rfl) 3 (fun _ w _ => Ext.refl w) rfl rfl (.pointer (some ⟨wb, 0, none⟩)) rfl (fun _ _ _ => rfl)) ?_
          refine RsOps.mk (RsOp.moveA rfl (fun b => .free rfl) 0 (fun _ w _ => Ext.refl w) rfl rfl (.slice (some ⟨g, 0, none⟩) n cap) rfl (fun _ _ _ => rfl)) ?_
          refine RsOps.mk (RsOp.moveA rfl (fun b => .free rfl) 4 (fun _ w _ => Ext.refl w) rfl rfl (.int .i64 (k : Int)) rfl (fun _ _ _ => rfl)) ?_
          refine RsOps.mk (RsOp.at rfl (fun b => .free rfl) ?_) ?_
          rotate_left
          refine RsOps.mk (RsOp.at rfl (fun b => .free rfl) ?_) ?_
          rotate_left
          refine RsOps.mk (RsOp.at rfl (fun b => .free rfl) ?_) ?_
          rotate_left
          refine RsOps.mk (RsOp.moveA rfl (fun b => .free rfl) 0 (fun _ w _ => Ext.refl w) rfl rfl (.slice (some ⟨g, 0, none⟩) n cap) rfl (fun _ _ _ => rfl)) ?_
          refine RsOps.mk (RsOp.moveA rfl (fun b => .free rfl) 4 (fun _ w _ => Ext.refl w) rfl rfl (.int .i64 (k : Int)) rfl (fun _ _ _ => rfl)) ?_
          refine RsOps.mk (RsOp.at rfl (fun b => .free rfl) ?_) ?_
          rotate_left
          refine RsOps.mk (RsOp.at rfl (fun b => .free rfl) ?_) ?_
          rotate_left
          refine RsOps.mk (RsOp.at rfl (fun b => .free rfl) ?_) ?_
          rotate_left
          refine RsOps.mk (RsOp.chain 0 rfl (fun b => .free rfl) ?_) ?_
          rotate_left
          exact RsOps.done
          · intro bb vals ρ w' hC hd hS
            have r25 : ρ (.tmp 25) = .slice (some ⟨g, 0, none⟩) n cap := (hS.tmp 25).trans (hd.at 1 rfl)
            have r26 : ρ (.tmp 26) = .int .i64 (k : Int) := (hS.tmp 26).trans (hd.at 2 rfl)
            refine (show givesR _ _ _ _ (fun v w'' => Ext w' w'' ∧ v = .pointer (some ⟨g, k * 4, none⟩)) from ?_)
            clear hC hd hS
            go_simp
            exact Ext.refl _
          · intro bb vals ρ w' hC hd hS
            have r27 : ρ (.tmp 27) = .pointer (some ⟨g, k * 4, none⟩) := (hS.tmp 27).trans (hd.at 3 rfl)
            refine (show givesR _ _ _ _ (fun v w'' => Ext w' w'' ∧ v = .pointer (some ⟨g, k * 4 + 1, none⟩)) from ?_)
            clear hC hd hS
            go_simp
            exact Ext.refl _
          · intro bb vals ρ w' hC hd hS
            have r28 : ρ (.tmp 28) = .pointer (some ⟨g, k * 4 + 1, none⟩) := (hS.tmp 28).trans (hd.at 4 rfl)
            refine (show givesR _ _ _ _ (fun v w'' => Ext w' w'' ∧ v = .int .u64 (d.x : Int)) from ?_)
            have qq := Below.cellw hC.2 q1
            clear hC hd hS
            go_simp
            exact Ext.refl _
          · intro bb vals ρ w' hC hd hS
            have r30 : ρ (.tmp 30) = .slice (some ⟨g, 0, none⟩) n cap := (hS.tmp 30).trans (hd.at 6 rfl)
            have r31 : ρ (.tmp 31) = .int .i64 (k : Int) := (hS.tmp 31).trans (hd.at 7 rfl)
            refine (show givesR _ _ _ _ (fun v w'' => Ext w' w'' ∧ v = .pointer (some ⟨g, k * 4, none⟩)) from ?_)
            clear hC hd hS
            go_simp
            exact Ext.refl _
          · intro bb vals ρ w' hC hd hS
            have r32 : ρ (.tmp 32) = .pointer (some ⟨g, k * 4, none⟩) := (hS.tmp 32).trans (hd.at 8 rfl)
            refine (show givesR _ _ _ _ (fun v w'' => Ext w' w'' ∧ v = .pointer (some ⟨g, k * 4 + 2, none⟩)) from ?_)
            clear hC hd hS
            go_simp
            exact Ext.refl _
          · intro bb vals ρ w' hC hd hS
            have r33 : ρ (.tmp 33) = .pointer (some ⟨g, k * 4 + 2, none⟩) := (hS.tmp 33).trans (hd.at 9 rfl)
            refine (show givesR _ _ _ _ (fun v w'' => Ext w' w'' ∧ v = .int .i64 d.n) from ?_)
            have qq := Below.cellw hC.2 q2
            clear hC hd hS
            go_simp
            exact Ext.refl _
          · intro vals ρ w' hC hd hS
            have r24 : ρ (.tmp 24) = .pointer (some ⟨wb, 0, none⟩) := (hS.tmp 24).trans (hd.at 0 rfl)
            have r29 : ρ (.tmp 29) = .int .u64 (d.x : Int) := (hS.tmp 29).trans (hd.at 5 rfl)
            have r34 : ρ (.tmp 34) = .int .i64 d.n := (hS.tmp 34).trans (hd.at 10 rfl)
            have rf := hS.func
            have hw : WrIs w' w1.heap.size wb bl err := by simpa using hC.1
            refine gives_call rfl (hS.func _) (by go_simp) ?_
            rw [show Array.map ρ #[Operand.tmp 24, Operand.tmp 29, Operand.tmp 34] = #[.pointer (some ⟨wb, 0, none⟩), .int .u64 (d.x : Int), .int .i64 d.n] by simp [r24, r29, r34]]
            refine (wput_c wb w1.heap.size bl err d.x d.n w' hw HOK.out.1 HOK.out.2 HBL.out).mono ?_
            rintro r w'' ⟨rfl, h, hm⟩
            exact ⟨_, rfl, ⟨by simpa using h, hC.2.trans (hw.below hm)⟩, rfl, svl_next rfl ⟨exk_nx, exk_nx, exk_nx, exk_nx, exk_nx, exk_nx, exk_nx, exk_nx, exk_nx, exk_nx, exk_nx, (fun _ _ => trivial), trivial⟩ (fun q v hm => absurd hm (by omega))⟩
        · intro vals w' hC hV
          have e11 : vals 11 = .pointer (some ⟨wb, 0, none⟩) := hV 11 (by decide)
          have HC' := Lib.hid hC; clear hC hV
          simp only [List.drop_succ_cons, List.drop_zero]
          go_wp2_with fail
          go_roundw
          case rel =>
            have hC := HC'.out
            simp only [List.length_singleton] at hC
            refine ⟨k + 1, stepL bl err d, stepE err d, by omega, by go_num, rfl, by have := HST.out; have := HBK.out; omega, by rw [HTK.out]; exact HWR.out.step d, ?_, hC.2⟩
            have h1 := hC.1
            rw [stepL, stepE, if_pos HK0.out, if_pos HK0.out]
            simpa using h1
          case measure => simp [intOf]; omega
      · have HK0 := Lib.hid hk0
        have hk0' : (d.kind == 0) = false := by simp [hk0]
        clear hk0
        go_wp2_with fail
        refine (wtext_c wb w1.heap.size bl err d.s _ HW.out (by have := HS40.out; omega) HBL.out).mono ?_
        rintro r w3 ⟨rfl, h3, hm3⟩
        have H3 := Lib.hid h3
        have HB3 := Lib.hid (HB.out.trans (HW.out.below hm3))
        clear h3 hm3
        go_wp2_with fail
        go_roundw
        case rel =>
          refine ⟨k + 1, stepL bl err d, stepE err d, by omega, by go_num, rfl, by have := HST.out; have := HBK.out; omega, by rw [HTK.out]; exact HWR.out.step d, ?_, HB3.out⟩
          rw [stepL, stepE, if_neg HK0.out, if_neg HK0.out]
          exact H3.out
        case measure => simp [intOf]; omega
    · have hkn : k = n := by omega
      have htk : ds.take k = ds := List.take_of_length_le (by rw [hkn, HN.out]; exact Nat.le_refl _)
      have hki : ((k : Int) < (n : Int)) = False := eq_false (by omega)
      have hwr := HWR.out
      rw [htk] at hwr
      rcases hwr with ⟨rfl, hbl, hok⟩ | rfl
      · have HOKA := Lib.hid hok
        have HBE := Lib.hid hbl
        obtain ⟨pb, hpb⟩ : ∃ pb, pb = packed bl := ⟨_, rfl⟩
        have hd := done_ok wb w1.heap.size bl _ HW.out (by have := HBK.out; omega)
        rw [← hpb] at hd
        have HD := Lib.hid hd
        have HPB := Lib.hid hpb
        have HPL : Hid (pb.length ≤ 140737488355328) := Lib.hid (by rw [hpb, packed_length]; have := HBL.out; omega)
        obtain ⟨p, hp⟩ : ∃ p, p = pb.length := ⟨_, rfl⟩
        have HPP := Lib.hid hp
        clear hok hbl hpb hd htk hkn hlt
        go_wp2_with fail
        refine HD.out.mono ?_
        rintro e w4 ⟨bo, bcap, rfl, hx4, hown⟩
        have HB4 := Lib.hid (HB.out.trans (hx4.below.mono HB.out.size))
        have HBS : Hid (Bs w4 (.slice bo pb.length bcap) pb) := Lib.hid (Rs.of_owns hown)
        rw [← hp] at HBS ⊢
        clear hx4 hown hp
        go_wp2_with fail
        refine (ropen_c (.slice bo p bcap) pb w4 HBS.out (by have := HPL.out; omega)).mono ?_
        rintro e w5 ⟨rb, rfl, hrb, hx5, h5⟩
        obtain ⟨B2, hB2⟩ : ∃ B2, B2 = w4.heap.size := ⟨_, rfl⟩
        rw [← hB2] at h5
        have HB12 : Hid (w1.heap.size ≤ B2) := Lib.hid (by rw [hB2]; exact HB4.out.size)
        have HB5 := Lib.hid (HB4.out.trans (hx5.below.mono HB4.out.size))
        have H5 := Lib.hid h5
        clear hx5 h5 hrb hB2
        go_wp2_with fail
        clear hki
        go_loopw [8] (fun i wr => ∃ k : Nat, k ≤ n ∧ i = .int .i64 k ∧ RdIs wr B2 rb pb ((ds.take k).flatMap seg).length 0 ∧ Below w1.heap.size w1 wr) (fun i _ => n - (intOf i).toNat)
        case atStart => exact ⟨0, Nat.zero_le _, rfl, H5.out, HB5.out⟩
        case round =>
          obtain ⟨k, hk, rfl, hr, hb⟩ := hrel
          obtain ⟨off, hoff⟩ : ∃ off, off = ((ds.take k).flatMap seg).length := ⟨_, rfl⟩
          rw [← hoff] at hr
          have HR := Lib.hid hr
          have HB := Lib.hid hb
          have HOFF := Lib.hid hoff
          clear hr hb hoff
          by_cases hlt : k < n
          · obtain ⟨d, hd⟩ : ∃ d, ds[k]? = some d := ⟨_, List.getElem?_eq_getElem (by rw [← HN.out]; exact hlt)⟩
            obtain ⟨g, cap', he, hg1, hg2⟩ := World.ownsRow.form HR4.out (by omega)
            simp only [Value.slice.injEq] at he
            obtain ⟨rfl, _, rfl⟩ := he
            have q0 : w1.cell? ⟨g, k * 4, none⟩ = some (.int .i64 d.kind) := BRow.at HR4.out hd HN.out 0 (by decide)
            have q1 : w1.cell? ⟨g, k * 4 + 1, none⟩ = some (.int .u64 (d.x : Int)) := BRow.at HR4.out hd HN.out 1 (by decide)
            have q2 : w1.cell? ⟨g, k * 4 + 2, none⟩ = some (.int .i64 d.n) := BRow.at HR4.out hd HN.out 2 (by decide)
            have q3 : w1.cell? ⟨g, k * 4 + 3, none⟩ = some (.string d.s) := BRow.at HR4.out hd HN.out 3 (by decide)
            have hs40 := (HR2.out d (List.mem_of_getElem? hd)).2
            have hokd := HOKA.out d (List.mem_of_getElem? hd)
            have hnx : ((ds.take (k + 1)).flatMap seg).length = off + (seg d).length := by
              rw [List.take_add_one, hd, Option.toList_some, List.flatMap_append, List.length_append, ← HOFF.out]
              simp
            have HNX := Lib.hid hnx
            have hki : (k : Int) < (n : Int) := by omega
            by_cases hk0 : d.kind = 0
            · obtain ⟨m, hm⟩ : ∃ m : Nat, d.n = (m : Int) := Int.eq_ofNat_of_zero_le (hokd hk0).1
              have hmm := seg_num hd HBE.out HOFF.out hk0 hm (hokd hk0)
              rw [← HPB.out] at hmm
              have HM := Lib.hid hmm
              have HSL : Hid ((seg d).length = m) := Lib.hid (by unfold seg; rw [if_pos hk0, hm, Int.toNat_natCast, bitsOf_length])
              rw [hk0] at q0
              rw [hm] at q2
              clear hmm hm hk0 hokd hs40 hd hg1 hg2 hnx
              go_wp2_with fail
              refine wp_region_rs 39 _ [13]
                (fun k w' => RdIs w' B2 rb pb (if k = 0 then off else off + m) 0 ∧ Below w1.heap.size w1 w') Ext
                (svl [exk (.slice (some ⟨g, 0, none⟩) n cap),
                  exk (.int .i64 (k : Int)),
                  exk (.pointer (some ⟨g, k * 4, none⟩)),
                  exk (.pointer (some ⟨g, k * 4, none⟩)),
                  exk (.int .i64 0),
                  exk (.bool true),
                  exk (.bool true),
                  exk (.pointer (some ⟨rb, 0, none⟩)),
                  exk (.slice (some ⟨g, 0, none⟩) n cap),
                  exk (.int .i64 (k : Int)),
                  exk (.pointer (some ⟨g, k * 4, none⟩)),
                  exk (.pointer (some ⟨g, k * 4 + 2, none⟩)),
                  exk (.int .i64 (m : Int)),
                  (fun _ _ _ => True),
                  exk (.slice (some ⟨g, 0, none⟩) n cap),
                  exk (.int .i64 (k : Int)),
                  exk (.pointer (some ⟨g, k * 4, none⟩)),
                  exk (.pointer (some ⟨g, k * 4 + 1, none⟩)),
                  exk (.int .u64 (d.x : Int)),
                  exk (.bool false),
                  exk (.bool false),
                  exk (.bool false),
                  exk (.slice (some ⟨g, 0, none⟩) n cap),
                  exk (.int .i64 (k : Int)),
                  exk (.pointer (some ⟨g, k * 4, none⟩)),
                  exk (.pointer (some ⟨g, k * 4, none⟩)),
                  exk (.int .i64 0),
                  exk (.bool false),
                  exk (.bool false),
                  exk undef,
                  exk undef,
                  exk undef,
                  exk undef,
                  exk undef,
                  exk undef,
                  exk undef,
                  exk undef,
                  exk (.bool false),
                  exk (.bool false)]
                  [13] (fun _ _ v _ => v = .int .u64 (d.x : Int)))
                (by kernel_rfl) (by kernel_rfl) (by kernel_rfl) (by kernel_rfl) rfl ⟨HR.out.ext (Ext.refl _).drew, HB.out.trans ((Ext.refl _).drew.below.mono HB.out.size)⟩ (fun _ w _ => Ext.refl w) (fun _ _ _ h hx => ⟨h.1.ext hx, h.2.trans (hx.below.mono h.2.size)⟩)
                (fun b i v w1 w2 _ _ hV hx => svl_stays (R := Ext) (by exact ⟨exk_st, exk_st, exk_st, exk_st, exk_st, exk_st, exk_st, exk_st, exk_st, exk_st, exk_st, exk_st, exk_st, (fun _ _ _ _ _ _ => trivial), exk_st, exk_st, exk_st, exk_st, exk_st, exk_st, exk_st, exk_st, exk_st, exk_st, exk_st, exk_st, exk_st, exk_st, exk_st, exk_st, exk_st, exk_st, exk_st, exk_st, exk_st, exk_st, exk_st, exk_st, exk_st, trivial⟩) (fun _ _ _ _ _ h _ => h) b i v w1 w2 hV hx) ?_ ?_
              · simp only [List.take_succ_cons, List.take_zero]
                go_tidy
                refine RsOps.mk (RsOp.moveA rfl (fun b => .free rfl) 0 (fun _ w _ => Ext.refl w) rfl rfl (.slice (some ⟨g, 0, none⟩) n cap) rfl (fun _ _ _ => rfl)) ?_
                refine RsOps.mk (RsOp.moveA rfl (fun b => .free rfl) 8 (fun _ w _ => Ext.refl w) rfl rfl (.int .i64 (k : Int)) rfl (fun _ _ _ => rfl)) ?_
                refine RsOps.mk (RsOp.at rfl (fun b => .free rfl) ?_) ?_
                rotate_left
                refine RsOps.mk (RsOp.at rfl (fun b => .free rfl) ?_) ?_
                rotate_left
                refine RsOps.mk (RsOp.at rfl (fun b => .free rfl) ?_) ?_
                rotate_left
                refine RsOps.mk (RsOp.at rfl (fun b => .free rfl) ?_) ?_
                rotate_left
                refine RsOps.mk (RsOp.move rfl (fun b => .free rfl) 68 5 (fun _ w _ => Ext.refl w) rfl rfl rfl (fun b => fun _ _ h => h)) ?_
                refine RsOps.mk (RsOp.moveA rfl (fun b => .on 6 true rfl (fun _ _ h => h)) 7 (fun _ w _ => Ext.refl w) rfl rfl (.pointer (some ⟨rb, 0, none⟩)) rfl (fun _ _ _ => rfl)) ?_
                refine RsOps.mk (RsOp.moveA rfl (fun b => .on 6 true rfl (fun _ _ h => h)) 0 (fun _ w _ => Ext.refl w) rfl rfl (.slice (some ⟨g, 0, none⟩) n cap) rfl (fun _ _ _ => rfl)) ?_
                refine RsOps.mk (RsOp.moveA rfl (fun b => .on 6 true rfl (fun _ _ h => h)) 8 (fun _ w _ => Ext.refl w) rfl rfl (.int .i64 (k : Int)) rfl (fun _ _ _ => rfl)) ?_
                refine RsOps.mk (RsOp.at rfl (fun b => .on 6 true rfl (fun _ _ h => h)) ?_) ?_
                rotate_left
                refine RsOps.mk (RsOp.at rfl (fun b => .on 6 true rfl (fun _ _ h => h)) ?_) ?_
                rotate_left
                refine RsOps.mk (RsOp.at rfl (fun b => .on 6 true rfl (fun _ _ h => h)) ?_) ?_
                rotate_left
                refine RsOps.mk (RsOp.chain 0 rfl (fun b => .on 6 true rfl (fun _ _ h => h)) ?_) ?_
                rotate_left
                refine RsOps.mk (RsOp.moveA rfl (fun b => .on 6 true rfl (fun _ _ h => h)) 0 (fun _ w _ => Ext.refl w) rfl rfl (.slice (some ⟨g, 0, none⟩) n cap) rfl (fun _ _ _ => rfl)) ?_
                refine RsOps.mk (RsOp.moveA rfl (fun b => .on 6 true rfl (fun _ _ h => h)) 8 (fun _ w _ => Ext.refl w) rfl rfl (.int .i64 (k : Int)) rfl (fun _ _ _ => rfl)) ?_
                refine RsOps.mk (RsOp.at rfl (fun b => .on 6 true rfl (fun _ _ h => h)) ?_) ?_
                rotate_left
                refine RsOps.mk (RsOp.at rfl (fun b => .on 6 true rfl (fun _ _ h => h)) ?_) ?_
                rotate_left
                refine RsOps.mk (RsOp.at rfl (fun b => .on 6 true rfl (fun _ _ h => h)) ?_) ?_
                rotate_left
                refine RsOps.mk (RsOp.at rfl (fun b => .on 6 true rfl (fun _ _ h => h)) ?_) ?_
                rotate_left
                refine RsOps.mk (RsOp.at rfl (fun b => .free rfl) ?_) ?_
                rotate_left
                refine RsOps.mk (RsOp.move rfl (fun b => .free rfl) 83 20 (fun _ w _ => Ext.refl w) rfl rfl rfl (fun b => fun _ _ h => h)) ?_
                refine RsOps.mk (RsOp.moveA rfl (fun b => .on 21 false rfl (fun _ _ h => h)) 0 (fun _ w _ => Ext.refl w) rfl rfl (.slice (some ⟨g, 0, none⟩) n cap) rfl (fun _ _ _ => rfl)) ?_
                refine RsOps.mk (RsOp.moveA rfl (fun b => .on 21 false rfl (fun _ _ h => h)) 8 (fun _ w _ => Ext.refl w) rfl rfl (.int .i64 (k : Int)) rfl (fun _ _ _ => rfl)) ?_
                refine RsOps.mk (RsOp.at rfl (fun b => .on 21 false rfl (fun _ _ h => h)) ?_) ?_
                rotate_left
                refine RsOps.mk (RsOp.at rfl (fun b => .on 21 false rfl (fun _ _ h => h)) ?_) ?_
                rotate_left
                refine RsOps.mk (RsOp.at rfl (fun b => .on 21 false rfl (fun _ _ h => h)) ?_) ?_
                rotate_left
                refine RsOps.mk (RsOp.at rfl (fun b => .on 21 false rfl (fun _ _ h => h)) ?_) ?_
                rotate_left
                refine RsOps.mk (RsOp.move rfl (fun b => .on 21 false rfl (fun _ _ h => h)) 90 27 (fun _ w _ => Ext.refl w) rfl rfl rfl (fun b => fun _ _ h => h)) ?_
                refine RsOps.mk (RsOp.off rfl (fun b => .by 28 true rfl (fun _ _ h => h)) (fun _ _ _ => rfl)) ?_
                refine RsOps.mk (RsOp.off rfl (fun b => .by 28 true rfl (fun _ _ h => h)) (fun _ _ _ => rfl)) ?_
                refine RsOps.mk (RsOp.off rfl (fun b => .by 28 true rfl (fun _ _ h => h)) (fun _ _ _ => rfl)) ?_
                refine RsOps.mk (RsOp.off rfl (fun b => .by 28 true rfl (fun _ _ h => h)) (fun _ _ _ => rfl)) ?_
                refine RsOps.mk (RsOp.off rfl (fun b => .by 28 true rfl (fun _ _ h => h)) (fun _ _ _ => rfl)) ?_
                refine RsOps.mk (RsOp.off rfl (fun b => .by 28 true rfl (fun _ _ h => h)) (fun _ _ _ => rfl)) ?_
                refine RsOps.mk (RsOp.off rfl (fun b => .by 28 true rfl (fun _ _ h => h)) (fun _ _ _ => rfl)) ?_
                refine RsOps.mk (RsOp.off rfl (fun b => .by 28 true rfl (fun _ _ h => h)) (fun _ _ _ => rfl)) ?_
                refine RsOps.mk (RsOp.at rfl (fun b => .on 21 false rfl (fun _ _ h => h)) ?_) ?_
                rotate_left
                refine RsOps.mk (RsOp.at rfl (fun b => .free rfl) ?_) ?_
                rotate_left
                exact RsOps.done
                · intro bb vals ρ w' hC hd hS
                  have r63 : ρ (.tmp 63) = .slice (some ⟨g, 0, none⟩) n cap := (hS.tmp 63).trans (hd.at 0 rfl)
                  have r64 : ρ (.tmp 64) = .int .i64 (k : Int) := (hS.tmp 64).trans (hd.at 1 rfl)
                  refine (show givesR _ _ _ _ (fun v w'' => Ext w' w'' ∧ v = .pointer (some ⟨g, k * 4, none⟩)) from ?_)
                  clear hC hd hS
                  go_simp
                  exact Ext.refl _
                · intro bb vals ρ w' hC hd hS
                  have r65 : ρ (.tmp 65) = .pointer (some ⟨g, k * 4, none⟩) := (hS.tmp 65).trans (hd.at 2 rfl)
                  refine (show givesR _ _ _ _ (fun v w'' => Ext w' w'' ∧ v = .pointer (some ⟨g, k * 4, none⟩)) from ?_)
                  clear hC hd hS
                  go_simp
                  exact Ext.refl _
                · intro bb vals ρ w' hC hd hS
                  have r66 : ρ (.tmp 66) = .pointer (some ⟨g, k * 4, none⟩) := (hS.tmp 66).trans (hd.at 3 rfl)
                  refine (show givesR _ _ _ _ (fun v w'' => Ext w' w'' ∧ v = .int .i64 0) from ?_)
                  have qq := Below.cellw hC.2 q0
                  clear hC hd hS
                  go_simp
                  exact Ext.refl _
                · intro bb vals ρ w' hC hd hS
                  have r67 : ρ (.tmp 67) = .int .i64 0 := (hS.tmp 67).trans (hd.at 4 rfl)
                  have rc := hS.const
                  refine (show givesR _ _ _ _ (fun v w'' => Ext w' w'' ∧ v = .bool true) from ?_)
                  clear hC hd hS
                  go_simp
                  exact Ext.refl _
                · intro bb vals ρ w' hC hd hS
                  have r71 : ρ (.tmp 71) = .slice (some ⟨g, 0, none⟩) n cap := (hS.tmp 71).trans (hd.at 8 rfl)
                  have r72 : ρ (.tmp 72) = .int .i64 (k : Int) := (hS.tmp 72).trans (hd.at 9 rfl)
                  refine (show givesR _ _ _ _ (fun v w'' => Ext w' w'' ∧ v = .pointer (some ⟨g, k * 4, none⟩)) from ?_)
                  clear hC hd hS
                  go_simp
                  exact Ext.refl _
                · intro bb vals ρ w' hC hd hS
                  have r73 : ρ (.tmp 73) = .pointer (some ⟨g, k * 4, none⟩) := (hS.tmp 73).trans (hd.at 10 rfl)
                  refine (show givesR _ _ _ _ (fun v w'' => Ext w' w'' ∧ v = .pointer (some ⟨g, k * 4 + 2, none⟩)) from ?_)
                  clear hC hd hS
                  go_simp
                  exact Ext.refl _
                · intro bb vals ρ w' hC hd hS
                  have r74 : ρ (.tmp 74) = .pointer (some ⟨g, k * 4 + 2, none⟩) := (hS.tmp 74).trans (hd.at 11 rfl)
                  refine (show givesR _ _ _ _ (fun v w'' => Ext w' w'' ∧ v = .int .i64 (m : Int)) from ?_)
                  have qq := Below.cellw hC.2 q2
                  clear hC hd hS
                  go_simp
                  exact Ext.refl _
                · intro vals ρ w' hC hd hS
                  have r70 : ρ (.tmp 70) = .pointer (some ⟨rb, 0, none⟩) := (hS.tmp 70).trans (hd.at 7 rfl)
                  have r75 : ρ (.tmp 75) = .int .i64 (m : Int) := (hS.tmp 75).trans (hd.at 12 rfl)
                  have rf := hS.func
                  have hr : RdIs w' B2 rb pb off 0 := by simpa using hC.1
                  refine gives_call rfl (hS.func _) (by go_simp) ?_
                  rw [show Array.map ρ #[Operand.tmp 70, Operand.tmp 75] = #[.pointer (some ⟨rb, 0, none⟩), .int .i64 (m : Int)] by simp [r70, r75]]
                  refine (rget_ok rb B2 pb off m w' hr HM.out.1 HM.out.2.1 HPL.out).mono ?_
                  rintro r w'' ⟨rfl, h, hm⟩
                  rw [HM.out.2.2]
                  exact ⟨_, rfl, ⟨by simpa using h, hC.2.trans ((hr.below hm).mono HB12.out)⟩, rfl, svl_next rfl ⟨exk_nx, exk_nx, exk_nx, exk_nx, exk_nx, exk_nx, exk_nx, exk_nx, exk_nx, exk_nx, exk_nx, exk_nx, exk_nx, (fun _ _ => trivial), exk_nx, exk_nx, exk_nx, exk_nx, exk_nx, exk_nx, exk_nx, exk_nx, exk_nx, exk_nx, exk_nx, exk_nx, exk_nx, exk_nx, exk_nx, exk_nx, exk_nx, exk_nx, exk_nx, exk_nx, exk_nx, exk_nx, exk_nx, exk_nx, exk_nx, trivial⟩ (fun q v hm => absurd hm (by omega))⟩
                · intro bb vals ρ w' hC hd hS
                  have r77 : ρ (.tmp 77) = .slice (some ⟨g, 0, none⟩) n cap := (hS.tmp 77).trans (hd.at 14 rfl)
                  have r78 : ρ (.tmp 78) = .int .i64 (k : Int) := (hS.tmp 78).trans (hd.at 15 rfl)
                  refine (show givesR _ _ _ _ (fun v w'' => Ext w' w'' ∧ v = .pointer (some ⟨g, k * 4, none⟩)) from ?_)
                  clear hC hd hS
                  go_simp
                  exact Ext.refl _
                · intro bb vals ρ w' hC hd hS
                  have r79 : ρ (.tmp 79) = .pointer (some ⟨g, k * 4, none⟩) := (hS.tmp 79).trans (hd.at 16 rfl)
                  refine (show givesR _ _ _ _ (fun v w'' => Ext w' w'' ∧ v = .pointer (some ⟨g, k * 4 + 1, none⟩)) from ?_)
                  clear hC hd hS
                  go_simp
                  exact Ext.refl _
                · intro bb vals ρ w' hC hd hS
                  have r80 : ρ (.tmp 80) = .pointer (some ⟨g, k * 4 + 1, none⟩) := (hS.tmp 80).trans (hd.at 17 rfl)
                  refine (show givesR _ _ _ _ (fun v w'' => Ext w' w'' ∧ v = .int .u64 (d.x : Int)) from ?_)
                  have qq := Below.cellw hC.2 q1
                  clear hC hd hS
                  go_simp
                  exact Ext.refl _
                · intro bb vals ρ w' hC hd hS
                  have r76 : ρ (.tmp 76) = .int .u64 (d.x : Int) := (hS.tmp 76).trans (svl_done (m := 0) rfl (hd.at 13 rfl)).2
                  have r81 : ρ (.tmp 81) = .int .u64 (d.x : Int) := (hS.tmp 81).trans (hd.at 18 rfl)
                  refine (show givesR _ _ _ _ (fun v w'' => Ext w' w'' ∧ v = .bool false) from ?_)
                  clear hC hd hS
                  go_simp
                  exact Ext.refl _
                · intro bb vals ρ w' hC hd hS
                  have r69 : ρ (.tmp 69) = .bool true := (hS.tmp 69).trans (hd.at 6 rfl)
                  have r82 : ρ (.tmp 82) = .bool false := (hS.tmp 82).trans (hd.at 19 rfl)
                  have rc := hS.const
                  refine (show givesR _ _ _ _ (fun v w'' => Ext w' w'' ∧ v = .bool false) from ?_)
                  clear hC hd hS
                  go_simp
                  exact Ext.refl _
                · intro bb vals ρ w' hC hd hS
                  have r85 : ρ (.tmp 85) = .slice (some ⟨g, 0, none⟩) n cap := (hS.tmp 85).trans (hd.at 22 rfl)
                  have r86 : ρ (.tmp 86) = .int .i64 (k : Int) := (hS.tmp 86).trans (hd.at 23 rfl)
                  refine (show givesR _ _ _ _ (fun v w'' => Ext w' w'' ∧ v = .pointer (some ⟨g, k * 4, none⟩)) from ?_)
                  clear hC hd hS
                  go_simp
                  exact Ext.refl _
                · intro bb vals ρ w' hC hd hS
                  have r87 : ρ (.tmp 87) = .pointer (some ⟨g, k * 4, none⟩) := (hS.tmp 87).trans (hd.at 24 rfl)
                  refine (show givesR _ _ _ _ (fun v w'' => Ext w' w'' ∧ v = .pointer (some ⟨g, k * 4, none⟩)) from ?_)
                  clear hC hd hS
                  go_simp
                  exact Ext.refl _
                · intro bb vals ρ w' hC hd hS
                  have r88 : ρ (.tmp 88) = .pointer (some ⟨g, k * 4, none⟩) := (hS.tmp 88).trans (hd.at 25 rfl)
                  refine (show givesR _ _ _ _ (fun v w'' => Ext w' w'' ∧ v = .int .i64 0) from ?_)
                  have qq := Below.cellw hC.2 q0
                  clear hC hd hS
                  go_simp
                  exact Ext.refl _
                · intro bb vals ρ w' hC hd hS
                  have r89 : ρ (.tmp 89) = .int .i64 0 := (hS.tmp 89).trans (hd.at 26 rfl)
                  have rc := hS.const
                  refine (show givesR _ _ _ _ (fun v w'' => Ext w' w'' ∧ v = .bool false) from ?_)
                  clear hC hd hS
                  go_simp
                  exact Ext.refl _
                · intro bb vals ρ w' hC hd hS
                  have r91 : ρ (.tmp 91) = .bool false := (hS.tmp 91).trans (hd.at 28 rfl)
                  have r99 : ρ (.tmp 99) = undef := (hS.tmp 99).trans (hd.at 36 rfl)
                  have rc := hS.const
                  refine (show givesR _ _ _ _ (fun v w'' => Ext w' w'' ∧ v = .bool false) from ?_)
                  clear hC hd hS
                  go_simp
                  exact Ext.refl _
                · intro bb vals ρ w' hC hd hS
                  have r84 : ρ (.tmp 84) = .bool false := (hS.tmp 84).trans (hd.at 21 rfl)
                  have r100 : ρ (.tmp 100) = .bool false := (hS.tmp 100).trans (hd.at 37 rfl)
                  have rc := hS.const
                  refine (show givesR _ _ _ _ (fun v w'' => Ext w' w'' ∧ v = .bool false) from ?_)
                  clear hC hd hS
                  go_simp
                  exact Ext.refl _
              · intro vals w' hC hV
                have e38 : vals 38 = .bool false := hV 38 (by decide)
                have HC' := Lib.hid hC; clear hC hV
                simp only [List.drop_succ_cons, List.drop_zero]
                go_simp -- the frame
                go_wp2_with fail
                go_roundw
                case rel =>
                  have hC := HC'.out
                  simp only [List.length_singleton] at hC
                  refine ⟨k + 1, by omega, by go_num, ?_, hC.2⟩
                  rw [HNX.out, HSL.out]
                  simpa using hC.1
                case measure => simp [intOf]; omega
            · have hmm := seg_text hd HBE.out HOFF.out hk0 hs40
              rw [← HPB.out] at hmm
              have HM := Lib.hid hmm
              have HSL : Hid ((seg d).length = 16 + 8 * d.s.size) := Lib.hid (by unfold seg; rw [if_neg hk0, textBits_length]; rfl)
              have hke : (d.kind == 0) = false := by simp [hk0]
              have hkn : (d.kind != 0) = true := by simp [hk0]
              clear hmm hk0 hokd hs40 hd hg1 hg2 hnx
              go_wp2_with fail
              refine wp_region_rs 39 _ [30]
                (fun k w' => RdIs w' B2 rb pb (if k = 0 then off else off + 16 + 8 * d.s.size) 0 ∧ Below w1.heap.size w1 w') Ext
                (svl [exk (.slice (some ⟨g, 0, none⟩) n cap),
                  exk (.int .i64 (k : Int)),
                  exk (.pointer (some ⟨g, k * 4, none⟩)),
                  exk (.pointer (some ⟨g, k * 4, none⟩)),
                  exk (.int .i64 d.kind),
                  exk (.bool false),
                  exk (.bool false),
                  exk undef,
                  exk undef,
                  exk undef,
                  exk undef,
                  exk undef,
                  exk undef,
                  exk undef,
                  exk undef,
                  exk undef,
                  exk undef,
                  exk undef,
                  exk undef,
                  exk undef,
                  exk (.bool false),
                  exk (.bool false),
                  exk (.slice (some ⟨g, 0, none⟩) n cap),
                  exk (.int .i64 (k : Int)),
                  exk (.pointer (some ⟨g, k * 4, none⟩)),
                  exk (.pointer (some ⟨g, k * 4, none⟩)),
                  exk (.int .i64 d.kind),
                  exk (.bool true),
                  exk (.bool true),
                  exk (.pointer (some ⟨rb, 0, none⟩)),
                  (fun _ _ _ => True),
                  exk (.slice (some ⟨g, 0, none⟩) n cap),
                  exk (.int .i64 (k : Int)),
                  exk (.pointer (some ⟨g, k * 4, none⟩)),
                  exk (.pointer (some ⟨g, k * 4 + 3, none⟩)),
                  exk (.string d.s),
                  exk (.bool false),
                  exk (.bool false),
                  exk (.bool false)]
                  [30] (fun _ _ v _ => v = .string d.s))
                (by kernel_rfl) (by kernel_rfl) (by kernel_rfl) (by kernel_rfl) rfl ⟨HR.out.ext (Ext.refl _).drew, HB.out.trans ((Ext.refl _).drew.below.mono HB.out.size)⟩ (fun _ w _ => Ext.refl w) (fun _ _ _ h hx => ⟨h.1.ext hx, h.2.trans (hx.below.mono h.2.size)⟩)
                (fun b i v w1 w2 _ _ hV hx => svl_stays (R := Ext) (by exact ⟨exk_st, exk_st, exk_st, exk_st, exk_st, exk_st, exk_st, exk_st, exk_st, exk_st, exk_st, exk_st, exk_st, exk_st, exk_st, exk_st, exk_st, exk_st, exk_st, exk_st, exk_st, exk_st, exk_st, exk_st, exk_st, exk_st, exk_st, exk_st, exk_st, exk_st, (fun _ _ _ _ _ _ => trivial), exk_st, exk_st, exk_st, exk_st, exk_st, exk_st, exk_st, exk_st, trivial⟩) (fun _ _ _ _ _ h _ => h) b i v w1 w2 hV hx) ?_ ?_
              · simp only [List.take_succ_cons, List.take_zero]
                go_tidy
                refine RsOps.mk (RsOp.moveA rfl (fun b => .free rfl) 0 (fun _ w _ => Ext.refl w) rfl rfl (.slice (some ⟨g, 0, none⟩) n cap) rfl (fun _ _ _ => rfl)) ?_
                refine RsOps.mk (RsOp.moveA rfl (fun b => .free rfl) 8 (fun _ w _ => Ext.refl w) rfl rfl (.int .i64 (k : Int)) rfl (fun _ _ _ => rfl)) ?_
                refine RsOps.mk (RsOp.at rfl (fun b => .free rfl) ?_) ?_
                rotate_left
                refine RsOps.mk (RsOp.at rfl (fun b => .free rfl) ?_) ?_
                rotate_left
                refine RsOps.mk (RsOp.at rfl (fun b => .free rfl) ?_) ?_
                rotate_left
                refine RsOps.mk (RsOp.at rfl (fun b => .free rfl) ?_) ?_
                rotate_left
                refine RsOps.mk (RsOp.move rfl (fun b => .free rfl) 68 5 (fun _ w _ => Ext.refl w) rfl rfl rfl (fun b => fun _ _ h => h)) ?_
                refine RsOps.mk (RsOp.off rfl (fun b => .by 6 true rfl (fun _ _ h => h)) (fun _ _ _ => rfl)) ?_
                refine RsOps.mk (RsOp.off rfl (fun b => .by 6 true rfl (fun _ _ h => h)) (fun _ _ _ => rfl)) ?_
                refine RsOps.mk (RsOp.off rfl (fun b => .by 6 true rfl (fun _ _ h => h)) (fun _ _ _ => rfl)) ?_
                refine RsOps.mk (RsOp.off rfl (fun b => .by 6 true rfl (fun _ _ h => h)) (fun _ _ _ => rfl)) ?_
                refine RsOps.mk (RsOp.off rfl (fun b => .by 6 true rfl (fun _ _ h => h)) (fun _ _ _ => rfl)) ?_
                refine RsOps.mk (RsOp.off rfl (fun b => .by 6 true rfl (fun _ _ h => h)) (fun _ _ _ => rfl)) ?_
                refine RsOps.mk (RsOp.off rfl (fun b => .by 6 true rfl (fun _ _ h => h)) (fun _ _ _ => rfl)) ?_
                refine RsOps.mk (RsOp.off rfl (fun b => .by 6 true rfl (fun _ _ h => h)) (fun _ _ _ => rfl)) ?_
                refine RsOps.mk (RsOp.off rfl (fun b => .by 6 true rfl (fun _ _ h => h)) (fun _ _ _ => rfl)) ?_
                refine RsOps.mk (RsOp.off rfl (fun b => .by 6 true rfl (fun _ _ h => h)) (fun _ _ _ => rfl)) ?_
                refine RsOps.mk (RsOp.off rfl (fun b => .by 6 true rfl (fun _ _ h => h)) (fun _ _ _ => rfl)) ?_
                refine RsOps.mk (RsOp.off rfl (fun b => .by 6 true rfl (fun _ _ h => h)) (fun _ _ _ => rfl)) ?_
                refine RsOps.mk (RsOp.off rfl (fun b => .by 6 true rfl (fun _ _ h => h)) (fun _ _ _ => rfl)) ?_
                refine RsOps.mk (RsOp.at rfl (fun b => .free rfl) ?_) ?_
                rotate_left
                refine RsOps.mk (RsOp.move rfl (fun b => .free rfl) 83 20 (fun _ w _ => Ext.refl w) rfl rfl rfl (fun b => fun _ _ h => h)) ?_
                refine RsOps.mk (RsOp.moveA rfl (fun b => .on 21 false rfl (fun _ _ h => h)) 0 (fun _ w _ => Ext.refl w) rfl rfl (.slice (some ⟨g, 0, none⟩) n cap) rfl (fun _ _ _ => rfl)) ?_
                refine RsOps.mk (RsOp.moveA rfl (fun b => .on 21 false rfl (fun _ _ h => h)) 8 (fun _ w _ => Ext.refl w) rfl rfl (.int .i64 (k : Int)) rfl (fun _ _ _ => rfl)) ?_
                refine RsOps.mk (RsOp.at rfl (fun b => .on 21 false rfl (fun _ _ h => h)) ?_) ?_
                rotate_left
                refine RsOps.mk (RsOp.at rfl (fun b => .on 21 false rfl (fun _ _ h => h)) ?_) ?_
                rotate_left
                refine RsOps.mk (RsOp.at rfl (fun b => .on 21 false rfl (fun _ _ h => h)) ?_) ?_
                rotate_left
                refine RsOps.mk (RsOp.at rfl (fun b => .on 21 false rfl (fun _ _ h => h)) ?_) ?_
                rotate_left
                refine RsOps.mk (RsOp.move rfl (fun b => .on 21 false rfl (fun _ _ h => h)) 90 27 (fun _ w _ => Ext.refl w) rfl rfl rfl (fun b => fun _ _ h => h)) ?_
                refine RsOps.mk (RsOp.moveA rfl (fun b => .on 28 true rfl (fun _ _ h => h)) 7 (fun _ w _ => Ext.refl w) rfl rfl (.pointer (some ⟨rb, 0, none⟩)) rfl (fun _ _ _ => rfl)) ?_
                refine RsOps.mk (RsOp.chain 0 rfl (fun b => .on 28 true rfl (fun _ _ h => h)) ?_) ?_
                rotate_left
                refine RsOps.mk (RsOp.moveA rfl (fun b => .on 28 true rfl (fun _ _ h => h)) 0 (fun _ w _ => Ext.refl w) rfl rfl (.slice (some ⟨g, 0, none⟩) n cap) rfl (fun _ _ _ => rfl)) ?_
                refine RsOps.mk (RsOp.moveA rfl (fun b => .on 28 true rfl (fun _ _ h => h)) 8 (fun _ w _ => Ext.refl w) rfl rfl (.int .i64 (k : Int)) rfl (fun _ _ _ => rfl)) ?_
                refine RsOps.mk (RsOp.at rfl (fun b => .on 28 true rfl (fun _ _ h => h)) ?_) ?_
                rotate_left
                refine RsOps.mk (RsOp.at rfl (fun b => .on 28 true rfl (fun _ _ h => h)) ?_) ?_
                rotate_left
                refine RsOps.mk (RsOp.at rfl (fun b => .on 28 true rfl (fun _ _ h => h)) ?_) ?_
                rotate_left
                refine RsOps.mk (RsOp.at rfl (fun b => .on 28 true rfl (fun _ _ h => h)) ?_) ?_
                rotate_left
                refine RsOps.mk (RsOp.at rfl (fun b => .on 21 false rfl (fun _ _ h => h)) ?_) ?_
                rotate_left
                refine RsOps.mk (RsOp.at rfl (fun b => .free rfl) ?_) ?_
                rotate_left
                exact RsOps.done
                · intro bb vals ρ w' hC hd hS
                  have r63 : ρ (.tmp 63) = .slice (some ⟨g, 0, none⟩) n cap := (hS.tmp 63).trans (hd.at 0 rfl)
                  have r64 : ρ (.tmp 64) = .int .i64 (k : Int) := (hS.tmp 64).trans (hd.at 1 rfl)
                  refine (show givesR _ _ _ _ (fun v w'' => Ext w' w'' ∧ v = .pointer (some ⟨g, k * 4, none⟩)) from ?_)
                  clear hC hd hS
                  go_simp
                  exact Ext.refl _
                · intro bb vals ρ w' hC hd hS
                  have r65 : ρ (.tmp 65) = .pointer (some ⟨g, k * 4, none⟩) := (hS.tmp 65).trans (hd.at 2 rfl)
                  refine (show givesR _ _ _ _ (fun v w'' => Ext w' w'' ∧ v = .pointer (some ⟨g, k * 4, none⟩)) from ?_)
                  clear hC hd hS
                  go_simp
                  exact Ext.refl _
                · intro bb vals ρ w' hC hd hS
                  have r66 : ρ (.tmp 66) = .pointer (some ⟨g, k * 4, none⟩) := (hS.tmp 66).trans (hd.at 3 rfl)
                  refine (show givesR _ _ _ _ (fun v w'' => Ext w' w'' ∧ v = .int .i64 d.kind) from ?_)
                  have qq := Below.cellw hC.2 q0
                  clear hC hd hS
                  go_simp
                  exact Ext.refl _
                · intro bb vals ρ w' hC hd hS
                  have r67 : ρ (.tmp 67) = .int .i64 d.kind := (hS.tmp 67).trans (hd.at 4 rfl)
                  have rc := hS.const
                  refine (show givesR _ _ _ _ (fun v w'' => Ext w' w'' ∧ v = .bool false) from ?_)
                  clear hC hd hS
                  go_simp
                  exact Ext.refl _
                · intro bb vals ρ w' hC hd hS
                  have r69 : ρ (.tmp 69) = .bool false := (hS.tmp 69).trans (hd.at 6 rfl)
                  have r82 : ρ (.tmp 82) = undef := (hS.tmp 82).trans (hd.at 19 rfl)
                  have rc := hS.const
                  refine (show givesR _ _ _ _ (fun v w'' => Ext w' w'' ∧ v = .bool false) from ?_)
                  clear hC hd hS
                  go_simp
                  exact Ext.refl _
                · intro bb vals ρ w' hC hd hS
                  have r85 : ρ (.tmp 85) = .slice (some ⟨g, 0, none⟩) n cap := (hS.tmp 85).trans (hd.at 22 rfl)
                  have r86 : ρ (.tmp 86) = .int .i64 (k : Int) := (hS.tmp 86).trans (hd.at 23 rfl)
                  refine (show givesR _ _ _ _ (fun v w'' => Ext w' w'' ∧ v = .pointer (some ⟨g, k * 4, none⟩)) from ?_)
                  clear hC hd hS
                  go_simp
                  exact Ext.refl _
                · intro bb vals ρ w' hC hd hS
                  have r87 : ρ (.tmp 87) = .pointer (some ⟨g, k * 4, none⟩) := (hS.tmp 87).trans (hd.at 24 rfl)
                  refine (show givesR _ _ _ _ (fun v w'' => Ext w' w'' ∧ v = .pointer (some ⟨g, k * 4, none⟩)) from ?_)
                  clear hC hd hS
                  go_simp
                  exact Ext.refl _
                · intro bb vals ρ w' hC hd hS
                  have r88 : ρ (.tmp 88) = .pointer (some ⟨g, k * 4, none⟩) := (hS.tmp 88).trans (hd.at 25 rfl)
                  refine (show givesR _ _ _ _ (fun v w'' => Ext w' w'' ∧ v = .int .i64 d.kind) from ?_)
                  have qq := Below.cellw hC.2 q0
                  clear hC hd hS
                  go_simp
                  exact Ext.refl _
                · intro bb vals ρ w' hC hd hS
                  have r89 : ρ (.tmp 89) = .int .i64 d.kind := (hS.tmp 89).trans (hd.at 26 rfl)
                  have rc := hS.const
                  refine (show givesR _ _ _ _ (fun v w'' => Ext w' w'' ∧ v = .bool true) from ?_)
                  clear hC hd hS
                  go_simp
                  exact Ext.refl _
                · intro vals ρ w' hC hd hS
                  have r92 : ρ (.tmp 92) = .pointer (some ⟨rb, 0, none⟩) := (hS.tmp 92).trans (hd.at 29 rfl)
                  have rf := hS.func
                  have hr : RdIs w' B2 rb pb off 0 := by simpa using hC.1
                  refine gives_call rfl (hS.func _) (by go_simp) ?_
                  rw [show Array.map ρ #[Operand.tmp 92] = #[.pointer (some ⟨rb, 0, none⟩)] by simp [r92]]
                  refine (rtext_ok rb B2 pb off d.s.size w' hr HM.out.1 HM.out.2.1 HPL.out).mono ?_
                  rintro r w'' ⟨rfl, h, hm⟩
                  rw [HM.out.2.2]
                  exact ⟨_, rfl, ⟨by simpa using h, hC.2.trans ((hr.below hm).mono HB12.out)⟩, rfl, svl_next rfl ⟨exk_nx, exk_nx, exk_nx, exk_nx, exk_nx, exk_nx, exk_nx, exk_nx, exk_nx, exk_nx, exk_nx, exk_nx, exk_nx, exk_nx, exk_nx, exk_nx, exk_nx, exk_nx, exk_nx, exk_nx, exk_nx, exk_nx, exk_nx, exk_nx, exk_nx, exk_nx, exk_nx, exk_nx, exk_nx, exk_nx, (fun _ _ => trivial), exk_nx, exk_nx, exk_nx, exk_nx, exk_nx, exk_nx, exk_nx, exk_nx, trivial⟩ (fun q v hm => absurd hm (by omega))⟩
                · intro bb vals ρ w' hC hd hS
                  have r94 : ρ (.tmp 94) = .slice (some ⟨g, 0, none⟩) n cap := (hS.tmp 94).trans (hd.at 31 rfl)
                  have r95 : ρ (.tmp 95) = .int .i64 (k : Int) := (hS.tmp 95).trans (hd.at 32 rfl)
                  refine (show givesR _ _ _ _ (fun v w'' => Ext w' w'' ∧ v = .pointer (some ⟨g, k * 4, none⟩)) from ?_)
                  clear hC hd hS
                  go_simp
                  exact Ext.refl _
                · intro bb vals ρ w' hC hd hS
                  have r96 : ρ (.tmp 96) = .pointer (some ⟨g, k * 4, none⟩) := (hS.tmp 96).trans (hd.at 33 rfl)
                  refine (show givesR _ _ _ _ (fun v w'' => Ext w' w'' ∧ v = .pointer (some ⟨g, k * 4 + 3, none⟩)) from ?_)
                  clear hC hd hS
                  go_simp
                  exact Ext.refl _
                · intro bb vals ρ w' hC hd hS
                  have r97 : ρ (.tmp 97) = .pointer (some ⟨g, k * 4 + 3, none⟩) := (hS.tmp 97).trans (hd.at 34 rfl)
                  refine (show givesR _ _ _ _ (fun v w'' => Ext w' w'' ∧ v = .string d.s) from ?_)
                  have qq := Below.cellw hC.2 q3
                  clear hC hd hS
                  go_simp
                  exact Ext.refl _
                · intro bb vals ρ w' hC hd hS
                  have r93 : ρ (.tmp 93) = .string d.s := (hS.tmp 93).trans (svl_done (m := 0) rfl (hd.at 30 rfl)).2
                  have r98 : ρ (.tmp 98) = .string d.s := (hS.tmp 98).trans (hd.at 35 rfl)
                  refine (show givesR _ _ _ _ (fun v w'' => Ext w' w'' ∧ v = .bool false) from ?_)
                  clear hC hd hS
                  go_simp
                  exact Ext.refl _
                · intro bb vals ρ w' hC hd hS
                  have r91 : ρ (.tmp 91) = .bool true := (hS.tmp 91).trans (hd.at 28 rfl)
                  have r99 : ρ (.tmp 99) = .bool false := (hS.tmp 99).trans (hd.at 36 rfl)
                  have rc := hS.const
                  refine (show givesR _ _ _ _ (fun v w'' => Ext w' w'' ∧ v = .bool false) from ?_)
                  clear hC hd hS
                  go_simp
                  exact Ext.refl _
                · intro bb vals ρ w' hC hd hS
                  have r84 : ρ (.tmp 84) = .bool false := (hS.tmp 84).trans (hd.at 21 rfl)
                  have r100 : ρ (.tmp 100) = .bool false := (hS.tmp 100).trans (hd.at 37 rfl)
                  have rc := hS.const
                  refine (show givesR _ _ _ _ (fun v w'' => Ext w' w'' ∧ v = .bool false) from ?_)
                  clear hC hd hS
                  go_simp
                  exact Ext.refl _
              · intro vals w' hC hV
                have e38 : vals 38 = .bool false := hV 38 (by decide)
                have HC' := Lib.hid hC; clear hC hV
                simp only [List.drop_succ_cons, List.drop_zero]
                go_simp -- the frame
                go_wp2_with fail
                go_roundw
                case rel =>
                  have hC := HC'.out
                  simp only [List.length_singleton] at hC
                  refine ⟨k + 1, by omega, by go_num, ?_, hC.2⟩
                  rw [HNX.out, HSL.out]
                  have h1 := hC.1
                  simp only [Nat.succ_ne_zero, if_false] at h1
                  rwa [show off + (16 + 8 * d.s.size) = off + 16 + 8 * d.s.size by omega]
                case measure => simp [intOf]; omega
          · have hkn : k = n := by omega
            have htk : ds.take k = ds := List.take_of_length_le (by rw [hkn, HN.out]; exact Nat.le_refl _)
            have hob : off = bl.length := by have := HOFF.out; rw [htk, ← HBE.out] at this; exact this
            have hki : ((k : Int) < (n : Int)) = False := eq_false (by omega)
            have he : endI pb off 0 = 0 := by
              unfold endI
              rw [if_neg (by simp), hob, HPB.out, endB_packed]; rfl
            have hend := rend_c rb B2 pb off 0 _ HR.out HPL.out (by rw [hob, HPB.out]; exact packed_room bl)
            rw [he] at hend
            have HEND := Lib.hid hend
            clear hkn htk hob he hend hlt
            go_wp2_with fail
            refine (rerr_c rb B2 pb off 0 _ HR.out).mono ?_
            rintro e w6 ⟨rfl, rfl⟩
            go_wp2_with fail
            refine HEND.out.mono ?_
            rintro e w7 ⟨rfl, hx7⟩
            have HX7 := Lib.hid (HX1.out.below.trans ((HB.out.trans (hx7.below.mono HB.out.size)).mono HX1.out.size))
            clear hx7
            go_wp2_with fail
            refine (lives_c _).mono ?_
            rintro e w8 ⟨rfl, hx8⟩
            go_wp2
            go_ret
            exact ⟨rfl, HX7.out.trans (hx8.below.mono HX7.out.size)⟩
      · have HB2 := Lib.hid hlt
        clear htk hkn hlt
        go_wp2_with fail
        refine (done_err wb w1.heap.size bl 2 _ HW.out (by decide)).mono ?_
        rintro e w4 ⟨rfl, nd, rfl⟩
        go_wp2_with fail
        refine (lives_c _).mono ?_
        rintro e w5 ⟨rfl, hx5⟩
        go_wp2
        go_ret
        have hb4 := HB.out.trans (((Ext.refl wr).drewN nd).below.mono HB.out.size)
        exact ⟨rfl, (HX1.out.below.trans (hb4.mono HX1.out.size)).trans (hx5.below.mono (Nat.le_trans HX1.out.size hb4.size))⟩

end Go.Proofs.Ytlfnpbpbgncbpaa

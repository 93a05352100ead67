/- What any row of calls reads of any bytes: the law BitsReads, walked. -/
import Derived.Test.YtlfnpbpbgncbpaaB20
set_option linter.unusedVariables false
set_option linter.unusedSimpArgs false
namespace Go.Proofs.Ytlfnpbpbgncbpaa
open Go.RowKit

theorem RdIs.above {w w' : World} {B rb xb : Nat} {l : List UInt8} {at' : Nat} {err : Int} (h : RdIs w B rb l at' err) (hm : Mod (fun k => k = xb) w w') (hx : rb < xb) : RdIs w' B rb l at' err := by
  obtain ⟨ao, cap, h1, h2, h3, h4⟩ := h
  exact ⟨ao, cap, (hm.block rb (Array.getElem?_eq_some_iff.1 h1).1 (by omega)).trans h1, h2, owns_mod h3 hm fun k hk e => by have := h4 k hk; omega, h4⟩
theorem rrd_below {w w' : World} {B xb : Nat} {bs : List Bool} {err : Int} (h : RRd w B xb bs err) (hm : Mod (fun k => k = xb) w w') : Below B w w' :=
  hm.below (by have := h.lt; obtain ⟨_, _, _, h2, _⟩ := h; omega) fun k hk => by obtain ⟨_, _, _, h2, _⟩ := h; omega

def rdA : Nat → Nat → Nat → Nat
  | 0, a, _ => a
  | _ + 1, _, b => b
def rdE : Nat → Int → Int → Int
  | 0, a, _ => a
  | _ + 1, _, b => b
def rxA : Nat → Nat → Nat → Nat
  | 0, a, _ => a
  | 1, a, _ => a
  | _ + 2, _, b => b
def rxE : Nat → Int → Int → Int
  | 0, a, _ => a
  | 1, a, _ => a
  | _ + 2, _, b => b

set_option maxRecDepth 100000 in
set_option maxHeartbeats 8000000 in
theorem bitsReads_calls (ao : Option Addr) (cap : Nat) (b : List UInt8) (v : Value) (ds0 : List BDo) (W : World) (hb : Bs W (.slice ao b.length cap) b) (hd : BDos W v ds0) :
    Calls Try.prog 6 #[.slice ao b.length cap, v] W fun e w' => e = .returned (.bool true) ∧ Below W.heap.size W w' := by
  have HB0 := Lib.hid hb
  have HD0 := Lib.hid hd
  obtain ⟨bn, hbn⟩ : ∃ bn, bn = b.length := ⟨_, rfl⟩
  rw [← hbn] at HB0 ⊢
  clear hb hd hbn
  go_enter Try.func6, Try.ntmps6
  go_wp2_with fail
  refine (cut_c (.slice ao bn cap) b 200 (by decide) (by decide) W HB0.out).mono ?_
  rintro e w1 ⟨bo, bcap, rfl, rfl, hbs, _⟩
  obtain ⟨bl, hbl⟩ : ∃ bl, bl = b.take (200 : Int).toNat := ⟨_, rfl⟩
  rw [← hbl] at hbs ⊢
  obtain ⟨p, hp⟩ : ∃ p, p = bl.length := ⟨_, rfl⟩
  rw [← hp] at hbs ⊢
  have HP : Hid (p = bl.length ∧ p ≤ 200) := Lib.hid ⟨hp, by rw [hp, hbl, List.length_take]; omega⟩
  have HBS := Lib.hid hbs
  clear hbs hbl hp
  go_wp2_with fail
  refine (few_c v ds0 W HD0.out).mono ?_
  rintro e w2 ⟨v', ds, rfl, hx2, r1, r2, ⟨do', dcap, rfl⟩, r4⟩
  obtain ⟨n, hn⟩ : ∃ n, n = ds.length := ⟨_, rfl⟩
  rw [← hn] at r1 r4 ⊢
  have HN := Lib.hid hn
  have HX2 := Lib.hid hx2
  have HR2 := Lib.hid r2
  have HR4 := Lib.hid r4
  have HBS2 := Lib.hid (HBS.out.ext hx2)
  clear hn hx2 r2 r4
  go_wp2_with fail
  refine (copy_c (.slice bo p bcap) bl w2 HBS2.out (by have := HP.out; omega)).mono ?_
  rintro e w3 ⟨mo, mcap, rfl, hx3, ho3⟩
  rw [← HP.out.1] at ho3 ⊢
  have HX3 := Lib.hid hx3
  have HO3 := Lib.hid ho3
  clear hx3 ho3
  go_wp2_with fail
  have HMB : Hid (Bs w3 (.slice mo p mcap) bl) := Lib.hid (by have := Rs.of_owns HO3.out; unfold Bs; rw [← HP.out.1]; exact this)
  refine (ropen_c (.slice mo p mcap) bl w3 HMB.out (by have := HP.out; omega)).mono ?_
  rintro e w4 ⟨rb, rfl, hrb, hx4, h4⟩
  obtain ⟨B2, hB2⟩ : ∃ B2, B2 = w3.heap.size := ⟨_, rfl⟩
  rw [← hB2] at h4 hrb
  have HX4 := Lib.hid hx4
  have H4 := Lib.hid h4
  have HB2 := Lib.hid hB2
  have HRB := Lib.hid hrb
  clear hx4 h4 hrb hB2
  go_wp2_with fail
  have hof := rof_c (.slice bo p bcap) bl w4 (HBS2.out.ext (HX3.out.trans HX4.out)) (by have := HP.out; omega)
  refine hof.mono ?_
  clear hof
  rintro e w5 ⟨oo, ocap, rfl, hx5, ho5⟩
  obtain ⟨B3, hB3⟩ : ∃ B3, B3 = w4.heap.size := ⟨_, rfl⟩
  rw [← hB3] at ho5
  have HX5 := Lib.hid hx5
  have HO5 := Lib.hid ho5
  have HB3 := Lib.hid hB3
  obtain ⟨t, ht⟩ : ∃ t, t = 8 * bl.length := ⟨_, rfl⟩
  rw [← ht] at HO5 ⊢
  have HT := Lib.hid ht
  clear hx5 ho5 hB3 ht
  go_upto_region 4 with fail
  obtain ⟨xb, hxb⟩ : ∃ xb, xb = w5.heap.size := ⟨_, rfl⟩
  have hx6 := (Ext.refl w5).alloc (.cells #[.slice oo t ocap, .int .i64 0] 56)
  have hb6 : (w5.alloc (.cells #[.slice oo t ocap, .int .i64 0] 56)).heap[xb]? = some (.cells #[.slice oo t ocap, .int .i64 0] 56 (0, 0)) := by rw [hxb]; exact heap_alloc_new w5 _
  rw [← hxb]
  generalize w5.alloc (.cells #[.slice oo t ocap, .int .i64 0] 56) = w6 at hx6 hb6 ⊢
  have HRX : Hid (rb < xb ∧ B3 ≤ xb ∧ B2 ≤ B3 ∧ rb < B3) := Lib.hid (by
    have h1 := H4.out.lt
    have h2 := HB3.out
    have h3 := HX5.out.size
    have h4 := HX4.out.size
    have h5 := HB2.out
    omega)
  have HR6 := Lib.hid (H4.out.ext (HX5.out.trans hx6))
  have HX6 : Hid (RRd w6 B3 xb (bitsAll bl) 0) := Lib.hid (by
    have hl : (bitsAll bl).length = t := by rw [bitsAll_length, HT.out]
    refine ⟨oo, ocap, by rw [hl]; exact hb6, HRX.out.2.1, ?_, fun k hk => ?_⟩
    · rw [hl]
      have := Rs.of_owns (owns_ext HO5.out hx6)
      unfold Bs
      rw [bbs_length, hl]
      exact this
    · rw [hl] at hk
      have := owns_block HO5.out hk
      omega)
  have HMO6 := Lib.hid (owns_ext HO3.out ((HX4.out.trans HX5.out).trans hx6))
  have HB6 : Hid (Below w2.heap.size w2 w6) := Lib.hid (((HX3.out.trans HX4.out).trans (HX5.out.trans hx6)).below)
  have HMB2 : Hid (∀ q, (Value.slice mo p mcap).ownBlock = some q → q < B2) := Lib.hid (fun q hq => by rw [HB2.out]; exact (owns_block HO3.out hq).2)
  clear hb6 hx6 hxb
  go_wp2_with fail
  go_loopw [8] (fun i wr => ∃ (k : Nat) (zs : List UInt8), k ≤ p ∧ i = .int .i64 k ∧ zs.length = p ∧ wr.ownsRow w2.heap.size 5 1 (.slice mo p mcap) p (zs.map bv) ∧ RdIs wr B2 rb bl 0 0 ∧ RRd wr B3 xb (bitsAll bl) 0 ∧ Below w2.heap.size w2 wr) (fun i _ => p - (intOf i).toNat)
  case atStart => exact ⟨0, bl, Nat.zero_le _, rfl, HP.out.1.symm, HMO6.out, HR6.out, HX6.out, HB6.out⟩
  case round =>
    obtain ⟨k, zs, hk, rfl, hzs, ho, hr, hx, hb⟩ := hrel
    have HO := Lib.hid ho
    have HR := Lib.hid hr
    have HX := Lib.hid hx
    have HB := Lib.hid hb
    have HZS := Lib.hid hzs
    clear ho hr hx hb hzs
    by_cases hlt : k < p
    · obtain ⟨g, cap', he, hg1, hg2⟩ := World.ownsRow.form HO.out (by omega)
      simp only [Value.slice.injEq] at he
      obtain ⟨rfl, _, hcc⟩ := he
      rw [hcc] at HO HMB2 ⊢
      obtain ⟨x, hx⟩ : ∃ x, x = zs[k]'(by rw [HZS.out]; exact hlt) := ⟨_, rfl⟩
      have cg : wr.cell? ⟨g, k, none⟩ = some (.int .u8 (x.toNat : Int)) := by
        rw [World.ownsRow.cellAt HO.out _ (by omega), List.getElem?_map, List.getElem?_eq_getElem (by rw [HZS.out]; exact hlt), ← hx]; rfl
      have fg : wr.frozen? ⟨g, k, none⟩ = false := World.ownsRow.frozenAt HO.out _
      have hki : (k : Int) < (p : Int) := by omega
      have HG2 : Hid (g < B2 ∧ w2.heap.size ≤ g) := Lib.hid ⟨HMB2.out g rfl, hg1⟩
      have HPB := HP.out.2
      clear hx hcc hg1 hg2
      go_wp2_with fail
      go_roundw
      case rel =>
        have hm := Mod.setCell (F := fun q => q = g) (p := ⟨g, k, none⟩) (Mod.refl _ wr) (fun _ => rfl) (.int .u8 (((x.toNat : Int) + 1) % 256))
        have hgg := HG2.out
        refine ⟨k + 1, zs.set k (UInt8.ofNat (x.toNat + 1)), by omega, by go_num, by rw [List.length_set]; exact HZS.out, ?_, HR.out.mod hm fun q h1 h2 => by omega, HX.out.mod hm fun q h1 _ h3 => by have := HRX.out; omega, HB.out.trans (hm.below HB.out.size fun q hq => by omega)⟩
        have h1 := (World.ownsRow.stored HO.out k (.int .u8 (((x.toNat : Int) + 1) % 256))).1
        have e : (zs.map bv).set k (.int .u8 (((x.toNat : Int) + 1) % 256)) = (zs.set k (UInt8.ofNat (x.toNat + 1))).map bv := by
          rw [List.map_set]
          refine congrArg (fun z => (zs.map bv).set k z) ?_
          unfold bv
          rw [UInt8.toNat_ofNat']
          refine congrArg (Value.int .u8) ?_
          push_cast; rfl
        rwa [e] at h1
      case measure => simp [intOf]; omega
    · have hki : ((k : Int) < (p : Int)) = False := eq_false (by omega)
      have HPL : Hid (bl.length ≤ 140737488355328) := Lib.hid (by have := HP.out; omega)
      have HPL2 : Hid (bl.length ≤ 100000) := Lib.hid (by have := HP.out; omega)
      have HBB : Hid (w2.heap.size ≤ B2) := Lib.hid (by rw [HB2.out]; exact HX3.out.size)
      have HBX : Hid (w2.heap.size ≤ B3) := Lib.hid (by have := HRX.out; have := HBB.out; omega)
      have HR0 := HR
      have HX0 := HX
      have HB0' := HB
      clear hlt HO HR HX HB HZS
      go_wp2_with fail
      go_loopw [9] (fun i wr => ∃ (k at' : Nat) (err : Int), k ≤ n ∧ i = .int .i64 k ∧ at' ≤ 8 * bl.length ∧ RdIs wr B2 rb bl at' err ∧ RRd wr B3 xb ((bitsAll bl).drop at') err ∧ Below w2.heap.size w2 wr) (fun i _ => n - (intOf i).toNat)
      case atStart => exact ⟨0, 0, 0, Nat.zero_le _, rfl, Nat.zero_le _, HR0.out, HX0.out, HB0'.out⟩
      case round =>
        obtain ⟨k, at', err, hk, rfl, hat, hr, hx, hb⟩ := hrel
        have HR := Lib.hid hr
        have HX := Lib.hid hx
        have HB := Lib.hid hb
        have HAT := Lib.hid hat
        clear hr hx hb hat
        by_cases hlt : k < n
        · obtain ⟨d, hd⟩ : ∃ d, ds[k]? = some d := ⟨_, List.getElem?_eq_getElem (by rw [← HN.out]; exact hlt)⟩
          obtain ⟨g, cap, he, hg1, hg2⟩ := World.ownsRow.form HR4.out (by omega)
          simp only [Value.slice.injEq] at he
          obtain ⟨rfl, _, hcc⟩ := he
          rw [hcc] at HR4 ⊢
          have q0 : w2.cell? ⟨g, k * 4, none⟩ = some (.int .i64 d.kind) := BRow.at HR4.out hd HN.out 0 (by decide)
          have q2 : w2.cell? ⟨g, k * 4 + 2, none⟩ = some (.int .i64 d.n) := BRow.at HR4.out hd HN.out 2 (by decide)
          have c0 := Below.cellw HB.out q0
          have hki : (k : Int) < (n : Int) := by omega
          clear hd hg1 hg2 hcc
          by_cases hk0 : d.kind = 0
          · have hke : (d.kind == 0) = true := by simp [hk0]
            clear hk0
            obtain ⟨x, hx⟩ : ∃ x, x = getV bl at' err d.n := ⟨_, rfl⟩
            obtain ⟨at2, hat2⟩ : ∃ at2, at2 = getAt bl at' err d.n := ⟨_, rfl⟩
            obtain ⟨err2, herr2⟩ : ∃ err2, err2 = getE bl at' err d.n := ⟨_, rfl⟩
            obtain ⟨y1, y2, y3⟩ := getV_eq bl at' err d.n HAT.out
            have HAT2 : Hid (at2 ≤ 8 * bl.length) := Lib.hid (by rw [hat2]; exact getAt_le bl at' err d.n HAT.out)
            have GB : Hid (∀ w, RdIs w B2 rb bl at' err → Calls Try.prog 24 #[.pointer (some ⟨rb, 0, none⟩), .int .i64 d.n] w fun e w' => e = .returned (.int .u64 (x : Int)) ∧ RdIs w' B2 rb bl at2 err2 ∧ Mod (fun k => k = rb) w w') :=
              Lib.hid fun w h => by rw [hx, hat2, herr2]; exact rget_c rb B2 bl at' err d.n w h HPL.out HAT.out
            have GX : Hid (∀ w, RRd w B3 xb ((bitsAll bl).drop at') err → Calls Try.prog 29 #[.pointer (some ⟨xb, 0, none⟩), .int .i64 d.n] w fun e w' => e = .returned (.int .u64 (x : Int)) ∧ RRd w' B3 xb ((bitsAll bl).drop at2) err2 ∧ Mod (fun k => k = xb) w w') :=
              Lib.hid fun w h => by
                have := rrget_c xb B3 ((bitsAll bl).drop at') err d.n w h (by rw [List.length_drop, bitsAll_length]; have := HPL2.out; omega)
                rw [y1, y2, y3] at this
                rw [hx, hat2, herr2]
                exact this
            clear hx hat2 herr2 y1 y2 y3
            go_wp2_with fail
            refine wp_region_rs 15 _ [6, 13]
              (fun k w' => RdIs w' B2 rb bl (rdA k at' at2) (rdE k err err2) ∧ RRd w' B3 xb ((bitsAll bl).drop (rxA k at' at2)) (rxE k err err2) ∧ Below w2.heap.size w2 w') Ext
              (svl [exk (.pointer (some ⟨rb, 0, none⟩)),
                exk (.slice (some ⟨g, 0, none⟩) n cap),
                exk (.int .i64 (k : Int)),
                exk (.pointer (some ⟨g, k * 4, none⟩)),
                exk (.pointer (some ⟨g, k * 4 + 2, none⟩)),
                exk (.int .i64 d.n),
                (fun _ _ _ => True),
                exk (.pointer (some ⟨xb, 0, none⟩)),
                exk (.slice (some ⟨g, 0, none⟩) n cap),
                exk (.int .i64 (k : Int)),
                exk (.pointer (some ⟨g, k * 4, none⟩)),
                exk (.pointer (some ⟨g, k * 4 + 2, none⟩)),
                exk (.int .i64 d.n),
                (fun _ _ _ => True),
                exk (.bool false)]
                [6, 13] (fun _ _ v _ => v = .int .u64 (x : Int)))
              (by kernel_rfl) (by kernel_rfl) (by kernel_rfl) (by kernel_rfl) rfl ⟨HR.out.ext (Ext.refl _).drew, HX.out.ext (Ext.refl _).drew, HB.out.trans ((Ext.refl _).drew.below.mono HB.out.size)⟩ (fun _ w _ => Ext.refl w) (fun _ _ _ h hx => ⟨h.1.ext hx, h.2.1.ext hx, h.2.2.trans (hx.below.mono h.2.2.size)⟩)
              (fun b i v w1 w2 _ _ hV hx => svl_stays (R := Ext) (by exact ⟨exk_st, exk_st, exk_st, exk_st, exk_st, exk_st, (fun _ _ _ _ _ _ => trivial), exk_st, exk_st, exk_st, exk_st, exk_st, exk_st, (fun _ _ _ _ _ _ => trivial), exk_st, trivial⟩) (fun _ _ _ _ _ h _ => h) b i v w1 w2 hV hx) ?_ ?_
            · simp only [List.take_succ_cons, List.take_zero]
              go_tidy
              refine RsOps.mk (RsOp.moveA rfl (fun b => .free rfl) 6 (fun _ w _ => Ext.refl w) rfl rfl (.pointer (some ⟨rb, 0, none⟩)) rfl (fun _ _ _ => rfl)) ?_
              refine RsOps.mk (RsOp.moveA rfl (fun b => .free rfl) 1 (fun _ w _ => Ext.refl w) rfl rfl (.slice (some ⟨g, 0, none⟩) n cap) rfl (fun _ _ _ => rfl)) ?_
              refine RsOps.mk (RsOp.moveA rfl (fun b => .free rfl) 9 (fun _ w _ => Ext.refl w) rfl rfl (.int .i64 (k : Int)) rfl (fun _ _ _ => rfl)) ?_
              refine RsOps.mk (RsOp.at rfl (fun b => .free rfl) ?_) ?_
              rotate_left
              refine RsOps.mk (RsOp.at rfl (fun b => .free rfl) ?_) ?_
              rotate_left
              refine RsOps.mk (RsOp.at rfl (fun b => .free rfl) ?_) ?_
              rotate_left
              refine RsOps.mk (RsOp.chain 0 rfl (fun b => .free rfl) ?_) ?_
              rotate_left
              refine RsOps.mk (RsOp.moveA rfl (fun b => .free rfl) 7 (fun _ w _ => Ext.refl w) rfl rfl (.pointer (some ⟨xb, 0, none⟩)) rfl (fun _ _ _ => rfl)) ?_
              refine RsOps.mk (RsOp.moveA rfl (fun b => .free rfl) 1 (fun _ w _ => Ext.refl w) rfl rfl (.slice (some ⟨g, 0, none⟩) n cap) rfl (fun _ _ _ => rfl)) ?_
              refine RsOps.mk (RsOp.moveA rfl (fun b => .free rfl) 9 (fun _ w _ => Ext.refl w) rfl rfl (.int .i64 (k : Int)) rfl (fun _ _ _ => rfl)) ?_
              refine RsOps.mk (RsOp.at rfl (fun b => .free rfl) ?_) ?_
              rotate_left
              refine RsOps.mk (RsOp.at rfl (fun b => .free rfl) ?_) ?_
              rotate_left
              refine RsOps.mk (RsOp.at rfl (fun b => .free rfl) ?_) ?_
              rotate_left
              refine RsOps.mk (RsOp.chain 1 rfl (fun b => .free rfl) ?_) ?_
              rotate_left
              refine RsOps.mk (RsOp.at rfl (fun b => .free rfl) ?_) ?_
              rotate_left
              exact RsOps.done
              · intro bb vals ρ w' hC hd hS
                have r49 : ρ (.tmp 49) = .slice (some ⟨g, 0, none⟩) n cap := (hS.tmp 49).trans (hd.at 1 rfl)
                have r50 : ρ (.tmp 50) = .int .i64 (k : Int) := (hS.tmp 50).trans (hd.at 2 rfl)
                refine (show givesR _ _ _ _ (fun v w'' => Ext w' w'' ∧ v = .pointer (some ⟨g, k * 4, none⟩)) from ?_)
                clear hC hd hS
                go_simp
                exact Ext.refl _
              · intro bb vals ρ w' hC hd hS
                have r51 : ρ (.tmp 51) = .pointer (some ⟨g, k * 4, none⟩) := (hS.tmp 51).trans (hd.at 3 rfl)
                refine (show givesR _ _ _ _ (fun v w'' => Ext w' w'' ∧ v = .pointer (some ⟨g, k * 4 + 2, none⟩)) from ?_)
                clear hC hd hS
                go_simp
                exact Ext.refl _
              · intro bb vals ρ w' hC hd hS
                have r52 : ρ (.tmp 52) = .pointer (some ⟨g, k * 4 + 2, none⟩) := (hS.tmp 52).trans (hd.at 4 rfl)
                refine (show givesR _ _ _ _ (fun v w'' => Ext w' w'' ∧ v = .int .i64 d.n) from ?_)
                have qq := Below.cellw hC.2.2 q2
                clear hC hd hS
                go_simp
                exact Ext.refl _
              · intro vals ρ w' hC hd hS
                have r48 : ρ (.tmp 48) = .pointer (some ⟨rb, 0, none⟩) := (hS.tmp 48).trans (hd.at 0 rfl)
                have r53 : ρ (.tmp 53) = .int .i64 d.n := (hS.tmp 53).trans (hd.at 5 rfl)
                have rf := hS.func
                obtain ⟨hr, hx, hb⟩ := hC
                refine gives_call rfl (hS.func _) (by go_simp) ?_
                rw [show Array.map ρ #[Operand.tmp 48, Operand.tmp 53] = #[.pointer (some ⟨rb, 0, none⟩), .int .i64 d.n] by simp [r48, r53]]
                refine (GB.out w' hr).mono ?_
                rintro r w'' ⟨rfl, h, hm⟩
                exact ⟨_, rfl, ⟨h, hx.mod hm (fun q h1 _ h3 => by have := HRX.out; omega), hb.trans ((hr.below hm).mono HBB.out)⟩, rfl, svl_next rfl ⟨exk_nx, exk_nx, exk_nx, exk_nx, exk_nx, exk_nx, (fun _ _ => trivial), exk_nx, exk_nx, exk_nx, exk_nx, exk_nx, exk_nx, (fun _ _ => trivial), exk_nx, trivial⟩ (fun q v hm => absurd hm (by omega))⟩
              · intro bb vals ρ w' hC hd hS
                have r56 : ρ (.tmp 56) = .slice (some ⟨g, 0, none⟩) n cap := (hS.tmp 56).trans (hd.at 8 rfl)
                have r57 : ρ (.tmp 57) = .int .i64 (k : Int) := (hS.tmp 57).trans (hd.at 9 rfl)
                refine (show givesR _ _ _ _ (fun v w'' => Ext w' w'' ∧ v = .pointer (some ⟨g, k * 4, none⟩)) from ?_)
                clear hC hd hS
                go_simp
                exact Ext.refl _
              · intro bb vals ρ w' hC hd hS
                have r58 : ρ (.tmp 58) = .pointer (some ⟨g, k * 4, none⟩) := (hS.tmp 58).trans (hd.at 10 rfl)
                refine (show givesR _ _ _ _ (fun v w'' => Ext w' w'' ∧ v = .pointer (some ⟨g, k * 4 + 2, none⟩)) from ?_)
                clear hC hd hS
                go_simp
                exact Ext.refl _
              · intro bb vals ρ w' hC hd hS
                have r59 : ρ (.tmp 59) = .pointer (some ⟨g, k * 4 + 2, none⟩) := (hS.tmp 59).trans (hd.at 11 rfl)
                refine (show givesR _ _ _ _ (fun v w'' => Ext w' w'' ∧ v = .int .i64 d.n) from ?_)
                have qq := Below.cellw hC.2.2 q2
                clear hC hd hS
                go_simp
                exact Ext.refl _
              · intro vals ρ w' hC hd hS
                have r55 : ρ (.tmp 55) = .pointer (some ⟨xb, 0, none⟩) := (hS.tmp 55).trans (hd.at 7 rfl)
                have r60 : ρ (.tmp 60) = .int .i64 d.n := (hS.tmp 60).trans (hd.at 12 rfl)
                have rf := hS.func
                obtain ⟨hr, hx, hb⟩ := hC
                refine gives_call rfl (hS.func _) (by go_simp) ?_
                rw [show Array.map ρ #[Operand.tmp 55, Operand.tmp 60] = #[.pointer (some ⟨xb, 0, none⟩), .int .i64 d.n] by simp [r55, r60]]
                refine (GX.out w' hx).mono ?_
                rintro r w'' ⟨rfl, h, hm⟩
                exact ⟨_, rfl, ⟨hr.above hm (by have := HRX.out; omega), h, hb.trans ((rrd_below hx hm).mono HBX.out)⟩, rfl, svl_next rfl ⟨exk_nx, exk_nx, exk_nx, exk_nx, exk_nx, exk_nx, (fun _ _ => trivial), exk_nx, exk_nx, exk_nx, exk_nx, exk_nx, exk_nx, (fun _ _ => trivial), exk_nx, trivial⟩ (fun q v hm h => h)⟩
              · intro bb vals ρ w' hC hd hS
                have r54 : ρ (.tmp 54) = .int .u64 (x : Int) := (hS.tmp 54).trans (svl_done (m := 0) rfl (hd.at 6 rfl)).2
                have r61 : ρ (.tmp 61) = .int .u64 (x : Int) := (hS.tmp 61).trans (svl_done (m := 1) rfl (hd.at 13 rfl)).2
                refine (show givesR _ _ _ _ (fun v w'' => Ext w' w'' ∧ v = .bool false) from ?_)
                clear hC hd hS
                go_simp
                exact Ext.refl _
            intro vals w' hC hV
            have e14 : vals 14 = .bool false := hV 14 (by decide)
            have HC' := Lib.hid hC; clear hC hV
            simp only [List.drop_succ_cons, List.drop_zero]
            go_simp -- the frame
            have HR9 : Hid (RdIs w' B2 rb bl at2 err2) := Lib.hid HC'.out.1
            have HX9 : Hid (RRd w' B3 xb ((bitsAll bl).drop at2) err2) := Lib.hid HC'.out.2.1
            have HB9 := Lib.hid HC'.out.2.2
            clear HC' c0
            go_upto_region 16 with fail
            rename World => w9
            obtain ⟨lf, hlf⟩ : ∃ lf, lf = leftI bl at2 err2 := ⟨_, rfl⟩
            obtain ⟨en, hen⟩ : ∃ en, en = endI bl at2 err2 := ⟨_, rfl⟩
            have HLF : Hid (leftI bl at2 err2 = lf) := Lib.hid hlf.symm
            have HEN : Hid (endI bl at2 err2 = en) := Lib.hid hen.symm
            have cx := HX9.out.c1
            clear hlf hen
            refine wp_region_rx 21 _
              [ex (.pointer (some ⟨rb, 0, none⟩)),
                ex (.int .i64 err2),
                ex (.pointer (some ⟨xb, 0, none⟩)),
                ex (.pointer (some ⟨xb, 0, none⟩)),
                ex (.pointer (some ⟨xb, 1, none⟩)),
                ex (.int .i64 err2),
                ex (.bool false),
                ex (.bool false),
                ex (.pointer (some ⟨rb, 0, none⟩)),
                ex (.int .i64 lf),
                ex (.pointer (some ⟨xb, 0, none⟩)),
                ex (.int .i64 lf),
                ex (.bool false),
                ex (.bool false),
                ex (.bool false),
                ex (.pointer (some ⟨rb, 0, none⟩)),
                ex (.int .i64 en),
                ex (.pointer (some ⟨xb, 0, none⟩)),
                ex (.int .i64 en),
                ex (.bool false),
                ex (.bool false)]
              (by kernel_rfl) (by kernel_rfl) (by kernel_rfl) rfl ⟨ex_st, ex_st, ex_st, ex_st, ex_st, ex_st, ex_st, ex_st, ex_st, ex_st, ex_st, ex_st, ex_st, ex_st, ex_st, ex_st, ex_st, ex_st, ex_st, ex_st, ex_st, trivial⟩ ?_ ?_
            · simp only [List.take_succ_cons, List.take_zero]
              go_tidy
              refine RhOps.mk (RhOp.moveA (by decide) (.free rfl) 6 (fun _ w _ => Ext.refl w) rfl rfl (.pointer (some ⟨rb, 0, none⟩)) rfl (fun _ _ _ => rfl)) ?_
              refine RhOps.mk (RhOp.at (by decide) (.free rfl) ?_) ?_
              rotate_left
              refine RhOps.mk (RhOp.moveA (by decide) (.free rfl) 7 (fun _ w _ => Ext.refl w) rfl rfl (.pointer (some ⟨xb, 0, none⟩)) rfl (fun _ _ _ => rfl)) ?_
              refine RhOps.mk (RhOp.at (by decide) (.free rfl) ?_) ?_
              rotate_left
              refine RhOps.mk (RhOp.at (by decide) (.free rfl) ?_) ?_
              rotate_left
              refine RhOps.mk (RhOp.at (by decide) (.free rfl) ?_) ?_
              rotate_left
              refine RhOps.mk (RhOp.at (by decide) (.free rfl) ?_) ?_
              rotate_left
              refine RhOps.mk (RhOp.move (by decide) (.free rfl) 74 6 (fun _ w _ => Ext.refl w) rfl rfl rfl (fun _ _ h => h)) ?_
              refine RhOps.mk (RhOp.moveA (by decide) (.on 7 false rfl (fun _ _ h => h)) 6 (fun _ w _ => Ext.refl w) rfl rfl (.pointer (some ⟨rb, 0, none⟩)) rfl (fun _ _ _ => rfl)) ?_
              refine RhOps.mk (RhOp.at (by decide) (.on 7 false rfl (fun _ _ h => h)) ?_) ?_
              rotate_left
              refine RhOps.mk (RhOp.moveA (by decide) (.on 7 false rfl (fun _ _ h => h)) 7 (fun _ w _ => Ext.refl w) rfl rfl (.pointer (some ⟨xb, 0, none⟩)) rfl (fun _ _ _ => rfl)) ?_
              refine RhOps.mk (RhOp.at (by decide) (.on 7 false rfl (fun _ _ h => h)) ?_) ?_
              rotate_left
              refine RhOps.mk (RhOp.at (by decide) (.on 7 false rfl (fun _ _ h => h)) ?_) ?_
              rotate_left
              refine RhOps.mk (RhOp.at (by decide) (.free rfl) ?_) ?_
              rotate_left
              refine RhOps.mk (RhOp.move (by decide) (.free rfl) 81 13 (fun _ w _ => Ext.refl w) rfl rfl rfl (fun _ _ h => h)) ?_
              refine RhOps.mk (RhOp.moveA (by decide) (.on 14 false rfl (fun _ _ h => h)) 6 (fun _ w _ => Ext.refl w) rfl rfl (.pointer (some ⟨rb, 0, none⟩)) rfl (fun _ _ _ => rfl)) ?_
              refine RhOps.mk (RhOp.at (by decide) (.on 14 false rfl (fun _ _ h => h)) ?_) ?_
              rotate_left
              refine RhOps.mk (RhOp.moveA (by decide) (.on 14 false rfl (fun _ _ h => h)) 7 (fun _ w _ => Ext.refl w) rfl rfl (.pointer (some ⟨xb, 0, none⟩)) rfl (fun _ _ _ => rfl)) ?_
              refine RhOps.mk (RhOp.at (by decide) (.on 14 false rfl (fun _ _ h => h)) ?_) ?_
              rotate_left
              refine RhOps.mk (RhOp.at (by decide) (.on 14 false rfl (fun _ _ h => h)) ?_) ?_
              rotate_left
              refine RhOps.mk (RhOp.at (by decide) (.free rfl) ?_) ?_
              rotate_left
              exact RhOps.done
              · intro bb vals ρ w' hC hd hS
                have r68 : ρ (.tmp 68) = .pointer (some ⟨rb, 0, none⟩) := (hS.tmp 68).trans (hd.at 0 rfl)
                have rf := hS.func
                refine (show givesR _ _ _ _ (fun v w'' => Ext w' w'' ∧ v = .int .i64 err2) from ?_)
                have hr := HR9.out.ext hC
                have hx := HX9.out.ext hC
                refine gives_call rfl (hS.func _) (by go_simp) ?_
                rw [show Array.map ρ #[Operand.tmp 68] = #[.pointer (some ⟨rb, 0, none⟩)] by simp [r68]]
                refine (rerr_c rb B2 bl at2 err2 w' hr).mono ?_
                rintro r w'' ⟨rfl, rfl⟩
                exact ⟨_, rfl, Ext.refl _, rfl⟩
              · intro bb vals ρ w' hC hd hS
                have r70 : ρ (.tmp 70) = .pointer (some ⟨xb, 0, none⟩) := (hS.tmp 70).trans (hd.at 2 rfl)
                refine (show givesR _ _ _ _ (fun v w'' => Ext w' w'' ∧ v = .pointer (some ⟨xb, 0, none⟩)) from ?_)
                clear hC hd hS
                go_simp
                exact Ext.refl _
              · intro bb vals ρ w' hC hd hS
                have r71 : ρ (.tmp 71) = .pointer (some ⟨xb, 0, none⟩) := (hS.tmp 71).trans (hd.at 3 rfl)
                refine (show givesR _ _ _ _ (fun v w'' => Ext w' w'' ∧ v = .pointer (some ⟨xb, 1, none⟩)) from ?_)
                clear hC hd hS
                go_simp
                exact Ext.refl _
              · intro bb vals ρ w' hC hd hS
                have r72 : ρ (.tmp 72) = .pointer (some ⟨xb, 1, none⟩) := (hS.tmp 72).trans (hd.at 4 rfl)
                have qc := hC.cell cx
                refine (show givesR _ _ _ _ (fun v w'' => Ext w' w'' ∧ v = .int .i64 err2) from ?_)
                clear hC hd hS
                go_simp
                exact Ext.refl _
              · intro bb vals ρ w' hC hd hS
                have r69 : ρ (.tmp 69) = .int .i64 err2 := (hS.tmp 69).trans (hd.at 1 rfl)
                have r73 : ρ (.tmp 73) = .int .i64 err2 := (hS.tmp 73).trans (hd.at 5 rfl)
                refine (show givesR _ _ _ _ (fun v w'' => Ext w' w'' ∧ v = .bool false) from ?_)
                clear hC hd hS
                go_simp
                exact Ext.refl _
              · intro bb vals ρ w' hC hd hS
                have r76 : ρ (.tmp 76) = .pointer (some ⟨rb, 0, none⟩) := (hS.tmp 76).trans (hd.at 8 rfl)
                have rf := hS.func
                refine (show givesR _ _ _ _ (fun v w'' => Ext w' w'' ∧ v = .int .i64 lf) from ?_)
                have hr := HR9.out.ext hC
                have hx := HX9.out.ext hC
                refine gives_call rfl (hS.func _) (by go_simp) ?_
                rw [show Array.map ρ #[Operand.tmp 76] = #[.pointer (some ⟨rb, 0, none⟩)] by simp [r76]]
                refine (rleft_c rb B2 bl at2 err2 w' hr HPL.out HAT2.out).mono ?_
                rintro r w'' ⟨rfl, nd, rfl⟩
                exact ⟨_, rfl, (Ext.refl _).drewN nd, by rw [HLF.out]⟩
              · intro bb vals ρ w' hC hd hS
                have r78 : ρ (.tmp 78) = .pointer (some ⟨xb, 0, none⟩) := (hS.tmp 78).trans (hd.at 10 rfl)
                have rf := hS.func
                refine (show givesR _ _ _ _ (fun v w'' => Ext w' w'' ∧ v = .int .i64 lf) from ?_)
                have hr := HR9.out.ext hC
                have hx := HX9.out.ext hC
                refine gives_call rfl (hS.func _) (by go_simp) ?_
                rw [show Array.map ρ #[Operand.tmp 78] = #[.pointer (some ⟨xb, 0, none⟩)] by simp [r78]]
                refine (rrleft_c xb B3 _ err2 w' hx).mono ?_
                rintro r w'' ⟨rfl, rfl⟩
                exact ⟨_, rfl, Ext.refl _, by rw [leftI_eq _ _ _ HAT2.out, HLF.out]⟩
              · intro bb vals ρ w' hC hd hS
                have r77 : ρ (.tmp 77) = .int .i64 lf := (hS.tmp 77).trans (hd.at 9 rfl)
                have r79 : ρ (.tmp 79) = .int .i64 lf := (hS.tmp 79).trans (hd.at 11 rfl)
                refine (show givesR _ _ _ _ (fun v w'' => Ext w' w'' ∧ v = .bool false) from ?_)
                clear hC hd hS
                go_simp
                exact Ext.refl _
              · intro bb vals ρ w' hC hd hS
                have r75 : ρ (.tmp 75) = .bool false := (hS.tmp 75).trans (hd.at 7 rfl)
                have r80 : ρ (.tmp 80) = .bool false := (hS.tmp 80).trans (hd.at 12 rfl)
                have rc := hS.const
                refine (show givesR _ _ _ _ (fun v w'' => Ext w' w'' ∧ v = .bool false) from ?_)
                clear hC hd hS
                go_simp
                exact Ext.refl _
              · intro bb vals ρ w' hC hd hS
                have r83 : ρ (.tmp 83) = .pointer (some ⟨rb, 0, none⟩) := (hS.tmp 83).trans (hd.at 15 rfl)
                have rf := hS.func
                refine (show givesR _ _ _ _ (fun v w'' => Ext w' w'' ∧ v = .int .i64 en) from ?_)
                have hr := HR9.out.ext hC
                have hx := HX9.out.ext hC
                refine gives_call rfl (hS.func _) (by go_simp) ?_
                rw [show Array.map ρ #[Operand.tmp 83] = #[.pointer (some ⟨rb, 0, none⟩)] by simp [r83]]
                refine (rend_c rb B2 bl at2 err2 w' hr HPL.out HAT2.out).mono ?_
                rintro r w'' ⟨rfl, hxx⟩
                exact ⟨_, rfl, hxx, by rw [HEN.out]⟩
              · intro bb vals ρ w' hC hd hS
                have r85 : ρ (.tmp 85) = .pointer (some ⟨xb, 0, none⟩) := (hS.tmp 85).trans (hd.at 17 rfl)
                have rf := hS.func
                refine (show givesR _ _ _ _ (fun v w'' => Ext w' w'' ∧ v = .int .i64 en) from ?_)
                have hr := HR9.out.ext hC
                have hx := HX9.out.ext hC
                refine gives_call rfl (hS.func _) (by go_simp) ?_
                rw [show Array.map ρ #[Operand.tmp 85] = #[.pointer (some ⟨xb, 0, none⟩)] by simp [r85]]
                refine (rrend_c xb B3 _ err2 w' hx).mono ?_
                rintro r w'' ⟨rfl, rfl⟩
                exact ⟨_, rfl, Ext.refl _, by rw [endI_eq _ _ _ HAT2.out, HEN.out]⟩
              · intro bb vals ρ w' hC hd hS
                have r84 : ρ (.tmp 84) = .int .i64 en := (hS.tmp 84).trans (hd.at 16 rfl)
                have r86 : ρ (.tmp 86) = .int .i64 en := (hS.tmp 86).trans (hd.at 18 rfl)
                refine (show givesR _ _ _ _ (fun v w'' => Ext w' w'' ∧ v = .bool false) from ?_)
                clear hC hd hS
                go_simp
                exact Ext.refl _
              · intro bb vals ρ w' hC hd hS
                have r82 : ρ (.tmp 82) = .bool false := (hS.tmp 82).trans (hd.at 14 rfl)
                have r87 : ρ (.tmp 87) = .bool false := (hS.tmp 87).trans (hd.at 19 rfl)
                have rc := hS.const
                refine (show givesR _ _ _ _ (fun v w'' => Ext w' w'' ∧ v = .bool false) from ?_)
                clear hC hd hS
                go_simp
                exact Ext.refl _
            intro vals w' hC hV
            have e20 : vals 20 = .bool false := hV 20 (by decide)
            have HC' := Lib.hid hC; clear hC hV
            simp only [List.drop_succ_cons, List.drop_zero]
            go_simp -- the frame
            go_wp2_with fail
            go_roundw
            case rel => exact ⟨k + 1, at2, err2, by omega, by go_num, HAT2.out, HR9.out.ext HC'.out, HX9.out.ext HC'.out, HB9.out.trans (HC'.out.below.mono HB9.out.size)⟩
            case measure => simp [intOf]; omega
          · have hke : (d.kind == 0) = false := by simp [hk0]
            clear hk0
            obtain ⟨s, at2, err2, hat2, htb, htx⟩ := text_both rb xb B2 B3 bl at' err HPL2.out HAT.out
            have HAT2 := Lib.hid hat2
            have TB := Lib.hid htb
            have TX := Lib.hid htx
            clear hat2 htb htx
            go_wp2_with fail
            refine (TB.out _ HR.out).mono ?_
            rintro e w8 ⟨rfl, h8, hm8⟩
            have HR8 := Lib.hid h8
            have HX8 := Lib.hid (HX.out.mod hm8 fun q h1 _ h3 => by have := HRX.out; omega)
            have HB8 := Lib.hid (HB.out.trans ((HR.out.below hm8).mono HBB.out))
            clear h8 hm8 c0
            go_wp2_with fail
            refine (TX.out _ HX8.out).mono ?_
            rintro e w9 ⟨rfl, h9, hm9⟩
            have HX9 := Lib.hid h9
            have HR9 := Lib.hid (HR8.out.above hm9 (by have := HRX.out; omega))
            have HB9 := Lib.hid (HB8.out.trans ((rrd_below HX8.out hm9).mono HBX.out))
            clear h9 hm9
            go_upto_region 16 with fail
            obtain ⟨lf, hlf⟩ : ∃ lf, lf = leftI bl at2 err2 := ⟨_, rfl⟩
            obtain ⟨en, hen⟩ : ∃ en, en = endI bl at2 err2 := ⟨_, rfl⟩
            have HLF : Hid (leftI bl at2 err2 = lf) := Lib.hid hlf.symm
            have HEN : Hid (endI bl at2 err2 = en) := Lib.hid hen.symm
            have cx := HX9.out.c1
            clear hlf hen
            refine wp_region_rx 21 _
              [ex (.pointer (some ⟨rb, 0, none⟩)),
                ex (.int .i64 err2),
                ex (.pointer (some ⟨xb, 0, none⟩)),
                ex (.pointer (some ⟨xb, 0, none⟩)),
                ex (.pointer (some ⟨xb, 1, none⟩)),
                ex (.int .i64 err2),
                ex (.bool false),
                ex (.bool false),
                ex (.pointer (some ⟨rb, 0, none⟩)),
                ex (.int .i64 lf),
                ex (.pointer (some ⟨xb, 0, none⟩)),
                ex (.int .i64 lf),
                ex (.bool false),
                ex (.bool false),
                ex (.bool false),
                ex (.pointer (some ⟨rb, 0, none⟩)),
                ex (.int .i64 en),
                ex (.pointer (some ⟨xb, 0, none⟩)),
                ex (.int .i64 en),
                ex (.bool false),
                ex (.bool false)]
              (by kernel_rfl) (by kernel_rfl) (by kernel_rfl) rfl ⟨ex_st, ex_st, ex_st, ex_st, ex_st, ex_st, ex_st, ex_st, ex_st, ex_st, ex_st, ex_st, ex_st, ex_st, ex_st, ex_st, ex_st, ex_st, ex_st, ex_st, ex_st, trivial⟩ ?_ ?_
            · simp only [List.take_succ_cons, List.take_zero]
              go_tidy
              refine RhOps.mk (RhOp.moveA (by decide) (.free rfl) 6 (fun _ w _ => Ext.refl w) rfl rfl (.pointer (some ⟨rb, 0, none⟩)) rfl (fun _ _ _ => rfl)) ?_
              refine RhOps.mk (RhOp.at (by decide) (.free rfl) ?_) ?_
              rotate_left
              refine RhOps.mk (RhOp.moveA (by decide) (.free rfl) 7 (fun _ w _ => Ext.refl w) rfl rfl (.pointer (some ⟨xb, 0, none⟩)) rfl (fun _ _ _ => rfl)) ?_
              refine RhOps.mk (RhOp.at (by decide) (.free rfl) ?_) ?_
              rotate_left
              refine RhOps.mk (RhOp.at (by decide) (.free rfl) ?_) ?_
              rotate_left
              refine RhOps.mk (RhOp.at (by decide) (.free rfl) ?_) ?_
              rotate_left
              refine RhOps.mk (RhOp.at (by decide) (.free rfl) ?_) ?_
              rotate_left
              refine RhOps.mk (RhOp.move (by decide) (.free rfl) 74 6 (fun _ w _ => Ext.refl w) rfl rfl rfl (fun _ _ h => h)) ?_
              refine RhOps.mk (RhOp.moveA (by decide) (.on 7 false rfl (fun _ _ h => h)) 6 (fun _ w _ => Ext.refl w) rfl rfl (.pointer (some ⟨rb, 0, none⟩)) rfl (fun _ _ _ => rfl)) ?_
              refine RhOps.mk (RhOp.at (by decide) (.on 7 false rfl (fun _ _ h => h)) ?_) ?_
              rotate_left
              refine RhOps.mk (RhOp.moveA (by decide) (.on 7 false rfl (fun _ _ h => h)) 7 (fun _ w _ => Ext.refl w) rfl rfl (.pointer (some ⟨xb, 0, none⟩)) rfl (fun _ _ _ => rfl)) ?_
              refine RhOps.mk (RhOp.at (by decide) (.on 7 false rfl (fun _ _ h => h)) ?_) ?_
              rotate_left
              refine RhOps.mk (RhOp.at (by decide) (.on 7 false rfl (fun _ _ h => h)) ?_) ?_
              rotate_left
              refine RhOps.mk (RhOp.at (by decide) (.free rfl) ?_) ?_
              rotate_left
              refine RhOps.mk (RhOp.move (by decide) (.free rfl) 81 13 (fun _ w _ => Ext.refl w) rfl rfl rfl (fun _ _ h => h)) ?_
              refine RhOps.mk (RhOp.moveA (by decide) (.on 14 false rfl (fun _ _ h => h)) 6 (fun _ w _ => Ext.refl w) rfl rfl (.pointer (some ⟨rb, 0, none⟩)) rfl (fun _ _ _ => rfl)) ?_
              refine RhOps.mk (RhOp.at (by decide) (.on 14 false rfl (fun _ _ h => h)) ?_) ?_
              rotate_left
              refine RhOps.mk (RhOp.moveA (by decide) (.on 14 false rfl (fun _ _ h => h)) 7 (fun _ w _ => Ext.refl w) rfl rfl (.pointer (some ⟨xb, 0, none⟩)) rfl (fun _ _ _ => rfl)) ?_
              refine RhOps.mk (RhOp.at (by decide) (.on 14 false rfl (fun _ _ h => h)) ?_) ?_
              rotate_left
              refine RhOps.mk (RhOp.at (by decide) (.on 14 false rfl (fun _ _ h => h)) ?_) ?_
              rotate_left
              refine RhOps.mk (RhOp.at (by decide) (.free rfl) ?_) ?_
              rotate_left
              exact RhOps.done
              · intro bb vals ρ w' hC hd hS
                have r68 : ρ (.tmp 68) = .pointer (some ⟨rb, 0, none⟩) := (hS.tmp 68).trans (hd.at 0 rfl)
                have rf := hS.func
                refine (show givesR _ _ _ _ (fun v w'' => Ext w' w'' ∧ v = .int .i64 err2) from ?_)
                have hr := HR9.out.ext hC
                have hx := HX9.out.ext hC
                refine gives_call rfl (hS.func _) (by go_simp) ?_
                rw [show Array.map ρ #[Operand.tmp 68] = #[.pointer (some ⟨rb, 0, none⟩)] by simp [r68]]
                refine (rerr_c rb B2 bl at2 err2 w' hr).mono ?_
                rintro r w'' ⟨rfl, rfl⟩
                exact ⟨_, rfl, Ext.refl _, rfl⟩
              · intro bb vals ρ w' hC hd hS
                have r70 : ρ (.tmp 70) = .pointer (some ⟨xb, 0, none⟩) := (hS.tmp 70).trans (hd.at 2 rfl)
                refine (show givesR _ _ _ _ (fun v w'' => Ext w' w'' ∧ v = .pointer (some ⟨xb, 0, none⟩)) from ?_)
                clear hC hd hS
                go_simp
                exact Ext.refl _
              · intro bb vals ρ w' hC hd hS
                have r71 : ρ (.tmp 71) = .pointer (some ⟨xb, 0, none⟩) := (hS.tmp 71).trans (hd.at 3 rfl)
                refine (show givesR _ _ _ _ (fun v w'' => Ext w' w'' ∧ v = .pointer (some ⟨xb, 1, none⟩)) from ?_)
                clear hC hd hS
                go_simp
                exact Ext.refl _
              · intro bb vals ρ w' hC hd hS
                have r72 : ρ (.tmp 72) = .pointer (some ⟨xb, 1, none⟩) := (hS.tmp 72).trans (hd.at 4 rfl)
                have qc := hC.cell cx
                refine (show givesR _ _ _ _ (fun v w'' => Ext w' w'' ∧ v = .int .i64 err2) from ?_)
                clear hC hd hS
                go_simp
                exact Ext.refl _
              · intro bb vals ρ w' hC hd hS
                have r69 : ρ (.tmp 69) = .int .i64 err2 := (hS.tmp 69).trans (hd.at 1 rfl)
                have r73 : ρ (.tmp 73) = .int .i64 err2 := (hS.tmp 73).trans (hd.at 5 rfl)
                refine (show givesR _ _ _ _ (fun v w'' => Ext w' w'' ∧ v = .bool false) from ?_)
                clear hC hd hS
                go_simp
                exact Ext.refl _
              · intro bb vals ρ w' hC hd hS
                have r76 : ρ (.tmp 76) = .pointer (some ⟨rb, 0, none⟩) := (hS.tmp 76).trans (hd.at 8 rfl)
                have rf := hS.func
                refine (show givesR _ _ _ _ (fun v w'' => Ext w' w'' ∧ v = .int .i64 lf) from ?_)
                have hr := HR9.out.ext hC
                have hx := HX9.out.ext hC
                refine gives_call rfl (hS.func _) (by go_simp) ?_
                rw [show Array.map ρ #[Operand.tmp 76] = #[.pointer (some ⟨rb, 0, none⟩)] by simp [r76]]
                refine (rleft_c rb B2 bl at2 err2 w' hr HPL.out HAT2.out).mono ?_
                rintro r w'' ⟨rfl, nd, rfl⟩
                exact ⟨_, rfl, (Ext.refl _).drewN nd, by rw [HLF.out]⟩
              · intro bb vals ρ w' hC hd hS
                have r78 : ρ (.tmp 78) = .pointer (some ⟨xb, 0, none⟩) := (hS.tmp 78).trans (hd.at 10 rfl)
                have rf := hS.func
                refine (show givesR _ _ _ _ (fun v w'' => Ext w' w'' ∧ v = .int .i64 lf) from ?_)
                have hr := HR9.out.ext hC
                have hx := HX9.out.ext hC
                refine gives_call rfl (hS.func _) (by go_simp) ?_
                rw [show Array.map ρ #[Operand.tmp 78] = #[.pointer (some ⟨xb, 0, none⟩)] by simp [r78]]
                refine (rrleft_c xb B3 _ err2 w' hx).mono ?_
                rintro r w'' ⟨rfl, rfl⟩
                exact ⟨_, rfl, Ext.refl _, by rw [leftI_eq _ _ _ HAT2.out, HLF.out]⟩
              · intro bb vals ρ w' hC hd hS
                have r77 : ρ (.tmp 77) = .int .i64 lf := (hS.tmp 77).trans (hd.at 9 rfl)
                have r79 : ρ (.tmp 79) = .int .i64 lf := (hS.tmp 79).trans (hd.at 11 rfl)
                refine (show givesR _ _ _ _ (fun v w'' => Ext w' w'' ∧ v = .bool false) from ?_)
                clear hC hd hS
                go_simp
                exact Ext.refl _
              · intro bb vals ρ w' hC hd hS
                have r75 : ρ (.tmp 75) = .bool false := (hS.tmp 75).trans (hd.at 7 rfl)
                have r80 : ρ (.tmp 80) = .bool false := (hS.tmp 80).trans (hd.at 12 rfl)
                have rc := hS.const
                refine (show givesR _ _ _ _ (fun v w'' => Ext w' w'' ∧ v = .bool false) from ?_)
                clear hC hd hS
                go_simp
                exact Ext.refl _
              · intro bb vals ρ w' hC hd hS
                have r83 : ρ (.tmp 83) = .pointer (some ⟨rb, 0, none⟩) := (hS.tmp 83).trans (hd.at 15 rfl)
                have rf := hS.func
                refine (show givesR _ _ _ _ (fun v w'' => Ext w' w'' ∧ v = .int .i64 en) from ?_)
                have hr := HR9.out.ext hC
                have hx := HX9.out.ext hC
                refine gives_call rfl (hS.func _) (by go_simp) ?_
                rw [show Array.map ρ #[Operand.tmp 83] = #[.pointer (some ⟨rb, 0, none⟩)] by simp [r83]]
                refine (rend_c rb B2 bl at2 err2 w' hr HPL.out HAT2.out).mono ?_
                rintro r w'' ⟨rfl, hxx⟩
                exact ⟨_, rfl, hxx, by rw [HEN.out]⟩
              · intro bb vals ρ w' hC hd hS
                have r85 : ρ (.tmp 85) = .pointer (some ⟨xb, 0, none⟩) := (hS.tmp 85).trans (hd.at 17 rfl)
                have rf := hS.func
                refine (show givesR _ _ _ _ (fun v w'' => Ext w' w'' ∧ v = .int .i64 en) from ?_)
                have hr := HR9.out.ext hC
                have hx := HX9.out.ext hC
                refine gives_call rfl (hS.func _) (by go_simp) ?_
                rw [show Array.map ρ #[Operand.tmp 85] = #[.pointer (some ⟨xb, 0, none⟩)] by simp [r85]]
                refine (rrend_c xb B3 _ err2 w' hx).mono ?_
                rintro r w'' ⟨rfl, rfl⟩
                exact ⟨_, rfl, Ext.refl _, by rw [endI_eq _ _ _ HAT2.out, HEN.out]⟩
              · intro bb vals ρ w' hC hd hS
                have r84 : ρ (.tmp 84) = .int .i64 en := (hS.tmp 84).trans (hd.at 16 rfl)
                have r86 : ρ (.tmp 86) = .int .i64 en := (hS.tmp 86).trans (hd.at 18 rfl)
                refine (show givesR _ _ _ _ (fun v w'' => Ext w' w'' ∧ v = .bool false) from ?_)
                clear hC hd hS
                go_simp
                exact Ext.refl _
              · intro bb vals ρ w' hC hd hS
                have r82 : ρ (.tmp 82) = .bool false := (hS.tmp 82).trans (hd.at 14 rfl)
                have r87 : ρ (.tmp 87) = .bool false := (hS.tmp 87).trans (hd.at 19 rfl)
                have rc := hS.const
                refine (show givesR _ _ _ _ (fun v w'' => Ext w' w'' ∧ v = .bool false) from ?_)
                clear hC hd hS
                go_simp
                exact Ext.refl _
            intro vals w' hC hV
            have e20 : vals 20 = .bool false := hV 20 (by decide)
            have HC' := Lib.hid hC; clear hC hV
            simp only [List.drop_succ_cons, List.drop_zero]
            go_simp -- the frame
            go_wp2_with fail
            go_roundw
            case rel => exact ⟨k + 1, at2, err2, by omega, by go_num, HAT2.out, HR9.out.ext HC'.out, HX9.out.ext HC'.out, HB9.out.trans (HC'.out.below.mono HB9.out.size)⟩
            case measure => simp [intOf]; omega
        · have hki : ((k : Int) < (n : Int)) = False := eq_false (by omega)
          clear hlt
          go_wp2_with fail
          refine (lives_c _).mono ?_
          rintro e w8 ⟨rfl, hx8⟩
          go_wp2
          go_ret
          exact ⟨rfl, HX2.out.below.trans ((HB.out.trans (hx8.below.mono HB.out.size)).mono HX2.out.size)⟩

end Go.Proofs.Ytlfnpbpbgncbpaa

/- Which bytes any row of numbers and texts is: the law BitsWrites, walked. -/
import Derived.Test.YtlfnpbpbgncbpaaB17
import Derived.Test.YtlfnpbpbgncbpaaB12
set_option linter.unusedVariables false
set_option linter.unusedSimpArgs false
namespace Go.Proofs.Ytlfnpbpbgncbpaa
open Go.RowKit

/-- A row that was appended to. -/
def AppOk (w w' : World) (B : Nat) (old v' : Value) (n : Nat) (xs : List Value) : Prop :=
  w'.ownsRow B 5 1 v' n xs ∧ Mod (fun q => old.ownBlock = some q) w w' ∧ (v'.ownBlock = old.ownBlock ∨ ∃ s, w.heap.size ≤ s ∧ v'.ownBlock = some s)
theorem AppOk.ext {w w' w'' : World} {B : Nat} {old v' : Value} {n : Nat} {xs : List Value} (h : AppOk w w' B old v' n xs) (hx : Ext w' w'') : AppOk w w'' B old v' n xs := ⟨owns_ext h.1 hx, h.2.1.ext hx, h.2.2⟩
theorem beside_app {w w' : World} {B B' wb n : Nat} {l : List Bool} {err : Int} {v v' : Value} {xs : List Value} (h : Beside w wb v) (hw : WrIs w B wb l err) (ha : AppOk w w' B' v v' n xs) :
    Beside w' wb v' ∧ WrIs w' B wb l err := by
  obtain ⟨_, hm, hat⟩ := ha
  have hlt := hw.lt
  have hwb : ¬ v.ownBlock = some wb := fun e => h wb e (.inl rfl)
  have hF : ∀ q, WrF w' wb q → WrF w wb q := by
    rintro q (rfl | ⟨u, h1, h2⟩)
    · exact .inl rfl
    · refine .inr ⟨u, ?_, h2⟩
      unfold World.cell? at h1 ⊢
      rwa [hm.block wb hlt hwb] at h1
  refine ⟨fun q hq hF' => ?_, ?_⟩
  · rcases hat with e | ⟨s, hs, e⟩
    · exact h q (by rw [← e]; exact hq) (hF q hF')
    · rw [e] at hq
      have := WrF.lt hw (hF q hF')
      simp only [Option.some.injEq] at hq
      omega
  · have hF2 := h
    obtain ⟨ao, cap, h1, h2, h3⟩ := hw
    exact ⟨ao, cap, (hm.block wb hlt hwb).trans h1, h2, owns_mod h3 hm fun q hq e => hF2 q e (.inr ⟨_, by rw [cell_of_blk h1]; rfl, hq⟩)⟩
def bwW (w9 : World) (B : Nat) (old : Value) (p m x : Nat) (al : List UInt8) : Nat → Nat → Value → World → Prop := fun q k v w' => match q with
  | 0 => k = 1 → ∃ bo bcap, v = .slice bo m bcap ∧ w'.ownsRow w9.heap.size 5 1 (.slice bo m bcap) m ((bbs (bitsOf x m)).map bv)
  | _ => AppOk w9 w' B old v (p + m) (al.map bv ++ (bbs (bitsOf x m)).map bv)
theorem bwW_ext {w9 : World} {B : Nat} {old : Value} {p m x : Nat} {al : List UInt8} : ∀ q k v w w', bwW w9 B old p m x al q k v w → Ext w w' → bwW w9 B old p m x al q k v w'
  | 0, _, _, _, _, h, hx => fun hk => by obtain ⟨bo, bcap, h1, h2⟩ := h hk; exact ⟨bo, bcap, h1, owns_ext h2 hx⟩
  | _ + 1, _, _, _, _, h, hx => AppOk.ext h hx
theorem bwW_next {w9 : World} {B : Nat} {old : Value} {p m x : Nat} {al : List UInt8} {w w' : World} : ∀ q v, q < 1 → bwW w9 B old p m x al q 1 v w → bwW w9 B old p m x al q 2 v w'
  | 0, _, _, _ => fun hk => absurd hk (by decide)
  | _ + 1, _, hq, _ => absurd hq (by omega)

theorem Wrote2.num {ds : List BDo} {bl : List Bool} {err : Int} {right : Bool} {al : List UInt8} (h : Wrote2 ds bl err right al) (d : BDo) (hk : d.kind = 0) :
    (right = true → fitsN d.x d.n → Wrote2 (ds ++ [d]) (stepL bl err d) (stepE err d) true (al ++ bbs (bitsOf d.x d.n.toNat))) ∧ (¬ (right = true ∧ fitsN d.x d.n) → ∀ al', Wrote2 (ds ++ [d]) (stepL bl err d) (stepE err d) false al') := by
  constructor
  · rintro hr hf
    rcases h with ⟨_, rfl, h2, h3⟩ | ⟨h0, _⟩
    · refine .inl ⟨rfl, ?_, ?_, ?_⟩
      · rw [stepE, if_pos hk, putE, if_neg (fun h => h.2 hf)]
      · rw [stepL, if_pos hk, putL, if_pos ⟨rfl, hf⟩, List.flatMap_append, h2]; simp [seg, hk]
      · rw [stepL, if_pos hk, putL, if_pos ⟨rfl, hf⟩, bbs_append, h3]
    · rw [hr] at h0; cases h0
  · intro hn al'
    refine .inr ⟨rfl, ?_⟩
    rw [stepE, if_pos hk, putE]
    rcases h with ⟨h0, rfl, _⟩ | ⟨_, rfl⟩
    · rw [if_pos ⟨rfl, fun hf => hn ⟨h0, hf⟩⟩]
    · rw [if_neg (by simp)]
theorem Wrote2.text {ds : List BDo} {bl : List Bool} {err : Int} {right : Bool} {al : List UInt8} (h : Wrote2 ds bl err right al) (d : BDo) (hk : ¬ d.kind = 0) :
    Wrote2 (ds ++ [d]) (stepL bl err d) (stepE err d) right (al ++ bbs (textBits d.s.data.toList)) := by
  rcases h with ⟨rfl, rfl, h2, h3⟩ | ⟨rfl, rfl⟩
  · refine .inl ⟨rfl, ?_, ?_, ?_⟩
    · rw [stepE, if_neg hk]
    · rw [stepL, if_neg hk, textL, if_pos rfl, List.flatMap_append, h2]; simp [seg, hk]
    · rw [stepL, if_neg hk, textL, if_pos rfl, bbs_append, h3]
  · exact .inr ⟨rfl, by rw [stepE, if_neg hk]⟩

set_option maxRecDepth 100000 in
set_option maxHeartbeats 8000000 in
theorem bitsWrites_calls (v : Value) (ds0 : List BDo) (W : World) (h : BDos W v ds0) :
    Calls Try.prog 3 #[v] W fun e w' => e = .returned (.bool true) ∧ Below W.heap.size W w' := by
  have H := Lib.hid h; clear h
  go_enter Try.func3, Try.ntmps3
  go_wp2_with fail
  refine (few_c v ds0 W H.out).mono ?_
  rintro e w1 ⟨v', ds, rfl, hx1, r1, r2, ⟨do', dcap, rfl⟩, r4⟩
  obtain ⟨n, hn⟩ : ∃ n, n = ds.length := ⟨_, rfl⟩
  rw [← hn] at r1 r4 ⊢
  have HN := Lib.hid hn
  have HX1 := Lib.hid hx1
  have HR2 := Lib.hid r2
  have HR4 := Lib.hid r4
  clear hn hx1 r2 r4
  go_wp2_with fail
  refine (wnew_c w1.heap.size w1 (Nat.le_refl _)).mono ?_
  rintro e w2 ⟨wb, rfl, hwb, hx2, h2⟩
  have HX2 := Lib.hid hx2
  have H2 := Lib.hid h2
  clear hx2 h2 hwb
  go_wp2_with fail
  go_loopw [3, 4, 5, 6] (fun v a r i wr => ∃ (k : Nat) (bl : List Bool) (err : Int) (right : Bool) (al : List UInt8) (ao : Option Addr) (acap : Nat), k ≤ n ∧ i = .int .i64 k ∧ v = .pointer (some ⟨wb, 0, none⟩) ∧ r = .bool right ∧ a = .slice ao al.length acap ∧
      bl.length ≤ 400 * k ∧ al.length ≤ 400 * k ∧ Wrote2 (ds.take k) bl err right al ∧ WrIs wr w1.heap.size wb bl err ∧ Below w1.heap.size w1 wr ∧ wr.ownsRow w1.heap.size 5 1 (.slice ao al.length acap) al.length (al.map bv) ∧ Beside wr wb (.slice ao al.length acap)) (fun _ _ _ i _ => n - (intOf i).toNat)
  case atStart => exact ⟨0, [], 0, true, [], none, 0, Nat.zero_le _, rfl, rfl, rfl, rfl, by decide, by decide, .inl ⟨rfl, rfl, rfl, rfl⟩, H2.out, HX2.out.below, World.ownsRow_nil _ _ _ _, fun q hq => by cases hq⟩
  case round =>
    obtain ⟨k, bl, err, right, al, ao, acap, hk, rfl, rfl, rfl, rfl, hbl, hal, hwr, hw, hb, hown, hbes⟩ := hrel
    obtain ⟨p, hp⟩ : ∃ p, p = al.length := ⟨_, rfl⟩
    rw [← hp] at hal hown hbes ⊢
    have HP := Lib.hid hp
    have HW := Lib.hid hw
    have HB := Lib.hid hb
    have HWR := Lib.hid hwr
    have HBK := Lib.hid hbl
    have HBL : Hid (bl.length ≤ 549755813888) := Lib.hid (by omega)
    have HPK := Lib.hid hal
    have HPB : Hid (p ≤ 100000) := Lib.hid (by omega)
    have HOWN := Lib.hid hown
    have HBES := Lib.hid hbes
    clear hw hb hwr hbl hal hown hbes hp
    by_cases hlt : k < n
    · obtain ⟨d, hd⟩ : ∃ d, ds[k]? = some d := ⟨_, List.getElem?_eq_getElem (by rw [← HN.out]; exact hlt)⟩
      obtain ⟨g, cap, he, hg1, hg2⟩ := World.ownsRow.form HR4.out (by omega)
      simp only [Value.slice.injEq] at he
      obtain ⟨rfl, _, hcc⟩ := he
      rw [hcc] at HR4 ⊢
      have q0 : w1.cell? ⟨g, k * 4, none⟩ = some (.int .i64 d.kind) := BRow.at HR4.out hd HN.out 0 (by decide)
      have q1 : w1.cell? ⟨g, k * 4 + 1, none⟩ = some (.int .u64 (d.x : Int)) := BRow.at HR4.out hd HN.out 1 (by decide)
      have q2 : w1.cell? ⟨g, k * 4 + 2, none⟩ = some (.int .i64 d.n) := BRow.at HR4.out hd HN.out 2 (by decide)
      have q3 : w1.cell? ⟨g, k * 4 + 3, none⟩ = some (.string d.s) := BRow.at HR4.out hd HN.out 3 (by decide)
      have c0 := Below.cellw HB.out q0
      have c3 := Below.cellw HB.out q3
      have HOK := Lib.hid (HR2.out d (List.mem_of_getElem? hd)).1
      have HS40 := Lib.hid (HR2.out d (List.mem_of_getElem? hd)).2
      have HTK : Hid (ds.take (k + 1) = ds.take k ++ [d]) := Lib.hid (by rw [List.take_add_one, hd]; rfl)
      have hki : (k : Int) < (n : Int) := by omega
      have HST := Lib.hid (stepL_length bl err d HS40.out)
      clear hd hg1 hg2 hcc
      by_cases hk0 : d.kind = 0
      · have HK0 := Lib.hid hk0
        rw [hk0] at c0
        clear hk0
        go_wp2_with fail
        refine wp_region_rs 12 _ [11]
          (fun k w' => (WrIs w' w1.heap.size wb (if k = 0 then bl else putL bl err d.x d.n) (if k = 0 then err else putE err d.x d.n)) ∧ WrMod wb wr w') Ext
          (svl [exk (.pointer (some ⟨wb, 0, none⟩)),
            exk (.slice (some ⟨g, 0, none⟩) n cap),
            exk (.int .i64 (k : Int)),
            exk (.pointer (some ⟨g, k * 4, none⟩)),
            exk (.pointer (some ⟨g, k * 4 + 1, none⟩)),
            exk (.int .u64 (d.x : Int)),
            exk (.slice (some ⟨g, 0, none⟩) n cap),
            exk (.int .i64 (k : Int)),
            exk (.pointer (some ⟨g, k * 4, none⟩)),
            exk (.pointer (some ⟨g, k * 4 + 2, none⟩)),
            exk (.int .i64 d.n),
            (fun _ _ _ => True)]
            [11] (fun _ _ v _ => v = .pointer (some ⟨wb, 0, none⟩)))
          (by kernel_rfl) (by kernel_rfl) (by kernel_rfl) (by kernel_rfl) rfl ⟨HW.out.ext (Ext.refl _).drew, WrMod.of_ext (Ext.refl _).drew HW.out.lt⟩ (fun _ w _ => Ext.refl w) (fun _ _ _ h hx => ⟨h.1.ext hx, h.2.trans (WrMod.of_ext hx h.1.lt)⟩)
          (fun b i v w1 w2 _ _ hV hx => svl_stays (R := Ext) (by exact ⟨exk_st, exk_st, exk_st, exk_st, exk_st, exk_st, exk_st, exk_st, exk_st, exk_st, exk_st, (fun _ _ _ _ _ _ => trivial), trivial⟩) (fun _ _ _ _ _ h _ => h) b i v w1 w2 hV hx) ?_ ?_
        · simp only [List.take_succ_cons, List.take_zero]
          go_tidy
          refine RsOps.mk (RsOp.moveA rfl (fun b => .free rfl) 3 (fun _ w _ => Ext.refl w) rfl rfl (.pointer (some ⟨wb, 0, none⟩)) rfl (fun _ _ _ => rfl)) ?_
          refine RsOps.mk (RsOp.moveA rfl (fun b => .free rfl) 0 (fun _ w _ => Ext.refl w) rfl rfl (.slice (some ⟨g, 0, none⟩) n cap) rfl (fun _ _ _ => rfl)) ?_
          refine RsOps.mk (RsOp.moveA rfl (fun b => .free rfl) 6 (fun _ w _ => Ext.refl w) rfl rfl (.int .i64 (k : Int)) rfl (fun _ _ _ => rfl)) ?_
          refine RsOps.mk (RsOp.at rfl (fun b => .free rfl) ?_) ?_
          rotate_left
          refine RsOps.mk (RsOp.at rfl (fun b => .free rfl) ?_) ?_
          rotate_left
          refine RsOps.mk (RsOp.at rfl (fun b => .free rfl) ?_) ?_
          rotate_left
          refine RsOps.mk (RsOp.moveA rfl (fun b => .free rfl) 0 (fun _ w _ => Ext.refl w) rfl rfl (.slice (some ⟨g, 0, none⟩) n cap) rfl (fun _ _ _ => rfl)) ?_
          refine RsOps.mk (RsOp.moveA rfl (fun b => .free rfl) 6 (fun _ w _ => Ext.refl w) rfl rfl (.int .i64 (k : Int)) rfl (fun _ _ _ => rfl)) ?_
          refine RsOps.mk (RsOp.at rfl (fun b => .free rfl) ?_) ?_
          rotate_left
          refine RsOps.mk (RsOp.at rfl (fun b => .free rfl) ?_) ?_
          rotate_left
          refine RsOps.mk (RsOp.at rfl (fun b => .free rfl) ?_) ?_
          rotate_left
          refine RsOps.mk (RsOp.chain 0 rfl (fun b => .free rfl) ?_) ?_
          rotate_left
          exact RsOps.done
          · intro bb vals ρ w' hC hd hS
            have r27 : ρ (.tmp 27) = .slice (some ⟨g, 0, none⟩) n cap := (hS.tmp 27).trans (hd.at 1 rfl)
            have r28 : ρ (.tmp 28) = .int .i64 (k : Int) := (hS.tmp 28).trans (hd.at 2 rfl)
            refine (show givesR _ _ _ _ (fun v w'' => Ext w' w'' ∧ v = .pointer (some ⟨g, k * 4, none⟩)) from ?_)
            clear hC hd hS
            go_simp
            exact Ext.refl _
          · intro bb vals ρ w' hC hd hS
            have r29 : ρ (.tmp 29) = .pointer (some ⟨g, k * 4, none⟩) := (hS.tmp 29).trans (hd.at 3 rfl)
            refine (show givesR _ _ _ _ (fun v w'' => Ext w' w'' ∧ v = .pointer (some ⟨g, k * 4 + 1, none⟩)) from ?_)
            clear hC hd hS
            go_simp
            exact Ext.refl _
          · intro bb vals ρ w' hC hd hS
            have r30 : ρ (.tmp 30) = .pointer (some ⟨g, k * 4 + 1, none⟩) := (hS.tmp 30).trans (hd.at 4 rfl)
            refine (show givesR _ _ _ _ (fun v w'' => Ext w' w'' ∧ v = .int .u64 (d.x : Int)) from ?_)
            have qq := Below.cellw (HB.out.trans (HW.out.below hC.2)) q1
            clear hC hd hS
            go_simp
            exact Ext.refl _
          · intro bb vals ρ w' hC hd hS
            have r32 : ρ (.tmp 32) = .slice (some ⟨g, 0, none⟩) n cap := (hS.tmp 32).trans (hd.at 6 rfl)
            have r33 : ρ (.tmp 33) = .int .i64 (k : Int) := (hS.tmp 33).trans (hd.at 7 rfl)
            refine (show givesR _ _ _ _ (fun v w'' => Ext w' w'' ∧ v = .pointer (some ⟨g, k * 4, none⟩)) from ?_)
            clear hC hd hS
            go_simp
            exact Ext.refl _
          · intro bb vals ρ w' hC hd hS
            have r34 : ρ (.tmp 34) = .pointer (some ⟨g, k * 4, none⟩) := (hS.tmp 34).trans (hd.at 8 rfl)
            refine (show givesR _ _ _ _ (fun v w'' => Ext w' w'' ∧ v = .pointer (some ⟨g, k * 4 + 2, none⟩)) from ?_)
            clear hC hd hS
            go_simp
            exact Ext.refl _
          · intro bb vals ρ w' hC hd hS
            have r35 : ρ (.tmp 35) = .pointer (some ⟨g, k * 4 + 2, none⟩) := (hS.tmp 35).trans (hd.at 9 rfl)
            refine (show givesR _ _ _ _ (fun v w'' => Ext w' w'' ∧ v = .int .i64 d.n) from ?_)
            have qq := Below.cellw (HB.out.trans (HW.out.below hC.2)) q2
            clear hC hd hS
            go_simp
            exact Ext.refl _
          · intro vals ρ w' hC hd hS
            have r26 : ρ (.tmp 26) = .pointer (some ⟨wb, 0, none⟩) := (hS.tmp 26).trans (hd.at 0 rfl)
            have r31 : ρ (.tmp 31) = .int .u64 (d.x : Int) := (hS.tmp 31).trans (hd.at 5 rfl)
            have r36 : ρ (.tmp 36) = .int .i64 d.n := (hS.tmp 36).trans (hd.at 10 rfl)
            have rf := hS.func
            have hw : WrIs w' w1.heap.size wb bl err := by simpa using hC.1
            refine gives_call rfl (hS.func _) (by go_simp) ?_
            rw [show Array.map ρ #[Operand.tmp 26, Operand.tmp 31, Operand.tmp 36] = #[.pointer (some ⟨wb, 0, none⟩), .int .u64 (d.x : Int), .int .i64 d.n] by simp [r26, r31, r36]]
            refine (wput_c wb w1.heap.size bl err d.x d.n w' hw HOK.out.1 HOK.out.2 HBL.out).mono ?_
            rintro r w'' ⟨rfl, h, hm⟩
            exact ⟨_, rfl, ⟨by simpa using h, hC.2.trans hm⟩, rfl, svl_next rfl ⟨exk_nx, exk_nx, exk_nx, exk_nx, exk_nx, exk_nx, exk_nx, exk_nx, exk_nx, exk_nx, exk_nx, (fun _ _ => trivial), trivial⟩ (fun q v hm => absurd hm (by omega))⟩
        intro vals w' hC hV
        have e11 : vals 11 = .pointer (some ⟨wb, 0, none⟩) := hV 11 (by decide)
        have HC' := Lib.hid hC; clear hC hV
        simp only [List.drop_succ_cons, List.drop_zero]
        have hC := HC'.out
        have hw8 : WrIs w' w1.heap.size wb (stepL bl err d) (stepE err d) := by
          have h1 := hC.1
          rw [stepL, stepE, if_pos HK0.out, if_pos HK0.out]
          simpa using h1
        have hb8 := HB.out.trans (HW.out.below hC.2)
        obtain ⟨hbs8, hal8⟩ := beside_wr HBES.out HOWN.out hC.2
        have HW8 := Lib.hid hw8
        have HB8 := Lib.hid hb8
        have HBS8 := Lib.hid hbs8
        have HAL8 := Lib.hid hal8
        clear hC hw8 hb8 hbs8 hal8 HC'
        obtain ⟨f, hf⟩ : ∃ f, f = decide (fitsN d.x d.n) := ⟨_, rfl⟩
        have HFD : Hid (decide (fitsN d.x d.n) = f) := Lib.hid hf.symm
        clear hf
        go_upto_region 10 with fail
        rename World => w8
        have p1 := Below.cellw HB8.out q1
        have p2 := Below.cellw HB8.out q2
        clear c0 c3 q0 q3
        cases right with
        | false =>
          refine wp_region_rx 14 _
            [ex (.bool false),
              ex (.bool false),
              ex undef,
              ex undef,
              ex undef,
              ex undef,
              ex undef,
              ex undef,
              ex undef,
              ex undef,
              ex undef,
              ex undef,
              ex undef,
              ex (.bool false)]
            (by kernel_rfl) (by kernel_rfl) (by kernel_rfl) rfl ⟨ex_st, ex_st, ex_st, ex_st, ex_st, ex_st, ex_st, ex_st, ex_st, ex_st, ex_st, ex_st, ex_st, ex_st, trivial⟩ ?_ ?_
          · simp only [List.take_succ_cons, List.take_zero]
            go_tidy
            refine RhOps.mk (RhOp.moveA (by decide) (.free rfl) 5 (fun _ w _ => Ext.refl w) rfl rfl (.bool false) rfl (fun _ _ _ => rfl)) ?_
            refine RhOps.mk (RhOp.move (by decide) (.free rfl) 38 0 (fun _ w _ => Ext.refl w) rfl rfl rfl (fun _ _ h => h)) ?_
            refine RhOps.mk (RhOp.off (by decide) (.by 1 true rfl (fun _ _ h => h)) (fun _ _ _ => rfl)) ?_
            refine RhOps.mk (RhOp.off (by decide) (.by 1 true rfl (fun _ _ h => h)) (fun _ _ _ => rfl)) ?_
            refine RhOps.mk (RhOp.off (by decide) (.by 1 true rfl (fun _ _ h => h)) (fun _ _ _ => rfl)) ?_
            refine RhOps.mk (RhOp.off (by decide) (.by 1 true rfl (fun _ _ h => h)) (fun _ _ _ => rfl)) ?_
            refine RhOps.mk (RhOp.off (by decide) (.by 1 true rfl (fun _ _ h => h)) (fun _ _ _ => rfl)) ?_
            refine RhOps.mk (RhOp.off (by decide) (.by 1 true rfl (fun _ _ h => h)) (fun _ _ _ => rfl)) ?_
            refine RhOps.mk (RhOp.off (by decide) (.by 1 true rfl (fun _ _ h => h)) (fun _ _ _ => rfl)) ?_
            refine RhOps.mk (RhOp.off (by decide) (.by 1 true rfl (fun _ _ h => h)) (fun _ _ _ => rfl)) ?_
            refine RhOps.mk (RhOp.off (by decide) (.by 1 true rfl (fun _ _ h => h)) (fun _ _ _ => rfl)) ?_
            refine RhOps.mk (RhOp.off (by decide) (.by 1 true rfl (fun _ _ h => h)) (fun _ _ _ => rfl)) ?_
            refine RhOps.mk (RhOp.off (by decide) (.by 1 true rfl (fun _ _ h => h)) (fun _ _ _ => rfl)) ?_
            refine RhOps.mk (RhOp.at (by decide) (.free rfl) ?_) ?_
            rotate_left
            exact RhOps.done
            · intro bb vals ρ w' hC hd hS
              have r39 : ρ (.tmp 39) = .bool false := (hS.tmp 39).trans (hd.at 1 rfl)
              have r50 : ρ (.tmp 50) = undef := (hS.tmp 50).trans (hd.at 12 rfl)
              have rc := hS.const
              refine (show givesR _ _ _ _ (fun v w'' => Ext w' w'' ∧ v = .bool false) from ?_)
              clear hC hd hS
              go_simp
              exact Ext.refl _
          intro vals w' hC hV
          have e13 := hV 13 (by decide)
          simp only [vlist, ex, List.getD_cons_zero, List.getD_cons_succ] at e13
          have HC' := Lib.hid hC; clear hC hV
          simp only [List.drop_succ_cons, List.drop_zero]
          have HW9 := Lib.hid (HW8.out.ext HC'.out)
          have HB9 := Lib.hid (HB8.out.trans (HC'.out.below.mono HB8.out.size))
          have HBS9 := Lib.hid (beside_ext HBS8.out HW8.out HC'.out)
          have HAL9 := Lib.hid (owns_ext HAL8.out HC'.out)
          go_wp2_with fail
          go_roundw
          case rel => exact ⟨k + 1, stepL bl err d, stepE err d, false, al, ao, acap, by omega, by go_num, rfl, rfl, by rw [← HP.out], by have := HST.out; have := HBK.out; omega, by have := HPK.out; have := HP.out; omega, by rw [HTK.out]; exact (HWR.out.num d HK0.out).2 (fun h => by cases h.1) al, HW9.out, HB9.out, by rw [← HP.out]; exact HAL9.out, by rw [← HP.out]; exact HBS9.out⟩
          case measure => simp [intOf]; omega
        | true =>
          refine wp_region_rx 14 _
            [ex (.bool true),
              ex (.bool true),
              ex (.slice (some ⟨g, 0, none⟩) n cap),
              ex (.int .i64 (k : Int)),
              ex (.pointer (some ⟨g, k * 4, none⟩)),
              ex (.pointer (some ⟨g, k * 4 + 1, none⟩)),
              ex (.int .u64 (d.x : Int)),
              ex (.slice (some ⟨g, 0, none⟩) n cap),
              ex (.int .i64 (k : Int)),
              ex (.pointer (some ⟨g, k * 4, none⟩)),
              ex (.pointer (some ⟨g, k * 4 + 2, none⟩)),
              ex (.int .i64 d.n),
              ex (.bool f),
              ex (.bool f)]
            (by kernel_rfl) (by kernel_rfl) (by kernel_rfl) rfl ⟨ex_st, ex_st, ex_st, ex_st, ex_st, ex_st, ex_st, ex_st, ex_st, ex_st, ex_st, ex_st, ex_st, ex_st, trivial⟩ ?_ ?_
          · simp only [List.take_succ_cons, List.take_zero]
            go_tidy
            refine RhOps.mk (RhOp.moveA (by decide) (.free rfl) 5 (fun _ w _ => Ext.refl w) rfl rfl (.bool true) rfl (fun _ _ _ => rfl)) ?_
            refine RhOps.mk (RhOp.move (by decide) (.free rfl) 38 0 (fun _ w _ => Ext.refl w) rfl rfl rfl (fun _ _ h => h)) ?_
            refine RhOps.mk (RhOp.moveA (by decide) (.on 1 true rfl (fun _ _ h => h)) 0 (fun _ w _ => Ext.refl w) rfl rfl (.slice (some ⟨g, 0, none⟩) n cap) rfl (fun _ _ _ => rfl)) ?_
            refine RhOps.mk (RhOp.moveA (by decide) (.on 1 true rfl (fun _ _ h => h)) 6 (fun _ w _ => Ext.refl w) rfl rfl (.int .i64 (k : Int)) rfl (fun _ _ _ => rfl)) ?_
            refine RhOps.mk (RhOp.at (by decide) (.on 1 true rfl (fun _ _ h => h)) ?_) ?_
            rotate_left
            refine RhOps.mk (RhOp.at (by decide) (.on 1 true rfl (fun _ _ h => h)) ?_) ?_
            rotate_left
            refine RhOps.mk (RhOp.at (by decide) (.on 1 true rfl (fun _ _ h => h)) ?_) ?_
            rotate_left
            refine RhOps.mk (RhOp.moveA (by decide) (.on 1 true rfl (fun _ _ h => h)) 0 (fun _ w _ => Ext.refl w) rfl rfl (.slice (some ⟨g, 0, none⟩) n cap) rfl (fun _ _ _ => rfl)) ?_
            refine RhOps.mk (RhOp.moveA (by decide) (.on 1 true rfl (fun _ _ h => h)) 6 (fun _ w _ => Ext.refl w) rfl rfl (.int .i64 (k : Int)) rfl (fun _ _ _ => rfl)) ?_
            refine RhOps.mk (RhOp.at (by decide) (.on 1 true rfl (fun _ _ h => h)) ?_) ?_
            rotate_left
            refine RhOps.mk (RhOp.at (by decide) (.on 1 true rfl (fun _ _ h => h)) ?_) ?_
            rotate_left
            refine RhOps.mk (RhOp.at (by decide) (.on 1 true rfl (fun _ _ h => h)) ?_) ?_
            rotate_left
            refine RhOps.mk (RhOp.at (by decide) (.on 1 true rfl (fun _ _ h => h)) ?_) ?_
            rotate_left
            refine RhOps.mk (RhOp.at (by decide) (.free rfl) ?_) ?_
            rotate_left
            exact RhOps.done
            · intro bb vals ρ w' hC hd hS
              have r40 : ρ (.tmp 40) = .slice (some ⟨g, 0, none⟩) n cap := (hS.tmp 40).trans (hd.at 2 rfl)
              have r41 : ρ (.tmp 41) = .int .i64 (k : Int) := (hS.tmp 41).trans (hd.at 3 rfl)
              refine (show givesR _ _ _ _ (fun v w'' => Ext w' w'' ∧ v = .pointer (some ⟨g, k * 4, none⟩)) from ?_)
              clear hC hd hS
              go_simp
              exact Ext.refl _
            · intro bb vals ρ w' hC hd hS
              have r42 : ρ (.tmp 42) = .pointer (some ⟨g, k * 4, none⟩) := (hS.tmp 42).trans (hd.at 4 rfl)
              refine (show givesR _ _ _ _ (fun v w'' => Ext w' w'' ∧ v = .pointer (some ⟨g, k * 4 + 1, none⟩)) from ?_)
              clear hC hd hS
              go_simp
              exact Ext.refl _
            · intro bb vals ρ w' hC hd hS
              have r43 : ρ (.tmp 43) = .pointer (some ⟨g, k * 4 + 1, none⟩) := (hS.tmp 43).trans (hd.at 5 rfl)
              have qc := hC.cell p1
              refine (show givesR _ _ _ _ (fun v w'' => Ext w' w'' ∧ v = .int .u64 (d.x : Int)) from ?_)
              clear hC hd hS
              go_simp
              exact Ext.refl _
            · intro bb vals ρ w' hC hd hS
              have r45 : ρ (.tmp 45) = .slice (some ⟨g, 0, none⟩) n cap := (hS.tmp 45).trans (hd.at 7 rfl)
              have r46 : ρ (.tmp 46) = .int .i64 (k : Int) := (hS.tmp 46).trans (hd.at 8 rfl)
              refine (show givesR _ _ _ _ (fun v w'' => Ext w' w'' ∧ v = .pointer (some ⟨g, k * 4, none⟩)) from ?_)
              clear hC hd hS
              go_simp
              exact Ext.refl _
            · intro bb vals ρ w' hC hd hS
              have r47 : ρ (.tmp 47) = .pointer (some ⟨g, k * 4, none⟩) := (hS.tmp 47).trans (hd.at 9 rfl)
              refine (show givesR _ _ _ _ (fun v w'' => Ext w' w'' ∧ v = .pointer (some ⟨g, k * 4 + 2, none⟩)) from ?_)
              clear hC hd hS
              go_simp
              exact Ext.refl _
            · intro bb vals ρ w' hC hd hS
              have r48 : ρ (.tmp 48) = .pointer (some ⟨g, k * 4 + 2, none⟩) := (hS.tmp 48).trans (hd.at 10 rfl)
              have qc := hC.cell p2
              refine (show givesR _ _ _ _ (fun v w'' => Ext w' w'' ∧ v = .int .i64 d.n) from ?_)
              clear hC hd hS
              go_simp
              exact Ext.refl _
            · intro bb vals ρ w' hC hd hS
              have r44 : ρ (.tmp 44) = .int .u64 (d.x : Int) := (hS.tmp 44).trans (hd.at 6 rfl)
              have r49 : ρ (.tmp 49) = .int .i64 d.n := (hS.tmp 49).trans (hd.at 11 rfl)
              have rf := hS.func
              refine (show givesR _ _ _ _ (fun v w'' => Ext w' w'' ∧ v = .bool f) from ?_)
              refine gives_call rfl (hS.func _) (by go_simp) ?_
              rw [show Array.map ρ #[Operand.tmp 44, Operand.tmp 49] = #[.int .u64 (d.x : Int), .int .i64 d.n] by simp [r44, r49]]
              refine (rfits_c d.x d.n w' HOK.out.1 HOK.out.2).mono ?_
              rintro r w'' ⟨rfl, rfl⟩
              exact ⟨_, rfl, Ext.refl _, by rw [HFD.out]⟩
            · intro bb vals ρ w' hC hd hS
              have r39 : ρ (.tmp 39) = .bool true := (hS.tmp 39).trans (hd.at 1 rfl)
              have r50 : ρ (.tmp 50) = .bool f := (hS.tmp 50).trans (hd.at 12 rfl)
              have rc := hS.const
              refine (show givesR _ _ _ _ (fun v w'' => Ext w' w'' ∧ v = .bool f) from ?_)
              clear hC hd hS
              go_simp
              exact Ext.refl _
          intro vals w' hC hV
          have e13 := hV 13 (by decide)
          simp only [vlist, ex, List.getD_cons_zero, List.getD_cons_succ] at e13
          have HC' := Lib.hid hC; clear hC hV
          simp only [List.drop_succ_cons, List.drop_zero]
          have HW9 := Lib.hid (HW8.out.ext HC'.out)
          have HB9 := Lib.hid (HB8.out.trans (HC'.out.below.mono HB8.out.size))
          have HBS9 := Lib.hid (beside_ext HBS8.out HW8.out HC'.out)
          have HAL9 := Lib.hid (owns_ext HAL8.out HC'.out)
          cases f with
          | false =>
            have hnf := of_decide_eq_false HFD.out
            have HNF := Lib.hid hnf
            clear hnf
            go_wp2_with fail
            go_roundw
            case rel => exact ⟨k + 1, stepL bl err d, stepE err d, false, al, ao, acap, by omega, by go_num, rfl, rfl, by rw [← HP.out], by have := HST.out; have := HBK.out; omega, by have := HPK.out; have := HP.out; omega, by rw [HTK.out]; exact (HWR.out.num d HK0.out).2 (fun h => HNF.out h.2) al, HW9.out, HB9.out, by rw [← HP.out]; exact HAL9.out, by rw [← HP.out]; exact HBS9.out⟩
            case measure => simp [intOf]; omega
          | true =>
            have hfit := of_decide_eq_true HFD.out
            have HFIT := Lib.hid hfit
            obtain ⟨m, hm⟩ : ∃ m : Nat, d.n = (m : Int) := Int.eq_ofNat_of_zero_le hfit.1
            have HMM : Hid (m ≤ 64) := Lib.hid (by have := hfit.2.1; omega)
            have HDN := Lib.hid hm
            rw [hm] at p2
            have p1 := HC'.out.cell p1
            have p2 := HC'.out.cell p2
            have HAL := HAL9
            have HSZ9 : Hid (w1.heap.size ≤ w'.heap.size) := Lib.hid HB9.out.size
            clear hfit hm HC' q1 q2
            go_upto_region 12 with fail
            rename World => w9
            refine wp_region_rs 13 _ [11, 12]
              (fun k w' => k < 2 → Ext w9 w') Ext
              (svl [exk (.slice ao p acap),
                exk (.slice (some ⟨g, 0, none⟩) n cap),
                exk (.int .i64 (k : Int)),
                exk (.pointer (some ⟨g, k * 4, none⟩)),
                exk (.pointer (some ⟨g, k * 4 + 1, none⟩)),
                exk (.int .u64 (d.x : Int)),
                exk (.slice (some ⟨g, 0, none⟩) n cap),
                exk (.int .i64 (k : Int)),
                exk (.pointer (some ⟨g, k * 4, none⟩)),
                exk (.pointer (some ⟨g, k * 4 + 2, none⟩)),
                exk (.int .i64 (m : Int)),
                (fun _ _ _ => True),
                (fun _ _ _ => True)]
                [11, 12] (bwW w9 w1.heap.size (.slice ao p acap) p m d.x al))
              (by kernel_rfl) (by kernel_rfl) (by kernel_rfl) (by kernel_rfl) rfl (fun _ => (Ext.refl _).drew) (fun _ w _ => Ext.refl w) (fun _ _ _ h hx hk => (h hk).trans hx)
              (fun b i v w1 w2 _ _ hV hx => svl_stays (R := Ext) (by exact ⟨exk_st, exk_st, exk_st, exk_st, exk_st, exk_st, exk_st, exk_st, exk_st, exk_st, exk_st, (fun _ _ _ _ _ _ => trivial), (fun _ _ _ _ _ _ => trivial), trivial⟩) bwW_ext b i v w1 w2 hV hx) ?_ ?_
            · simp only [List.take_succ_cons, List.take_zero]
              go_tidy
              refine RsOps.mk (RsOp.moveA rfl (fun b => .free rfl) 4 (fun _ w _ => Ext.refl w) rfl rfl (.slice ao p acap) rfl (fun _ _ _ => rfl)) ?_
              refine RsOps.mk (RsOp.moveA rfl (fun b => .free rfl) 0 (fun _ w _ => Ext.refl w) rfl rfl (.slice (some ⟨g, 0, none⟩) n cap) rfl (fun _ _ _ => rfl)) ?_
              refine RsOps.mk (RsOp.moveA rfl (fun b => .free rfl) 6 (fun _ w _ => Ext.refl w) rfl rfl (.int .i64 (k : Int)) rfl (fun _ _ _ => rfl)) ?_
              refine RsOps.mk (RsOp.at rfl (fun b => .free rfl) ?_) ?_
              rotate_left
              refine RsOps.mk (RsOp.at rfl (fun b => .free rfl) ?_) ?_
              rotate_left
              refine RsOps.mk (RsOp.early 0 11 rfl rfl rfl rfl (fun b => .free rfl) ?_) ?_
              rotate_left
              refine RsOps.mk (RsOp.moveA rfl (fun b => .free rfl) 0 (fun _ w _ => Ext.refl w) rfl rfl (.slice (some ⟨g, 0, none⟩) n cap) rfl (fun _ _ _ => rfl)) ?_
              refine RsOps.mk (RsOp.moveA rfl (fun b => .free rfl) 6 (fun _ w _ => Ext.refl w) rfl rfl (.int .i64 (k : Int)) rfl (fun _ _ _ => rfl)) ?_
              refine RsOps.mk (RsOp.at rfl (fun b => .free rfl) ?_) ?_
              rotate_left
              refine RsOps.mk (RsOp.at rfl (fun b => .free rfl) ?_) ?_
              rotate_left
              refine RsOps.mk (RsOp.early 0 11 rfl rfl rfl rfl (fun b => .free rfl) ?_) ?_
              rotate_left
              refine RsOps.mk (RsOp.chain 0 rfl (fun b => .free rfl) ?_) ?_
              rotate_left
              refine RsOps.mk (RsOp.chain 1 rfl (fun b => .free rfl) ?_) ?_
              rotate_left
              exact RsOps.done
              · intro bb vals ρ w' hC hd hS
                have r54 : ρ (.tmp 54) = .slice (some ⟨g, 0, none⟩) n cap := (hS.tmp 54).trans (hd.at 1 rfl)
                have r55 : ρ (.tmp 55) = .int .i64 (k : Int) := (hS.tmp 55).trans (hd.at 2 rfl)
                refine (show givesR _ _ _ _ (fun v w'' => Ext w' w'' ∧ v = .pointer (some ⟨g, k * 4, none⟩)) from ?_)
                clear hC hd hS
                go_simp
                exact Ext.refl _
              · intro bb vals ρ w' hC hd hS
                have r56 : ρ (.tmp 56) = .pointer (some ⟨g, k * 4, none⟩) := (hS.tmp 56).trans (hd.at 3 rfl)
                refine (show givesR _ _ _ _ (fun v w'' => Ext w' w'' ∧ v = .pointer (some ⟨g, k * 4 + 1, none⟩)) from ?_)
                clear hC hd hS
                go_simp
                exact Ext.refl _
              · intro bb vals ρ w' hb hC hd hS
                have r57 : ρ (.tmp 57) = .pointer (some ⟨g, k * 4 + 1, none⟩) := (hS.tmp 57).trans (hd.at 4 rfl)
                refine (show givesR _ _ _ _ (fun v w'' => Ext w' w'' ∧ v = .int .u64 (d.x : Int)) from ?_)
                have qq := (hC (by omega)).cell p1
                clear hC hd hS
                go_simp
                exact Ext.refl _
              · intro bb vals ρ w' hC hd hS
                have r59 : ρ (.tmp 59) = .slice (some ⟨g, 0, none⟩) n cap := (hS.tmp 59).trans (hd.at 6 rfl)
                have r60 : ρ (.tmp 60) = .int .i64 (k : Int) := (hS.tmp 60).trans (hd.at 7 rfl)
                refine (show givesR _ _ _ _ (fun v w'' => Ext w' w'' ∧ v = .pointer (some ⟨g, k * 4, none⟩)) from ?_)
                clear hC hd hS
                go_simp
                exact Ext.refl _
              · intro bb vals ρ w' hC hd hS
                have r61 : ρ (.tmp 61) = .pointer (some ⟨g, k * 4, none⟩) := (hS.tmp 61).trans (hd.at 8 rfl)
                refine (show givesR _ _ _ _ (fun v w'' => Ext w' w'' ∧ v = .pointer (some ⟨g, k * 4 + 2, none⟩)) from ?_)
                clear hC hd hS
                go_simp
                exact Ext.refl _
              · intro bb vals ρ w' hb hC hd hS
                have r62 : ρ (.tmp 62) = .pointer (some ⟨g, k * 4 + 2, none⟩) := (hS.tmp 62).trans (hd.at 9 rfl)
                refine (show givesR _ _ _ _ (fun v w'' => Ext w' w'' ∧ v = .int .i64 (m : Int)) from ?_)
                have qq := (hC (by omega)).cell p2
                clear hC hd hS
                go_simp
                exact Ext.refl _
              · intro vals ρ w' hC hd hS
                have r58 : ρ (.tmp 58) = .int .u64 (d.x : Int) := (hS.tmp 58).trans (hd.at 5 rfl)
                have r63 : ρ (.tmp 63) = .int .i64 (m : Int) := (hS.tmp 63).trans (hd.at 10 rfl)
                have rf := hS.func
                have hx := hC (by decide)
                refine gives_call rfl (hS.func _) (by go_simp) ?_
                rw [show Array.map ρ #[Operand.tmp 58, Operand.tmp 63] = #[.int .u64 (d.x : Int), .int .i64 (m : Int)] by simp [r58, r63]]
                refine (rbits_c d.x m w' HMM.out HOK.out.1).mono ?_
                rintro r w'' ⟨bo, bcap, rfl, hx2, ho⟩
                exact ⟨_, rfl, fun _ => hx.trans hx2, fun _ => ⟨bo, bcap, rfl, owns_base ho hx.size⟩, svl_next rfl ⟨exk_nx, exk_nx, exk_nx, exk_nx, exk_nx, exk_nx, exk_nx, exk_nx, exk_nx, exk_nx, exk_nx, (fun _ _ => trivial), (fun _ _ => trivial), trivial⟩ (fun q v hm => absurd hm (by omega))⟩
              · intro vals ρ w' hC hd hS
                have r53 : ρ (.tmp 53) = .slice ao p acap := (hS.tmp 53).trans (hd.at 0 rfl)
                have d11 := hd.at 11 rfl
                have r64 : ρ (.tmp 64) = vals 11 := hS.tmp 64
                have hx := hC (by decide)
                obtain ⟨bo, bcap, e11, ho⟩ := (svl_done (m := 0) rfl d11).2 rfl
                rw [e11] at r64
                refine givesR_app (.tmp 53) (.tmp 64) 26 rfl etBytes w1.heap.size r53 (owns_ext HAL.out hx) r64 (Rs.of_owns ho) (oneCell_bv _) (by have := HPB.out; have := HMM.out; omega) (by have := HPB.out; have := HMM.out; omega) (Nat.le_trans HSZ9.out hx.size) ?_
                intro v' w'' hown hgr hat
                exact ⟨fun h => absurd h (by decide), ⟨hown, Mod.trans hx.mod (Mod.grown_row hgr) fun i hi _ => hi, hat.imp id fun e => ⟨w'.heap.size, hx.size, e⟩⟩, svl_next rfl ⟨exk_nx, exk_nx, exk_nx, exk_nx, exk_nx, exk_nx, exk_nx, exk_nx, exk_nx, exk_nx, exk_nx, (fun _ _ => trivial), (fun _ _ => trivial), trivial⟩ bwW_next⟩
            intro vals w' hC hV
            have e12 : AppOk w9 w' w1.heap.size (.slice ao p acap) (vals 12) (p + m) ((al ++ bbs (bitsOf d.x m)).map bv) := (by have := (svl_done (m := 1) rfl (hV 12 (by decide))).2; rw [List.map_append]; exact this)
            have HC' := Lib.hid hC; clear hC hV
            simp only [List.drop_succ_cons, List.drop_zero]
            obtain ⟨no, ncap, hsh⟩ := owns_shape e12.1
            rw [hsh] at e12
            obtain ⟨hbs, hwi⟩ := beside_app HBS9.out HW9.out e12
            have HBSF := Lib.hid hbs
            have HWF := Lib.hid hwi
            have HALF := Lib.hid e12.1
            have HBF : Hid (Below w1.heap.size w1 w') := Lib.hid (HB9.out.trans (e12.2.1.below HSZ9.out fun q hq => (owns_block HAL9.out hq).1))
            clear e12 hbs hwi p1 p2
            go_wp2_with fail
            go_roundw
            case rel =>
              have hl : (al ++ bbs (bitsOf d.x m)).length = p + m := by rw [List.length_append, bbs_length, bitsOf_length, HP.out]
              have hnn : d.n.toNat = m := by rw [HDN.out, Int.toNat_natCast]
              refine ⟨k + 1, stepL bl err d, stepE err d, true, al ++ bbs (bitsOf d.x m), no, ncap, by omega, by go_num, rfl, rfl, by rw [hl], by have := HST.out; have := HBK.out; omega, by rw [hl]; have := HPK.out; have := HMM.out; omega, ?_, HWF.out, HBF.out, by rw [hl]; exact HALF.out, by rw [hl]; exact HBSF.out⟩
              rw [HTK.out]
              have := (HWR.out.num d HK0.out).1 rfl HFIT.out
              rwa [hnn] at this
            case measure => simp [intOf]; omega
      · have HK0 := Lib.hid hk0
        have hk0' : (d.kind == 0) = false := by simp [hk0]
        clear hk0
        go_wp2_with fail
        refine (wtext_c wb w1.heap.size bl err d.s _ HW.out (by have := HS40.out; omega) HBL.out).mono ?_
        rintro r w8 ⟨rfl, h3, hm3⟩
        obtain ⟨hbs8, hal8⟩ := beside_wr HBES.out HOWN.out hm3
        have HW8 := Lib.hid h3
        have HB8 := Lib.hid (HB.out.trans (HW.out.below hm3))
        have HBS8 := Lib.hid hbs8
        have HAL8 := Lib.hid hal8
        have c3 := Below.cellw HB8.out q3
        clear h3 hm3 hbs8 hal8 c0 q0 q1 q2 q3
        go_wp2_with fail
        have ht := rtextb_c d.s w8 HS40.out
        obtain ⟨t, htt⟩ : ∃ t, t = 16 + 8 * d.s.size := ⟨_, rfl⟩
        rw [← htt] at ht
        have HTT : Hid (t = 16 + 8 * d.s.size ∧ t ≤ 336) := Lib.hid ⟨htt, by have := HS40.out; omega⟩
        refine ht.mono ?_
        clear ht htt
        rintro r w9 ⟨bo, bcap, rfl, hx9, ho9⟩
        have HW9 := Lib.hid (HW8.out.ext hx9)
        have HB9 := Lib.hid (HB8.out.trans (hx9.below.mono HB8.out.size))
        have HBS9 := Lib.hid (beside_ext HBS8.out HW8.out hx9)
        have HAL9 := Lib.hid (owns_ext HAL8.out hx9)
        have HO9 := Lib.hid ho9
        have HSZ9 : Hid (w1.heap.size ≤ w9.heap.size) := Lib.hid HB9.out.size
        clear hx9 ho9 c3
        go_wp2_with (first | (at_builtin; go_loud (refine wpList_app_at rfl (.tmp 73) (.tmp 79) 26 rfl etBytes w1.heap.size rfl HAL9.out rfl (Rs.of_owns HO9.out) (oneCell_bv _) (by have := HPB.out; have := HTT.out; omega) (by have := HPB.out; have := HTT.out; omega) HSZ9.out ?_); intro v' w10 hown hgr hat) | fail)
        have hap : AppOk w9 w10 w1.heap.size (.slice ao p acap) v' (p + t) ((al ++ bbs (textBits d.s.data.toList)).map bv) := ⟨by rw [List.map_append]; exact hown, Mod.grown_row hgr, hat.imp id fun e => ⟨_, Nat.le_refl _, e⟩⟩
        obtain ⟨no, ncap, rfl⟩ := owns_shape hap.1
        obtain ⟨hbs, hwi⟩ := beside_app HBS9.out HW9.out hap
        have HBSF := Lib.hid hbs
        have HWF := Lib.hid hwi
        have HALF := Lib.hid hap.1
        have HBF : Hid (Below w1.heap.size w1 w10) := Lib.hid (HB9.out.trans (hap.2.1.below HSZ9.out fun q hq => (owns_block HAL9.out hq).1))
        clear hap hbs hwi hown hgr hat
        go_roundw
        case rel =>
          have hl : (al ++ bbs (textBits d.s.data.toList)).length = p + t := by
            rw [List.length_append, bbs_length, textBits_length, HP.out, HTT.out.1]; rfl
          refine ⟨k + 1, stepL bl err d, stepE err d, right, al ++ bbs (textBits d.s.data.toList), no, ncap, by omega, by go_num, rfl, rfl, by rw [hl], by have := HST.out; have := HBK.out; omega, by rw [hl]; have := HPK.out; have := HTT.out.2; omega, by rw [HTK.out]; exact HWR.out.text d HK0.out, ?_, HBF.out, by rw [hl]; exact HALF.out, by rw [hl]; exact HBSF.out⟩
          rw [stepL, stepE, if_neg HK0.out, if_neg HK0.out]
          exact HWF.out
        case measure => simp [intOf]; omega
    · have hki : ((k : Int) < (n : Int)) = False := eq_false (by omega)
      have htk : ds.take k = ds := List.take_of_length_le (by rw [← HN.out]; omega)
      have hwr := HWR.out
      rw [htk] at hwr
      clear htk hlt
      rcases hwr with ⟨rfl, rfl, hbl, hal⟩ | ⟨rfl, rfl⟩
      · have hd := done_ok wb w1.heap.size bl _ HW.out (by have := HBL.out; omega)
        obtain ⟨z, hz⟩ : ∃ z, z = (packed bl).length := ⟨_, rfl⟩
        rw [← hz] at hd
        have HD := Lib.hid hd
        have HZ := Lib.hid hz
        have HAL : Hid (al = bbs bl) := Lib.hid hal
        have HBLM : Hid (bl.length ≤ 1000000) := Lib.hid (by have := HBK.out; omega)
        clear hd hz hal hbl
        go_wp2_with fail
        refine HD.out.mono ?_
        rintro e w3 ⟨bo, bcap, rfl, hx3, ho3⟩
        have HX3 := Lib.hid hx3
        have HO3 := Lib.hid ho3
        clear hx3 ho3
        go_wp2_with fail
        have hd2 := done_ok wb w1.heap.size bl w3 (HW.out.ext HX3.out) (by have := HBL.out; omega)
        rw [← HZ.out] at hd2
        refine hd2.mono ?_
        clear hd2
        rintro e w4 ⟨co, ccap, rfl, hx4, ho4⟩
        have HX4 := Lib.hid hx4
        have HBB : Hid (Bs w4 (.slice bo z bcap) (packed bl)) := Lib.hid (by have := Rs.of_owns (owns_ext HO3.out hx4); unfold Bs; rw [← HZ.out]; exact this)
        have HCC : Hid (Bs w4 (.slice co z ccap) (packed bl)) := Lib.hid (by have := Rs.of_owns ho4; unfold Bs; rw [← HZ.out]; exact this)
        have HAA : Hid (Bs w4 (.slice ao p acap) (bbs bl)) := Lib.hid (by have := Rs.of_owns (owns_ext HOWN.out (HX3.out.trans hx4)); unfold Bs; rw [← HAL.out, ← HP.out]; exact this)
        clear hx4 ho4
        go_wp2_with fail
        refine (rbytes_c _ bl w4 HAA.out HBLM.out).mono ?_
        rintro e w5 ⟨eo, ecap, rfl, hx5, ho5⟩
        have HX5 := Lib.hid hx5
        have HEE : Hid (Bs w5 (.slice eo (packed bl).length ecap) (packed bl)) := Lib.hid (Rs.of_owns ho5)
        have hs1 := same_c _ _ (packed bl) (packed bl) w5 (HBB.out.ext hx5) HEE.out
        rw [decide_eq_true rfl] at hs1
        have HS1 := Lib.hid hs1
        clear hx5 ho5 hs1
        go_wp2_with fail
        refine HS1.out.mono ?_
        rintro e w6 ⟨rfl, nd, rfl⟩
        have hs2 := same_c _ _ (packed bl) (packed bl) (w5.drewN nd) ((HBB.out.ext HX5.out).drewN nd) ((HCC.out.ext HX5.out).drewN nd)
        rw [decide_eq_true rfl] at hs2
        have HS2 := Lib.hid hs2
        clear hs2
        go_wp2_with fail
        refine HS2.out.mono ?_
        rintro e w7 ⟨rfl, nd2, rfl⟩
        go_wp2_with fail
        refine (lives_c _).mono ?_
        rintro e w8 ⟨rfl, hx8⟩
        go_wp2
        go_ret
        have hxx := ((HX3.out.trans HX4.out).trans HX5.out).drewN (nd + nd2)
        have hbb := HB.out.trans (((hxx.trans hx8).below).mono HB.out.size)
        exact ⟨rfl, HX1.out.below.trans (hbb.mono HX1.out.size)⟩
      · go_wp2_with fail
        refine (done_err wb w1.heap.size bl 2 _ HW.out (by decide)).mono ?_
        rintro e w4 ⟨rfl, nd, rfl⟩
        go_wp2_with fail
        refine (lives_c _).mono ?_
        rintro e w5 ⟨rfl, hx5⟩
        go_wp2
        go_ret
        have hbb := HB.out.trans ((((Ext.refl _).drewN nd).trans hx5).below.mono HB.out.size)
        exact ⟨rfl, HX1.out.below.trans (hbb.mono HX1.out.size)⟩

end Go.Proofs.Ytlfnpbpbgncbpaa

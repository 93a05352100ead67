/- W66 W67 W47 W48 H14 H15 H16 H17 H18 W49 W50 W52 W53 W54 W68 W69 W70. -/
import Derived.Test.YtdenmoiaiemokaaW65p
import Derived.Test.YtdenmoiaiemokaaG0p
import Derived.Test.YtdenmoiaiemokaaH13p
import Derived.Test.YtdenmoiaiemokaaF2p
import Derived.Test.YtdenmoiaiemokaaW58p
set_option linter.unusedVariables false
set_option linter.unusedSimpArgs false
namespace Go.Proofs.Ytdenmoiaiemokaa
open Go.RowKit
set_option maxHeartbeats 1000000 in
set_option maxRecDepth 100000 in
theorem dputN_c (ao:Option Addr) (cap:Nat) (R:List Rw) (nm:ByteArray) (a b c:Int) (i:Nat) (w:World) (h:dkHolds (.vw [true,false,false,false] R) w (.slice ao R.length cap)) (hL:R.length≤10000) (hi:bsE R nm=(i:Int)) (hiR:i≤R.length) (hb:bsB R nm=false):
  Calls Try.prog 67 #[.slice ao R.length cap,.agg #[.string nm,.int .i64 a,.int .i64 b,.int .i64 c]] w fun e w'=>∃ v',e=.returned v'∧Ext w w'∧
   w'.ownsRow w.heap.size 109 4 v' (R.take i++⟨[a,b,c],[nm]⟩::R.drop (i)).length ((R.take i++⟨[a,b,c],[nm]⟩::R.drop (i)).map (rwV [true,false,false,false])).flatten:=by
 have hfind:∀ w1,Ext w w1→Calls Try.prog 66 #[.slice ao R.length cap,.string nm] w1 fun e w'=>e=.returned (.tuple #[.int .i64 (i:Int),.bool false])∧Ext w1 w':=fun w1 hx=>by
  have:=find_raw (.slice ao R.length cap) R nm w1 ⟨h.1,h.2.ext hx⟩ (by omega)
  rw [hi,hb] at this
  exact this
 have HH:=Lib.hid h
 have hcap:=(view_cap h).1
 obtain ⟨vr,hvr⟩:∃ vr,vr=viewTail ao R.length cap (i):=⟨_,rfl⟩
 have s1:∀ w,(Instr.sliceAt 93 (.slice ao R.length cap) (some (.int .i64 ((i:Int)))) none none).run Try.prog w=.ok vr w:=fun w=>by rw [hvr];exact tail_run w hiR
 have s3:∀ w,(Instr.sliceAt 93 (.slice ao R.length cap) none (some (.int .i64 (i:Int))) (some (.int .i64 (i:Int)))).run Try.prog w=.ok (.slice ao i i) w:=fun w=>full_run w (by omega)
 have HVR:=Lib.hid hvr
 have HIC:Hid (i≤cap):=Lib.hid (by omega)
 have HB1:=Lib.hid hiR
 have HB2:=Lib.hid hL
 have hwr:IntKind.i64.wrap ((i:Int)+1)=(i:Int)+1:=IntWalk.i64_in _ (by omega)
 obtain ⟨n,hn⟩:∃ n,n=R.length:=⟨_,rfl⟩
 rw [← hn] at s1 s3 hfind
 have HFD:=Lib.hid hfind
 rw [← hn]
 have HN:=Lib.hid hn
 clear hn h hfind hvr hcap hi hb hL
 go_enter Try.func67,Try.ntmps67
 go_wp2_with fail
 refine (HFD.out _ ((Ext.refl w).alloc _)).mono ?_
 rintro e0 w0 ⟨rfl,hx0⟩
 have HX:=Lib.hid hx0
 have HC4:Hid (w0.cell? ⟨w.heap.size,0,none⟩=some (.string nm)∧w0.cell? ⟨w.heap.size,1,none⟩=some (.int .i64 a)∧w0.cell? ⟨w.heap.size,2,none⟩=some (.int .i64 b)∧w0.cell? ⟨w.heap.size,3,none⟩=some (.int .i64 c)):=by
  have hb:=blk_new w (.cells #[.string nm,.int .i64 a,.int .i64 b,.int .i64 c] 109)
  exact Lib.hid ⟨hx0.cell (cell_of_blk hb 0),hx0.cell (cell_of_blk hb 1),hx0.cell (cell_of_blk hb 2),hx0.cell (cell_of_blk hb 3)⟩
 have hxw:Ext w w0:=((Ext.refl w).alloc _).trans hx0
 have HXW:=Lib.hid hxw
 have HF:Hid (Rs w0 4 (.slice ao i i) i ((R.take i).map (rwV [true,false,false,false])).flatten):=Lib.hid ((view_full HH.out (by have:=HB1.out;omega)).ext hxw)
 have HR:Hid (Rs w0 4 vr (R.drop (i)).length ((R.drop (i)).map (rwV [true,false,false,false])).flatten):=by
  have:=(view_cut HH.out HB1.out).ext hxw
  rw [← HVR.out] at this
  exact Lib.hid this
 have HE:Hid (ElemT Try.prog 93 109 4 40):=Lib.hid (ElemT.mk' Try.underlying93 (z:=.agg #[.string ⟨#[]⟩,.int .i64 0,.int .i64 0,.int .i64 0]) (by kernel_rfl) rfl (by decide))
 have H1:Hid (∀ u∈((R.drop (i)).map (rwV [true,false,false,false])).flatten,u.oneCell'=true):=Lib.hid rows_ones
 obtain ⟨olds,hol⟩:∃ olds,olds=((R.take i).map (rwV [true,false,false,false])).flatten:=⟨_,rfl⟩
 obtain ⟨rest,hre⟩:∃ rest,rest=((R.drop (i)).map (rwV [true,false,false,false])).flatten:=⟨_,rfl⟩
 obtain ⟨m,hm⟩:∃ m,m=(R.drop (i)).length:=⟨_,rfl⟩
 have HLE:Hid (i+1+m≤30000):=Lib.hid (by have:=HB1.out;have:=HB2.out;rw [hm,List.length_drop];omega)
 rw [← hol] at HF
 rw [← hre] at HR H1
 rw [← hm] at HR
 have HOL:=Lib.hid hol
 have HRE:=Lib.hid hre
 have HM:=Lib.hid hm
 clear hol hre hm hx0 hxw
 go_wp2_with fail
 refine wp_region_rs 9 32 [8]
  (fun _ w'=>Ext w0 w') Ext
  (svl [exk (.slice ao n cap),
   exk (.int .i64 (i:Int)),
   exk (.int .i64 (i:Int)),
   exk (.slice ao i i),
   exk (.agg #[.string nm,.int .i64 a,.int .i64 b,.int .i64 c]),
   (fun k v w'=>k=0→w'.ownsRow w0.heap.size 109 4 v 1 [.string nm,.int .i64 a,.int .i64 b,.int .i64 c]),
   (fun k v w'=>k=0→w'.ownsRow w0.heap.size 109 4 v (i+1) (olds++[.string nm,.int .i64 a,.int .i64 b,.int .i64 c])),
   exk vr,
   (fun _ _ _=>True)]
   [8] (fun _ _ v w'=>w'.ownsRow w0.heap.size 109 4 v (i+1+m) (olds++[.string nm,.int .i64 a,.int .i64 b,.int .i64 c]++rest)))
  (by kernel_rfl) (by kernel_rfl) (by kernel_rfl) (by kernel_rfl) rfl (Ext.refl _).drew (fun _ w _=>Ext.refl w) (fun _ _ _ h hx=>h.trans hx)
  (fun b i v w1 w2 _ _ hV hx=>svl_stays (R:=Ext) (by exact ⟨exk_st,exk_st,exk_st,exk_st,exk_st,(fun _ v w1 w2 h hx h0=>owns_ext (h h0) hx),(fun _ v w1 w2 h hx h0=>owns_ext (h h0) hx),exk_st,(fun _ _ _ _ _ _=>trivial),trivial⟩) (by exact fun _ _ _ _ _ h hx=>owns_ext h hx) b i v w1 w2 hV hx) ?_ ?_
 ·simp only [List.take_succ_cons,List.take_zero]
  go_tidy
  refine RsOps.mk (RsOp.moveA rfl (fun b=>.free rfl) 0 (fun _ w _=>Ext.refl w) rfl rfl (.slice ao n cap) rfl (fun _ _ _=>rfl)) ?_
  refine RsOps.mk (RsOp.moveA rfl (fun b=>.free rfl) 5 (fun _ w _=>Ext.refl w) rfl rfl (.int .i64 (i:Int)) rfl (fun _ _ _=>rfl)) ?_
  refine RsOps.mk (RsOp.moveA rfl (fun b=>.free rfl) 5 (fun _ w _=>Ext.refl w) rfl rfl (.int .i64 (i:Int)) rfl (fun _ _ _=>rfl)) ?_
  refine RsOps.mk (RsOp.at rfl (fun b=>.free rfl) ?_) ?_
  rotate_left
  refine RsOps.mk (RsOp.at rfl (fun b=>.free rfl) ?_) ?_
  rotate_left
  refine RsOps.mk (RsOp.at rfl (fun b=>.free rfl) ?_) ?_
  rotate_left
  refine RsOps.mk (RsOp.early 0 8 rfl rfl rfl rfl (fun b=>.free rfl) ?_) ?_
  rotate_left
  refine RsOps.mk (RsOp.moveA rfl (fun b=>.free rfl) 7 (fun _ w _=>Ext.refl w) rfl rfl vr rfl (fun _ _ _=>rfl)) ?_
  refine RsOps.mk (RsOp.chain 0 rfl (fun b=>.free rfl) ?_) ?_
  rotate_left
  exact RsOps.done
  ·intro bb vals ρ w' hC hd hS
   have r23:ρ (.tmp 23)=.slice ao n cap:=(hS.tmp 23).trans (hd.at 0 rfl)
   have r24:ρ (.tmp 24)=.int .i64 (i:Int):=(hS.tmp 24).trans (hd.at 1 rfl)
   have r25:ρ (.tmp 25)=.int .i64 (i:Int):=(hS.tmp 25).trans (hd.at 2 rfl)
   refine (show givesR _ _ _ _ (fun v w''=>Ext w' w''∧v=.slice ao i i) from ?_)
   have hic:=HIC.out
   clear hC hd hS
   go_simp
   exact Ext.refl _
  ·intro bb vals ρ w' hC hd hS
   have r3:ρ (.tmp 3)=.pointer (some ⟨w.heap.size,0,none⟩):=hS.tmp 3
   refine (show givesR _ _ _ _ (fun v w''=>Ext w' w''∧v=.agg #[.string nm,.int .i64 a,.int .i64 b,.int .i64 c]) from ?_)
   have q0:=hC.cell HC4.out.1
   have q1:=hC.cell HC4.out.2.1
   have q2:=hC.cell HC4.out.2.2.1
   have q3:=hC.cell HC4.out.2.2.2
   clear hC hd hS
   go_simp
   exact Ext.refl _
  ·intro bb vals ρ w' hC hd hS
   have r27:ρ (.tmp 27)=.agg #[.string nm,.int .i64 a,.int .i64 b,.int .i64 c]:=(hS.tmp 27).trans (hd.at 4 rfl)
   refine (show givesR _ _ _ _ (fun v w''=>Ext w' w''∧(fun k v w'=>k=0→w'.ownsRow w0.heap.size 109 4 v 1 [.string nm,.int .i64 a,.int .i64 b,.int .i64 c]) bb v w'') from ?_)
   have HZ:=Lib.hid hC.size
   clear hC hd hS
   go_simp
   exact ⟨(Ext.refl _).alloc _,fun _=>owns_lit (w:=w') (B:=w0.heap.size) (n:=1) (size:=4) (cs:=#[.string nm,.int .i64 a,.int .i64 b,.int .i64 c]) rfl HZ.out (by decide)⟩
  ·intro bb vals ρ w' hb hC hd hS
   have r26:ρ (.tmp 26)=.slice ao i i:=(hS.tmp 26).trans (hd.at 3 rfl)
   have d5:=hd.at 5 rfl
   have r28:ρ (.tmp 28)=vals 5:=hS.tmp 28
   refine (show givesR _ _ _ _ (fun v w''=>Ext w' w''∧(fun k v w'=>k=0→w'.ownsRow w0.heap.size 109 4 v (i+1) (olds++[.string nm,.int .i64 a,.int .i64 b,.int .i64 c])) bb v w'') from ?_)
   have HO':=Lib.hid (d5 (by omega))
   have HF':=Lib.hid (HF.out.ext hC)
   have HZ:=Lib.hid hC.size
   clear hC hd hS d5
   refine givesR_full (.tmp 26) (.tmp 28) 93 rfl HE.out r26 HF'.out r28 (Rs.of_owns HO'.out) (by decide) (by have:=HLE.out;omega) (by have:=HLE.out;omega) ?_
   intro v'' w'' ho hx
   exact ⟨hx,fun _=>owns_base ho HZ.out⟩
  ·intro vals ρ w' hC hd hS
   have d6:=hd.at 6 rfl
   have r29:ρ (.tmp 29)=vals 6:=hS.tmp 29
   have r30:ρ (.tmp 30)=vr:=(hS.tmp 30).trans (hd.at 7 rfl)
   have HO':=Lib.hid (d6 rfl)
   have HR':=Lib.hid (HR.out.ext hC)
   have HZ:=Lib.hid hC.size
   clear hd hS d6
   refine givesR_app (.tmp 29) (.tmp 30) 93 rfl HE.out w0.heap.size r29 HO'.out r30 HR'.out H1.out (by have:=HLE.out;omega) (by have:=HLE.out;omega) HZ.out ?_
   intro v'' w'' ho hg hat
   exact ⟨hC.grown hg (fun k hk=>(owns_block HO'.out hk).1),ho,svl_next rfl ⟨exk_nx,exk_nx,exk_nx,exk_nx,exk_nx,(fun v h h0=>absurd h0 (by omega)),(fun v h h0=>absurd h0 (by omega)),exk_nx,(fun _ _=>trivial),trivial⟩ (fun q v hm=>absurd hm (by omega))⟩
 intro vals w' hC hV
 have e8:=(svl_done (m:=0) rfl (hV 8 (by decide))).2
 have HC':=Lib.hid hC;clear hC hV
 simp only [List.drop_succ_cons,List.drop_zero]
 go_wp2_with fail
 go_ret
 refine ⟨_,rfl,HXW.out.trans HC'.out,?_⟩
 have hfl:((R.take i++⟨[a,b,c],[nm]⟩::R.drop (i)).map (rwV [true,false,false,false])).flatten=olds++[.string nm,.int .i64 a,.int .i64 b,.int .i64 c]++rest:=by
  rw [HOL.out,HRE.out,List.map_append,List.flatten_append,List.map_cons,List.flatten_cons,←List.append_assoc]
  rfl
 have hln:(R.take i++⟨[a,b,c],[nm]⟩::R.drop (i)).length=i+1+m:=by
  rw [HM.out,List.length_append,List.length_take,List.length_cons,Nat.min_eq_left (by have:=HB1.out;omega)]
  omega
 rw [hfl,hln]
 exact owns_base e8 HXW.out.size
set_option maxHeartbeats 1000000 in
set_option maxRecDepth 100000 in
theorem dputY_c (ao:Option Addr) (cap:Nat) (R:List Rw) (nm:ByteArray) (a b c:Int) (i:Nat) (w:World) (h:dkHolds (.vw [true,false,false,false] R) w (.slice ao R.length cap)) (hL:R.length≤10000) (hi:bsE R nm=(i:Int)) (hiR:i+1≤R.length) (hb:bsB R nm=true):
  Calls Try.prog 67 #[.slice ao R.length cap,.agg #[.string nm,.int .i64 a,.int .i64 b,.int .i64 c]] w fun e w'=>∃ v',e=.returned v'∧Ext w w'∧
   w'.ownsRow w.heap.size 109 4 v' (R.take i++⟨[a,b,c],[nm]⟩::R.drop (i+1)).length ((R.take i++⟨[a,b,c],[nm]⟩::R.drop (i+1)).map (rwV [true,false,false,false])).flatten:=by
 have hfind:∀ w1,Ext w w1→Calls Try.prog 66 #[.slice ao R.length cap,.string nm] w1 fun e w'=>e=.returned (.tuple #[.int .i64 (i:Int),.bool true])∧Ext w1 w':=fun w1 hx=>by
  have:=find_raw (.slice ao R.length cap) R nm w1 ⟨h.1,h.2.ext hx⟩ (by omega)
  rw [hi,hb] at this
  exact this
 have HH:=Lib.hid h
 have hcap:=(view_cap h).1
 obtain ⟨vr,hvr⟩:∃ vr,vr=viewTail ao R.length cap (i+1):=⟨_,rfl⟩
 have s1:∀ w,(Instr.sliceAt 93 (.slice ao R.length cap) (some (.int .i64 ((i:Int)+1))) none none).run Try.prog w=.ok vr w:=fun w=>by rw [hvr];exact tail_run w hiR
 obtain ⟨v0,hv0⟩:∃ v0,v0=viewTail ao R.length cap i:=⟨_,rfl⟩
 have s0:∀ w,(Instr.sliceAt 93 (.slice ao R.length cap) (some (.int .i64 (i:Int))) none none).run Try.prog w=.ok v0 w:=fun w=>by rw [hv0];exact tail_run w (by omega)
 clear hv0
 have s3:∀ w,(Instr.sliceAt 93 (.slice ao R.length cap) none (some (.int .i64 (i:Int))) (some (.int .i64 (i:Int)))).run Try.prog w=.ok (.slice ao i i) w:=fun w=>full_run w (by omega)
 have HVR:=Lib.hid hvr
 have HIC:Hid (i≤cap):=Lib.hid (by omega)
 have HB1:=Lib.hid hiR
 have HB2:=Lib.hid hL
 have hwr:IntKind.i64.wrap ((i:Int)+1)=(i:Int)+1:=IntWalk.i64_in _ (by omega)
 obtain ⟨n,hn⟩:∃ n,n=R.length:=⟨_,rfl⟩
 rw [← hn] at s1 s3 hfind s0
 have HFD:=Lib.hid hfind
 rw [← hn]
 have HN:=Lib.hid hn
 clear hn h hfind hvr hcap hi hb hL
 go_enter Try.func67,Try.ntmps67
 go_wp2_with fail
 refine (HFD.out _ ((Ext.refl w).alloc _)).mono ?_
 rintro e0 w0 ⟨rfl,hx0⟩
 have HX:=Lib.hid hx0
 have HC4:Hid (w0.cell? ⟨w.heap.size,0,none⟩=some (.string nm)∧w0.cell? ⟨w.heap.size,1,none⟩=some (.int .i64 a)∧w0.cell? ⟨w.heap.size,2,none⟩=some (.int .i64 b)∧w0.cell? ⟨w.heap.size,3,none⟩=some (.int .i64 c)):=by
  have hb:=blk_new w (.cells #[.string nm,.int .i64 a,.int .i64 b,.int .i64 c] 109)
  exact Lib.hid ⟨hx0.cell (cell_of_blk hb 0),hx0.cell (cell_of_blk hb 1),hx0.cell (cell_of_blk hb 2),hx0.cell (cell_of_blk hb 3)⟩
 have hxw:Ext w w0:=((Ext.refl w).alloc _).trans hx0
 have HXW:=Lib.hid hxw
 have HF:Hid (Rs w0 4 (.slice ao i i) i ((R.take i).map (rwV [true,false,false,false])).flatten):=Lib.hid ((view_full HH.out (by have:=HB1.out;omega)).ext hxw)
 have HR:Hid (Rs w0 4 vr (R.drop (i+1)).length ((R.drop (i+1)).map (rwV [true,false,false,false])).flatten):=by
  have:=(view_cut HH.out HB1.out).ext hxw
  rw [← HVR.out] at this
  exact Lib.hid this
 have HE:Hid (ElemT Try.prog 93 109 4 40):=Lib.hid (ElemT.mk' Try.underlying93 (z:=.agg #[.string ⟨#[]⟩,.int .i64 0,.int .i64 0,.int .i64 0]) (by kernel_rfl) rfl (by decide))
 have H1:Hid (∀ u∈((R.drop (i+1)).map (rwV [true,false,false,false])).flatten,u.oneCell'=true):=Lib.hid rows_ones
 obtain ⟨olds,hol⟩:∃ olds,olds=((R.take i).map (rwV [true,false,false,false])).flatten:=⟨_,rfl⟩
 obtain ⟨rest,hre⟩:∃ rest,rest=((R.drop (i+1)).map (rwV [true,false,false,false])).flatten:=⟨_,rfl⟩
 obtain ⟨m,hm⟩:∃ m,m=(R.drop (i+1)).length:=⟨_,rfl⟩
 have HLE:Hid (i+1+m≤30000):=Lib.hid (by have:=HB1.out;have:=HB2.out;rw [hm,List.length_drop];omega)
 rw [← hol] at HF
 rw [← hre] at HR H1
 rw [← hm] at HR
 have HOL:=Lib.hid hol
 have HRE:=Lib.hid hre
 have HM:=Lib.hid hm
 clear hol hre hm hx0 hxw
 go_wp2_with fail
 refine wp_region_rs 9 32 [8]
  (fun _ w'=>Ext w0 w') Ext
  (svl [exk (.slice ao n cap),
   exk (.int .i64 (i:Int)),
   exk (.int .i64 (i:Int)),
   exk (.slice ao i i),
   exk (.agg #[.string nm,.int .i64 a,.int .i64 b,.int .i64 c]),
   (fun k v w'=>k=0→w'.ownsRow w0.heap.size 109 4 v 1 [.string nm,.int .i64 a,.int .i64 b,.int .i64 c]),
   (fun k v w'=>k=0→w'.ownsRow w0.heap.size 109 4 v (i+1) (olds++[.string nm,.int .i64 a,.int .i64 b,.int .i64 c])),
   exk vr,
   (fun _ _ _=>True)]
   [8] (fun _ _ v w'=>w'.ownsRow w0.heap.size 109 4 v (i+1+m) (olds++[.string nm,.int .i64 a,.int .i64 b,.int .i64 c]++rest)))
  (by kernel_rfl) (by kernel_rfl) (by kernel_rfl) (by kernel_rfl) rfl (Ext.refl _).drew (fun _ w _=>Ext.refl w) (fun _ _ _ h hx=>h.trans hx)
  (fun b i v w1 w2 _ _ hV hx=>svl_stays (R:=Ext) (by exact ⟨exk_st,exk_st,exk_st,exk_st,exk_st,(fun _ v w1 w2 h hx h0=>owns_ext (h h0) hx),(fun _ v w1 w2 h hx h0=>owns_ext (h h0) hx),exk_st,(fun _ _ _ _ _ _=>trivial),trivial⟩) (by exact fun _ _ _ _ _ h hx=>owns_ext h hx) b i v w1 w2 hV hx) ?_ ?_
 ·simp only [List.take_succ_cons,List.take_zero]
  go_tidy
  refine RsOps.mk (RsOp.moveA rfl (fun b=>.free rfl) 0 (fun _ w _=>Ext.refl w) rfl rfl (.slice ao n cap) rfl (fun _ _ _=>rfl)) ?_
  refine RsOps.mk (RsOp.moveA rfl (fun b=>.free rfl) 5 (fun _ w _=>Ext.refl w) rfl rfl (.int .i64 (i:Int)) rfl (fun _ _ _=>rfl)) ?_
  refine RsOps.mk (RsOp.moveA rfl (fun b=>.free rfl) 5 (fun _ w _=>Ext.refl w) rfl rfl (.int .i64 (i:Int)) rfl (fun _ _ _=>rfl)) ?_
  refine RsOps.mk (RsOp.at rfl (fun b=>.free rfl) ?_) ?_
  rotate_left
  refine RsOps.mk (RsOp.at rfl (fun b=>.free rfl) ?_) ?_
  rotate_left
  refine RsOps.mk (RsOp.at rfl (fun b=>.free rfl) ?_) ?_
  rotate_left
  refine RsOps.mk (RsOp.early 0 8 rfl rfl rfl rfl (fun b=>.free rfl) ?_) ?_
  rotate_left
  refine RsOps.mk (RsOp.moveA rfl (fun b=>.free rfl) 7 (fun _ w _=>Ext.refl w) rfl rfl vr rfl (fun _ _ _=>rfl)) ?_
  refine RsOps.mk (RsOp.chain 0 rfl (fun b=>.free rfl) ?_) ?_
  rotate_left
  exact RsOps.done
  ·intro bb vals ρ w' hC hd hS
   have r23:ρ (.tmp 23)=.slice ao n cap:=(hS.tmp 23).trans (hd.at 0 rfl)
   have r24:ρ (.tmp 24)=.int .i64 (i:Int):=(hS.tmp 24).trans (hd.at 1 rfl)
   have r25:ρ (.tmp 25)=.int .i64 (i:Int):=(hS.tmp 25).trans (hd.at 2 rfl)
   refine (show givesR _ _ _ _ (fun v w''=>Ext w' w''∧v=.slice ao i i) from ?_)
   have hic:=HIC.out
   clear hC hd hS
   go_simp
   exact Ext.refl _
  ·intro bb vals ρ w' hC hd hS
   have r3:ρ (.tmp 3)=.pointer (some ⟨w.heap.size,0,none⟩):=hS.tmp 3
   refine (show givesR _ _ _ _ (fun v w''=>Ext w' w''∧v=.agg #[.string nm,.int .i64 a,.int .i64 b,.int .i64 c]) from ?_)
   have q0:=hC.cell HC4.out.1
   have q1:=hC.cell HC4.out.2.1
   have q2:=hC.cell HC4.out.2.2.1
   have q3:=hC.cell HC4.out.2.2.2
   clear hC hd hS
   go_simp
   exact Ext.refl _
  ·intro bb vals ρ w' hC hd hS
   have r27:ρ (.tmp 27)=.agg #[.string nm,.int .i64 a,.int .i64 b,.int .i64 c]:=(hS.tmp 27).trans (hd.at 4 rfl)
   refine (show givesR _ _ _ _ (fun v w''=>Ext w' w''∧(fun k v w'=>k=0→w'.ownsRow w0.heap.size 109 4 v 1 [.string nm,.int .i64 a,.int .i64 b,.int .i64 c]) bb v w'') from ?_)
   have HZ:=Lib.hid hC.size
   clear hC hd hS
   go_simp
   exact ⟨(Ext.refl _).alloc _,fun _=>owns_lit (w:=w') (B:=w0.heap.size) (n:=1) (size:=4) (cs:=#[.string nm,.int .i64 a,.int .i64 b,.int .i64 c]) rfl HZ.out (by decide)⟩
  ·intro bb vals ρ w' hb hC hd hS
   have r26:ρ (.tmp 26)=.slice ao i i:=(hS.tmp 26).trans (hd.at 3 rfl)
   have d5:=hd.at 5 rfl
   have r28:ρ (.tmp 28)=vals 5:=hS.tmp 28
   refine (show givesR _ _ _ _ (fun v w''=>Ext w' w''∧(fun k v w'=>k=0→w'.ownsRow w0.heap.size 109 4 v (i+1) (olds++[.string nm,.int .i64 a,.int .i64 b,.int .i64 c])) bb v w'') from ?_)
   have HO':=Lib.hid (d5 (by omega))
   have HF':=Lib.hid (HF.out.ext hC)
   have HZ:=Lib.hid hC.size
   clear hC hd hS d5
   refine givesR_full (.tmp 26) (.tmp 28) 93 rfl HE.out r26 HF'.out r28 (Rs.of_owns HO'.out) (by decide) (by have:=HLE.out;omega) (by have:=HLE.out;omega) ?_
   intro v'' w'' ho hx
   exact ⟨hx,fun _=>owns_base ho HZ.out⟩
  ·intro vals ρ w' hC hd hS
   have d6:=hd.at 6 rfl
   have r29:ρ (.tmp 29)=vals 6:=hS.tmp 29
   have r30:ρ (.tmp 30)=vr:=(hS.tmp 30).trans (hd.at 7 rfl)
   have HO':=Lib.hid (d6 rfl)
   have HR':=Lib.hid (HR.out.ext hC)
   have HZ:=Lib.hid hC.size
   clear hd hS d6
   refine givesR_app (.tmp 29) (.tmp 30) 93 rfl HE.out w0.heap.size r29 HO'.out r30 HR'.out H1.out (by have:=HLE.out;omega) (by have:=HLE.out;omega) HZ.out ?_
   intro v'' w'' ho hg hat
   exact ⟨hC.grown hg (fun k hk=>(owns_block HO'.out hk).1),ho,svl_next rfl ⟨exk_nx,exk_nx,exk_nx,exk_nx,exk_nx,(fun v h h0=>absurd h0 (by omega)),(fun v h h0=>absurd h0 (by omega)),exk_nx,(fun _ _=>trivial),trivial⟩ (fun q v hm=>absurd hm (by omega))⟩
 intro vals w' hC hV
 have e8:=(svl_done (m:=0) rfl (hV 8 (by decide))).2
 have HC':=Lib.hid hC;clear hC hV
 simp only [List.drop_succ_cons,List.drop_zero]
 go_wp2_with fail
 go_ret
 refine ⟨_,rfl,HXW.out.trans HC'.out,?_⟩
 have hfl:((R.take i++⟨[a,b,c],[nm]⟩::R.drop (i+1)).map (rwV [true,false,false,false])).flatten=olds++[.string nm,.int .i64 a,.int .i64 b,.int .i64 c]++rest:=by
  rw [HOL.out,HRE.out,List.map_append,List.flatten_append,List.map_cons,List.flatten_cons,←List.append_assoc]
  rfl
 have hln:(R.take i++⟨[a,b,c],[nm]⟩::R.drop (i+1)).length=i+1+m:=by
  rw [HM.out,List.length_append,List.length_take,List.length_cons,Nat.min_eq_left (by have:=HB1.out;omega)]
  omega
 rw [hfl,hln]
 exact owns_base e8 HXW.out.size
end Go.Proofs.Ytdenmoiaiemokaa
set_option linter.unusedVariables false
set_option linter.unusedSimpArgs false
namespace Go.Proofs.Ytdenmoiaiemokaa
open Go.RowKit
theorem bsE_in {R:List Rw} {s:ByteArray} (hR:R.length≤100000):0≤bsE R s∧bsE R s≤(R.length:Int):=by
 have:=bsS_inv (s:=s) hR R.length (Nat.le_refl _)
 unfold bsE
 omega
def ddR (R:List Rw) (nm:ByteArray) (a b c:Int):List Rw:=R.take (bsE R nm).toNat++⟨[a,b,c],[nm]⟩::R.drop ((bsE R nm).toNat+bif bsB R nm then 1 else 0)
def C_dirPut:Ctr Td:=fun us sub=>match us,sub with
 |[.one (.obj 0),.agg [.v (.string nm),.v (.int .i64 a),.v (.int .i64 b),.v (.int .i64 c)]],[⟨.us (.ext (.vw [true,false,false,false] R)),false⟩]=>some ([R.length≤10000],.c (.one (.obj 1)),[⟨.us (.ext (.vw [true,false,false,false] R)),false⟩,⟨.us (.ext (.flat (.rw 109 [true,false,false,false] (ddR R nm a b c)))),true⟩])
 |_,_=>none
theorem dirPut_c (v:Value) (R:List Rw) (nm:ByteArray) (a b c:Int) (w:World) (h:dkHolds (.vw [true,false,false,false] R) w v) (hL:R.length≤10000):
  Calls Try.prog 67 #[v,.agg #[.string nm,.int .i64 a,.int .i64 b,.int .i64 c]] w fun e w'=>∃ v',e=.returned v'∧Ext w w'∧
   w'.ownsRow w.heap.size 109 4 v' (ddR R nm a b c).length ((ddR R nm a b c).map (rwV [true,false,false,false])).flatten:=by
 obtain ⟨h1,h2⟩:=bsE_in (s:=nm) (show R.length≤100000 by omega)
 obtain ⟨i,hi⟩:∃ i:Nat,bsE R nm=(i:Int):=⟨_,(Int.toNat_of_nonneg h1).symm⟩
 obtain ⟨ao,cap,rfl⟩:∃ ao cap,v=.slice ao R.length cap:=by
  obtain ⟨_,_,ao,cap,hv,_⟩:=h
  exact ⟨ao,cap,hv⟩
 unfold ddR
 rw [hi,Int.toNat_natCast]
 cases hb:bsB R nm with
 |false=>exact dputN_c ao cap R nm a b c i w h hL hi (by omega) hb
 |true=>
  have hlt:bsE R nm<(R.length:Int):=by
   unfold bsB at hb
   rw [Bool.and_eq_true] at hb
   exact of_decide_eq_true hb.1
  exact dputY_c ao cap R nm a b c i w h hL hi (by omega) hb
theorem C_dirPut_ok:CtrOk Try.prog Id' 67 C_dirPut:=by
 intro us sub ps x sm h hp w e vs hM ha
 unfold C_dirPut at h
 split at h
 ·rename_i nm a b c R
  simp only [Option.some.injEq,Prod.mk.injEq] at h
  obtain ⟨rfl,rfl,rfl⟩:=h
  have hL:R.length≤10000:=hp _ (List.mem_cons_self ..)
  obtain ⟨u0,u1,rfl,a0,a1⟩:=allC2 ha
  have hE:e[0]? =some u0:=is_one a0
  obtain ⟨us',hu,rfl⟩:=a1
  have hus:=allVal_is (vs:=[.string nm,.int .i64 a,.int .i64 b,.int .i64 c]) rfl hu
  subst hus
  have hV:=hM.holds 0 _ _ hE rfl
  refine (dirPut_c u0 R nm a b c w hV hL).mono fun y w' ⟨v,g1,g2,g3⟩=>⟨v,e++[v],g1,Grows.push e v,?_,?_⟩
  ·show (e++[v])[1]? =some v
   have:=hM.len
   rw [List.getElem?_append_right (by rw [this];exact Nat.le_refl _),this];rfl
  ·refine hM.push g2 v ⟨.us (.ext (.flat (.rw 109 [true,false,false,false] (ddR R nm a b c)))),true⟩ ⟨fun r hr=>?_,w.heap.size,g2.size,by rw [FL.len];exact g3⟩ fun k hk=>?_
   ·obtain ⟨y,_,rfl⟩:=List.mem_map.1 hr
    exact rwV_len _ y
   ·exact owns_block g3 hk
 ·cases h
theorem RW_dirPut:RowOk Try.prog Id' hardD 67 (ctrF Id' (wkC C_dirPut) hardD):=ctrF_ok Try.call67 (wkC_ok C_dirPut_ok)
theorem RW_dfind:RowOk Try.prog Id' hardD 66 (ctrF Id' (wkC C_find) hardD):=ctrF_ok Try.call66 (wkC_ok C_find_ok)
end Go.Proofs.Ytdenmoiaiemokaa
set_option linter.unusedVariables false
set_option linter.unusedSimpArgs false
namespace Go.Proofs.Ytdenmoiaiemokaa
open Go.RowKit
def lvR:List Rw:=[⟨[2,1,2],[⟨#[97]⟩]⟩]
set_option maxRecDepth 100000 in
theorem lvs_w0 (L:List (List UInt8)) (X:List Rw) (h0:L.length≤100∧∀ l∈L,l.length≤140737488355328) (h1:DbIs lvR L 0) (h2:DeIs L X 0) (h3:((0:Int)==(0:Int)&&(0:Int)==(0:Int)&&(L.length:Int)==(1:Int))=true) (h4:sameR lvR X=true):∃ qs,wayO Id' ([]:Mem Td).length [] (svV (.bool true)) ((runFn (⟨Try.prog,[(58,ctrF Id' (C_dblkN L 0) hardD),(61,ctrF Id' (C_dentN L X 0) hardD),(63,ctrF Id' C_rsame hardD)],[],dkHo,Id'.one,60⟩:Sy Td) [(100002,mapG (modAt wkE 0) (⟨Try.prog,[(58,ctrF Id' (C_dblkN L 0) hardD)],[],dkHo,Id'.one,60⟩:Sy Td) 35 (regO 2 (bodyOf Try.f60)) (drwR 2 (bodyOf Try.f60))),(100003,mapG (modAt wkE 1) (⟨Try.prog,[(61,ctrF Id' (C_dentN L X 0) hardD)],[],dkHo,Id'.one,60⟩:Sy Td) 35 (regO 3 (bodyOf Try.f60)) (drwR 3 (bodyOf Try.f60)))] Try.f60 [] []).al [true])=some qs∧∀ q∈qs,q:=
 ⟨[lvR.length≤(1000:Nat),DbIs lvR L (0:Int),(1:Nat)=(1:Nat)∧L.length=L.length∧tbE L=tbE L,L.length≤(100:Nat)∧∀ (l:List UInt8),l∈L→l.length≤(140737488355328:Nat),DeIs L X (0:Int),((0:Int)==(0:Int)&&(0:Int)==(0:Int)&&(↑L.length:Int)==(1:Int))=true,lvR.length≤(100000:Nat),((0:Int)==(0:Int)&&(0:Int)==(0:Int)&&(↑L.length:Int)==(1:Int))=true,Value.bool (sameR lvR X)=Value.bool true],by kernel_rfl,(by refine mcons ?_ (mcons ?_ (mcons ?_ (mcons ?_ (mcons ?_ (mcons ?_ (mcons ?_ (mcons ?_ (mcons ?_ mnil))))))))<;>first|exact h0|exact h1|exact h2|exact h3|(exact congrArg Value.bool h4)|(exact (by decide:(1:Nat)≤1000))|(exact (by decide:(1:Nat)≤100000))|exact h0|exact h1|exact h2|exact h3|exact h4|trivial|(exact ⟨rfl,rfl,rfl⟩)|(exact congrArg Value.bool h4)|(exact (by decide:(1:Nat)≤1000))|(exact (by decide:(1:Nat)≤100000)))⟩
theorem lvE:dbE lvR=0:=by decide +kernel
theorem lvN:lvR.map nrm4=lvR:=rfl
theorem lvL:(dbB lvR).length=1:=by decide +kernel
theorem deE_ok {L:List (List UInt8)} (h:deOk L=true):deE L=0:=by unfold deE;rw [h];rfl
theorem dbB_wid (R:List Rw):∀ l∈dbB R,l.length≤140737488355328:=fun l hl=>by
 rw [dbB_is] at hl
 have:=(rbB_good R l hl).1
 omega
def C_lives:Ctr Td:=fun us sub=>match us,sub with
 |[],[]=>some ([],svV (.bool true),[])
 |_,_=>none
set_option maxRecDepth 100000 in
theorem C_lives_ok:CtrOk Try.prog Id' 60 C_lives:=by
 intro us sub ps x sm h hp w e vs hM ha
 unfold C_lives at h
 split at h
 ·skip
  simp only [Option.some.injEq,Prod.mk.injEq] at h
  obtain ⟨rfl,rfl,rfl⟩:=h
  exact ctr_way (I:=Id') (fun (W0:World) (G:Nat→Prop)=>SyOk.mk2 Try.mixed dkHo_ok (FnsR.cons ((R_dblkN (dbB lvR) 0)) (FnsR.cons ((R_dentN (dbB lvR) lvR 0)) (FnsR.cons (R_rsame) (FnsR.nil)))) EqsOk.nil) rfl Try.func60 (by kernel_rfl) (fun W0 G=>LpsOk.cons (by kernel_rfl) (mapG_sound (id:=2) ((fun (W0:World) (G:Nat→Prop)=>SyOk.mk2 Try.mixed dkHo_ok (FnsR.cons ((R_dblkN (dbB lvR) 0)) (FnsR.nil)) EqsOk.nil) W0 G) rfl (fun w e mem h=>wk_ok (W0:=W0) (G:=G) 0 w e mem h)) (LpsOk.cons (by kernel_rfl) (mapG_sound (id:=3) ((fun (W0:World) (G:Nat→Prop)=>SyOk.mk2 Try.mixed dkHo_ok (FnsR.cons ((R_dentN (dbB lvR) lvR 0)) (FnsR.nil)) EqsOk.nil) W0 G) rfl (fun w e mem h=>wk_ok (W0:=W0) (G:=G) 1 w e mem h)) (LpsOk.nil _))) (cs:=[true]) (by kernel_rfl) (lvs_w0 (dbB lvR) lvR ⟨by rw [lvL];decide,dbB_wid lvR⟩ ⟨rfl,lvE⟩ ⟨(back lvE lvN).2,deE_ok (back lvE lvN).1⟩ (by rw [lvL];rfl) (same_refl lvR)) w e vs hM ha
 ·cases h
theorem R_lives:RowOk Try.prog Id' hardD 60 (ctrF Id' C_lives hardD):=ctrF_ok Try.call60 C_lives_ok
end Go.Proofs.Ytdenmoiaiemokaa
set_option linter.unusedVariables false
set_option linter.unusedSimpArgs false
namespace Go.Proofs.Ytdenmoiaiemokaa
open Go.RowKit
theorem fewR_len (R:List Rw) (n:Int):(fewR R n).length≤n.toNat:=by unfold fewR;rw [fewK_len];omega
end Go.Proofs.Ytdenmoiaiemokaa
set_option linter.unusedVariables false
set_option linter.unusedSimpArgs false
namespace Go.Proofs.Ytdenmoiaiemokaa
open Go.RowKit
end Go.Proofs.Ytdenmoiaiemokaa
set_option linter.unusedVariables false
set_option linter.unusedSimpArgs false
namespace Go.Proofs.Ytdenmoiaiemokaa
open Go.RowKit
end Go.Proofs.Ytdenmoiaiemokaa
set_option linter.unusedVariables false
set_option linter.unusedSimpArgs false
namespace Go.Proofs.Ytdenmoiaiemokaa
open Go.RowKit
end Go.Proofs.Ytdenmoiaiemokaa
set_option linter.unusedVariables false
set_option linter.unusedSimpArgs false
namespace Go.Proofs.Ytdenmoiaiemokaa
open Go.RowKit
end Go.Proofs.Ytdenmoiaiemokaa
set_option linter.unusedVariables false
set_option linter.unusedSimpArgs false
namespace Go.Proofs.Ytdenmoiaiemokaa
open Go.RowKit
end Go.Proofs.Ytdenmoiaiemokaa
set_option linter.unusedVariables false
namespace Go.Proofs.Ytdenmoiaiemokaa
open Go.RowKit
end Go.Proofs.Ytdenmoiaiemokaa
set_option linter.unusedVariables false
namespace Go.Proofs.Ytdenmoiaiemokaa
open Go.RowKit
end Go.Proofs.Ytdenmoiaiemokaa
set_option linter.unusedVariables false
set_option linter.unusedSimpArgs false
namespace Go.Proofs.Ytdenmoiaiemokaa
open Go.RowKit
section
variable {W0:World} {G:Nat→Prop} {sz:Nat}
end
end Go.Proofs.Ytdenmoiaiemokaa
set_option linter.unusedVariables false
set_option linter.unusedSimpArgs false
namespace Go.Proofs.Ytdenmoiaiemokaa
open Go.RowKit
end Go.Proofs.Ytdenmoiaiemokaa
set_option linter.unusedVariables false
set_option linter.unusedSimpArgs false
namespace Go.Proofs.Ytdenmoiaiemokaa
open Go.RowKit
end Go.Proofs.Ytdenmoiaiemokaa
set_option linter.unusedVariables false
set_option linter.unusedSimpArgs false
namespace Go.Proofs.Ytdenmoiaiemokaa
open Go.RowKit
structure RpIs (R:List Rw) (nm:ByteArray) (a b c:Int) (Y:List Rw):Prop where
 b:pwR R nm a b c=Y
def C_rputN (Y:List Rw):Ctr Td:=fun us sub=>match us,sub with
 |[.one (.obj 0),.agg [.v (.string nm),.v (.int .i64 a),.v (.int .i64 b),.v (.int .i64 c)]],[⟨.us (.ext (.vw [true,false,false,false] R)),false⟩]=>some ([R.length≤10000,RpIs R nm a b c Y],.c (.one (.obj 3)),[⟨.us (.ext (.vw [true,false,false,false] R)),false⟩,⟨.dead,true⟩,⟨.dead,true⟩,⟨.us (.ext (.flat (.rw 109 [true,false,false,false] Y))),true⟩])
 |_,_=>none
set_option maxRecDepth 100000 in
theorem C_rputN_ok (Y:List Rw):CtrOk Try.prog Id' 65 (C_rputN Y):=by
 intro us sub ps x sm h hp w e_ vs hM ha
 unfold C_rputN at h
 split at h
 ·rename_i nm a b c R
  simp only [Option.some.injEq,Prod.mk.injEq] at h
  obtain ⟨rfl,rfl,rfl⟩:=h
  have q:RpIs R nm a b c Y:=hp _ (List.mem_cons_of_mem _ (List.mem_cons_self ..))
  obtain ⟨rfl⟩:=q
  exact C_rput_ok  _ _ _ _ _ rfl (fun q hq=>(by
   simp only [List.mem_cons,List.not_mem_nil,or_false] at hq
   subst hq;exact hp _ (List.mem_cons_self ..))) w e_ vs hM ha
 ·cases h
theorem RW_rputN (Y:List Rw):RowOk Try.prog Id' hardD 65 (ctrF Id' (wkC (C_rputN Y)) hardD):=ctrF_ok Try.call65 (wkC_ok (C_rputN_ok Y))
theorem RW_rdrop:RowOk Try.prog Id' hardD 69 (ctrF Id' (wkC C_rdrop) hardD):=ctrF_ok Try.call69 (wkC_ok C_rdrop_ok)
end Go.Proofs.Ytdenmoiaiemokaa
set_option linter.unusedVariables false
set_option linter.unusedSimpArgs false
namespace Go.Proofs.Ytdenmoiaiemokaa
open Go.RowKit
set_option maxRecDepth 100000 in
theorem dt1_n (R R2 X Y:List Rw) (en:ByteArray) (ea eb ec:Int) (i i2:Int) (k:Nat) (f:Nat→Value) (h0:decide (i<(R2.length:Int))=true) (h1:X.length≤10000) (h2:RpIs X ((R2.getD i.toNat Rw.zero).ss.getD 0 ⟨#[]⟩) ((R2.getD i.toNat Rw.zero).is.getD 0 0) ((R2.getD i.toNat Rw.zero).is.getD 1 0) ((R2.getD i.toNat Rw.zero).is.getD 2 0) Y) (h3:0≤i∧i.toNat<R2.length) (h4:IntKind.i64.wrap (i+1)=i2):∃ qs,alN Id' 3 [(8,.c (.one (.v (.int .i64 i2)))),(7,.c (.one (.obj 3)))] [⟨.us (.ext (.vw [true,false,false,false] R)),false⟩,⟨.blk [.v (.string en),.v (.int .i64 ea),.v (.int .i64 eb),.v (.int .i64 ec)],true⟩,⟨.us (.ext (.flat (.rw 109 [true,false,false,false] R2))),true⟩,⟨.us (.ext (.flat (.rw 109 [true,false,false,false] Y))),true⟩] ((symC (⟨Try.prog,[(65,ctrF Id' (wkC (C_rputN Y)) hardD)],[],dkHo,Id'.one,60⟩:Sy Td) [] 102 (hdC (loopsC (bodyOf Try.f10)) 0) ⟨[(8,.c (.one (.v (.int .i64 i)))),(7,.c (.one (.obj 3)))]++anyB' (writesC (hdC (loopsC (bodyOf Try.f10)) 0)) ([(0,.c (.one (.obj 2)))]++tabV f 102),[⟨.us (.ext (.vw [true,false,false,false] R)),false⟩,⟨.blk [.v (.string en),.v (.int .i64 ea),.v (.int .i64 eb),.v (.int .i64 ec)],true⟩,⟨.us (.ext (.flat (.rw 109 [true,false,false,false] R2))),true⟩,⟨.us (.ext (.flat (.rw 109 [true,false,false,false] X))),true⟩],0⟩).al [true])=some qs∧∀ q∈qs,q:=
 ⟨[decide (i<(↑(FL.rw (109:TypeId) [true,false,false,false] R2).n:Int))=true,X.length≤(10000:Nat),RpIs X ((R2.getD i.toNat Rw.zero).ss.getD (0:Nat) (ByteArray.mk #[])) ((R2.getD i.toNat Rw.zero).is.getD (0:Nat) (0:Int)) ((R2.getD i.toNat Rw.zero).is.getD ((0:Nat)+(1:Nat)) (0:Int)) ((R2.getD i.toNat Rw.zero).is.getD ((0:Nat)+(1:Nat)+(1:Nat)) (0:Int)) Y,(0:Int)≤i∧i.toNat<(FL.rw (109:TypeId) [true,false,false,false] R2).n,Th.ext (Dk.vw [true,false,false,false] R)=Th.ext (Dk.vw [true,false,false,false] R),Value.string en=Value.string en,Value.int IntKind.i64 ea=Value.int IntKind.i64 ea,Value.int IntKind.i64 eb=Value.int IntKind.i64 eb,Value.int IntKind.i64 ec=Value.int IntKind.i64 ec,Th.ext (Dk.flat (FL.rw 109 [true,false,false,false] R2))=Th.ext (Dk.flat (FL.rw 109 [true,false,false,false] R2)),Th.ext (Dk.flat (FL.rw 109 [true,false,false,false] Y))=Th.ext (Dk.flat (FL.rw 109 [true,false,false,false] Y)),Value.int IntKind.i64 (IntKind.i64.wrap (i+(1:Int)))=Value.int IntKind.i64 i2],by kernel_rfl,(by refine mcons ?_ (mcons ?_ (mcons ?_ (mcons ?_ (mcons ?_ (mcons ?_ (mcons ?_ (mcons ?_ (mcons ?_ (mcons ?_ (mcons ?_ (mcons ?_ mnil)))))))))))<;>first|rfl|exact h0|exact h1|exact h2|exact h3|exact h4|trivial|(exact congrArg (Value.int .i64) h4))⟩
set_option maxRecDepth 100000 in
theorem dt1_x (R R2 X:List Rw) (en:ByteArray) (ea eb ec:Int) (i:Int) (k:Nat) (f:Nat→Value) (h0:decide (i<(R2.length:Int))=false):∃ qs,alX Id' 3 0 [(7,.c (.one (.obj 3)))] [⟨.us (.ext (.vw [true,false,false,false] R)),false⟩,⟨.blk [.v (.string en),.v (.int .i64 ea),.v (.int .i64 eb),.v (.int .i64 ec)],true⟩,⟨.us (.ext (.flat (.rw 109 [true,false,false,false] R2))),true⟩,⟨.us (.ext (.flat (.rw 109 [true,false,false,false] X))),true⟩] ((symC (⟨Try.prog,[],[],dkHo,Id'.one,60⟩:Sy Td) [] 102 (hdC (loopsC (bodyOf Try.f10)) 0) ⟨[(8,.c (.one (.v (.int .i64 i)))),(7,.c (.one (.obj 3)))]++anyB' (writesC (hdC (loopsC (bodyOf Try.f10)) 0)) ([(0,.c (.one (.obj 2)))]++tabV f 102),[⟨.us (.ext (.vw [true,false,false,false] R)),false⟩,⟨.blk [.v (.string en),.v (.int .i64 ea),.v (.int .i64 eb),.v (.int .i64 ec)],true⟩,⟨.us (.ext (.flat (.rw 109 [true,false,false,false] R2))),true⟩,⟨.us (.ext (.flat (.rw 109 [true,false,false,false] X))),true⟩],0⟩).al [false])=some qs∧∀ q∈qs,q:=
 ⟨[decide (i<(↑(FL.rw (109:TypeId) [true,false,false,false] R2).n:Int))=false,Th.ext (Dk.vw [true,false,false,false] R)=Th.ext (Dk.vw [true,false,false,false] R),Value.string en=Value.string en,Value.int IntKind.i64 ea=Value.int IntKind.i64 ea,Value.int IntKind.i64 eb=Value.int IntKind.i64 eb,Value.int IntKind.i64 ec=Value.int IntKind.i64 ec,Th.ext (Dk.flat (FL.rw 109 [true,false,false,false] R2))=Th.ext (Dk.flat (FL.rw 109 [true,false,false,false] R2)),Th.ext (Dk.flat (FL.rw 109 [true,false,false,false] X))=Th.ext (Dk.flat (FL.rw 109 [true,false,false,false] X))],by kernel_rfl,(by refine mcons ?_ (mcons ?_ (mcons ?_ (mcons ?_ (mcons ?_ (mcons ?_ (mcons ?_ (mcons ?_ mnil)))))))<;>first|rfl|exact h0|trivial)⟩
theorem pwS_len2 (D:List Rw) (nm:ByteArray) (a b c:Int):∀ k,(pwS D nm a b c k).1.length=k+(bif (pwS D nm a b c k).2 then 1 else 0)
 |0=>rfl
 |k+1=>by
  have ih:=pwS_len2 D nm a b c k
  unfold pwS
  cases h:(pwS D nm a b c k).2 with
  |true=>
   rw [h] at ih
   simp only [Bool.not_true,Bool.false_and,cond_false,List.length_append,List.length_singleton,ih,cond_true]
   all_goals omega
  |false=>
   rw [h] at ih
   cases ltS nm (nmE (D.getD k Rw.zero)) with
   |true=>simp only [Bool.not_false,Bool.true_and,cond_true,List.length_append,List.length_singleton,ih,cond_false];all_goals omega
   |false=>simp only [Bool.not_false,Bool.true_and,cond_false,List.length_append,List.length_singleton,ih];all_goals omega
theorem pwR_len1 (R:List Rw) (nm:ByteArray) (a b c:Int):(pwR R nm a b c).length≤R.length+1:=by
 have h1:=dropR_len R nm R.length
 have h2:=pwS_len2 (dropR R nm R.length) nm a b c (dropR R nm R.length).length
 unfold pwR
 cases h:(pwS (dropR R nm R.length) nm a b c (dropR R nm R.length).length).2 with
 |true=>rw [h] at h2;simp only [cond_true] at h2 ⊢;omega
 |false=>rw [h] at h2;simp only [cond_false,List.length_append,List.length_singleton] at h2 ⊢;omega
def inS (R2:List Rw):Nat→List Rw
 |0=>[]
 |k+1=>pwR (inS R2 k) ((R2.getD k Rw.zero).ss.getD 0 ⟨#[]⟩) ((R2.getD k Rw.zero).is.getD 0 0) ((R2.getD k Rw.zero).is.getD 1 0) ((R2.getD k Rw.zero).is.getD 2 0)
theorem inS_len (R2:List Rw):∀ k,(inS R2 k).length≤k
 |0=>Nat.le_refl _
 |k+1=>by
  have h1:=inS_len R2 k
  have h2:=pwR_len1 (inS R2 k) ((R2.getD k Rw.zero).ss.getD 0 ⟨#[]⟩) ((R2.getD k Rw.zero).is.getD 0 0) ((R2.getD k Rw.zero).is.getD 1 0) ((R2.getD k Rw.zero).is.getD 2 0)
  show (pwR _ _ _ _ _).length≤_
  omega
set_option maxRecDepth 100000 in
theorem dt1_lp (R R2:List Rw) (en:ByteArray) (ea eb ec:Int) (hR:R2.length≤1000) {W0:World} {G:Nat→Prop} (S0:Sy Td) (hS0:S0.P=Try.prog):LoopSound S0 Id' W0 G 102 (hdC (loopsC (bodyOf Try.f10)) 0) (lpG Id' 102 (hdC (loopsC (bodyOf Try.f10)) 0) 3 [(8,.c (.one (.v (.int .i64 ((0:Nat):Int))))),(7,.c (.one (.obj 3)))] [(0,.c (.one (.obj 2)))] [⟨.us (.ext (.vw [true,false,false,false] R)),false⟩,⟨.blk [.v (.string en),.v (.int .i64 ea),.v (.int .i64 eb),.v (.int .i64 ec)],true⟩,⟨.us (.ext (.flat (.rw 109 [true,false,false,false] R2))),true⟩,⟨.us (.ext (.flat (.rw 109 [true,false,false,false] []))),true⟩] (.leaf (.exit 0) [(7,.c (.one (.obj 3)))] [⟨.us (.ext (.vw [true,false,false,false] R)),false⟩,⟨.blk [.v (.string en),.v (.int .i64 ea),.v (.int .i64 eb),.v (.int .i64 ec)],true⟩,⟨.us (.ext (.flat (.rw 109 [true,false,false,false] R2))),true⟩,⟨.us (.ext (.flat (.rw 109 [true,false,false,false] (inS R2 R2.length)))),true⟩])):=by
 refine lp_sound (V:=fun k=>[(8,.c (.one (.v (.int .i64 (k:Int))))),(7,.c (.one (.obj 3)))]) (M:=(fun k=>[⟨.us (.ext (.vw [true,false,false,false] R)),false⟩,⟨.blk [.v (.string en),.v (.int .i64 ea),.v (.int .i64 eb),.v (.int .i64 ec)],true⟩,⟨.us (.ext (.flat (.rw 109 [true,false,false,false] R2))),true⟩,⟨.us (.ext (.flat (.rw 109 [true,false,false,false] (inS R2 k)))),true⟩]:Nat→Mem Td)) (N:=R2.length) (Ux:=fun k x=>match x with|.exit 0=>some ([(7,.c (.one (.obj 3)))],([⟨.us (.ext (.vw [true,false,false,false] R)),false⟩,⟨.blk [.v (.string en),.v (.int .i64 ea),.v (.int .i64 eb),.v (.int .i64 ec)],true⟩,⟨.us (.ext (.flat (.rw 109 [true,false,false,false] R2))),true⟩,⟨.us (.ext (.flat (.rw 109 [true,false,false,false] (inS R2 R2.length)))),true⟩]:Mem Td))|_=>none) (X:=fun _ _=>True) (J:=fun k=>k≤R2.length) (fun k=>by kernel_rfl) (Nat.zero_le _) (fun k hk hJ f=>?_) (fun K hK k x U hk hU hX=>?_)
 ·rw [hS0]
  have hl:=inS_len R2 k
  cases hT:decide ((k:Int)<(R2.length:Int)) with
  |false=>
   have hke:k=R2.length:=by have:=of_decide_eq_false hT;omega
   subst hke
   exact rnd_xD (⟨Try.prog,[],[],dkHo,Id'.one,60⟩:Sy Td) rfl ((fun (W0:World) (G:Nat→Prop)=>SyOk.mk2 Try.mixed dkHo_ok (FnsR.nil) EqsOk.nil) W0 G) (dt1_x R R2 (inS R2 R2.length) en ea eb ec _ R2.length f hT) rfl trivial
  |true=>
   have hk1:=of_decide_eq_true hT
   have hW:IntKind.i64.wrap ((k:Int)+1)=((k+1:Nat):Int):=by rw [IntWalk.i64_in _ (by omega)];omega
   exact rnd_nD (⟨Try.prog,[(65,ctrF Id' (wkC (C_rputN (inS R2 (k+1)))) hardD)],[],dkHo,Id'.one,60⟩:Sy Td) rfl ((fun (W0:World) (G:Nat→Prop)=>SyOk.mk2 Try.mixed dkHo_ok (FnsR.cons ((RW_rputN (inS R2 (k+1)))) (FnsR.nil)) EqsOk.nil) W0 G) (dt1_n R R2 (inS R2 k) (inS R2 (k+1)) en ea eb ec _ _ k f hT (by omega) ⟨by rw [Int.toNat_natCast];rfl⟩ ⟨by omega,by omega⟩ hW) rfl rfl (by omega) (by omega)
 ·revert hU
  match x with
  |.exit 0=>intro hU;simp only [Option.some.injEq] at hU;subst hU;exact hK
  |.normal=>intro hU;cases hU
  |.ret=>intro hU;cases hU
  |.exit (n+1)=>intro hU;cases hU
end Go.Proofs.Ytdenmoiaiemokaa
set_option linter.unusedVariables false
set_option linter.unusedSimpArgs false
namespace Go.Proofs.Ytdenmoiaiemokaa
open Go.RowKit
set_option maxRecDepth 100000 in
theorem dt2_n (R R2 X Y:List Rw) (en s:ByteArray) (ea eb ec:Int) (i i2 t t2:Int) (q q2:Bool) (k:Nat) (f:Nat→Value) (h0:decide (i<(X.length:Int))=true) (h1:0≤i∧i.toNat<X.length) (h2:IntKind.i64.wrap (i+1)=i2) (h3:(bif Op.bytesLess ((X.getD i.toNat Rw.zero).ss.getD 0 ⟨#[]⟩).toList s.toList then IntKind.i64.wrap (i+1) else t)=t2) (h4:(q||((X.getD i.toNat Rw.zero).ss.getD 0 ⟨#[]⟩).toList==s.toList)=q2):∃ qs,alN Id' 5 [(14,.c (.one (.v (.int .i64 i2)))),(12,.c (.one (.v (.int .i64 t2)))),(13,.c (.one (.v (.bool q2))))] [⟨.us (.ext (.vw [true,false,false,false] R)),false⟩,⟨.blk [.v (.string en),.v (.int .i64 ea),.v (.int .i64 eb),.v (.int .i64 ec)],true⟩,⟨.us (.ext (.flat (.rw 109 [true,false,false,false] R2))),true⟩,⟨.us (.ext (.flat (.rw 109 [true,false,false,false] X))),true⟩,⟨.us (.ext (.flat (.rw 109 [true,false,false,false] Y))),true⟩] ((symC (⟨Try.prog,[],[],dkHo,Id'.one,60⟩:Sy Td) [] 102 (hdC (loopsC (bodyOf Try.f10)) 1) ⟨[(14,.c (.one (.v (.int .i64 i)))),(12,.c (.one (.v (.int .i64 t)))),(13,.c (.one (.v (.bool q))))]++anyB' (writesC (hdC (loopsC (bodyOf Try.f10)) 1)) ([(7,.c (.one (.obj 3))),(2,.c (.one (.v (.string s))))]++tabV f 102),[⟨.us (.ext (.vw [true,false,false,false] R)),false⟩,⟨.blk [.v (.string en),.v (.int .i64 ea),.v (.int .i64 eb),.v (.int .i64 ec)],true⟩,⟨.us (.ext (.flat (.rw 109 [true,false,false,false] R2))),true⟩,⟨.us (.ext (.flat (.rw 109 [true,false,false,false] X))),true⟩,⟨.us (.ext (.flat (.rw 109 [true,false,false,false] Y))),true⟩],0⟩).al [true])=some qs∧∀ q∈qs,q:=
 ⟨[decide (i<(↑(FL.rw (109:TypeId) [true,false,false,false] X).n:Int))=true,(0:Int)≤i∧i.toNat<(FL.rw (109:TypeId) [true,false,false,false] X).n,(!q&&true)=true→(0:Int)≤i∧i.toNat<(FL.rw (109:TypeId) [true,false,false,false] X).n,Th.ext (Dk.vw [true,false,false,false] R)=Th.ext (Dk.vw [true,false,false,false] R),Value.string en=Value.string en,Value.int IntKind.i64 ea=Value.int IntKind.i64 ea,Value.int IntKind.i64 eb=Value.int IntKind.i64 eb,Value.int IntKind.i64 ec=Value.int IntKind.i64 ec,Th.ext (Dk.flat (FL.rw 109 [true,false,false,false] R2))=Th.ext (Dk.flat (FL.rw 109 [true,false,false,false] R2)),Th.ext (Dk.flat (FL.rw 109 [true,false,false,false] X))=Th.ext (Dk.flat (FL.rw 109 [true,false,false,false] X)),Th.ext (Dk.flat (FL.rw 109 [true,false,false,false] Y))=Th.ext (Dk.flat (FL.rw 109 [true,false,false,false] Y)),Value.int IntKind.i64 (IntKind.i64.wrap (i+(1:Int)))=Value.int IntKind.i64 i2,Value.int IntKind.i64 (bif Op.bytesLess ((X.getD i.toNat Rw.zero).ss.getD (0:Nat) (ByteArray.mk #[])).toList s.toList then IntKind.i64.wrap (i+(1:Int)) else t)=Value.int IntKind.i64 t2,Value.bool (q||((X.getD i.toNat Rw.zero).ss.getD (0:Nat) (ByteArray.mk #[])).toList==s.toList)=Value.bool q2],by kernel_rfl,(by refine mcons ?_ (mcons ?_ (mcons ?_ (mcons ?_ (mcons ?_ (mcons ?_ (mcons ?_ (mcons ?_ (mcons ?_ (mcons ?_ (mcons ?_ (mcons ?_ (mcons ?_ (mcons ?_ mnil)))))))))))))<;>first|rfl|exact h0|exact h1|exact h2|exact h3|exact h4|trivial|(exact fun _=>h1)|(exact congrArg (Value.int .i64) h2)|(exact congrArg (Value.int .i64) h3)|(exact congrArg Value.bool h4))⟩
set_option maxRecDepth 100000 in
theorem dt2_x (R R2 X Y:List Rw) (en s:ByteArray) (ea eb ec:Int) (i t:Int) (q:Bool) (k:Nat) (f:Nat→Value) (h0:decide (i<(X.length:Int))=false):∃ qs,alX Id' 5 2 [(12,.c (.one (.v (.int .i64 t)))),(13,.c (.one (.v (.bool q))))] [⟨.us (.ext (.vw [true,false,false,false] R)),false⟩,⟨.blk [.v (.string en),.v (.int .i64 ea),.v (.int .i64 eb),.v (.int .i64 ec)],true⟩,⟨.us (.ext (.flat (.rw 109 [true,false,false,false] R2))),true⟩,⟨.us (.ext (.flat (.rw 109 [true,false,false,false] X))),true⟩,⟨.us (.ext (.flat (.rw 109 [true,false,false,false] Y))),true⟩] ((symC (⟨Try.prog,[],[],dkHo,Id'.one,60⟩:Sy Td) [] 102 (hdC (loopsC (bodyOf Try.f10)) 1) ⟨[(14,.c (.one (.v (.int .i64 i)))),(12,.c (.one (.v (.int .i64 t)))),(13,.c (.one (.v (.bool q))))]++anyB' (writesC (hdC (loopsC (bodyOf Try.f10)) 1)) ([(7,.c (.one (.obj 3))),(2,.c (.one (.v (.string s))))]++tabV f 102),[⟨.us (.ext (.vw [true,false,false,false] R)),false⟩,⟨.blk [.v (.string en),.v (.int .i64 ea),.v (.int .i64 eb),.v (.int .i64 ec)],true⟩,⟨.us (.ext (.flat (.rw 109 [true,false,false,false] R2))),true⟩,⟨.us (.ext (.flat (.rw 109 [true,false,false,false] X))),true⟩,⟨.us (.ext (.flat (.rw 109 [true,false,false,false] Y))),true⟩],0⟩).al [false])=some qs∧∀ q∈qs,q:=
 ⟨[decide (i<(↑(FL.rw (109:TypeId) [true,false,false,false] X).n:Int))=false,Th.ext (Dk.vw [true,false,false,false] R)=Th.ext (Dk.vw [true,false,false,false] R),Value.string en=Value.string en,Value.int IntKind.i64 ea=Value.int IntKind.i64 ea,Value.int IntKind.i64 eb=Value.int IntKind.i64 eb,Value.int IntKind.i64 ec=Value.int IntKind.i64 ec,Th.ext (Dk.flat (FL.rw 109 [true,false,false,false] R2))=Th.ext (Dk.flat (FL.rw 109 [true,false,false,false] R2)),Th.ext (Dk.flat (FL.rw 109 [true,false,false,false] X))=Th.ext (Dk.flat (FL.rw 109 [true,false,false,false] X)),Th.ext (Dk.flat (FL.rw 109 [true,false,false,false] Y))=Th.ext (Dk.flat (FL.rw 109 [true,false,false,false] Y)),Value.int IntKind.i64 t=Value.int IntKind.i64 t,Value.bool q=Value.bool q],by kernel_rfl,(by refine mcons ?_ (mcons ?_ (mcons ?_ (mcons ?_ (mcons ?_ (mcons ?_ (mcons ?_ (mcons ?_ (mcons ?_ (mcons ?_ (mcons ?_ mnil))))))))))<;>first|rfl|exact h0|trivial)⟩
def atS (X:List Rw) (s:ByteArray):Nat→Int×Bool
 |0=>(0,false)
 |k+1=>(bif Op.bytesLess ((X.getD k Rw.zero).ss.getD 0 ⟨#[]⟩).toList s.toList then ((k+1:Nat):Int) else (atS X s k).1,(atS X s k).2||((X.getD k Rw.zero).ss.getD 0 ⟨#[]⟩).toList==s.toList)
set_option maxRecDepth 100000 in
theorem dt2_lp (R R2 X Y:List Rw) (en s:ByteArray) (ea eb ec:Int) (hX:X.length≤1000) {W0:World} {G:Nat→Prop} (S0:Sy Td) (hS0:S0.P=Try.prog):LoopSound S0 Id' W0 G 102 (hdC (loopsC (bodyOf Try.f10)) 1) (lpG Id' 102 (hdC (loopsC (bodyOf Try.f10)) 1) 5 [(14,.c (.one (.v (.int .i64 ((0:Nat):Int))))),(12,.c (.one (.v (.int .i64 (0:Int))))),(13,.c (.one (.v (.bool false))))] [(7,.c (.one (.obj 3))),(2,.c (.one (.v (.string s))))] [⟨.us (.ext (.vw [true,false,false,false] R)),false⟩,⟨.blk [.v (.string en),.v (.int .i64 ea),.v (.int .i64 eb),.v (.int .i64 ec)],true⟩,⟨.us (.ext (.flat (.rw 109 [true,false,false,false] R2))),true⟩,⟨.us (.ext (.flat (.rw 109 [true,false,false,false] X))),true⟩,⟨.us (.ext (.flat (.rw 109 [true,false,false,false] Y))),true⟩] (.leaf (.exit 2) [(12,.c (.one (.v (.int .i64 (atS X s X.length).1)))),(13,.c (.one (.v (.bool (atS X s X.length).2))))] [⟨.us (.ext (.vw [true,false,false,false] R)),false⟩,⟨.blk [.v (.string en),.v (.int .i64 ea),.v (.int .i64 eb),.v (.int .i64 ec)],true⟩,⟨.us (.ext (.flat (.rw 109 [true,false,false,false] R2))),true⟩,⟨.us (.ext (.flat (.rw 109 [true,false,false,false] X))),true⟩,⟨.us (.ext (.flat (.rw 109 [true,false,false,false] Y))),true⟩])):=by
 refine lp_sound (V:=fun k=>[(14,.c (.one (.v (.int .i64 (k:Int))))),(12,.c (.one (.v (.int .i64 (atS X s k).1)))),(13,.c (.one (.v (.bool (atS X s k).2))))]) (M:=(fun k=>[⟨.us (.ext (.vw [true,false,false,false] R)),false⟩,⟨.blk [.v (.string en),.v (.int .i64 ea),.v (.int .i64 eb),.v (.int .i64 ec)],true⟩,⟨.us (.ext (.flat (.rw 109 [true,false,false,false] R2))),true⟩,⟨.us (.ext (.flat (.rw 109 [true,false,false,false] X))),true⟩,⟨.us (.ext (.flat (.rw 109 [true,false,false,false] Y))),true⟩]:Nat→Mem Td)) (N:=X.length) (Ux:=fun k x=>match x with|.exit 2=>some ([(12,.c (.one (.v (.int .i64 (atS X s X.length).1)))),(13,.c (.one (.v (.bool (atS X s X.length).2))))],([⟨.us (.ext (.vw [true,false,false,false] R)),false⟩,⟨.blk [.v (.string en),.v (.int .i64 ea),.v (.int .i64 eb),.v (.int .i64 ec)],true⟩,⟨.us (.ext (.flat (.rw 109 [true,false,false,false] R2))),true⟩,⟨.us (.ext (.flat (.rw 109 [true,false,false,false] X))),true⟩,⟨.us (.ext (.flat (.rw 109 [true,false,false,false] Y))),true⟩]:Mem Td))|_=>none) (X:=fun _ _=>True) (J:=fun k=>k≤X.length) (fun k=>by kernel_rfl) (Nat.zero_le _) (fun k hk hJ f=>?_) (fun K hK k x U hk hU hX=>?_)
 ·rw [hS0]
  cases hT:decide ((k:Int)<(X.length:Int)) with
  |false=>
   have hke:k=X.length:=by have:=of_decide_eq_false hT;omega
   subst hke
   exact rnd_xD (⟨Try.prog,[],[],dkHo,Id'.one,60⟩:Sy Td) rfl ((fun (W0:World) (G:Nat→Prop)=>SyOk.mk2 Try.mixed dkHo_ok (FnsR.nil) EqsOk.nil) W0 G) (dt2_x R R2 X Y en s ea eb ec _ _ _ X.length f hT) rfl trivial
  |true=>
   have hk1:=of_decide_eq_true hT
   have hW:IntKind.i64.wrap ((k:Int)+1)=((k+1:Nat):Int):=by rw [IntWalk.i64_in _ (by omega)];omega
   exact rnd_nD (⟨Try.prog,[],[],dkHo,Id'.one,60⟩:Sy Td) rfl ((fun (W0:World) (G:Nat→Prop)=>SyOk.mk2 Try.mixed dkHo_ok (FnsR.nil) EqsOk.nil) W0 G) (dt2_n R R2 X Y en s ea eb ec _ _ (atS X s k).1 (atS X s (k+1)).1 (atS X s k).2 (atS X s (k+1)).2 k f hT ⟨by omega,by omega⟩ hW (by rw [hW];rfl) rfl) rfl rfl (by omega) (by omega)
 ·revert hU
  match x with
  |.normal=>intro hU;cases hU
  |.ret=>intro hU;cases hU
  |.exit n=>
   intro hU
   by_cases h:n=2
   ·subst h;simp only [Option.some.injEq] at hU;subst hU;exact hK
   ·exfalso;split at hU
    ·rename_i he;cases he;exact h rfl
    ·cases hU
end Go.Proofs.Ytdenmoiaiemokaa

/- L11. -/
import Derived.Test.YtonomiljclemnaaL10p
import Derived.IntWalk
set_option linter.unusedVariables false
set_option linter.unusedSimpArgs false
namespace Go.Proofs.Ytonomiljclemnaa
open Go.RowKit
set_option maxRecDepth 100000 in
set_option maxHeartbeats 1000000 in
theorem runseal_len (v:Value) (l:List UInt8) (w:World) (hv:Bs w v l) (hl:l.length≠128):
  Calls Try.prog 69 #[v] w fun r w'=>r=.returned (.tuple #[pc0,.int .i64 4])∧Ext w w':=by
 obtain ⟨ao,cap,rfl,r1,r2,r3,r4⟩:=hv.open
 clear hv r4
 obtain ⟨n,hn⟩:∃ n,n=l.length:=⟨_,rfl⟩
 rw [← hn] at r1 hl ⊢
 have h1:((n:Int) != 128)=true:=by rw [bne_iff_ne];omega
 clear hn hl r3
 go_enter Try.func69,Try.ntmps69
 go_wp2_with fail
 refine bodyPost_ret (v:=.tuple #[pc0,.int .i64 4]) (results_cell_tmp Try.results69 rfl rfl (a:=⟨w.heap.size,0,none⟩) ?_) rfl ⟨rfl,(Ext.refl w).alloc _⟩
 exact load_new _ _ _ _ rfl Try.underlying124 rfl (by kernel_rfl)
set_option maxRecDepth 100000 in
set_option maxHeartbeats 1000000 in
theorem runseal_wide (v:Value) (l:List UInt8) (w:World) (hv:Bs w v l) (hl:l.length=128) (h9:3<(l.getD 8 0).toNat∨106<(l.getD 9 0).toNat):
  Calls Try.prog 69 #[v] w fun r w'=>r=.returned (.tuple #[pc0,.int .i64 4])∧Ext w w':=by
 obtain ⟨ao,cap,rfl,r1,r2,r3,r4⟩:=hv.open
 rw [hl] at r1 r4 ⊢
 obtain ⟨a,rfl⟩:∃ a,ao=some a:=by cases ao with|none=>have:=r3 rfl;omega|some a=>exact ⟨a,rfl⟩
 have k8:(w.alloc (.cells #[.int .u64 0,.int .u64 0,.bool false,.bool false,.slice none 0 0] 124)).cell? ⟨a.block,a.off+8,none⟩=some (.int .u8 ((l.getD 8 0).toNat:Int)):=Ext.cell ((Ext.refl w).alloc _) (r4 a rfl 8 (by decide))
 have k9:(w.alloc (.cells #[.int .u64 0,.int .u64 0,.bool false,.bool false,.slice none 0 0] 124)).cell? ⟨a.block,a.off+9,none⟩=some (.int .u8 ((l.getD 9 0).toNat:Int)):=Ext.cell ((Ext.refl w).alloc _) (r4 a rfl 9 (by decide))
 generalize (l.getD 9 0).toNat=x at k9 h9
 generalize (l.getD 8 0).toNat=y at k8 h9
 have hc:decide ((3:Int)<(y:Int))=true∨(decide ((3:Int)<(y:Int))=false∧decide ((106:Int)<(x:Int))=true):=by simp only [decide_eq_true_eq,decide_eq_false_iff_not];omega
 clear hv r4 r3 hl h9
 rcases hc with d1|⟨d1,d2⟩
 all_goals
  go_enter Try.func69,Try.ntmps69
  go_wp2_with fail
  refine bodyPost_ret (v:=.tuple #[pc0,.int .i64 4]) (results_cell_tmp Try.results69 rfl rfl (a:=⟨w.heap.size,0,none⟩) ?_) rfl ⟨rfl,(Ext.refl w).alloc _⟩
  exact load_new _ _ _ _ rfl Try.underlying124 rfl (by kernel_rfl)
set_option maxRecDepth 100000 in
set_option maxHeartbeats 4000000 in
theorem runseal_mid (v:Value) (l:List UInt8) (w:World) (hv:Bs w v l) (hl:l.length=128) (h8:(l.getD 8 0).toNat≤3) (h9:(l.getD 9 0).toNat≤106):
  Calls Try.prog 69 #[v] w fun r w'=>Ext w w'∧(((pcOf l).sec=l∧∃ ao cap,r=.returned (.tuple #[(pcOf l).agg (.slice ao (pcOf l).d.length cap),.int .i64 0])∧w'.ownsRow w.heap.size 5 1 (.slice ao (pcOf l).d.length cap) (pcOf l).d.length ((pcOf l).d.map bv))∨
   ((pcOf l).sec≠l∧r=.returned (.tuple #[pc0,.int .i64 4]))):=by
 obtain ⟨hok,hdl⟩:=pcOf_ok hl h9
 have hv0:=hv
 obtain ⟨ao,cap,rfl,r1,r2,r3,r4⟩:=hv.open
 rw [hl] at r1 r4 hv hv0 ⊢
 obtain ⟨a,rfl⟩:∃ a,ao=some a:=by cases ao with|none=>have:=r3 rfl;omega|some a=>exact ⟨a,rfl⟩
 have k9':=r4 a rfl 9 (by decide)
 have k8':=r4 a rfl 8 (by decide)
 have hf256:=(l.getD 8 0).toNat_lt
 obtain ⟨n,hn⟩:∃ n,n=(l.getD 9 0).toNat:=⟨_,rfl⟩
 obtain ⟨f,hf⟩:∃ n,n=(l.getD 8 0).toNat:=⟨_,rfl⟩
 rw [← hn] at k9' h9 hdl
 rw [← hf] at k8' hf256 h8
 obtain ⟨st,hst⟩:∃ st,st=valBL (l.take 8):=⟨_,rfl⟩
 have hst64:st<18446744073709551616:=by
  rw [hst];have h:=valBL_lt (l.take 8);rw [List.length_take,hl] at h;simpa using h
 obtain ⟨p,hp⟩:∃ p,p=pcOf l:=⟨_,rfl⟩
 have hpe:p=⟨st / 1099511627776,st % 1099511627776,decide (f % 2=1),decide (f / 2 % 2=1),(l.drop 10).take n⟩:=by rw [hp,hst,hf,hn];rfl
 rw [← hp] at hok hdl ⊢
 rw [hdl]
 have HPE:=Lib.hid hpe
 have HOK:=Lib.hid hok
 have HDL:=Lib.hid hdl
 have HST64:=Lib.hid hst64
 have HST:=Lib.hid hst
 have HF:=Lib.hid hf256
 have HV:=Lib.hid hv0
 have K9:=Lib.hid k9'
 have K8:=Lib.hid k8'
 have HL:=Lib.hid hl
 have h1:decide ((106:Int)<(n:Int))=false:=by simp;omega
 have k9:(w.alloc (.cells #[.int .u64 0,.int .u64 0,.bool false,.bool false,.slice none 0 0] 124)).cell? ⟨a.block,a.off+9,none⟩=some (.int .u8 (n:Int)):=Ext.cell ((Ext.refl w).alloc _) k9'
 have h2:decide ((3:Int)<(f:Int))=false:=by simp;omega
 have k8:(w.alloc (.cells #[.int .u64 0,.int .u64 0,.bool false,.bool false,.slice none 0 0] 124)).cell? ⟨a.block,a.off+8,none⟩=some (.int .u8 (f:Int)):=Ext.cell ((Ext.refl w).alloc _) k8'
 have HF3:=Lib.hid h8
 clear h8
 clear r3 r4 hpe hok hdl hst64 hst hf hn hp hf256 hv hv0 k9' k8' hl
 go_enter Try.func69,Try.ntmps69
 go_wp2_with fail
 obtain ⟨w1,hw1⟩:∃ w1,w1=w.alloc (.cells #[.int .u64 0,.int .u64 0,.bool false,.bool false,.slice none 0 0] 124):=⟨_,rfl⟩
 obtain ⟨rb,hrb⟩:∃ n,n=w.heap.size:=⟨_,rfl⟩
 have HR1:Hid (w1.heap[rb]? =some (.cells #[.int .u64 0,.int .u64 0,.bool false,.bool false,.slice none 0 0] 124 (0,0))):=Lib.hid (by rw [hw1,hrb];exact heap_alloc_new w _)
 have HX1:Hid (Ext w w1∧w1.heap.size=rb+1∧rb=w.heap.size):=Lib.hid ⟨by rw [hw1];exact (Ext.refl w).alloc _,by rw [hw1,hrb];simp,hrb⟩
 rw [← hw1] at k9 k8 ⊢
 rw [← hrb]
 clear hw1 hrb
 have hb8:Bs w1 (.slice (some a) 8 cap) (l.take 8):=Bs.take (HV.out.ext HX1.out.1) (by decide)
 refine (rvalue_c _ (l.take 8) w1 hb8 (by rw [List.length_take];omega)).mono ?_
 rintro e w2 ⟨rfl,rfl⟩
 rw [← HST.out]
 have k9w:w2.cell? ⟨a.block,a.off+9,none⟩=some (.int .u8 (n:Int)):=k9
 obtain ⟨dl,hdl⟩:∃ x,x=(l.drop 10).take n:=⟨_,rfl⟩
 have hdn:dl.length=n:=by rw [hdl,List.length_take,List.length_drop,HL.out];omega
 have hvd:Bs w2 (.slice (some ⟨a.block,a.off+10,none⟩) n (cap - 10)) dl:=by
  have h:=Bs.sub (HV.out.ext HX1.out.1) (k:=10) (m:=10+n) (by omega) (by omega) (ao':=some ⟨a.block,a.off+10,none⟩) (cap':=cap - 10) (by omega) (by omega) (fun h=>by cases h) (fun a' ha _=>by cases ha;exact ⟨a,rfl,rfl⟩)
  rw [Nat.add_sub_cancel_left,←hdl] at h
  exact h
 have HVD:=Lib.hid hvd
 have HDN:=Lib.hid hdn
 obtain ⟨ep,hep⟩:∃ x,x=st / 1099511627776:=⟨_,rfl⟩
 obtain ⟨ct,hct⟩:∃ x,x=st % 1099511627776:=⟨_,rfl⟩
 obtain ⟨fi,hfi⟩:∃ x,x=decide (f % 2=1):=⟨_,rfl⟩
 obtain ⟨la,hla⟩:∃ x,x=decide (f / 2 % 2=1):=⟨_,rfl⟩
 have HQR:Hid (IntKind.u64.wrap ((st:Int) / 1099511627776)=(ep:Int)∧(st:Int) % 1099511627776=(ct:Int)∧(((f:Int) % 2==1)=fi)∧decide ((1:Int)<(f:Int))=la):=Lib.hid ⟨by rw [IntKind.wrap_u64,hep];have:=HST64.out;omega,by rw [hct];omega,by rw [hfi,Bool.eq_iff_iff];simp only [beq_iff_eq,decide_eq_true_eq];omega,by rw [hla];have:=HF3.out;rw [Bool.eq_iff_iff];simp only [decide_eq_true_eq];omega⟩
 have HPP:Hid (p=⟨ep,ct,fi,la,dl⟩):=Lib.hid (by rw [HPE.out,hep,hct,hfi,hla,hdl])
 clear hb8 hdl hdn hvd hep hct hfi hla
 have hc10:(cap=10)=False:=eq_false (by omega)
 have hcn1:(10:Int)≤10+(n:Int):=by omega
 have hcn2:10+(n:Int)≤(cap:Int):=by omega
 have hcn3:(10+(n:Int)).toNat - 10=n:=by omega
 go_wp2_with fail
 refine wp_region_rx 23 _
  [ex (.int .u64 (st:Int)),
   ex (.int .u64 (ep:Int)),
   ex (.int .u64 (st:Int)),
   ex (.int .u64 (ct:Int)),
   ex (.slice (some a) 128 cap),
   ex (.pointer (some ⟨a.block,a.off+8,none⟩)),
   ex (.int .u8 (f:Int)),
   ex (.int .u8 ((f:Int) % 2)),
   ex (.bool fi),
   ex (.slice (some a) 128 cap),
   ex (.pointer (some ⟨a.block,a.off+8,none⟩)),
   ex (.int .u8 (f:Int)),
   ex (.bool la),
   ex (.slice (some a) 128 cap),
   ex (.slice (some a) 128 cap),
   ex (.pointer (some ⟨a.block,a.off+9,none⟩)),
   ex (.int .u8 (n:Int)),
   ex (.int .i64 (n:Int)),
   ex (.int .i64 (10+(n:Int))),
   ex (.slice (some ⟨a.block,a.off+10,none⟩) n (cap - 10)),
   (fun v w'=>∃ ao' cap',v=.slice ao' n cap'∧w'.ownsRow rb 5 1 (.slice ao' n cap') n (dl.map bv)),
   (fun v w'=>∃ ao' cap',v=.agg #[.int .u64 (ep:Int),.int .u64 (ct:Int),.bool fi,.bool la,.slice ao' n cap']∧w'.ownsRow rb 5 1 (.slice ao' n cap') n (dl.map bv)),
   (fun v w'=>∃ b,v=.pointer (some ⟨b,0,none⟩)∧rb<b∧Hid (w'.heap[b]? =some (.cells #[.int .u64 0,.int .u64 0,.bool false,.bool false,.slice none 0 0] 124 (0,0))))]
  (by kernel_rfl) (by kernel_rfl) (by kernel_rfl) rfl ⟨ex_st,ex_st,ex_st,ex_st,ex_st,ex_st,ex_st,ex_st,ex_st,ex_st,ex_st,ex_st,ex_st,ex_st,ex_st,ex_st,ex_st,ex_st,ex_st,ex_st,(fun v w1 w2 h hx=>by obtain ⟨x,y,h1,h2⟩:=h;exact ⟨x,y,h1,owns_ext h2 hx⟩),(fun v w1 w2 h hx=>by obtain ⟨x,y,h1,h2⟩:=h;exact ⟨x,y,h1,owns_ext h2 hx⟩),(fun v w1 w2 h hx=>by obtain ⟨b,h1,h2,h3⟩:=h;exact ⟨b,h1,h2,Lib.hid ((hx.block b (Array.getElem?_eq_some_iff.1 h3.out).1 id).trans h3.out)⟩),trivial⟩ ?_ ?_
 ·simp only [List.take_succ_cons,List.take_zero]
  go_tidy
  refine RhOps.mk (RhOp.moveA (by decide) (.free rfl) 4 (fun _ w _=>Ext.refl w) rfl rfl (.int .u64 (st:Int)) rfl (fun _ _ _=>rfl)) ?_
  refine RhOps.mk (RhOp.at (by decide) (.free rfl) ?_) ?_
  rotate_left
  refine RhOps.mk (RhOp.moveA (by decide) (.free rfl) 4 (fun _ w _=>Ext.refl w) rfl rfl (.int .u64 (st:Int)) rfl (fun _ _ _=>rfl)) ?_
  refine RhOps.mk (RhOp.at (by decide) (.free rfl) ?_) ?_
  rotate_left
  refine RhOps.mk (RhOp.moveA (by decide) (.free rfl) 0 (fun _ w _=>Ext.refl w) rfl rfl (.slice (some a) 128 cap) rfl (fun _ _ _=>rfl)) ?_
  refine RhOps.mk (RhOp.at (by decide) (.free rfl) ?_) ?_
  rotate_left
  refine RhOps.mk (RhOp.at (by decide) (.free rfl) ?_) ?_
  rotate_left
  refine RhOps.mk (RhOp.at (by decide) (.free rfl) ?_) ?_
  rotate_left
  refine RhOps.mk (RhOp.at (by decide) (.free rfl) ?_) ?_
  rotate_left
  refine RhOps.mk (RhOp.moveA (by decide) (.free rfl) 0 (fun _ w _=>Ext.refl w) rfl rfl (.slice (some a) 128 cap) rfl (fun _ _ _=>rfl)) ?_
  refine RhOps.mk (RhOp.at (by decide) (.free rfl) ?_) ?_
  rotate_left
  refine RhOps.mk (RhOp.at (by decide) (.free rfl) ?_) ?_
  rotate_left
  refine RhOps.mk (RhOp.at (by decide) (.free rfl) ?_) ?_
  rotate_left
  refine RhOps.mk (RhOp.moveA (by decide) (.free rfl) 0 (fun _ w _=>Ext.refl w) rfl rfl (.slice (some a) 128 cap) rfl (fun _ _ _=>rfl)) ?_
  refine RhOps.mk (RhOp.moveA (by decide) (.free rfl) 0 (fun _ w _=>Ext.refl w) rfl rfl (.slice (some a) 128 cap) rfl (fun _ _ _=>rfl)) ?_
  refine RhOps.mk (RhOp.at (by decide) (.free rfl) ?_) ?_
  rotate_left
  refine RhOps.mk (RhOp.at (by decide) (.free rfl) ?_) ?_
  rotate_left
  refine RhOps.mk (RhOp.at (by decide) (.free rfl) ?_) ?_
  rotate_left
  refine RhOps.mk (RhOp.at (by decide) (.free rfl) ?_) ?_
  rotate_left
  refine RhOps.mk (RhOp.at (by decide) (.free rfl) ?_) ?_
  rotate_left
  refine RhOps.mk (RhOp.at (by decide) (.free rfl) ?_) ?_
  rotate_left
  refine RhOps.mk (RhOp.at (by decide) (.free rfl) ?_) ?_
  rotate_left
  refine RhOps.mk (RhOp.at (by decide) (.free rfl) ?_) ?_
  rotate_left
  exact RhOps.done
  ·intro bb vals ρ w' hC hd hS
   have r27:ρ (.tmp 27)=.int .u64 (st:Int):=(hS.tmp 27).trans (hd.at 0 rfl)
   have rc:=hS.const
   refine (show givesR _ _ _ _ (fun v w''=>Ext w' w''∧v=.int .u64 (ep:Int)) from ?_)
   clear hC hd hS
   go_simp
   exact ⟨Ext.refl _,HQR.out.1⟩
  ·intro bb vals ρ w' hC hd hS
   have r29:ρ (.tmp 29)=.int .u64 (st:Int):=(hS.tmp 29).trans (hd.at 2 rfl)
   have rc:=hS.const
   refine (show givesR _ _ _ _ (fun v w''=>Ext w' w''∧v=.int .u64 (ct:Int)) from ?_)
   clear hC hd hS
   go_simp
   exact ⟨Ext.refl _,HQR.out.2.1⟩
  ·intro bb vals ρ w' hC hd hS
   have r31:ρ (.tmp 31)=.slice (some a) 128 cap:=(hS.tmp 31).trans (hd.at 4 rfl)
   have rc:=hS.const
   refine (show givesR _ _ _ _ (fun v w''=>Ext w' w''∧v=.pointer (some ⟨a.block,a.off+8,none⟩)) from ?_)
   clear hC hd hS
   go_simp
   exact Ext.refl _
  ·intro bb vals ρ w' hC hd hS
   have r32:ρ (.tmp 32)=.pointer (some ⟨a.block,a.off+8,none⟩):=(hS.tmp 32).trans (hd.at 5 rfl)
   refine (show givesR _ _ _ _ (fun v w''=>Ext w' w''∧v=.int .u8 (f:Int)) from ?_)
   have qc:=hC.cell k8
   clear hC hd hS
   go_simp
   exact Ext.refl _
  ·intro bb vals ρ w' hC hd hS
   have r33:ρ (.tmp 33)=.int .u8 (f:Int):=(hS.tmp 33).trans (hd.at 6 rfl)
   have rc:=hS.const
   refine (show givesR _ _ _ _ (fun v w''=>Ext w' w''∧v=.int .u8 ((f:Int) % 2)) from ?_)
   clear hC hd hS
   go_simp
   exact ⟨Ext.refl _,Int.tmod_eq_emod_of_nonneg (by omega)⟩
  ·intro bb vals ρ w' hC hd hS
   have r34:ρ (.tmp 34)=.int .u8 ((f:Int) % 2):=(hS.tmp 34).trans (hd.at 7 rfl)
   have rc:=hS.const
   refine (show givesR _ _ _ _ (fun v w''=>Ext w' w''∧v=.bool fi) from ?_)
   clear hC hd hS
   go_simp
   exact ⟨Ext.refl _,HQR.out.2.2.1⟩
  ·intro bb vals ρ w' hC hd hS
   have r36:ρ (.tmp 36)=.slice (some a) 128 cap:=(hS.tmp 36).trans (hd.at 9 rfl)
   have rc:=hS.const
   refine (show givesR _ _ _ _ (fun v w''=>Ext w' w''∧v=.pointer (some ⟨a.block,a.off+8,none⟩)) from ?_)
   clear hC hd hS
   go_simp
   exact Ext.refl _
  ·intro bb vals ρ w' hC hd hS
   have r37:ρ (.tmp 37)=.pointer (some ⟨a.block,a.off+8,none⟩):=(hS.tmp 37).trans (hd.at 10 rfl)
   refine (show givesR _ _ _ _ (fun v w''=>Ext w' w''∧v=.int .u8 (f:Int)) from ?_)
   have qc:=hC.cell k8
   clear hC hd hS
   go_simp
   exact Ext.refl _
  ·intro bb vals ρ w' hC hd hS
   have r38:ρ (.tmp 38)=.int .u8 (f:Int):=(hS.tmp 38).trans (hd.at 11 rfl)
   have rc:=hS.const
   refine (show givesR _ _ _ _ (fun v w''=>Ext w' w''∧v=.bool la) from ?_)
   clear hC hd hS
   go_simp
   exact ⟨Ext.refl _,HQR.out.2.2.2⟩
  ·intro bb vals ρ w' hC hd hS
   have r41:ρ (.tmp 41)=.slice (some a) 128 cap:=(hS.tmp 41).trans (hd.at 14 rfl)
   have rc:=hS.const
   refine (show givesR _ _ _ _ (fun v w''=>Ext w' w''∧v=.pointer (some ⟨a.block,a.off+9,none⟩)) from ?_)
   clear hC hd hS
   go_simp
   exact Ext.refl _
  ·intro bb vals ρ w' hC hd hS
   have r42:ρ (.tmp 42)=.pointer (some ⟨a.block,a.off+9,none⟩):=(hS.tmp 42).trans (hd.at 15 rfl)
   refine (show givesR _ _ _ _ (fun v w''=>Ext w' w''∧v=.int .u8 (n:Int)) from ?_)
   have qc:=hC.cell k9w
   clear hC hd hS
   go_simp
   exact Ext.refl _
  ·intro bb vals ρ w' hC hd hS
   have r43:ρ (.tmp 43)=.int .u8 (n:Int):=(hS.tmp 43).trans (hd.at 16 rfl)
   refine (show givesR _ _ _ _ (fun v w''=>Ext w' w''∧v=.int .i64 (n:Int)) from ?_)
   clear hC hd hS
   go_simp
   exact ⟨Ext.refl _,IntWalk.i64_in _ (by omega)⟩
  ·intro bb vals ρ w' hC hd hS
   have r44:ρ (.tmp 44)=.int .i64 (n:Int):=(hS.tmp 44).trans (hd.at 17 rfl)
   have rc:=hS.const
   refine (show givesR _ _ _ _ (fun v w''=>Ext w' w''∧v=.int .i64 (10+(n:Int))) from ?_)
   clear hC hd hS
   go_simp
   exact ⟨Ext.refl _,IntWalk.i64_in _ (by omega)⟩
  ·intro bb vals ρ w' hC hd hS
   have r40:ρ (.tmp 40)=.slice (some a) 128 cap:=(hS.tmp 40).trans (hd.at 13 rfl)
   have r45:ρ (.tmp 45)=.int .i64 (10+(n:Int)):=(hS.tmp 45).trans (hd.at 18 rfl)
   have rc:=hS.const
   refine (show givesR _ _ _ _ (fun v w''=>Ext w' w''∧v=.slice (some ⟨a.block,a.off+10,none⟩) n (cap - 10)) from ?_)
   clear hC hd hS
   go_simp
   exact Ext.refl _
  ·intro bb vals ρ w' hC hd hS
   have r46:ρ (.tmp 46)=.slice (some ⟨a.block,a.off+10,none⟩) n (cap - 10):=(hS.tmp 46).trans (hd.at 19 rfl)
   have rf:=hS.func
   refine (show givesR _ _ _ _ (fun v w''=>Ext w' w''∧(fun v w'=>∃ ao' cap',v=.slice ao' n cap'∧w'.ownsRow rb 5 1 (.slice ao' n cap') n (dl.map bv)) v w'') from ?_)
   have hb:=HVD.out.ext hC
   have hz:=hC.size
   have HBB:=Lib.hid hb
   have HZ:=Lib.hid hz
   clear hC hd hS hb hz
   go_simp
   refine (copy_c _ dl w' HBB.out (by have:=HDN.out;omega)).mono ?_
   rintro e w'' ⟨ao',cap',rfl,hx,ho⟩
   rw [HDN.out] at ho ⊢
   exact ⟨_,rfl,hx,ao',cap',rfl,owns_base ho (by have:=HZ.out;have:=HX1.out.2.1;omega)⟩
  ·intro bb vals ρ w' hC hd hS
   have r28:ρ (.tmp 28)=.int .u64 (ep:Int):=(hS.tmp 28).trans (hd.at 1 rfl)
   have r30:ρ (.tmp 30)=.int .u64 (ct:Int):=(hS.tmp 30).trans (hd.at 3 rfl)
   have r35:ρ (.tmp 35)=.bool fi:=(hS.tmp 35).trans (hd.at 8 rfl)
   have r39:ρ (.tmp 39)=.bool la:=(hS.tmp 39).trans (hd.at 12 rfl)
   have d20:=hd.at 20 rfl
   have r47:ρ (.tmp 47)=vals 20:=hS.tmp 47
   refine (show givesR _ _ _ _ (fun v w''=>Ext w' w''∧(fun v w'=>∃ ao' cap',v=.agg #[.int .u64 (ep:Int),.int .u64 (ct:Int),.bool fi,.bool la,.slice ao' n cap']∧w'.ownsRow rb 5 1 (.slice ao' n cap') n (dl.map bv)) v w'') from ?_)
   obtain ⟨ao',cap',e20,o20⟩:=d20
   rw [e20] at r47
   have HO':=Lib.hid o20
   clear hC hd hS e20 o20
   go_simp
   exact ⟨Ext.refl _,ao',cap',⟨rfl,rfl⟩,HO'.out⟩
  ·intro bb vals ρ w' hC hd hS
   refine (show givesR _ _ _ _ (fun v w''=>Ext w' w''∧(fun v w'=>∃ b,v=.pointer (some ⟨b,0,none⟩)∧rb<b∧Hid (w'.heap[b]? =some (.cells #[.int .u64 0,.int .u64 0,.bool false,.bool false,.slice none 0 0] 124 (0,0)))) v w'') from ?_)
   have hz:=hC.size
   have HZ:=Lib.hid hz
   clear hC hd hS hz
   go_simp
   exact ⟨(Ext.refl _).alloc _,by have:=HZ.out;have:=HX1.out.2.1;omega,Lib.hid (by obtain ⟨_,h⟩:=Array.getElem?_eq_some_iff.1 (heap_alloc_new w' (.cells #[.int .u64 0,.int .u64 0,.bool false,.bool false,.slice none 0 0] 124));exact h)⟩
 intro vals w' hC hV
 have e21:=hV 21 (by decide)
 have e22:=hV 22 (by decide)
 simp only [vlist,ex,List.getD_cons_zero,List.getD_cons_succ] at e21 e22
 have HC':=Lib.hid hC;clear hC hV
 simp only [List.drop_succ_cons,List.drop_zero]
 obtain ⟨ao',cap',e21,o21⟩:=e21
 obtain ⟨b,e22,hb,hblk⟩:=e22
 rename World=>w3
 have q0:w3.cell? ⟨b,0,none⟩=some (.int .u64 0):=by rw [cell_of_blk hblk.out];rfl
 have q1:w3.cell? ⟨b,1,none⟩=some (.int .u64 0):=by rw [cell_of_blk hblk.out];rfl
 have q2:w3.cell? ⟨b,2,none⟩=some (.bool false):=by rw [cell_of_blk hblk.out];rfl
 have q3:w3.cell? ⟨b,3,none⟩=some (.bool false):=by rw [cell_of_blk hblk.out];rfl
 have q4:w3.cell? ⟨b,4,none⟩=some (.slice none 0 0):=by rw [cell_of_blk hblk.out];rfl
 have z0:=frozen_of_blk hblk.out 0
 have z1:=frozen_of_blk hblk.out 1
 have z2:=frozen_of_blk hblk.out 2
 have z3:=frozen_of_blk hblk.out 3
 have z4:=frozen_of_blk hblk.out 4
 have HO21:=Lib.hid o21
 clear o21
 obtain ⟨w4,hw4⟩:∃ x,x=(((((w3.setCell ⟨b,0,none⟩ (.int .u64 (ep:Int))).setCell ⟨b,1,none⟩ (.int .u64 (ct:Int))).setCell ⟨b,2,none⟩ (.bool fi)).setCell ⟨b,3,none⟩ (.bool la)).setCell ⟨b,4,none⟩ (.slice ao' n cap')):=⟨_,rfl⟩
 have hb4:w4.heap[b]? =some (.cells #[.int .u64 (ep:Int),.int .u64 (ct:Int),.bool fi,.bool la,.slice ao' n cap'] 124 (0,0)):=by
  rw [hw4]
  exact setCell_blk (setCell_blk (setCell_blk (setCell_blk (setCell_blk hblk.out))))
 have hle:w2.heap.size≤b:=by have:=HX1.out.2.1;omega
 have hx4:Ext w2 w4:=by
  rw [hw4]
  exact Ext.setCell (Ext.setCell (Ext.setCell (Ext.setCell (Ext.setCell HC'.out hle _) hle _) hle _) hle _) hle _
 have hne:=owns_ne_block HO21.out hblk.out (by decide)
 have ho4:w4.ownsRow rb 5 1 (.slice ao' n cap') n (dl.map bv):=by
  rw [hw4]
  exact owns_setCell (owns_setCell (owns_setCell (owns_setCell (owns_setCell HO21.out hne) hne) hne) hne) hne
 have HB4:=Lib.hid hb4
 have HX4:=Lib.hid hx4
 have HO4:=Lib.hid ho4
 clear hb4 hle hx4 hne ho4
 go_wp2_with fail
 rw [← hw4]
 clear hw4 q0 q1 q2 q3 q4 z0 z1 z2 z3 z4 e21 e22 hblk k8 k9 HO21 HC'
 have hbs4:Bs w4 (.slice ao' n cap') dl:=by have:=Rs.of_owns HO4.out;unfold Bs;rwa [HDN.out]
 refine (rseal_ok ⟨ep,ct,fi,la,dl⟩ (.slice ao' n cap') w4 (by rw [← HPP.out];exact HOK.out) hbs4).mono ?_
 rintro e w5 ⟨sao,scap,rfl,hx5,hs5⟩
 rw [← HPP.out] at hs5
 have hr5:=((HX4.out.trans hx5).block rb (Array.getElem?_eq_some_iff.1 HR1.out).1 id).trans HR1.out
 have hb5:=(hx5.block b (Array.getElem?_eq_some_iff.1 HB4.out).1 id).trans HB4.out
 have HR5:=Lib.hid hr5
 have HB5:=Lib.hid hb5
 have HX5:Hid (Ext w w5):=Lib.hid (HX1.out.1.trans (HX4.out.trans hx5))
 have HO5:=Lib.hid (owns_ext HO4.out hx5)
 have HS5:Hid (Bs w5 (.slice sao 128 scap) p.sec):=Lib.hid (by have h:=Rs.of_owns hs5;unfold Bs;rw [Pc.sec_length HOK.out.2.2];exact h)
 clear hbs4 hx5 hs5 hr5 hb5
 go_wp2_with fail
 refine (same_c _ _ l p.sec w5 (HV.out.ext HX5.out) HS5.out).mono ?_
 rintro e w6' ⟨rfl,nd,rfl⟩
 obtain ⟨w6,hw6⟩:∃ x,x=w5.drewN nd:=⟨_,rfl⟩
 rw [← hw6]
 have hx6:Ext w5 w6:=by rw [hw6];exact (Ext.refl _).drewN _
 have hrb6:=(hx6.block rb (Array.getElem?_eq_some_iff.1 HR5.out).1 id).trans HR5.out
 have hbb6:=(hx6.block b (Array.getElem?_eq_some_iff.1 HB5.out).1 id).trans HB5.out
 have HR6:=Lib.hid hrb6
 have HB6:=Lib.hid hbb6
 have HX6:=Lib.hid (HX5.out.trans hx6)
 have HO6:=Lib.hid (owns_ext HO5.out hx6)
 clear hx6 hrb6 hbb6 hw6
 have q0:w6.cell? ⟨b,0,none⟩=some (.int .u64 ep):=by rw [cell_of_blk HB6.out];rfl
 have q1:w6.cell? ⟨b,1,none⟩=some (.int .u64 ct):=by rw [cell_of_blk HB6.out];rfl
 have q2:w6.cell? ⟨b,2,none⟩=some (.bool fi):=by rw [cell_of_blk HB6.out];rfl
 have q3:w6.cell? ⟨b,3,none⟩=some (.bool la):=by rw [cell_of_blk HB6.out];rfl
 have q4:w6.cell? ⟨b,4,none⟩=some (.slice ao' n cap'):=by rw [cell_of_blk HB6.out];rfl
 have r0:w6.cell? ⟨rb,0,none⟩=some (.int .u64 0):=by rw [cell_of_blk HR6.out];rfl
 have r1:w6.cell? ⟨rb,1,none⟩=some (.int .u64 0):=by rw [cell_of_blk HR6.out];rfl
 have r2:w6.cell? ⟨rb,2,none⟩=some (.bool false):=by rw [cell_of_blk HR6.out];rfl
 have r3:w6.cell? ⟨rb,3,none⟩=some (.bool false):=by rw [cell_of_blk HR6.out];rfl
 have r4:w6.cell? ⟨rb,4,none⟩=some (.slice none 0 0):=by rw [cell_of_blk HR6.out];rfl
 have z0:=frozen_of_blk HR6.out 0
 have z1:=frozen_of_blk HR6.out 1
 have z2:=frozen_of_blk HR6.out 2
 have z3:=frozen_of_blk HR6.out 3
 have z4:=frozen_of_blk HR6.out 4
 have HRB:Hid (w.heap.size≤rb):=Lib.hid (by rw [HX1.out.2.2];exact Nat.le_refl _)
 by_cases hq:l=p.sec
 ·have hd:decide (l=p.sec)=true:=decide_eq_true hq
  have HQ:=Lib.hid hq
  rw [hd]
  clear hd hq
  go_wp2_with fail
  refine bodyPost_ret (v:=.tuple #[.agg #[.int .u64 (ep:Int),.int .u64 (ct:Int),.bool fi,.bool la,.slice ao' n cap'],.int .i64 0]) (results_cell_tmp Try.results69 rfl rfl (a:=⟨rb,0,none⟩) ?_) rfl ⟨?_,.inl ⟨HQ.out.symm,ao',cap',by rw [HPP.out];rfl,?_⟩⟩
  ·exact load_blk (setCell_blk (setCell_blk (setCell_blk (setCell_blk (setCell_blk HR6.out))))) Try.underlying124 rfl (by kernel_rfl)
  ·exact Ext.setCell (Ext.setCell (Ext.setCell (Ext.setCell (Ext.setCell HX6.out HRB.out _) HRB.out _) HRB.out _) HRB.out _) HRB.out _
  ·have hne:=owns_ne_block HO6.out HR6.out (by decide)
   have h:=owns_setCell (owns_setCell (owns_setCell (owns_setCell (owns_setCell HO6.out hne (u:=.int .u64 ep) (p:=⟨rb,0,none⟩)) hne (u:=.int .u64 ct) (p:=⟨rb,1,none⟩)) hne (u:=.bool fi) (p:=⟨rb,2,none⟩)) hne (u:=.bool la) (p:=⟨rb,3,none⟩)) hne (u:=.slice ao' n cap') (p:=⟨rb,4,none⟩)
   rw [HPP.out]
   exact owns_base h HRB.out
 ·have hd:decide (l=p.sec)=false:=decide_eq_false hq
  have HQ:=Lib.hid hq
  rw [hd]
  clear hd hq
  go_wp2_with fail
  refine bodyPost_ret (v:=.tuple #[pc0,.int .i64 4]) (results_cell_tmp Try.results69 rfl rfl (a:=⟨rb,0,none⟩) ?_) rfl ⟨?_,.inr ⟨fun h=>HQ.out h.symm,rfl⟩⟩
  ·exact load_blk (setCell_blk (setCell_blk (setCell_blk (setCell_blk (setCell_blk HR6.out))))) Try.underlying124 rfl (by kernel_rfl)
  ·exact Ext.setCell (Ext.setCell (Ext.setCell (Ext.setCell (Ext.setCell HX6.out HRB.out _) HRB.out _) HRB.out _) HRB.out _) HRB.out _
theorem runseal_c (v:Value) (l:List UInt8) (w:World) (hv:Bs w v l):
  Calls Try.prog 69 #[v] w fun r w'=>Ext w w'∧((isSec l∧∃ ao cap,r=.returned (.tuple #[(pcOf l).agg (.slice ao (pcOf l).d.length cap),.int .i64 0])∧w'.ownsRow w.heap.size 5 1 (.slice ao (pcOf l).d.length cap) (pcOf l).d.length ((pcOf l).d.map bv))∨
   (¬ isSec l∧r=.returned (.tuple #[pc0,.int .i64 4]))):=by
 by_cases hl:l.length=128
 ·by_cases h9:(l.getD 8 0).toNat≤3∧(l.getD 9 0).toNat≤106
  ·refine (runseal_mid v l w hv hl h9.1 h9.2).mono ?_
   rintro r w' ⟨hx,⟨h1,h2⟩|⟨h1,h2⟩⟩
   ·exact ⟨hx,.inl ⟨⟨hl,h9.2,h1⟩,h2⟩⟩
   ·exact ⟨hx,.inr ⟨fun h=>h1 h.2.2,h2⟩⟩
  ·refine (runseal_wide v l w hv hl (by omega)).mono ?_
   rintro r w' ⟨h1,hx⟩
   exact ⟨hx,.inr ⟨fun h=>h9 ⟨isSec_flag h,h.2.1⟩,h1⟩⟩
 ·refine (runseal_len v l w hv hl).mono ?_
  rintro r w' ⟨h1,hx⟩
  exact ⟨hx,.inr ⟨fun h=>hl h.1,h1⟩⟩
end Go.Proofs.Ytonomiljclemnaa

/- L5. -/
import Derived.Test.YtonomiljclemnaaL4p
import Derived.Test.YtonomiljclemnaaG0p
import Derived.Laws.CopyOwn
set_option linter.unusedVariables false
set_option linter.unusedSimpArgs false
namespace Go.Proofs.Ytonomiljclemnaa
open Go.RowKit
def Sec (w:World) (g:Nat) (l:List UInt8):Prop:=l.length=128∧w.heap[g]? =some (.cells (l.map bv).toArray 5 (0,0))
section
variable {w w':World} {g:Nat} {l:List UInt8}
theorem Sec.lt (h:Sec w g l):g<w.heap.size:=(Array.getElem?_eq_some_iff.1 h.2).1
theorem Sec.ext (h:Sec w g l) (hx:Ext w w'):Sec w' g l:=⟨h.1,(hx.block g h.lt id).trans h.2⟩
theorem Sec.cell (h:Sec w g l) {i:Nat} (hi:i<128):w.cell? ⟨g,i,none⟩=some (bv (l.getD i 0)):=by
 rw [cell_of_blk h.2]
 have:i<l.length:=by rw [h.1];exact hi
 simp [this,List.getD]
theorem Sec.fz (h:Sec w g l) (i:Nat):w.frozen? ⟨g,i,none⟩=false:=frozen_of_blk h.2 i
theorem Sec.store (h:Sec w g l) (i:Nat) (x:UInt8):Sec (w.setCell ⟨g,i,none⟩ (bv x)) g (l.set i x):=by
 refine ⟨by rw [List.length_set];exact h.1,?_⟩
 rw [setCell_blk h.2,List.map_set]
 simp
theorem Sec.owns (h:Sec w g l) {B:Nat} (hB:B≤g):w.ownsRow B 5 1 (.slice (some ⟨g,0,none⟩) 128 128) 128 (l.map bv):=
 ⟨by simp [h.1],.inr ⟨g,128,_,rfl,hB,h.2,Nat.le_refl _,by decide,by simp [h.1],by rw [List.take_of_length_le (by simp [h.1])]⟩⟩
theorem Sec.of_owns {B:Nat} (h:w.ownsRow B 5 1 (.slice (some ⟨g,0,none⟩) 128 128) 128 (l.map bv)):Sec w g l:=by
 have hl:l.length=128:=by have:=h.1;simpa using this
 refine ⟨hl,?_⟩
 rcases h.2 with ⟨hn,_⟩|⟨g',cap',cur,hn,k1,k2,k3,k4,k5,k6⟩
 ·cases hn
 ·simp only [Value.slice.injEq,Option.some.injEq,Addr.mk.injEq] at hn
  obtain ⟨⟨rfl,_⟩,_,rfl⟩:=hn
  rw [k2]
  rw [List.take_of_length_le (by simp [k5])] at k6
  congr 2
  apply Array.toList_inj.1
  exact k6
theorem Sec.bs (h:Sec w g l):Bs w (.slice (some ⟨g,0,none⟩) 128 128) l:=by
 have:=Rs.of_owns (h.owns (Nat.zero_le _))
 unfold Bs;rwa [h.1]
end
set_option maxHeartbeats 1000000 in
theorem number_s (x g off n cap:Nat) (l:List UInt8) (w:World) (h:Sec w g l) (hb:off+n≤128) (hn:n≤8) (hx:x<18446744073709551616):
  Calls Try.prog 62 #[.slice (some ⟨g,off,none⟩) n cap,.int .u64 x] w fun r w'=>r=.returned (.tuple #[])∧Sec w' g (l.take off++numL x n++l.drop (off+n))∧Mod (fun k=>k=g) w w':=by
 refine (number_c x g off n 128 cap 128 0 l w (h.owns (Nat.zero_le _)) hb hn hx).mono ?_
 rintro r w' ⟨rfl,h1,h2⟩
 exact ⟨rfl,Sec.of_owns h1,h2⟩
theorem seal_law (p:Pc) (h:p.d.length≤106) {l0 l1 l2 l3 l4 l5:List UInt8} (h0:l0=List.replicate 128 0) (h1:l1=l0.take 0++numL p.st 8++l0.drop (0+8))
  (h2:l2=(l1.set 8 (UInt8.ofNat p.flag)).set 9 (UInt8.ofNat p.d.length)) (h3:l3=l2.take 10++(p.d++l2.drop (10+p.d.length)))
  (h4:l4=l3.take 116++numL (fsum (l3.take 116)) 4++l3.drop (116+4)) (h5:l5=l4.take 120++numL p.st 8++l4.drop (120+8)):l5=p.sec:=by
 have hr:∀ n k,(List.replicate n (0:UInt8)).drop k=List.replicate (n - k) 0:=fun n k=>by simp
 have e1:l1=numL p.st 8++(0::0::List.replicate 118 0):=by
  rw [h1,h0,hr,List.take_zero,List.nil_append];rfl
 have e2:l2=numL p.st 8++(UInt8.ofNat p.flag::UInt8.ofNat p.d.length::List.replicate 118 0):=by
  rw [h2,e1,List.set_append_right _ _ (by rw [numL_length];exact Nat.le_refl _),numL_length,List.set_append_right _ _ (by rw [numL_length];decide),numL_length];rfl
 have l10:(numL p.st 8++[UInt8.ofNat p.flag,UInt8.ofNat p.d.length]).length=10:=by simp [numL_length]
 have e2':l2=(numL p.st 8++[UInt8.ofNat p.flag,UInt8.ofNat p.d.length])++List.replicate 118 0:=by rw [e2];simp
 have e3:l3=p.body++List.replicate 12 0:=by
  rw [h3,e2',List.take_left' l10,←List.drop_drop,List.drop_left' l10,hr]
  unfold Pc.body
  rw [show 118 - p.d.length=(106 - p.d.length)+12 by omega,←List.replicate_append_replicate]
  simp
 have lb:=Pc.body_length h
 have e4:l4=(p.body++numL (fsum p.body) 4)++List.replicate 8 0:=by
  rw [h4,e3,List.take_left' lb,←List.drop_drop,List.drop_left' lb,hr]
 have l120:(p.body++numL (fsum p.body) 4).length=120:=by simp [lb,numL_length]
 rw [h5,e4,List.take_left' l120,←List.drop_drop,List.drop_left' l120,hr]
 simp [Pc.sec]
theorem Bs.src {w:World} {ao:Option Addr} {n cap:Nat} {l:List UInt8} (h:Bs w (.slice ao n cap) l) (hp:0<n):∃ ad,ao=some ad∧∀ j v,(l.map bv)[j]? =some v→w.cell? (ad.add j)=some v:=by
 obtain ⟨h1,ao0,cap0,h2,h3,h4,h5,h6⟩:=h
 simp only [Value.slice.injEq] at h2
 obtain ⟨rfl,h7,rfl⟩:=h2
 cases ao with
 |none=>have:=h5 rfl;omega
 |some a=>exact ⟨a,rfl,h6 a rfl⟩
theorem p_u3264 {s:Nat} (h:s<4294967296):IntKind.u64.wrap (s:Int)=(s:Int):=by rw [IntKind.wrap_u64];omega
theorem p_len8 {n:Nat} (h:n≤106):IntKind.u8.wrap (n:Int)=(n:Int):=by rw [IntKind.wrap_u8'];omega
theorem bv_small {n:Nat} (h:n<256):bv (UInt8.ofNat n)=.int .u8 (n:Int):=by rw [bv,toNat_small h]
set_option maxRecDepth 100000 in
set_option maxHeartbeats 4000000 in
theorem seal_ok (p:Pc) (v:Value) (w:World) (hp:p.ok) (hv:Bs w v p.d):
  Calls Try.prog 50 #[p.agg v] w fun r w'=>∃ g,r=.returned (.tuple #[.slice (some ⟨g,0,none⟩) 128 128,.int .i64 0])∧Ext w w'∧w.heap.size≤g∧Sec w' g p.sec:=by
 obtain ⟨ao,cap,rfl,r1,r2,r3,r4⟩:=hv.open
 obtain ⟨o1,o2,o3⟩:=hp
 obtain ⟨n,hn⟩:∃ n,n=p.d.length:=⟨_,rfl⟩
 obtain ⟨ep,hep⟩:∃ n,n=p.ep:=⟨_,rfl⟩
 obtain ⟨ct,hct⟩:∃ n,n=p.ct:=⟨_,rfl⟩
 obtain ⟨fi,hfi⟩:∃ n,n=p.fi:=⟨_,rfl⟩
 obtain ⟨la,hla⟩:∃ n,n=p.la:=⟨_,rfl⟩
 have HV:=Lib.hid hv;clear hv
 unfold Pc.agg
 rw [← hn] at r1 r4 o3 HV ⊢
 rw [← hep,←hct,←hfi,←hla]
 rw [← hep] at o1
 rw [← hct] at o2
 have hd:decide ((106:Int)<(n:Int))=false:=by simp;omega
 obtain ⟨f,hf⟩:∃ f,f=p.flag:=⟨_,rfl⟩
 have HF:Hid (f=fi.toNat+2 * la.toNat∧f<4∧f=p.flag):=Lib.hid ⟨by rw [hf,hfi,hla];rfl,by rw [hf];exact flag_lt p,hf⟩
 obtain ⟨st,hst⟩:∃ st,st=ep * 1099511627776+ct:=⟨_,rfl⟩
 have HST:Hid (st=p.st∧st<18446744073709551616):=Lib.hid ⟨by rw [hst,hep,hct];rfl,by omega⟩
 have HO:=Lib.hid (And.intro o1 (And.intro o2 o3))
 have HN:=Lib.hid hn
 have HE:=Lib.hid hst
 have R3:=Lib.hid r3
 have R4:=Lib.hid r4
 clear hn hep hct hfi hla hf hst r3 r4 o1 o2
 go_enter Try.func50,Try.ntmps50
 go_wp2_with fail
 refine (stamp_ok ep ct _ HO.out.1 HO.out.2.1).mono ?_
 rintro e w1 ⟨rfl,rfl⟩
 rw [← HE.out]
 obtain ⟨w2,hr,ho,hx2⟩:=make_bytes 128 (by decide) (w.alloc (.cells #[.int .u64 ep,.int .u64 ct,.bool fi,.bool la,.slice ao n cap] 100))
 have hr':(Instr.makeSlice 31 (.int .i64 128) (.int .i64 128)).run Try.prog (w.alloc (.cells #[.int .u64 ep,.int .u64 ct,.bool fi,.bool la,.slice ao n cap] 100))=.ok (.slice (some ⟨(w.alloc (.cells #[.int .u64 ep,.int .u64 ct,.bool fi,.bool la,.slice ao n cap] 100)).heap.size,0,none⟩) 128 128) w2:=hr
 have HB:Hid (w2.heap[w.heap.size]? =some (.cells #[.int .u64 ep,.int .u64 ct,.bool fi,.bool la,.slice ao n cap] 100 (0,0))):=Lib.hid ((hx2.block _ (by simp) id).trans (heap_alloc_new w _))
 obtain ⟨l0,hl0⟩:∃ l0,l0=List.replicate 128 (0:UInt8):=⟨_,rfl⟩
 rw [← hl0] at ho
 obtain ⟨g,hg⟩:∃ g,g=(w.alloc (.cells #[.int .u64 ep,.int .u64 ct,.bool fi,.bool la,.slice ao n cap] 100)).heap.size:=⟨_,rfl⟩
 rw [← hg] at ho hr'
 have HS0:Hid (Sec w2 g l0):=Lib.hid (Sec.of_owns ho)
 have HG:Hid (g=w.heap.size+1):=Lib.hid (by rw [hg];simp)
 have HX2:Hid (Ext w w2):=Lib.hid (((Ext.refl w).alloc _).trans hx2)
 have HL0:=Lib.hid hl0
 obtain ⟨pb,hpb⟩:∃ pb,pb=w.heap.size:=⟨_,rfl⟩
 clear hr ho hx2 hl0 hg
 go_wp2_with fail
 rw [← hpb] at HB ⊢
 have HPB:=Lib.hid hpb
 clear hr' hpb
 refine (number_s st g 0 8 128 l0 w2 HS0.out (by decide) (by decide) HST.out.2).mono ?_
 rintro e w3 ⟨rfl,hs1,hm1⟩
 obtain ⟨l1,hl1⟩:∃ l1,l1=List.take 0 l0++numL st 8++List.drop (0+8) l0:=⟨_,rfl⟩
 rw [← hl1] at hs1
 have HS1:=Lib.hid hs1
 have HM1:=Lib.hid hm1
 have HL1:=Lib.hid hl1
 have hb3:=(hm1.block pb (Array.getElem?_eq_some_iff.1 HB.out).1 (by have:=HG.out;have:=HPB.out;omega)).trans HB.out
 have HB3:=Lib.hid hb3
 clear hs1 hm1 hl1 hb3
 have c0:w3.cell? ⟨pb,0,none⟩=some (.int .u64 ep):=by rw [cell_of_blk HB3.out];rfl
 have c1:w3.cell? ⟨pb,1,none⟩=some (.int .u64 ct):=by rw [cell_of_blk HB3.out];rfl
 have c2:w3.cell? ⟨pb,2,none⟩=some (.bool fi):=by rw [cell_of_blk HB3.out];rfl
 have c3:w3.cell? ⟨pb,3,none⟩=some (.bool la):=by rw [cell_of_blk HB3.out];rfl
 have c4:w3.cell? ⟨pb,4,none⟩=some (.slice ao n cap):=by rw [cell_of_blk HB3.out];rfl
 have HNE:Hid (¬ pb=g):=Lib.hid (by have:=HG.out;have:=HPB.out;omega)
 go_wp2_with fail
 refine wp_region_rs 10 _ [9]
  (fun k w'=>Mod (fun i=>i=g) w3 w'∧Sec w' g (if k=0 then l1 else l1.set 8 (UInt8.ofNat f))) Ext
  (svl [exk (.slice (some ⟨g,0,none⟩) 128 128),
   exk (.slice (some ⟨g,0,none⟩) 128 128),
   exk (.agg #[.int .u64 ep,.int .u64 ct,.bool fi,.bool la,.slice ao n cap]),
   exk (.int .u8 (f:Int)),
   exk (.pointer (some ⟨pb,4,none⟩)),
   exk (.slice ao n cap),
   exk (.int .i64 (n:Int)),
   exk (.int .u8 (n:Int)),
   exk (.pointer (some ⟨g,8,none⟩)),
   (fun _ _ _=>True)]
   [9] (fun _ _ _ _=>True))
  (by kernel_rfl) (by kernel_rfl) (by kernel_rfl) (by kernel_rfl) rfl ⟨(Ext.refl _).drew.mod,HS1.out.ext (Ext.refl _).drew⟩ (fun _ w _=>Ext.refl w) (fun _ _ _ h hx=>⟨h.1.ext hx,h.2.ext hx⟩)
  (fun b i v w1 w2 _ _ hV hx=>svl_stays (R:=Ext) (by exact ⟨exk_st,exk_st,exk_st,exk_st,exk_st,exk_st,exk_st,exk_st,exk_st,(fun _ _ _ _ _ _=>trivial),trivial⟩) (fun _ _ _ _ _ h _=>h) b i v w1 w2 hV hx) ?_ ?_
 ·simp only [List.take_succ_cons,List.take_zero]
  go_tidy
  refine RsOps.mk (RsOp.moveA rfl (fun b=>.free rfl) 6 (fun _ w _=>Ext.refl w) rfl rfl (.slice (some ⟨g,0,none⟩) 128 128) rfl (fun _ _ _=>rfl)) ?_
  refine RsOps.mk (RsOp.moveA rfl (fun b=>.free rfl) 6 (fun _ w _=>Ext.refl w) rfl rfl (.slice (some ⟨g,0,none⟩) 128 128) rfl (fun _ _ _=>rfl)) ?_
  refine RsOps.mk (RsOp.at rfl (fun b=>.free rfl) ?_) ?_
  rotate_left
  refine RsOps.mk (RsOp.at rfl (fun b=>.free rfl) ?_) ?_
  rotate_left
  refine RsOps.mk (RsOp.at rfl (fun b=>.free rfl) ?_) ?_
  rotate_left
  refine RsOps.mk (RsOp.at rfl (fun b=>.free rfl) ?_) ?_
  rotate_left
  refine RsOps.mk (RsOp.at rfl (fun b=>.free rfl) ?_) ?_
  rotate_left
  refine RsOps.mk (RsOp.at rfl (fun b=>.free rfl) ?_) ?_
  rotate_left
  refine RsOps.mk (RsOp.at rfl (fun b=>.free rfl) ?_) ?_
  rotate_left
  refine RsOps.mk (RsOp.chain 0 rfl (fun b=>.free rfl) ?_) ?_
  rotate_left
  exact RsOps.done
  ·intro bb vals ρ w' hC hd hS
   have r1:ρ (.tmp 1)=.pointer (some ⟨pb,0,none⟩):=hS.tmp 1
   refine (show givesR _ _ _ _ (fun v w''=>Ext w' w''∧v=.agg #[.int .u64 ep,.int .u64 ct,.bool fi,.bool la,.slice ao n cap]) from ?_)
   have q0:=hC.1.cell c0 HNE.out
   have q1:=hC.1.cell c1 HNE.out
   have q2:=hC.1.cell c2 HNE.out
   have q3:=hC.1.cell c3 HNE.out
   have q4:=hC.1.cell c4 HNE.out
   clear hC hd hS
   go_simp
   exact Ext.refl _
  ·intro bb vals ρ w' hC hd hS
   have r30:ρ (.tmp 30)=.agg #[.int .u64 ep,.int .u64 ct,.bool fi,.bool la,.slice ao n cap]:=(hS.tmp 30).trans (hd.at 2 rfl)
   have rf:=hS.func
   refine (show givesR _ _ _ _ (fun v w''=>Ext w' w''∧v=.int .u8 (f:Int)) from ?_)
   clear hC hd hS
   go_simp
   refine (flags_c ep ct fi la _ w').mono ?_
   rintro e w'' ⟨rfl,hx⟩
   exact ⟨by rw [HF.out.1],hx⟩
  ·intro bb vals ρ w' hC hd hS
   have r1:ρ (.tmp 1)=.pointer (some ⟨pb,0,none⟩):=hS.tmp 1
   refine (show givesR _ _ _ _ (fun v w''=>Ext w' w''∧v=.pointer (some ⟨pb,4,none⟩)) from ?_)
   clear hC hd hS
   go_simp
   exact Ext.refl _
  ·intro bb vals ρ w' hC hd hS
   have r32:ρ (.tmp 32)=.pointer (some ⟨pb,4,none⟩):=(hS.tmp 32).trans (hd.at 4 rfl)
   refine (show givesR _ _ _ _ (fun v w''=>Ext w' w''∧v=.slice ao n cap) from ?_)
   have q4:=hC.1.cell c4 HNE.out
   clear hC hd hS
   go_simp
   exact Ext.refl _
  ·intro bb vals ρ w' hC hd hS
   have r33:ρ (.tmp 33)=.slice ao n cap:=(hS.tmp 33).trans (hd.at 5 rfl)
   refine (show givesR _ _ _ _ (fun v w''=>Ext w' w''∧v=.int .i64 (n:Int)) from ?_)
   clear hC hd hS
   go_simp
   exact Ext.refl _
  ·intro bb vals ρ w' hC hd hS
   have r34:ρ (.tmp 34)=.int .i64 (n:Int):=(hS.tmp 34).trans (hd.at 6 rfl)
   refine (show givesR _ _ _ _ (fun v w''=>Ext w' w''∧v=.int .u8 (n:Int)) from ?_)
   clear hC hd hS
   go_simp
   exact ⟨Ext.refl _,p_len8 HO.out.2.2⟩
  ·intro bb vals ρ w' hC hd hS
   have r28:ρ (.tmp 28)=.slice (some ⟨g,0,none⟩) 128 128:=(hS.tmp 28).trans (hd.at 0 rfl)
   have rc:=hS.const
   refine (show givesR _ _ _ _ (fun v w''=>Ext w' w''∧v=.pointer (some ⟨g,8,none⟩)) from ?_)
   clear hC hd hS
   go_simp
   exact Ext.refl _
  ·intro vals ρ w' hC hd hS
   have r36:ρ (.tmp 36)=.pointer (some ⟨g,8,none⟩):=(hS.tmp 36).trans (hd.at 8 rfl)
   have r31:ρ (.tmp 31)=.int .u8 (f:Int):=(hS.tmp 31).trans (hd.at 3 rfl)
   have hs:Sec w' g l1:=by simpa using hC.2
   have hm:=hC.1
   have qc:=hs.cell (i:=8) (by decide)
   have qf:=hs.fz 8
   have hst:=hs.store 8 (UInt8.ofNat f)
   rw [bv_small (by have:=HF.out.2.1;omega)] at hst
   have HSS:=Lib.hid hst
   have HMM:=Lib.hid hm
   clear hC hd hS hs hm hst
   go_simp
   exact ⟨⟨Mod.setCell HMM.out (fun _=>rfl) _,by simpa using HSS.out⟩,trivial,svl_next rfl ⟨exk_nx,exk_nx,exk_nx,exk_nx,exk_nx,exk_nx,exk_nx,exk_nx,exk_nx,(fun _ _=>trivial),trivial⟩ (fun q v hm=>absurd hm (by omega))⟩
 intro vals w' hC hV
 have e1:vals 1=.slice (some ⟨g,0,none⟩) 128 128:=hV 1 (by decide)
 have e7:vals 7=.int .u8 (n:Int):=hV 7 (by decide)
 have HC':=Lib.hid hC;clear hC hV
 simp only [List.drop_succ_cons,List.drop_zero]
 rename World=>w4
 have hs4:Sec w4 g (l1.set 8 (UInt8.ofNat f)):=by simpa using HC'.out.2
 have HM4:Hid (Mod (fun i=>i=g) w3 w4):=Lib.hid HC'.out.1
 have k9:=hs4.cell (i:=9) (by decide)
 have f9:=hs4.fz 9
 have hst:=hs4.store 9 (UInt8.ofNat n)
 rw [bv_small (by have:=HO.out.2.2;omega)] at hst
 obtain ⟨l2,hl2⟩:∃ l2,l2=(l1.set 8 (UInt8.ofNat f)).set 9 (UInt8.ofNat n):=⟨_,rfl⟩
 rw [← hl2] at hst
 have HL2:=Lib.hid hl2
 have HS2:=Lib.hid hst
 have HM5:Hid (Mod (fun i=>i=g) w3 (w4.setCell ⟨g,9,none⟩ (.int .u8 (n:Int)))):=Lib.hid (Mod.setCell HM4.out (fun _=>rfl) _)
 clear hl2 hst hs4 HC'
 go_wp2_with fail
 obtain ⟨w5,hw5⟩:∃ w5,w5=w4.setCell ⟨g,9,none⟩ (.int .u8 (n:Int)):=⟨_,rfl⟩
 rw [← hw5] at HS2 HM5 ⊢
 have c5:=HM5.out.cell c4 HNE.out
 clear k9 f9 hw5 c0 c1 c2 c3 c4 e1 e7
 refine wp_region_rx 4 _
  [ex (.slice (some ⟨g,0,none⟩) 128 128),
   ex (.slice (some ⟨g,10,none⟩) 118 118),
   ex (.pointer (some ⟨pb,4,none⟩)),
   ex (.slice ao n cap)]
  (by kernel_rfl) (by kernel_rfl) (by kernel_rfl) rfl ⟨ex_st,ex_st,ex_st,ex_st,trivial⟩ ?_ ?_
 ·simp only [List.take_succ_cons,List.take_zero]
  go_tidy
  refine RhOps.mk (RhOp.moveA (by decide) (.free rfl) 6 (fun _ w _=>Ext.refl w) rfl rfl (.slice (some ⟨g,0,none⟩) 128 128) rfl (fun _ _ _=>rfl)) ?_
  refine RhOps.mk (RhOp.at (by decide) (.free rfl) ?_) ?_
  rotate_left
  refine RhOps.mk (RhOp.at (by decide) (.free rfl) ?_) ?_
  rotate_left
  refine RhOps.mk (RhOp.at (by decide) (.free rfl) ?_) ?_
  rotate_left
  exact RhOps.done
  ·intro bb vals ρ w' hC hd hS
   have r38:ρ (.tmp 38)=.slice (some ⟨g,0,none⟩) 128 128:=(hS.tmp 38).trans (hd.at 0 rfl)
   have rc:=hS.const
   refine (show givesR _ _ _ _ (fun v w''=>Ext w' w''∧v=.slice (some ⟨g,10,none⟩) 118 118) from ?_)
   clear hC hd hS
   go_simp
   exact Ext.refl _
  ·intro bb vals ρ w' hC hd hS
   have r1:ρ (.tmp 1)=.pointer (some ⟨pb,0,none⟩):=hS.tmp 1
   refine (show givesR _ _ _ _ (fun v w''=>Ext w' w''∧v=.pointer (some ⟨pb,4,none⟩)) from ?_)
   clear hC hd hS
   go_simp
   exact Ext.refl _
  ·intro bb vals ρ w' hC hd hS
   have r40:ρ (.tmp 40)=.pointer (some ⟨pb,4,none⟩):=(hS.tmp 40).trans (hd.at 2 rfl)
   have qc:=hC.cell c5
   refine (show givesR _ _ _ _ (fun v w''=>Ext w' w''∧v=.slice ao n cap) from ?_)
   clear hC hd hS
   go_simp
   exact Ext.refl _
 intro vals w' hC hV
 have e1:=hV 1 (by decide)
 have e3:=hV 3 (by decide)
 simp only [vlist,ex,List.getD_cons_zero,List.getD_cons_succ] at e1 e3
 have HC':=Lib.hid hC;clear hC hV
 simp only [List.drop_succ_cons,List.drop_zero]
 rename World=>w6
 have hs6:=HS2.out.ext HC'.out
 have HS6:=Lib.hid hs6
 obtain ⟨dl,hdl⟩:∃ dl,dl=p.d:=⟨_,rfl⟩
 rw [← hdl] at HN R4 HV
 have HDL:=Lib.hid hdl
 have h6:w6.heap[g]? =some (.cells (l2.map bv).toArray 5 (0,0)):=hs6.2
 have hl6:(l2.map bv).length=128:=by rw [List.length_map];exact hs6.1
 obtain ⟨L2,hL2⟩:∃ L2,L2=l2.map bv:=⟨_,rfl⟩
 obtain ⟨D,hD⟩:∃ D,D=dl.map bv:=⟨_,rfl⟩
 rw [← hL2] at h6 hl6
 have hDl:D.length=n:=by rw [hD,List.length_map];exact HN.out.symm
 have H6:=Lib.hid h6
 have HDL2:=Lib.hid (And.intro hl6 hDl)
 have HD:=Lib.hid hD
 have HL2':=Lib.hid hL2
 have hx6:=HM5.out.ext HC'.out
 have HM6:=Lib.hid hx6
 have hm6:Mod (fun k=>k=g) w w6:=Mod.trans HX2.out.mod (Mod.trans HM1.out hx6 (fun _ h _=>h)) (fun _ h _=>h)
 have HMW:=Lib.hid hm6
 have hvv:Bs w6 (.slice ao n cap) dl:=HV.out.mod hm6 (fun k _ hk e=>by subst e;have:=HG.out;omega)
 have HVV:=Lib.hid hvv
 clear hm6 hvv
 clear hs6 hdl h6 hl6 hL2 hD hDl hx6
 refine wpList_copy_splice rfl (.tmp 39) (.tmp 41) 31 31 rfl 5 Try.underlying31 (by kernel_rfl) (some ⟨g,10,none⟩) ao 118 118 n cap e1 e3 g 10 L2 5 H6.out D (by rw [HDL2.out.2];exact (Nat.min_eq_left (by have:=HO.out.2.2;omega)).symm) (fun hp=>⟨rfl,by rw [HD.out];exact HVV.out.src (by rw [← HDL2.out.2];exact hp)⟩) (by rw [HDL2.out.1,HDL2.out.2];have:=HO.out.2.2;omega) (by rw [HD.out];exact oneCell_bv _) g w6 (Below.refl _ _) (Nat.le_refl _) ?_
 intro w7 HG7 hB7
 obtain ⟨l3,hl3⟩:∃ l3,l3=l2.take 10++(dl++l2.drop (10+n)):=⟨_,rfl⟩
 have hs3:Sec w7 g l3:=by
  have e:splice L2 10 D=l3.map bv:=by
   rw [HL2'.out,HD.out,hl3]
   unfold splice
   rw [List.map_append,List.map_append,List.map_take,List.map_drop,List.length_map,←HN.out]
  have h:=HG7.out
  rw [e] at h
  refine ⟨?_,h⟩
  have h1:=HS2.out.1
  have h2:=HO.out.2.2
  rw [hl3,List.length_append,List.length_append,List.length_take,List.length_drop,←HN.out]
  omega
 have hb7:Below w.heap.size w w7:=(HMW.out.below (Nat.le_refl _) (fun k hk=>by rw [hk];have:=HG.out;omega)).trans (hB7.mono (by have:=HG.out;omega))
 have HS3:=Lib.hid hs3
 have HL3:=Lib.hid hl3
 have HW7:=Lib.hid hb7
 have HB3s:Hid (Bs w7 (.slice (some ⟨g,0,none⟩) 116 128) (l3.take 116)):=Lib.hid (hs3.bs.take (by decide))
 obtain ⟨s,hs⟩:∃ s,s=fsum (l3.take 116):=⟨_,rfl⟩
 have HSM:Hid (fsum (l3.take 116)=s∧s<4294967296):=Lib.hid ⟨hs.symm,by rw [hs];exact fsum_lt _⟩
 clear hl3 hs3 hb7 hs hB7 HG7 H6 HS6 HVV HMW HC' HM6 HM5 HM4 c5 e1 e3
 go_wp2_with fail
 refine wp_region_rx 6 _
  [ex (.slice (some ⟨g,0,none⟩) 128 128),
   ex (.slice (some ⟨g,116,none⟩) 4 12),
   ex (.slice (some ⟨g,0,none⟩) 128 128),
   ex (.slice (some ⟨g,0,none⟩) 116 128),
   ex (.int .u32 (s:Int)),
   ex (.int .u64 (s:Int))]
  (by kernel_rfl) (by kernel_rfl) (by kernel_rfl) rfl ⟨ex_st,ex_st,ex_st,ex_st,ex_st,ex_st,trivial⟩ ?_ ?_
 ·simp only [List.take_succ_cons,List.take_zero]
  go_tidy
  refine RhOps.mk (RhOp.moveA (by decide) (.free rfl) 6 (fun _ w _=>Ext.refl w) rfl rfl (.slice (some ⟨g,0,none⟩) 128 128) rfl (fun _ _ _=>rfl)) ?_
  refine RhOps.mk (RhOp.at (by decide) (.free rfl) ?_) ?_
  rotate_left
  refine RhOps.mk (RhOp.moveA (by decide) (.free rfl) 6 (fun _ w _=>Ext.refl w) rfl rfl (.slice (some ⟨g,0,none⟩) 128 128) rfl (fun _ _ _=>rfl)) ?_
  refine RhOps.mk (RhOp.at (by decide) (.free rfl) ?_) ?_
  rotate_left
  refine RhOps.mk (RhOp.at (by decide) (.free rfl) ?_) ?_
  rotate_left
  refine RhOps.mk (RhOp.at (by decide) (.free rfl) ?_) ?_
  rotate_left
  exact RhOps.done
  ·intro bb vals ρ w' hC hd hS
   have r43:ρ (.tmp 43)=.slice (some ⟨g,0,none⟩) 128 128:=(hS.tmp 43).trans (hd.at 0 rfl)
   have rc:=hS.const
   refine (show givesR _ _ _ _ (fun v w''=>Ext w' w''∧v=.slice (some ⟨g,116,none⟩) 4 12) from ?_)
   clear hC hd hS
   go_simp
   exact Ext.refl _
  ·intro bb vals ρ w' hC hd hS
   have r45:ρ (.tmp 45)=.slice (some ⟨g,0,none⟩) 128 128:=(hS.tmp 45).trans (hd.at 2 rfl)
   have rc:=hS.const
   refine (show givesR _ _ _ _ (fun v w''=>Ext w' w''∧v=.slice (some ⟨g,0,none⟩) 116 128) from ?_)
   clear hC hd hS
   go_simp
   exact Ext.refl _
  ·intro bb vals ρ w' hC hd hS
   have r46:ρ (.tmp 46)=.slice (some ⟨g,0,none⟩) 116 128:=(hS.tmp 46).trans (hd.at 3 rfl)
   have rf:=hS.func
   refine (show givesR _ _ _ _ (fun v w''=>Ext w' w''∧v=.int .u32 (s:Int)) from ?_)
   have hb:=HB3s.out.ext hC
   have HBB:=Lib.hid hb
   clear hC hd hS hb
   go_simp
   refine (fsum_c _ _ w' HBB.out).mono ?_
   rintro e w'' ⟨rfl,hx⟩
   exact ⟨by rw [HSM.out.1],hx⟩
  ·intro bb vals ρ w' hC hd hS
   have r47:ρ (.tmp 47)=.int .u32 (s:Int):=(hS.tmp 47).trans (hd.at 4 rfl)
   refine (show givesR _ _ _ _ (fun v w''=>Ext w' w''∧v=.int .u64 (s:Int)) from ?_)
   clear hC hd hS
   go_simp
   exact ⟨Ext.refl _,p_u3264 HSM.out.2⟩
 intro vals w' hC hV
 have e1:=hV 1 (by decide)
 have e5:=hV 5 (by decide)
 simp only [vlist,ex,List.getD_cons_zero,List.getD_cons_succ] at e1 e5
 have HC':=Lib.hid hC;clear hC hV
 simp only [List.drop_succ_cons,List.drop_zero]
 rename World=>w8
 have HS8:=Lib.hid (HS3.out.ext HC'.out)
 have HW8:Hid (Below w.heap.size w w8):=Lib.hid (HW7.out.trans (HC'.out.below.mono HW7.out.size))
 go_wp2_with fail
 refine (number_s s g 116 4 12 l3 w8 HS8.out (by decide) (by decide) (by have:=HSM.out.2;omega)).mono ?_
 rintro e w9 ⟨rfl,hs9,hm9⟩
 obtain ⟨l4,hl4⟩:∃ l4,l4=l3.take 116++numL s 4++l3.drop (116+4):=⟨_,rfl⟩
 rw [← hl4] at hs9
 have HS9:=Lib.hid hs9
 have HL4:=Lib.hid hl4
 have HW9:Hid (Below w.heap.size w w9):=Lib.hid (HW8.out.trans ((hm9.below (B:=g) (Nat.le_of_lt HS8.out.lt) (fun k hk=>by rw [hk];exact Nat.le_refl _)).mono (by have:=HG.out;omega)))
 clear hs9 hl4 hm9 e1 e5
 go_wp2_with fail
 refine (number_s st g 120 8 8 l4 w9 HS9.out (by decide) (by decide) HST.out.2).mono ?_
 rintro e w10 ⟨rfl,hs10,hm10⟩
 have HS10:=Lib.hid hs10
 have HW10:Hid (Below w.heap.size w w10):=Lib.hid (HW9.out.trans ((hm10.below (B:=g) (Nat.le_of_lt HS9.out.lt) (fun k hk=>by rw [hk];exact Nat.le_refl _)).mono (by have:=HG.out;omega)))
 clear hs10 hm10
 go_wp2_with fail
 refine bodyPost_ret (v:=.tuple #[.slice (some ⟨g,0,none⟩) 128 128,.int .i64 0]) (by simp [results,Try.results50,go_sem]) rfl ⟨g,rfl,Ext.of_below HW10.out,by have:=HG.out;omega,?_⟩
 have hs10:=HS10.out
 have key:List.take 120 l4++numL st 8++List.drop (120+8) l4=p.sec:=seal_law p (l0:=l0) (l1:=l1) (l2:=l2) (l3:=l3) (l4:=l4) (by rw [← HDL.out,←HN.out];exact HO.out.2.2) HL0.out (by rw [← HST.out.1];exact HL1.out) (by rw [← HF.out.2.2,←HDL.out,←HN.out];exact HL2.out) (by rw [← HDL.out,←HN.out];exact HL3.out) (by rw [HSM.out.1];exact HL4.out) (by rw [← HST.out.1])
 rw [key] at hs10
 exact hs10
set_option maxRecDepth 100000 in
set_option maxHeartbeats 4000000 in
theorem seal_bad (p:Pc) (v:Value) (w:World) (hp:¬ p.ok) (hv:Bs w v p.d):
  Calls Try.prog 50 #[p.agg v] w fun r w'=>r=.returned (.tuple #[.slice none 0 0,.int .i64 2])∧Ext w w':=by
 obtain ⟨ao,cap,rfl,r1,r2,r3,r4⟩:=hv.open
 unfold Pc.agg
 obtain ⟨n,hn⟩:∃ n,n=p.d.length:=⟨_,rfl⟩
 obtain ⟨ep,hep⟩:∃ n,n=p.ep:=⟨_,rfl⟩
 obtain ⟨ct,hct⟩:∃ n,n=p.ct:=⟨_,rfl⟩
 have hp':¬ (ep≤16777215∧ct≤1099511627775∧n≤106):=by rw [hep,hct,hn];exact hp
 rw [← hn,←hep,←hct]
 clear hn hep hct hp hv r4 r3
 by_cases h0:16777215<ep∨1099511627775<ct
 ·have H0:=Lib.hid h0
  clear h0 hp'
  go_enter Try.func50,Try.ntmps50
  go_wp2_with fail
  refine (stamp_bad ep ct _ H0.out).mono ?_
  rintro e w1 ⟨rfl,rfl⟩
  go_wp2_with fail
  exact bodyPost_ret (v:=.tuple #[.slice none 0 0,.int .i64 2]) (by simp [results,Try.results50,go_sem]) rfl ⟨rfl,(Ext.refl w).alloc _⟩
 ·have hd:decide ((106:Int)<(n:Int))=true:=by simp;omega
  have H0:Hid (ep≤16777215∧ct≤1099511627775):=Lib.hid (by omega)
  clear h0 hp'
  go_enter Try.func50,Try.ntmps50
  go_wp2_with fail
  refine (stamp_ok ep ct _ H0.out.1 H0.out.2).mono ?_
  rintro e w1 ⟨rfl,rfl⟩
  go_wp2_with fail
  exact bodyPost_ret (v:=.tuple #[.slice none 0 0,.int .i64 2]) (by simp [results,Try.results50,go_sem]) rfl ⟨rfl,(Ext.refl w).alloc _⟩
end Go.Proofs.Ytonomiljclemnaa

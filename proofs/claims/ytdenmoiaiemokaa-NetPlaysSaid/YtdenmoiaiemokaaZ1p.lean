/- Z1. -/
import Derived.Test.YtdenmoiaiemokaaH9p
import Derived.Test.YtdenmoiaiemokaaG0p
import Derived.StillTailTactics
set_option linter.unusedVariables false
set_option linter.unusedSimpArgs false
namespace Go.Proofs.Ytdenmoiaiemokaa
open Go.RowKit
theorem etPkN:ElemT Try.prog 153 37 2 32:=ElemT.mk' Try.underlying153 (z:=.agg #[.int .i64 0,.slice none 0 0]) (by kernel_rfl) rfl (by decide)
set_option maxRecDepth 100000 in
set_option maxHeartbeats 400000 in
theorem deletePk_c (B g n cap k:Nat) (xs:List Value) (w:World) (h:w.ownsRow B 37 2 (.slice (some ⟨g,0,none⟩) n cap) n xs) (hk:k<n) (hn:n≤140737488355328) (h1:∀ u∈xs,u.oneCell'=true):
  Calls Try.prog 94 #[.slice (some ⟨g,0,none⟩) n cap,.int .i64 k,.int .i64 ((k:Int)+1)] w
   fun e w'=>e=.returned (.slice (some ⟨g,0,none⟩) (n - 1) cap)∧Mod (fun j=>j=g) w w'∧
    w'.ownsRow B 37 2 (.slice (some ⟨g,0,none⟩) (n - 1) cap) (n - 1) (xs.take (k * 2)++xs.drop ((k+1) * 2)):=by
 have hcap:n≤cap∧cap≤9223372036854775807:=by
  rcases h.2 with ⟨hn,_⟩|⟨g',cap',cur,hn,k1,k2,k3,k4,_⟩
  ·cases hn
  ·simp only [Value.slice.injEq] at hn;obtain ⟨_,_,rfl⟩:=hn;exact ⟨k3,k4⟩
 have H:=Lib.hid h;clear h
 have H1:=Lib.hid h1;clear h1
 have b1:n≤cap:=hcap.1
 have b2:cap≤9223372036854775807:=hcap.2
 clear hcap
 have b3:k≤cap:=by omega
 have b4:k+1≤cap:=by omega
 have b6:(0:Int)≤(k:Int)+1:=by omega
 have b7:(k:Int)+1≤(n:Int):=by omega
 have b5:k+(n - (k+1))=n - 1:=by omega
 have hcut:=Rs.cut (Rs.of_owns H.out) (k:=k+1) (m:=n)
 have HCut:=Lib.hid hcut;clear hcut
 have B5:=Lib.hid b5;clear b5
 go_enter Try.func94,Try.ntmps94
 go_wp2_with fail
 refine wp_region_rg 6 (fun w'=>Ext w w') (fun a b=>a=b)
  (vlist [ex (.slice (some ⟨g,0,none⟩) n cap),ex (.int .i64 k),ex (.slice (some ⟨g,0,none⟩) k cap),ex (.slice (some ⟨g,0,none⟩) n cap),ex (.int .i64 ((k:Int)+1)),(fun v w'=>Rs w' 2 v (n - (k+1)) (xs.drop ((k+1) * 2)))])
  (by kernel_rfl) (by kernel_rfl) (Ext.refl w).drew (fun _ _=>rfl) (fun _ _ h e=>e▸h) (fun _ _ _ _ _ _ h e=>e▸h) ?_ ?_
 ·simp only [List.take_succ_cons,List.take_zero]
  refine RgOps.mk (RgOp.plain (by decide) rfl ?_) ?_
  rotate_left
  refine RgOps.mk (RgOp.plain (by decide) rfl ?_) ?_
  rotate_left
  refine RgOps.mk (RgOp.plain (by decide) rfl ?_) ?_
  rotate_left
  refine RgOps.mk (RgOp.plain (by decide) rfl ?_) ?_
  rotate_left
  refine RgOps.mk (RgOp.plain (by decide) rfl ?_) ?_
  rotate_left
  refine RgOps.mk (RgOp.plain (by decide) rfl ?_) ?_
  rotate_left
  exact RgOps.done
  ·intro ph vals w' _ hC hd;simp [Deps,vlist,ex,Region.binds] at hd;clear hC;go_simp
  ·intro ph vals w' _ hC hd;simp [Deps,vlist,ex,Region.binds] at hd;clear hC;go_simp
  ·intro ph vals w' _ hC hd;simp [Deps,vlist,ex,Region.binds] at hd;clear hC;go_simp
  ·intro ph vals w' _ hC hd;simp [Deps,vlist,ex,Region.binds] at hd;clear hC;go_simp
  ·intro ph vals w' _ hC hd;simp [Deps,vlist,ex,Region.binds] at hd;clear hC;go_simp
  ·intro ph vals w' _ hC hd
   simp [Deps,vlist,ex,Region.binds] at hd
   have HC:=Lib.hid hC;clear hC
   go_simp
   have e:xs.drop ((k+1) * 2)=(xs.drop ((k+1) * 2)).take ((n - (k+1)) * 2):=by
    rw [List.take_of_length_le]
    rw [List.length_drop,H.out.1];omega
   rw [e]
   refine Rs.ext (HCut.out (by omega) (Nat.le_refl _) (by omega) (by unfold maxLen;omega) ?_ ?_) HC.out
   ·intro h;split at h<;>cases h
   ·intro a' h hlt
    rw [if_neg (by omega)] at h
    refine ⟨⟨g,0,none⟩,rfl,?_⟩
    rw [add_head];exact (Option.some.inj h).symm
 ·intro vals w' hC hV
  have e2:=hV 2 (by decide)
  have e5:=hV 5 (by decide)
  simp only [vlist,ex,List.getD_cons_zero,List.getD_cons_succ] at e2 e5
  have HC:=Lib.hid hC;clear hC hV
  have H5:=Lib.hid e5;clear e5
  simp only [List.drop_succ_cons,List.drop_zero]
  refine wpList_app_room rfl (.tmp 22) (.tmp 25) 153 rfl etPkN (by go_simp) (owns_ext H.out HC.out) (i:=k) (m:=n - (k+1)) (by omega) B5.out (by go_simp) H5.out (fun u hu=>H1.out u (List.mem_of_mem_drop hu)) ?_
  intro w2 hown hmod
  have hzv:∀ w,(zeroValue 37).run Try.prog w=.ok (.agg #[.int .i64 0,.slice none 0 0]) w:=fun _=>by simp
  have hzc:(Value.agg #[.int .i64 0,.slice none 0 0]).cells.size=2:=rfl
  have hz1:∀ u∈(Value.agg #[.int .i64 0,.slice none 0 0]).cells.toList,u.oneCell'=true:=by simp [Value.cells,Value.oneCell']
  have hm1:n - 1+(n - (n - 1))≤cap:=by omega
  have hm2:0<n - (n - 1):=by omega
  have b8:n - 1≤n:=by omega
  have b9:n - 1≤cap:=by omega
  have HM:=Lib.hid hmod;clear hmod
  have HO:=Lib.hid hown;clear hown
  go_wp2_with (first|(with_reducible refine wpList_clear_tail (o:=⟨none,_,_,_,_,_⟩) (m:=n - (n - 1)) (c:=cap - (n - 1)) rfl (.tmp 31) 153 rfl Try.underlying153 hzv hzc hz1 rfl rfl HO.out hm1 hm2 ?_;intro w3 hown3 hmod3)|fail)
  go_ret
  refine ⟨rfl,Mod.trans (Mod.trans (HC.out.mod (F:=fun j=>j=g)) HM.out fun _ h _=>h) hmod3 fun _ h _=>h,hown3⟩
theorem tabCells_cut {R:List (List Value×List UInt8)} {vals:List Value} (hl:vals.length=R.length) (h:∀ r∈R,r.1.length=1) (k:Nat):(tabCells R vals).take (k * 2)++(tabCells R vals).drop ((k+1) * 2)=tabCells (R.take k++R.drop (k+1)) (vals.take k++vals.drop (k+1)):=by
 have hall:∀ r∈tabRow R vals,r.length=2:=tabRow_len h
 rw [tabRow_flat,flat_take hall,flat_drop hall,tabCells_app0 (by rw [List.length_take,List.length_take,hl])]
 show ((List.zipWith _ _ _).take k).flatten++((List.zipWith _ _ _).drop (k+1)).flatten=_
 rw [List.take_zipWith,List.drop_zipWith]
 rfl
def C_delP:Ctr Td:=fun us sub=>match us,sub with
 |[.one (.obj 0),.one (.v (.int .i64 k)),.one (.v (.int .i64 k2))],[⟨.us (.ext (.tab (.wq t Q))),true⟩]=>(match eqb t 37 with
  |true=>some ([0≤k∧k.toNat<Q.length,k2=k+1,Q.length≤100000],.c (.one (.obj 1)),[⟨.dead,true⟩,⟨.us (.ext (.tab (.wq 37 (Q.take k.toNat++Q.drop (k.toNat+1))))),true⟩])
  |false=>none)
 |_,_=>none
theorem C_delP_ok:CtrOk Try.prog Id' 94 C_delP:=by
 intro us sub ps x sm h hp w e vs hM ha
 unfold C_delP at h
 split at h
 ·rename_i k k2 t Q
  split at h
  ·rename_i ht
   obtain rfl:=eqb_eq.1 ht
   simp only [Option.some.injEq,Prod.mk.injEq] at h
   obtain ⟨rfl,rfl,rfl⟩:=h
   have h1:0≤k∧k.toNat<Q.length:=hp _ (List.mem_cons_self ..)
   have h2:k2=k+1:=hp _ (List.mem_cons_of_mem _ (List.mem_cons_self ..))
   have h3:Q.length≤100000:=hp _ (List.mem_cons_of_mem _ (List.mem_cons_of_mem _ (List.mem_cons_self ..)))
   obtain ⟨u0,u1,u2,rfl,a0,a1,a2⟩:=allC3 ha
   have hE:e[0]? =some u0:=is_one a0
   have hu1:u1=.int .i64 k:=is_one a1
   have hu2:u2=.int .i64 k2:=is_one a2
   subst hu1;subst hu2
   obtain ⟨B,vals,hL⟩:=tab_lie (hM.holds 0 _ _ hE rfl)
   have hRl:(TB.wq 37 Q).R.length=Q.length:=TB.len _
   have hvl:vals.length=Q.length:=by rw [hL.len,hRl]
   obtain ⟨n,hn⟩:∃ n:Nat,k=(n:Int):=⟨_,(Int.toNat_of_nonneg h1.1).symm⟩
   subst hn
   rw [Int.toNat_natCast] at h1 ⊢
   have hown:w.ownsRow B 37 2 u0 Q.length (tabCells (TB.wq 37 Q).R vals):=by have:=hL.own;rw [hRl] at this;exact this
   obtain ⟨g,cap,rfl⟩:∃ g cap,u0=.slice (some ⟨g,0,none⟩) Q.length cap:=by
    rcases hown.2 with ⟨_,hh⟩|⟨g,c,cur,hh,_⟩
    ·omega
    ·exact ⟨g,c,hh⟩
   have hone:∀ v∈tabCells (TB.wq 37 Q).R vals,v.oneCell'=true:=by
    have:=part_one (lo:=0) (m:=Q.length) hL
    rw [List.drop_zero,List.drop_zero,List.take_of_length_le (Nat.le_refl _),List.take_of_length_le (by omega)] at this
    exact this
   have hQ':(TB.wq 37 (Q.take n++Q.drop (n+1))).R=(TB.wq 37 Q).R.take n++(TB.wq 37 Q).R.drop (n+1):=by simp only [TB.R,List.map_append,List.map_take,List.map_drop]
   have hln:(Q.take n++Q.drop (n+1)).length=Q.length - 1:=by rw [List.length_append,List.length_take,List.length_drop];omega
   rw [h2]
   refine (deletePk_c B g Q.length cap n _ w hown h1.2 (by omega) hone).mono fun y w' ⟨g1,g2,g3⟩=>⟨.slice (some ⟨g,0,none⟩) (Q.length - 1) cap,e++[.slice (some ⟨g,0,none⟩) (Q.length - 1) cap],g1,Grows.push e _,?_,?_⟩
   ·show (e++[_])[1]? =some _
    have:=hM.len
    rw [List.getElem?_append_right (by rw [this];exact Nat.le_refl _),this];rfl
   ·rw [tabCells_cut hL.len (TB.wid (.wq 37 Q))] at g3
    have hmd:Mod (fun kk=>(Value.slice (some ⟨g,0,none⟩) Q.length cap).ownBlock=some kk) w w':=g2.mono fun kk _ hk=>by subst hk;rfl
    refine tab_renew (mem:=[⟨.us (.ext (.tab (.wq 37 Q))),true⟩]) hM hE rfl hmd (B:=B) (tb:=.wq 37 (Q.take n++Q.drop (n+1))) (vals:=vals.take n++vals.drop (n+1)) (Nat.le_trans hL.base hmd.size) ?_ ?_ (.inl rfl) fun m v r hv hr=>?_
    ·rw [TB.len]
     show w'.ownsRow B 37 2 _ (Q.take n++Q.drop (n+1)).length _
     rw [hln,hQ']
     exact g3
    ·rw [TB.len]
     show _=(Q.take n++Q.drop (n+1)).length
     rw [hln,List.length_append,List.length_take,List.length_drop]
     omega
    ·rw [hQ'] at hr
     rcases Nat.lt_or_ge m n with hm|hm
     ·rw [List.getElem?_append_left (by rw [List.length_take];omega),List.getElem?_take_of_lt hm] at hv hr
      exact src_own hM hE rfl hL hv hr
     ·rw [List.getElem?_append_right (by rw [List.length_take];omega),List.length_take,List.getElem?_drop] at hv hr
      rw [hvl] at hv
      rw [hRl] at hr
      exact src_own hM hE rfl hL hv hr
  ·cases h
 ·cases h
theorem R_delP:RowOk Try.prog Id' hardD 94 (ctrF Id' C_delP hardD):=ctrF_ok Try.call94 C_delP_ok
end Go.Proofs.Ytdenmoiaiemokaa

/- G3. -/
import Derived.Test.YtiiekgcjilelpaaG2p
import Derived.Test.YtiiekgcjilelpaaG0p
import Derived.Maps.AppendAt
set_option maxRecDepth 100000
set_option linter.unusedSimpArgs false
set_option linter.unusedVariables false
namespace Go.Proofs.Ytiiekgcjilelpaa
open Go.RowKit
theorem num_step {x y n:Nat} (hx:x * 2+y<2 ^ n) (hn:n≤64):IntKind.u64.wrap (IntKind.u64.wrap ((x:Int) * 2)+(y:Int))=((x * 2+y:Nat):Int):=by
 have h:2 ^ n≤2 ^ 64:=Nat.pow_le_pow_right (by decide) hn
 have h2:x * 2+y<18446744073709551616:=Nat.lt_of_lt_of_le hx h
 rw [IntKind.wrap_u64,IntKind.wrap_u64]
 omega
set_option maxHeartbeats 4000000 in
theorem rnum_c (v:Value) (bl:List Bool) (w:World) (h:Bs w v (bbs bl)) (hl:bl.length≤64):
  Calls Try.prog 207 #[v] w fun e w'=>e=.returned (.int .u64 (val bl:Int))∧w=w':=by
 obtain ⟨lo,lcap,rfl,l1,l2,l3,l4⟩:=h.open
 clear h
 obtain ⟨n,hn⟩:∃ n,n=bl.length:=⟨_,rfl⟩
 rw [bbs_length,←hn] at l1 l4 ⊢
 have HN:=Lib.hid hn
 have HC:=Lib.hid l4
 have HL3:=Lib.hid l3
 have hnb:n≤64:=by omega
 clear hn l4 l3 hl
 go_enter Try.func207,Try.ntmps207
 go_wp2_with fail
 go_loopw [3,4] (fun x i wr=>∃ k:Nat,k≤n∧i=.int .i64 k∧x=.int .u64 (val (bl.take k):Int)∧w=wr) (fun _ i _=>n - (intOf i).toNat)
 case atStart=>exact ⟨0,Nat.zero_le _,rfl,rfl,rfl⟩
 case round=>
  obtain ⟨k,hk,rfl,rfl,rfl⟩:=hrel
  by_cases hlt:k<n
  ·obtain ⟨la,rfl⟩:∃ a,lo=some a:=by cases lo with|none=>have:=HL3.out rfl;omega|some a=>exact ⟨a,rfl⟩
   have hki:(k:Int)<(n:Int):=by omega
   have hkl:k<bl.length:=by rw [← HN.out];exact hlt
   have hcl:=HC.out la rfl k hlt
   have hb:((bbs bl).getD k 0).toNat=(bl[k]'hkl).toNat:=by
    simp [bbs,List.getD,List.getElem?_eq_getElem hkl]
    cases bl[k]'hkl<;>rfl
   rw [hb] at hcl
   have hv:val (bl.take (k+1))=val (bl.take k) * 2+(bl[k]'hkl).toNat:=by
    rw [List.take_succ_eq_append_getElem hkl,val_append,val_cons,val_nil];simp
   have hlt2:=val_lt (bl.take (k+1))
   rw [hv,List.length_take] at hlt2
   generalize (bl[k]'hkl).toNat=y at hcl hv hlt2
   generalize val (bl.take k)=x at hv hlt2 ⊢
   have hst:=num_step hlt2 (by omega)
   have HV:=Lib.hid hv
   have hy:IntKind.u64.wrap (y:Int)=(y:Int):=by
    have h:2 ^ min (k+1) bl.length≤2 ^ 64:=Nat.pow_le_pow_right (by decide) (by omega)
    have h2:x * 2+y<18446744073709551616:=Nat.lt_of_lt_of_le hlt2 h
    rw [IntKind.wrap_u64];omega
   clear hv hlt2 hb hkl
   go_wp2_with fail
   go_roundw
   case rel=>
    refine ⟨k+1,by omega,by go_num,?_,trivial⟩
    rw [HV.out]
    first|rfl|exact congrArg (Value.int .u64) hst
   case measure=>simp [intOf];omega
  ·have hkn:k=n:=by omega
   have hki:((k:Int)<(n:Int))=False:=eq_false (by omega)
   have htk:bl.take k=bl:=List.take_of_length_le (by rw [← HN.out];omega)
   rw [htk]
   clear hlt hkn htk
   go_wp2_with fail
   go_ret
   exact ⟨rfl,rfl⟩
def RRd (w:World) (B xb:Nat) (bs:List Bool) (err:Int):Prop:=
 ∃ ao cap,w.heap[xb]? =some (.cells #[.slice ao bs.length cap,.int .i64 err] 194 (0,0))∧B≤xb∧Bs w (.slice ao bs.length cap) (bbs bs)∧∀ k,(Value.slice ao bs.length cap).ownBlock=some k→B≤k∧k<xb
section
variable {w w':World} {B xb:Nat} {bs:List Bool} {err:Int}
theorem RRd.lt (h:RRd w B xb bs err):xb<w.heap.size:=by
 obtain ⟨ao,cap,h1,_⟩:=h
 exact (Array.getElem?_eq_some_iff.1 h1).1
theorem RRd.mod {F:Nat→Prop} (h:RRd w B xb bs err) (hm:Mod F w w') (hF:∀ k,B≤k→k≤xb→¬ F k):RRd w' B xb bs err:=by
 obtain ⟨ao,cap,h1,h2,h3,h4⟩:=h
 exact ⟨ao,cap,(hm.block xb (Array.getElem?_eq_some_iff.1 h1).1 (hF _ h2 (Nat.le_refl _))).trans h1,h2,h3.mod hm (fun k hk _=>hF k (h4 k hk).1 (Nat.le_of_lt (h4 k hk).2)),h4⟩
theorem RRd.ext (h:RRd w B xb bs err) (hx:Ext w w'):RRd w' B xb bs err:=h.mod hx fun _ _ _=>id
theorem RRd.c1 (h:RRd w B xb bs err):w.cell? ⟨xb,1,none⟩=some (.int .i64 err):=by
 obtain ⟨ao,cap,h1,_⟩:=h
 rw [cell_of_blk h1];rfl
theorem RRd.fz (h:RRd w B xb bs err) (j:Nat):w.frozen? ⟨xb,j,none⟩=false:=by
 obtain ⟨ao,cap,h1,_⟩:=h
 exact frozen_of_blk h1 j
theorem RRd.setErr (h:RRd w B xb bs err) (e:Int):RRd (w.setCell ⟨xb,1,none⟩ (.int .i64 e)) B xb bs e:=by
 obtain ⟨ao,cap,h1,h2,h3,h4⟩:=h
 refine ⟨ao,cap,setCell_blk (j:=1) (v:=.int .i64 e) h1,h2,h3.mod (Mod.setCell (F:=fun k=>k=xb) (p:=⟨xb,1,none⟩) (Mod.refl _ w) (fun _=>rfl) _) fun k hk e=>?_,h4⟩
 have:=(h4 k hk).2
 omega
end
theorem RRd.drop {w:World} {B xb p cap cap' n:Nat} {bs:List Bool} {ao ao':Option Addr} (h1:w.heap[xb]? =some (.cells #[.slice ao p cap,.int .i64 0] 194 (0,0))) (hge:B≤xb) (h3:Bs w (.slice ao p cap) (bbs bs)) (h4:∀ k,(Value.slice ao p cap).ownBlock=some k→B≤k∧k<xb)
  (hp:p=bs.length) (hn:n≤p) (hc:p - n≤cap') (hcm:cap'≤9223372036854775807) (hnone:ao'=none→cap'=0) (hao:∀ a',ao'=some a'→n<p→∃ a,ao=some a∧a'=a.add n) (hob:∀ k,ao'.map (·.block)=some k→ao.map (·.block)=some k):
  RRd (w.setCell ⟨xb,0,none⟩ (.slice ao' (p - n) cap')) B xb (bs.drop n) 0∧Mod (fun k=>k=xb) w (w.setCell ⟨xb,0,none⟩ (.slice ao' (p - n) cap')):=by
 have hm:=Mod.setCell (F:=fun k=>k=xb) (p:=⟨xb,0,none⟩) (Mod.refl _ w) (fun _=>rfl) (.slice ao' (p - n) cap')
 have hl:(bs.drop n).length=p - n:=by rw [List.length_drop,hp]
 have h4':∀ k,(Value.slice ao' (p - n) cap').ownBlock=some k→B≤k∧k<xb:=fun k hk=>h4 k (by rw [ownBlock_slice] at hk ⊢;exact hob k hk)
 refine ⟨⟨ao',cap',?_,hge,?_,?_⟩,hm⟩
 ·rw [hl];exact setCell_blk (j:=0) (v:=.slice ao' (p - n) cap') h1
 ·rw [hl]
  have h5:Rs w 1 (.slice ao' (p - n) cap') (p - n) ((((bbs bs).map bv).drop (n * 1)).take ((p - n) * 1)):=by
   have h6:Rs w 1 (.slice ao p cap) p ((bbs bs).map bv):=by unfold Bs at h3;rwa [bbs_length,←hp] at h3
   exact Rs.cut h6 hn (Nat.le_refl _) hc (by simpa [maxLen] using hcm) hnone fun a' ha hk=>by
    obtain ⟨a,e1,e2⟩:=hao a' ha hk
    exact ⟨a,e1,by rw [Nat.mul_one];exact e2⟩
  have e:(((bbs bs).map bv).drop (n * 1)).take ((p - n) * 1)=(bbs (bs.drop n)).map bv:=by
   rw [Nat.mul_one,Nat.mul_one,List.take_of_length_le (by rw [List.length_drop,List.length_map,bbs_length];omega)]
   unfold bbs
   rw [List.map_drop,List.map_drop]
  rw [e] at h5
  have h7:Bs w (.slice ao' (p - n) cap') (bbs (bs.drop n)):=by unfold Bs;rw [bbs_length,hl];exact h5
  exact h7.mod hm fun k hk _ e=>by have:=(h4' k hk).2;omega
 ·rw [hl];exact h4'
def rgetOk (bs:List Bool) (err n:Int):Prop:=err=0∧0≤n∧n≤64∧n≤(bs.length:Int)
instance (bs:List Bool) (err n:Int):Decidable (rgetOk bs err n):=by unfold rgetOk;infer_instance
def rgetV (bs:List Bool) (err n:Int):Nat:=if rgetOk bs err n then val (bs.take n.toNat) else 0
def rgetL (bs:List Bool) (err n:Int):List Bool:=if rgetOk bs err n then bs.drop n.toNat else bs
def rgetE (bs:List Bool) (err n:Int):Int:=if err≠0 then err else if n<0∨64<n then 2 else if (bs.length:Int)<n then 3 else 0
set_option maxHeartbeats 2000000 in
theorem rrget_ok (xb B:Nat) (bs:List Bool) (n:Nat) (w:World) (h:RRd w B xb bs 0) (hn:n≤64) (hf:n≤bs.length):
  Calls Try.prog 133 #[.pointer (some ⟨xb,0,none⟩),.int .i64 n] w fun e w'=>e=.returned (.int .u64 (val (bs.take n):Int))∧RRd w' B xb (bs.drop n) 0∧Mod (fun k=>k=xb) w w':=by
 have c1:=h.c1
 have H:=Lib.hid h
 obtain ⟨ao,cap,h1,h2,h3,h4⟩:=h
 obtain ⟨p,hp⟩:∃ p,p=bs.length:=⟨_,rfl⟩
 have c0:w.cell? ⟨xb,0,none⟩=some (.slice ao p cap):=by rw [cell_of_blk h1,hp];rfl
 have f0:=frozen_of_blk h1 0
 rw [← hp] at h1 h3 h4 hf
 have h3':=h3
 obtain ⟨ao2,cap2,he,r1,r2,r3,r4⟩:=h3'.open
 rw [bbs_length,←hp] at he r1 r4
 simp only [Value.slice.injEq] at he
 obtain ⟨rfl,_,rfl⟩:=he
 have H1:=Lib.hid h1
 have H3:=Lib.hid h3
 have H4:=Lib.hid h4
 have HP:=Lib.hid hp
 have HGE:=Lib.hid h2
 have HR3:=Lib.hid r3
 clear h1 h2 h3 h3' h4 hp r4 r3
 go_enter Try.func133,Try.ntmps133
 go_wp2_with fail
 have htk:Bs w (.slice ao n cap) (bbs (bs.take n)):=by
  have:=Bs.take H3.out hf
  unfold bbs at this ⊢
  rwa [List.map_take]
 have HNUM:=Lib.hid (rnum_c _ (bs.take n) w htk (by rw [List.length_take];omega))
 clear htk
 refine HNUM.out.mono ?_
 rintro e w1 ⟨rfl,rfl⟩
 have HF:=Lib.hid hf
 have HR1:=Lib.hid r1
 have HR2:=Lib.hid r2
 clear r1 r2
 go_wp2_with fail
 all_goals
  go_ret
  have hf:=HF.out
  have hr1:=HR1.out
  have hr2:=HR2.out
 ·have hd:=RRd.drop (ao':=ao) (cap':=0) (n:=n) H1.out HGE.out H3.out H4.out HP.out hf (by omega) (by decide) (fun _=>rfl) (fun a' _ hk=>by omega) (fun k hk=>hk)
  exact ⟨rfl,hd.1,hd.2⟩
 ·have hd:=RRd.drop (ao':=ao.map fun x=>x.add n) (cap':=cap - n) (n:=n) H1.out HGE.out H3.out H4.out HP.out hf (by omega) (by omega) (fun h=>by
   have h0:ao=none:=by cases ao with|none=>rfl|some a=>cases h
   have:=HR3.out h0
   omega) (fun a' ha _=>by
   cases ao with
   |none=>cases ha
   |some a=>simp only [Option.map_some,Option.some.injEq] at ha;exact ⟨a,rfl,ha.symm⟩) (fun k hk=>by
   cases ao with
   |none=>cases hk
   |some a=>simpa [add_block] using hk)
  exact ⟨rfl,hd.1,hd.2⟩
set_option maxHeartbeats 1000000 in
theorem rrget_c (xb B:Nat) (bs:List Bool) (err n:Int) (w:World) (h:RRd w B xb bs err) (hl:bs.length≤1000000):
  Calls Try.prog 133 #[.pointer (some ⟨xb,0,none⟩),.int .i64 n] w fun e w'=>e=.returned (.int .u64 (rgetV bs err n:Int))∧RRd w' B xb (rgetL bs err n) (rgetE bs err n)∧Mod (fun k=>k=xb) w w':=by
 by_cases hok:rgetOk bs err n
 ·have hok':=hok
  obtain ⟨h0,h1,h2,h3⟩:=hok
  subst h0
  obtain ⟨m,rfl⟩:=Int.eq_ofNat_of_zero_le h1
  rw [rgetV,rgetL,rgetE,if_pos hok',if_pos hok',if_neg (by simp),if_neg (by omega),if_neg (by omega),Int.toNat_natCast]
  exact rrget_ok xb B bs m w h (by omega) (by omega)
 ·rw [rgetV,rgetL,if_neg hok,if_neg hok]
  have c1:=h.c1
  have f1:=h.fz 1
  have H:=Lib.hid h
  by_cases h0:err=0
  ·subst h0
   by_cases h1:n<0∨64<n
   ·rw [rgetE,if_neg (by simp),if_pos h1]
    clear h hok
    rcases h1 with h1|h1
    all_goals
     go_enter Try.func133,Try.ntmps133
     go_wp2
     go_ret
     exact ⟨rfl,H.out.setErr 2,Mod.setCell (F:=fun k=>k=xb) (p:=⟨xb,1,none⟩) (Mod.refl _ w) (fun _=>rfl) _⟩
   ·have h3:(bs.length:Int)<n:=by unfold rgetOk at hok;omega
    rw [rgetE,if_neg (by simp),if_neg h1,if_pos h3]
    obtain ⟨ao,cap,g1,g2,g3,g4⟩:=h
    obtain ⟨p,hp⟩:∃ p,p=bs.length:=⟨_,rfl⟩
    have c0:w.cell? ⟨xb,0,none⟩=some (.slice ao p cap):=by rw [cell_of_blk g1,hp];rfl
    rw [← hp] at h3
    have hn0:0≤n:=by omega
    have hn1:n≤64:=by omega
    clear hok g1 g2 g3 g4 hp h1
    go_enter Try.func133,Try.ntmps133
    go_wp2
    go_ret
    exact ⟨rfl,H.out.setErr 3,Mod.setCell (F:=fun k=>k=xb) (p:=⟨xb,1,none⟩) (Mod.refl _ w) (fun _=>rfl) _⟩
  ·rw [rgetE,if_pos h0]
   have hb:(err != 0)=true:=by simpa using h0
   clear h hok h0
   go_enter Try.func133,Try.ntmps133
   go_wp2
   go_ret
   exact ⟨rfl,H.out,Mod.refl _ w⟩
set_option maxHeartbeats 2000000 in
theorem rrtext_err (xb B:Nat) (bs:List Bool) (err:Int) (w:World) (h:RRd w B xb bs err) (hl:bs.length≤1000000) (he:rgetE bs err 16≠0):
  Calls Try.prog 135 #[.pointer (some ⟨xb,0,none⟩)] w fun e w'=>e=.returned (.string ⟨#[]⟩)∧RRd w' B xb (rgetL bs err 16) (rgetE bs err 16)∧Mod (fun k=>k=xb) w w':=by
 have hg:=rrget_c xb B bs err 16 w h hl
 have hv:rgetV bs err 16=0:=by
  unfold rgetV rgetE at *
  rw [if_neg]
  rintro ⟨h0,_,_,h3⟩
  apply he
  rw [if_neg (by simp [h0]),if_neg (by omega),if_neg (by omega)]
 rw [hv] at hg
 generalize rgetE bs err 16=e1 at he hg ⊢
 generalize rgetL bs err 16=b1 at hg ⊢
 have HG:=Lib.hid hg
 have hb:(e1 != 0)=true:=by simpa using he
 have hb2:(e1==0)=false:=by simpa using he
 clear hg he h hv hl
 go_enter Try.func135,Try.ntmps135
 go_wp2_with fail
 refine HG.out.mono ?_
 rintro e w1 ⟨rfl,h1,hm1⟩
 have c1:=h1.c1
 have H1:=Lib.hid h1
 have HM1:=Lib.hid hm1
 clear h1 hm1
 go_wp2
 go_ret
 exact ⟨rfl,H1.out,HM1.out⟩
section
variable {P:Program}
theorem run_app_at {w:World} {t ty e:TypeId} {size bytes base:Nat} (hE:ElemT P t e size bytes) {v:Value} {n:Nat} {xs:List Value} (hown:w.ownsRow base e size v n xs)
  {u:Value} {m:Nat} {news:List Value} (hR:Rs w size u m news) (h1:∀ u∈news,u.oneCell'=true)
  (h63:n+m≤9223372036854775807) (hbytes:(n+m) * bytes≤140737488355328) (hbase:base≤w.heap.size):
  ∃ v' w',(Builtin.append_ #[t,t] ty #[v,u]).run P w=.ok v' w'∧w'.ownsRow base e size v' (n+m) (xs++news)∧w.grownBy w' v.ownBlock∧(v'.ownBlock=v.ownBlock∨v'.ownBlock=some w.heap.size):=by
 obtain ⟨i,z,h2,h3,h4,h5,h6,h7,h8⟩:=hE
 obtain ⟨ao,cap,rfl,r1,r2,r3,r4,r5⟩:=hR.open
 cases ao with
 |none=>
  have hc:=r3 rfl
  subst hc
  have hm:m=0:=by omega
  subst hm
  have hn:news=[]:=List.eq_nil_of_length_eq_zero (by simpa using r4)
  subst hn
  exact ⟨v,w,run_append_owned_none (P:=P) (w:=w) base t ty e i size h2 h3 v n xs hown,by simpa using hown,⟨rfl,rfl,rfl,Nat.le_refl _,fun _ _ _=>rfl⟩,.inl rfl⟩
 |some ad=>
  obtain ⟨v',w',hr,q2,q3,_,q5⟩:=run_append_own_at (P:=P) w base t ty e i z size bytes h2 h3 h4 h5 h6 h7 h8 v n xs hown ad m cap news r4 (r5 ad rfl) h1 (by simpa [maxLen] using h63) hbytes hbase
  exact ⟨v',w',hr,q2,q3,q5⟩
end
theorem WrF.lt {w:World} {B wb:Nat} {l:List Bool} {err:Int} (h:WrIs w B wb l err) {q:Nat} (hq:WrF w wb q):q<w.heap.size:=by
 have hlt:=h.lt
 obtain ⟨ao,cap,h1,h2,h3⟩:=h
 rcases hq with rfl|⟨v,q1,q2⟩
 ·exact hlt
 ·rw [cell_of_blk h1] at q1
  simp only [List.size_toArray,List.getElem?_toArray,List.getElem?_cons_succ,List.getElem?_cons_zero,Option.some.injEq] at q1
  subst q1
  exact (owns_block h3 q2).2
set_option maxHeartbeats 2000000 in
theorem rtext_err (rb B:Nat) (l:List UInt8) (at':Nat) (err:Int) (w:World) (h:RdIs w B rb l at' err) (hl:l.length≤140737488355328) (ha:at'≤8 * l.length) (he:getE l at' err 16≠0):
  Calls Try.prog 206 #[.pointer (some ⟨rb,0,none⟩)] w fun e w'=>e=.returned (.string ⟨#[]⟩)∧RdIs w' B rb l (getAt l at' err 16) (getE l at' err 16)∧Mod (fun k=>k=rb) w w':=by
 have hg:=rget_c rb B l at' err 16 w h (by omega) ha
 have hv:getV l at' err 16=0:=by
  unfold getV getE at *
  rw [if_neg]
  rintro ⟨h0,_,_,h3⟩
  apply he
  rw [if_neg (by simp [h0]),if_neg (by omega),if_neg (by omega)]
 rw [hv] at hg
 generalize getE l at' err 16=e1 at he hg ⊢
 generalize getAt l at' err 16=a1 at hg ⊢
 have HG:=Lib.hid hg
 have hb:(e1 != 0)=true:=by simpa using he
 have hb2:(e1==0)=false:=by simpa using he
 clear hg he h hv ha hl
 go_enter Try.func206,Try.ntmps206
 go_wp2_with fail
 refine HG.out.mono ?_
 rintro e w1 ⟨rfl,h1,hm1⟩
 have H1:=Lib.hid h1
 have HM1:=Lib.hid hm1
 clear h1 hm1
 go_wp2_with fail
 refine (rerr_c rb B l a1 e1 w1 H1.out).mono ?_
 rintro e w2 ⟨rfl,rfl⟩
 go_wp2_with fail
 refine (rerr_c rb B l a1 e1 w1 H1.out).mono ?_
 rintro e w2 ⟨rfl,rfl⟩
 go_wp2
 go_ret
 exact ⟨rfl,H1.out,HM1.out⟩
set_option maxHeartbeats 2000000 in
theorem rtext_short (rb B:Nat) (l:List UInt8) (at' n:Nat) (w:World) (h:RdIs w B rb l at' 0) (hl:l.length≤140737488355328) (ha:at'+16≤8 * l.length) (hn:n=val (bitsFrom l at' 16)) (hf:8 * l.length<at'+16+8 * n):
  Calls Try.prog 206 #[.pointer (some ⟨rb,0,none⟩)] w fun e w'=>e=.returned (.string ⟨#[]⟩)∧RdIs w' B rb l (at'+16) 3∧Mod (fun k=>k=rb) w w':=by
 have hn16:n<65536:=by
  have h1:=val_lt (bitsFrom l at' 16)
  rw [bitsFrom_length (by omega)] at h1
  omega
 have hg:=rget_ok rb B l at' 16 w h (by decide) ha (by omega)
 rw [← hn] at hg
 have HG:=Lib.hid hg
 have HA:=Lib.hid ha
 have HL:=Lib.hid hl
 have hcv:IntKind.i64.wrap (n:Int)=(n:Int):=by rw [IntKind.wrap_i64];omega
 have hmul:IntKind.i64.wrap (8 * (n:Int))=8 * (n:Int):=by rw [IntKind.wrap_i64];omega
 have hnb:n≤9223372036854775806:=by omega
 have hlt:(leftI l (at'+16) 0<8 * (n:Int))=True:=eq_true (by rw [leftI_zero];omega)
 clear hg hn hn16 h hf ha hl
 go_enter Try.func206,Try.ntmps206
 go_wp2_with fail
 refine HG.out.mono ?_
 rintro e w1 ⟨rfl,h1,hm1⟩
 have H1:=Lib.hid h1
 have HM1:=Lib.hid hm1
 clear h1 hm1
 go_wp2_with fail
 refine (rerr_c rb B l (at'+16) 0 w1 H1.out).mono ?_
 rintro e w2 ⟨rfl,rfl⟩
 have hlf:=rleft_c rb B l (at'+16) 0 w1 H1.out (by have:=HL.out;omega) HA.out
 generalize leftI l (at'+16) 0=lf at hlf hlt
 have HLF:=Lib.hid hlf
 clear hlf
 go_wp2_with fail
 refine HLF.out.mono ?_
 rintro e w2 ⟨rfl,nd,rfl⟩
 have HX2:=Lib.hid (H1.out.ext ((Ext.refl w1).drewN nd))
 have HM2:=Lib.hid (HM1.out.drewN nd)
 generalize w1.drewN nd=w2 at HX2 HM2 ⊢
 have c3:=HX2.out.c3
 have f3:=HX2.out.fz 3
 have HE:=Lib.hid (HX2.out.setErr 3)
 have HME:Hid (Mod (fun k=>k=rb) w (w2.setCell ⟨rb,3,none⟩ (.int .i64 3))):=Lib.hid (Mod.setCell (F:=fun k=>k=rb) (p:=⟨rb,3,none⟩) HM2.out (fun _=>rfl) _)
 go_upto_region 4 with fail
 generalize w2.setCell ⟨rb,3,none⟩ (.int .i64 3)=w3 at HE HME ⊢
 go_wp2_with fail
 refine (rerr_c rb B l (at'+16) 3 w3 HE.out).mono ?_
 rintro e w4 ⟨rfl,rfl⟩
 go_wp2
 go_ret
 exact ⟨rfl,HE.out,HME.out⟩
theorem getAt_le (l:List UInt8) (at':Nat) (err n:Int) (ha:at'≤8 * l.length):getAt l at' err n≤8 * l.length:=by
 unfold getAt
 split<;>omega
end Go.Proofs.Ytiiekgcjilelpaa

/- L3. -/
import Derived.Test.YtonomiljclemnaaL2p
set_option linter.unusedVariables false
set_option linter.unusedSimpArgs false
namespace Go.Proofs.Ytonomiljclemnaa
open Go.RowKit
theorem add_mid (g off i:Nat):(⟨g,off,none⟩:Addr).add i=⟨g,off+i,none⟩:=by
 unfold Addr.add
 split
 ·rename_i h;subst h;rfl
 ·rfl
theorem p_read (v c:Nat) (hv:v<72057594037927936) (hc:c<256):bits .or .u64 ((v:Int) * 256 % 18446744073709551616) (c:Int)=((v * 256+c:Nat):Int):=by
 have e1:(v:Int) * 256 % 18446744073709551616=((v * 256:Nat):Int):=by omega
 rw [e1,u64_or_nat _ _ (by omega) (by omega)]
 have:=Nat.shiftLeft_add_eq_or_of_lt (a:=v) (b:=c) (i:=8) (by omega)
 rw [Nat.shiftLeft_eq] at this
 rw [show (256:Nat)=2 ^ 8 by decide,this]
theorem valBL_take_lt {l:List UInt8} (k:Nat) (hk:k<8):valBL (l.take k)<72057594037927936:=by
 have h:=valBL_lt (l.take k)
 have h1:(l.take k).length≤7:=by rw [List.length_take];omega
 have h2:256 ^ (l.take k).length≤256 ^ 7:=Nat.pow_le_pow_right (by decide) h1
 have h3:(256:Nat) ^ 7=72057594037927936:=by decide
 omega
theorem valBL_take_succ (l:List UInt8) (k:Nat) (h:k<l.length):valBL (l.take (k+1))=valBL (l.take k) * 256+(l.getD k 0).toNat:=by
 rw [List.take_succ_eq_append_getElem h,valBL_snoc]
 simp [List.getD,List.getElem?_eq_getElem h]
set_option maxHeartbeats 1000000 in
theorem read_c (v:Value) (l:List UInt8) (w:World) (h:Bs w v l) (hl:l.length≤8):
  Calls Try.prog 71 #[v] w fun r w'=>r=.returned (.int .u64 (valBL l))∧w'=w:=by
 obtain ⟨ao,ca,rfl,ca1,ca2,ca3,hca⟩:=h.open
 clear h
 obtain ⟨n,hn⟩:∃ n,n=l.length:=⟨_,rfl⟩
 rw [← hn] at ca1 hca hl ⊢
 have Ha:=Lib.hid hca;clear hca
 have Hn:=Lib.hid hn;clear hn
 have Ca:=Lib.hid ca3;clear ca3
 go_enter Try.func71,Try.ntmps71
 go_wp2
 go_loopw [3,8] (fun v i wr=>∃ k:Nat,k≤n∧i=.int .i64 k∧v=.int .u64 (valBL (l.take k))∧wr=w) (fun _ i _=>n - (intOf i).toNat)
 case atStart=>exact ⟨0,by omega,rfl,rfl,rfl⟩
 case round=>
  obtain ⟨k,hk,rfl,rfl,rfl⟩:=hrel
  by_cases hlt:k<n
  ·obtain ⟨a,rfl⟩:∃ a,ao=some a:=by cases ao with|none=>have:=Ca.out rfl;omega|some a=>exact ⟨a,rfl⟩
   have hax:=Ha.out a rfl k hlt
   have HT:=Lib.hid (valBL_take_succ l k (by rw [← Hn.out];exact hlt))
   have HP:=Lib.hid (p_read (valBL (l.take k)) (l.getD k 0).toNat (valBL_take_lt k (by omega)) (UInt8.toNat_lt _))
   have HC:=Lib.hid (UInt8.toNat_lt (l.getD k 0))
   generalize (l.getD k 0).toNat=c at hax HT HP HC
   generalize valBL (l.take k)=y at HT HP ⊢
   go_wp2_with fail
   go_roundw
   case rel=>
    refine ⟨k+1,by omega,by go_num,?_,by first|rfl|trivial⟩
    rw [HT.out,←HP.out,IntKind.wrap_u64,IntKind.wrap_u64,Int.emod_eq_of_lt (a:=(c:Int)) (by omega) (by have:=HC.out;omega)]
   case measure=>simp [intOf];omega
  ·have:k=n:=by omega
   subst this
   go_wp2_with fail
   go_ret
   rw [List.take_of_length_le (by rw [← Hn.out];exact Nat.le_refl _)]
   exact ⟨rfl,rfl⟩
theorem set_mid {α:Type} (a b:List α) (x y:α):(a++x::b).set a.length y=a++y::b:=by
 rw [List.set_append_right _ _ (Nat.le_refl _),Nat.sub_self];rfl
theorem num_stepL (xs:List UInt8) (x off n k:Nat) (hk:k<n) (hb:off+n≤xs.length) (hn:n≤8):
  (xs.take off++(numL x n).take k++xs.drop (off+k)).set (off+k) (UInt8.ofNat (x / 256 ^ (n - 1 - k)))=xs.take off++(numL x n).take (k+1)++xs.drop (off+(k+1)):=by
 have hl:(xs.take off++(numL x n).take k).length=off+k:=by
  rw [List.length_append,List.length_take,List.length_take,numL_length];omega
 rw [List.drop_eq_getElem_cons (show off+k<xs.length by omega)]
 conv=>lhs;arg 2;rw [← hl]
 rw [set_mid,numL_take_succ x hk,←Nat.add_assoc]
 simp
theorem p_byte (x n k:Nat):(x:Int) / 2 ^ (8 * (n - 1 - k)) % 256=((UInt8.ofNat (x / 256 ^ (n - 1 - k))).toNat:Int):=by
 have e:(256:Nat) ^ (n - 1 - k)=2 ^ (8 * (n - 1 - k)):=by rw [Nat.pow_mul]
 rw [UInt8.toNat_ofNat',e]
 generalize 8 * (n - 1 - k)=j
 rw [Int.natCast_emod,Int.natCast_ediv,Int.natCast_pow]
 rfl
set_option maxHeartbeats 2000000 in
theorem number_c (x g off n N cap capN B:Nat) (xs:List UInt8) (w:World) (hown:w.ownsRow B 5 1 (.slice (some ⟨g,0,none⟩) N capN) N (xs.map bv)) (hb:off+n≤N) (hn:n≤8) (hx:x<18446744073709551616):
  Calls Try.prog 62 #[.slice (some ⟨g,off,none⟩) n cap,.int .u64 x] w fun r w'=>r=.returned (.tuple #[])∧
   w'.ownsRow B 5 1 (.slice (some ⟨g,0,none⟩) N capN) N ((xs.take off++numL x n++xs.drop (off+n)).map bv)∧Mod (fun k=>k=g) w w':=by
 have hN:N=xs.length:=by have:=hown.1;simpa using this.symm
 have HO:=Lib.hid hown;clear hown
 have HN:=Lib.hid hN;clear hN
 have HB:=Lib.hid hb;clear hb
 have HX:=Lib.hid hx;clear hx
 obtain ⟨a,ha⟩:∃ a:Addr,a=⟨g,off,none⟩:=⟨_,rfl⟩
 rw [← ha]
 have HA:=Lib.hid ha;clear ha
 go_enter Try.func62,Try.ntmps62
 go_wp2
 go_loopw [7] (fun i wr=>∃ k:Nat,k≤n∧i=.int .i64 k∧Hid (wr.ownsRow B 5 1 (.slice (some ⟨g,0,none⟩) N capN) N ((xs.take off++(numL x n).take k++xs.drop (off+k)).map bv)∧Mod (fun k=>k=g) w wr)) (fun i _=>n - (intOf i).toNat)
 case atStart=>exact ⟨0,by omega,rfl,Lib.hid ⟨by simpa using HO.out,Mod.refl _ w⟩⟩
 case round=>
  obtain ⟨k,hk,rfl,HR⟩:=hrel
  by_cases hlt:k<n
  ·have hst:=World.ownsRow.stored HR.out.1 (off+k) (bv (UInt8.ofNat (x / 256 ^ (n - 1 - k))))
   have hcell:∃ u,wr.cell? (a.add k)=some u:=by
    rw [HA.out,add_mid,World.ownsRow.cellAt HR.out.1 _ (by have:=HB.out;omega)]
    have hl:off+k<((xs.take off++(numL x n).take k++xs.drop (off+k)).map bv).length:=by
     rw [HR.out.1.1];have:=HB.out;omega
    exact ⟨_,List.getElem?_eq_getElem hl⟩
   obtain ⟨u,hcell⟩:=hcell
   have hfz:wr.frozen? (a.add k)=false:=by rw [HA.out,add_mid];exact World.ownsRow.frozenAt HR.out.1 _
   have HST:=Lib.hid hst.1
   clear hst
   have HPB:=Lib.hid (p_byte x n k)
   have hki:(k:Int)<(n:Int):=by omega
   go_wp2_with fail
   go_roundw
   case rel=>
    refine ⟨k+1,by omega,by go_num,Lib.hid ⟨?_,?_⟩⟩
    ·have h1:=HST.out
     rw [← List.map_set,num_stepL xs x off n k hlt (by rw [← HN.out];exact HB.out) hn] at h1
     rw [HPB.out,HA.out,add_mid]
     exact h1
    ·rw [HA.out,add_mid]
     exact Mod.setCell HR.out.2 (fun _=>rfl) _
   case measure=>simp [intOf];omega
  ·have:k=n:=by omega
   subst this
   go_wp2_with fail
   go_end0
   have h:=HR.out
   rw [List.take_of_length_le (show (numL x k).length≤k by rw [numL_length];exact Nat.le_refl _)] at h
   exact ⟨rfl,h⟩
set_option maxHeartbeats 400000 in
theorem fof_c (w:World):
  Calls Try.prog 81 #[.int .u32 0] w fun r w'=>r=.returned (.agg #[.int .u32 0,.int .u32 0])∧Ext w w':=by
 go_enter Try.func81,Try.ntmps81
 go_wp2_with fail
 rw [show (bits BinOp.and IntKind.u32 0 65535).tmod 65535=0 by rfl]
 refine bodyPost_ret (v:=.agg #[.int .u32 0,.int .u32 0]) (results_cell Try.results81 rfl (a:=⟨w.heap.size,0,none⟩) ?_) rfl ⟨rfl,(Ext.refl w).alloc _⟩
 exact load_new _ _ _ _ rfl Try.underlying134 rfl (by kernel_rfl)
set_option maxHeartbeats 400000 in
theorem ftake_c (a b c:Nat) (w:World) (ha:a<65535) (hb:b<65535) (hc:c<256):
  Calls Try.prog 82 #[.agg #[.int .u32 a,.int .u32 b],.int .u8 c] w fun r w'=>r=.returned (.agg #[.int .u32 (((a+c) % 65535:Nat):Int),.int .u32 (((b+(a+c) % 65535) % 65535:Nat):Int)])∧Ext w w':=by
 go_enter Try.func82,Try.ntmps82
 go_wp2_with fail
 rw [show ((a:Int)+c) % 65535=(((a+c) % 65535:Nat):Int) by omega,show ((b:Int)+(a+c)) % 65535=(((b+(a+c) % 65535) % 65535:Nat):Int) by omega]
 refine bodyPost_ret (v:=.agg #[.int .u32 (((a+c) % 65535:Nat):Int),.int .u32 (((b+(a+c) % 65535) % 65535:Nat):Int)]) (results_cell Try.results82 rfl (a:=⟨w.heap.size+1,0,none⟩) ?_) rfl ⟨rfl,((Ext.refl w).alloc _).alloc _⟩
 exact load_new _ _ _ _ (World.size_alloc _ _).symm Try.underlying134 rfl (by kernel_rfl)
set_option maxHeartbeats 400000 in
theorem fwhole_c (a b:Nat) (w:World) (ha:a<65535) (hb:b<65535):
  Calls Try.prog 83 #[.agg #[.int .u32 a,.int .u32 b]] w fun r w'=>r=.returned (.int .u32 ((b * 65536+a:Nat):Int))∧Ext w w':=by
 go_enter Try.func83,Try.ntmps83
 go_wp2_with fail
 go_ret
 refine ⟨congrArg (fun x=>Ending.returned (Value.int .u32 x)) ?_,(Ext.refl w).alloc _⟩
 rw [show (b:Int) * 65536=((b * 65536:Nat):Int) by omega,u32_or_nat _ _ (by omega) (by omega)]
 have:=Nat.shiftLeft_add_eq_or_of_lt (a:=b) (b:=a) (i:=16) (by omega)
 rw [Nat.shiftLeft_eq] at this
 rw [show (65536:Nat)=2 ^ 16 by decide,this]
theorem fold_take_succ (l:List UInt8) (k:Nat) (h:k<l.length) (s:Nat×Nat):(l.take (k+1)).foldl fstep s=fstep ((l.take k).foldl fstep s) (l.getD k 0):=by
 rw [List.take_succ_eq_append_getElem h,List.foldl_append]
 simp [List.getD,List.getElem?_eq_getElem h]
set_option maxHeartbeats 2000000 in
theorem fadd_c (v:Value) (l:List UInt8) (w:World) (h:Bs w v l):
  Calls Try.prog 77 #[.int .u32 0,v] w fun r w'=>r=.returned (.int .u32 (fsum l))∧Ext w w':=by
 obtain ⟨ao,ca,rfl,ca1,ca2,ca3,hca⟩:=h.open
 clear h
 obtain ⟨n,hn⟩:∃ n,n=l.length:=⟨_,rfl⟩
 rw [← hn] at ca1 hca ⊢
 have Ha:=Lib.hid hca;clear hca
 have Hn:=Lib.hid hn;clear hn
 have Ca:=Lib.hid ca3;clear ca3
 go_enter Try.func77,Try.ntmps77
 go_wp2_with fail
 refine (fof_c w).mono ?_
 rintro e w1 ⟨rfl,hx1⟩
 have HX1:=Lib.hid hx1;clear hx1
 go_wp2_with fail
 go_loopw [12] (fun i wr=>∃ k:Nat,k≤n∧i=.int .i64 k∧Hid (Ext w wr∧w.heap.size≤w1.heap.size∧wr.heap[w1.heap.size]? =some (.cells #[.int .u32 (((l.take k).foldl fstep (0,0)).1:Nat),.int .u32 (((l.take k).foldl fstep (0,0)).2:Nat)] 134 (0,0)))) (fun i _=>n - (intOf i).toNat)
 case atStart=>
  refine ⟨0,by omega,rfl,Lib.hid ⟨HX1.out.alloc _,HX1.out.size,?_⟩⟩
  exact blk_new _ _
 case round=>
  obtain ⟨k,hk,rfl,HR⟩:=hrel
  by_cases hlt:k<n
  ·obtain ⟨a,rfl⟩:∃ a,ao=some a:=by cases ao with|none=>have:=Ca.out rfl;omega|some a=>exact ⟨a,rfl⟩
   have hax:=HR.out.1.cell (Ha.out a rfl k hlt)
   have HT:=Lib.hid (fold_take_succ l k (by rw [← Hn.out];exact hlt) (0,0))
   have hv:=fstep_lt (l.take k) (0,0) (by decide) (by decide)
   have hc:=(l.getD k 0).toNat_lt
   have HF:=Lib.hid (show ∀ s,fstep s (l.getD k 0)=((s.1+(l.getD k 0).toNat) % 65535,(s.2+(s.1+(l.getD k 0).toNat) % 65535) % 65535) from fun _=>rfl)
   generalize (l.take k).foldl fstep (0,0)=s at HT hv HR ⊢
   generalize (l.getD k 0)=cb at hax HT HF hc
   generalize cb.toNat=c at hax HF hc
   obtain ⟨y,z⟩:=s
   have HV:=Lib.hid (And.intro hv.1 (And.intro hv.2 hc))
   clear hv hc
   have c0:wr.cell? ⟨w1.heap.size,0,none⟩=some (.int .u32 y):=by rw [cell_of_blk HR.out.2.2];rfl
   have c1:wr.cell? ⟨w1.heap.size,1,none⟩=some (.int .u32 z):=by rw [cell_of_blk HR.out.2.2];rfl
   go_wp2_with fail
   refine (ftake_c y z c wr HV.out.1 HV.out.2.1 HV.out.2.2).mono ?_
   rintro e w2 ⟨rfl,hx2⟩
   have hb2:=(hx2.block _ (Array.getElem?_eq_some_iff.1 HR.out.2.2).1 id).trans HR.out.2.2
   have d0:w2.cell? ⟨w1.heap.size,0,none⟩=some (.int .u32 y):=by rw [cell_of_blk hb2];rfl
   have d1:w2.cell? ⟨w1.heap.size,1,none⟩=some (.int .u32 z):=by rw [cell_of_blk hb2];rfl
   have f0:=frozen_of_blk hb2 0
   have f1:=frozen_of_blk hb2 1
   have HX2:=Lib.hid hx2
   have HB2:=Lib.hid hb2
   clear hx2 hb2 c0 c1 hax
   go_wp2_with fail
   go_roundw
   case rel=>
    refine ⟨k+1,by omega,by go_num,Lib.hid ⟨?_,HR.out.2.1,?_⟩⟩
    ·have h:=HR.out.1.trans HX2.out
     exact Ext.setCell (Ext.setCell h HR.out.2.1 _) HR.out.2.1 _
    ·rw [HT.out,HF.out]
     rw [show ((y:Int)+c) % 65535=(((y+c) % 65535:Nat):Int) by omega,show ((z:Int)+(y+c)) % 65535=(((z+(y+c) % 65535) % 65535:Nat):Int) by omega]
     exact setCell_blk (setCell_blk HB2.out)
   case measure=>simp [intOf];omega
  ·have:k=n:=by omega
   subst this
   have hlt:=fstep_lt (l.take k) (0,0) (by decide) (by decide)
   have e:l.take k=l:=List.take_of_length_le (by rw [← Hn.out];exact Nat.le_refl _)
   rw [e] at hlt HR
   have HE:=Lib.hid (show fsum l=(l.foldl fstep (0,0)).2 * 65536+(l.foldl fstep (0,0)).1 from rfl)
   generalize l.foldl fstep (0,0)=s at hlt HE HR
   obtain ⟨y,z⟩:=s
   have HL:=Lib.hid hlt;clear hlt
   have c0:wr.cell? ⟨w1.heap.size,0,none⟩=some (.int .u32 y):=by rw [cell_of_blk HR.out.2.2];rfl
   have c1:wr.cell? ⟨w1.heap.size,1,none⟩=some (.int .u32 z):=by rw [cell_of_blk HR.out.2.2];rfl
   go_wp2_with fail
   refine (fwhole_c y z wr HL.out.1 HL.out.2).mono ?_
   rintro e w2 ⟨rfl,hx2⟩
   have HX2:=Lib.hid (HR.out.1.trans hx2)
   clear hx2
   go_wp2_with fail
   go_ret
   exact ⟨congrArg (fun x=>Ending.returned (Value.int .u32 x)) (by rw [HE.out];omega),HX2.out⟩
set_option maxHeartbeats 400000 in
theorem fsum_c (v:Value) (l:List UInt8) (w:World) (h:Bs w v l):
  Calls Try.prog 64 #[v] w fun r w'=>r=.returned (.int .u32 (fsum l))∧Ext w w':=by
 have H:=Lib.hid h;clear h
 go_enter Try.func64,Try.ntmps64
 go_wp2_with fail
 refine (fadd_c v l w H.out).mono ?_
 rintro e w1 ⟨rfl,hx⟩
 have HX:=Lib.hid hx;clear hx
 go_wp2_with fail
 go_ret
 exact ⟨rfl,HX.out⟩
end Go.Proofs.Ytonomiljclemnaa

/- L4. -/
import Derived.Test.YtonomiljclemnaaL3p
set_option linter.unusedVariables false
set_option linter.unusedSimpArgs false
namespace Go.Proofs.Ytonomiljclemnaa
open Go.RowKit
def leL (x k:Nat):List UInt8:=(List.range k).map fun i=>UInt8.ofNat (x / 256 ^ i)
theorem leL_succ (x k:Nat):leL x (k+1)=leL x k++[UInt8.ofNat (x / 256 ^ k)]:=by simp [leL,List.range_succ]
theorem leL_get (x n i:Nat) (h:i<n):(leL x n)[i]? =some (UInt8.ofNat (x / 256 ^ i)):=by simp [leL,h]
theorem bv_ofNat (y:Nat):Value.int .u8 ((y:Int) % 256)=bv (UInt8.ofNat y):=by
 simp [bv,UInt8.toNat_ofNat']
theorem num_back (x n m:Nat) (h:m<n):(numL x n).take (n - m)=(numL x n).take (n - (m+1))++[UInt8.ofNat (x / 256 ^ m)]:=by
 have:=numL_take_succ x (n:=n) (i:=n - (m+1)) (by omega)
 rwa [show n - (m+1)+1=n - m by omega,show n - 1 - (n - (m+1))=m by omega] at this
set_option maxHeartbeats 2000000 in
theorem rnumber_c (x n:Nat) (w:World) (hn:n≤8) (hx:x<18446744073709551616):
  Calls Try.prog 78 #[.int .u64 x,.int .i64 n] w fun r w'=>∃ ao cap,r=.returned (.slice ao n cap)∧Ext w w'∧w'.ownsRow w.heap.size 5 1 (.slice ao n cap) n ((numL x n).map bv):=by
 have HX:=Lib.hid hx;clear hx
 go_enter Try.func78,Try.ntmps78
 go_wp2
 go_loopw [0,5,6] (fun y v i wr=>∃ k:Nat,k≤n∧i=.int .i64 k∧y=.int .u64 ((x / 256 ^ k:Nat):Int)∧∃ ao cap,v=.slice ao k cap∧Hid (Ext w wr∧wr.ownsRow w.heap.size 5 1 (.slice ao k cap) k ((leL x k).map bv))) (fun _ _ i _=>n - (intOf i).toNat)
 case atStart=>exact ⟨0,by omega,rfl,by simp,none,0,rfl,Lib.hid ⟨Ext.refl w,World.ownsRow_nil _ _ _ _⟩⟩
 case round=>
  obtain ⟨k,hk,rfl,rfl,ao,cap,rfl,HR⟩:=hrel
  by_cases hlt:k<n
  ·have HL:=Lib.hid (leL_succ x k)
   have hd:((x / 256 ^ k:Nat):Int) / 256=((x / 256 ^ (k+1):Nat):Int):=by rw [Nat.pow_succ,←Nat.div_div_eq_div_mul];omega
   have HD:=Lib.hid hd
   clear hd
   generalize x / 256 ^ k=y at HD HL ⊢
   go_wp2_with (first
     |(at_builtin;refine wpList_app rfl (.tmp 14) (.tmp 18) 31 rfl etBytes w.heap.size rfl (owns_ext HR.out.2 ((Ext.refl wr).alloc _)) rfl (Rs.of_owns (owns_lit (w:=wr) (B:=0) (n:=1) (size:=1) rfl (Nat.zero_le _) (by decide))) (by simp [Value.oneCell']) (by omega) (by omega) (by have:=HR.out.1.size;simp;omega) ?_;intro v' w4 ho hg _)
     |fail)
   obtain ⟨ao',cap',rfl⟩:=owns_shape ho
   have HO:=Lib.hid ho
   have HG:=Lib.hid hg
   clear ho hg
   go_roundw
   case rel=>
    refine ⟨k+1,by omega,by go_num,?_,ao',cap',rfl,Lib.hid ⟨?_,?_⟩⟩
    ·rw [HD.out,IntKind.wrap_u64]
     have h1:=Nat.div_le_self x (256 ^ (k+1))
     have h2:=HX.out
     generalize x / 256 ^ (k+1)=z at h1 ⊢
     rw [Int.emod_eq_of_lt (by omega) (by omega)]
    ·exact (HR.out.1.alloc _).grown HG.out fun j hj=>(owns_block HR.out.2 hj).1
    ·have h:=HO.out
     rw [bv_ofNat] at h
     rw [HL.out,List.map_append]
     exact h
   case measure=>simp [intOf];omega
  ·have:k=n:=by omega
   subst this
   go_wp2_with fail
   rename World=>w1
   go_loopw [7,8] (fun v i wr=>∃ m:Nat,m≤k∧i=.int .i64 m∧∃ ao cap,v=.slice ao (k - m) cap∧Hid (Ext w1 wr∧wr.ownsRow w1.heap.size 5 1 (.slice ao (k - m) cap) (k - m) (((numL x k).take (k - m)).map bv))) (fun _ i _=>(intOf i).toNat)
   case atStart=>exact ⟨k,Nat.le_refl _,rfl,none,0,by simp,Lib.hid ⟨Ext.refl w1,by simpa using World.ownsRow_nil _ _ _ _⟩⟩
   case round=>
    obtain ⟨m,hm,rfl,ao2,cap2,rfl,HR2⟩:=hrel
    by_cases hm0:0<m
    ·obtain ⟨q,rfl⟩:∃ q,m=q+1:=⟨m - 1,by omega⟩
     have hN:k - q=k - (q+1)+1:=by omega
     have HN:=Lib.hid (num_back x k q (by omega))
     obtain ⟨g,cap',he,hg1,hg2⟩:=World.ownsRow.form HR.out.2 (by omega)
     simp only [Value.slice.injEq] at he
     obtain ⟨rfl,_,rfl⟩:=he
     have cq:wr.cell? ⟨g,q,none⟩=some (.int .u8 ((UInt8.ofNat (x / 256 ^ q)).toNat:Int)):=by
      refine HR2.out.1.cell ?_
      rw [World.ownsRow.cellAt HR.out.2 q (by omega),List.getElem?_map,leL_get x k q (by omega)]
      rfl
     generalize x / 256 ^ q=y at cq HN
     generalize hvb:(UInt8.ofNat y).toNat=vb at cq
     have HVB:=Lib.hid hvb;clear hvb
     have hqk:(q:Int)<(k:Int):=by omega
     go_wp2_with (first
      |(at_builtin;refine wpList_app rfl (.tmp 27) (.tmp 33) 31 rfl etBytes w1.heap.size rfl (owns_ext HR2.out.2 ((Ext.refl _).alloc _)) rfl (Rs.of_owns (owns_lit (w:=wr) (B:=0) (n:=1) (size:=1) rfl (Nat.zero_le _) (by decide))) (by simp [Value.oneCell']) (by omega) (by omega) (by have:=HR2.out.1.size;simp;omega) ?_;intro v' w4 ho hg _)
      |fail)
     obtain ⟨ao',cap',rfl⟩:=owns_shape ho
     have HO:=Lib.hid ho
     have HG:=Lib.hid hg
     clear ho hg
     go_roundw
     case rel=>
      refine ⟨q,by omega,by go_num,ao',cap',by rw [hN],Lib.hid ⟨?_,?_⟩⟩
      ·exact (HR2.out.1.alloc _).grown HG.out fun j hj=>(owns_block HR2.out.2 hj).1
      ·have h:=HO.out
       rw [← HVB.out] at h
       rw [← List.map_take,HN.out,List.map_append,hN]
       first
        |exact h
        |(rw [List.map_take];exact h)
     case measure=>simp [intOf];omega
    ·have:m=0:=by omega
     subst this
     go_wp2_with fail
     go_ret
     have h:=HR2.out
     rw [Nat.sub_zero,List.take_of_length_le (by rw [numL_length];exact Nat.le_refl _)] at h
     exact ⟨_,_,rfl,HR.out.1.trans h.1,owns_base h.2 HR.out.1.size⟩
set_option maxHeartbeats 1000000 in
theorem rvalue_c (v:Value) (l:List UInt8) (w:World) (h:Bs w v l) (hl:l.length≤8):
  Calls Try.prog 70 #[v] w fun r w'=>r=.returned (.int .u64 (valBL l))∧w'=w:=by
 obtain ⟨ao,ca,rfl,ca1,ca2,ca3,hca⟩:=h.open
 clear h
 obtain ⟨n,hn⟩:∃ n,n=l.length:=⟨_,rfl⟩
 rw [← hn] at ca1 hca hl ⊢
 have Ha:=Lib.hid hca;clear hca
 have Hn:=Lib.hid hn;clear hn
 have Ca:=Lib.hid ca3;clear ca3
 go_enter Try.func70,Try.ntmps70
 go_wp2
 go_loopw [3,4] (fun v i wr=>∃ k:Nat,k≤n∧i=.int .i64 k∧v=.int .u64 (valBL (l.take k))∧wr=w) (fun _ i _=>n - (intOf i).toNat)
 case atStart=>exact ⟨0,by omega,rfl,rfl,rfl⟩
 case round=>
  obtain ⟨k,hk,rfl,rfl,rfl⟩:=hrel
  by_cases hlt:k<n
  ·obtain ⟨a,rfl⟩:∃ a,ao=some a:=by cases ao with|none=>have:=Ca.out rfl;omega|some a=>exact ⟨a,rfl⟩
   have hax:=Ha.out a rfl k hlt
   have HT:=Lib.hid (valBL_take_succ l k (by rw [← Hn.out];exact hlt))
   have hv:=valBL_take_lt (l:=l) k (by omega)
   have hc:=(l.getD k 0).toNat_lt
   generalize (l.getD k 0).toNat=c at hax HT hc
   generalize valBL (l.take k)=y at HT hv ⊢
   have HP:Hid (IntKind.u64.wrap (IntKind.u64.wrap ((y:Int) * 256)+IntKind.u64.wrap (c:Int))=((y * 256+c:Nat):Int)):=Lib.hid (by rw [IntKind.wrap_u64,IntKind.wrap_u64,IntKind.wrap_u64];omega)
   clear hv hc
   go_wp2_with fail
   go_roundw
   case rel=>
    refine ⟨k+1,by omega,by go_num,?_,by first|rfl|trivial⟩
    rw [HT.out,←HP.out]
   case measure=>simp [intOf];omega
  ·have:k=n:=by omega
   subst this
   go_wp2_with fail
   go_ret
   rw [List.take_of_length_le (by rw [← Hn.out];exact Nat.le_refl _)]
   exact ⟨rfl,rfl⟩
set_option maxHeartbeats 2000000 in
theorem radd_c (v:Value) (l:List UInt8) (w:World) (h:Bs w v l):
  Calls Try.prog 79 #[.int .u32 0,v] w fun r w'=>r=.returned (.int .u32 (fsum l))∧w'=w:=by
 obtain ⟨ao,ca,rfl,ca1,ca2,ca3,hca⟩:=h.open
 clear h
 obtain ⟨n,hn⟩:∃ n,n=l.length:=⟨_,rfl⟩
 rw [← hn] at ca1 hca ⊢
 have Ha:=Lib.hid hca;clear hca
 have Hn:=Lib.hid hn;clear hn
 have Ca:=Lib.hid ca3;clear ca3
 go_enter Try.func79,Try.ntmps79
 go_wp2
 go_loopw [5,6,7] (fun a b i wr=>∃ k:Nat,k≤n∧i=.int .i64 k∧a=.int .u64 ((((l.take k).foldl fstep (0,0)).1:Nat):Int)∧b=.int .u64 ((((l.take k).foldl fstep (0,0)).2:Nat):Int)∧wr=w) (fun _ _ i _=>n - (intOf i).toNat)
 case atStart=>exact ⟨0,by omega,rfl,rfl,rfl,rfl⟩
 case round=>
  obtain ⟨k,hk,rfl,rfl,rfl,rfl⟩:=hrel
  by_cases hlt:k<n
  ·obtain ⟨a,rfl⟩:∃ a,ao=some a:=by cases ao with|none=>have:=Ca.out rfl;omega|some a=>exact ⟨a,rfl⟩
   have hax:=Ha.out a rfl k hlt
   have HT:=Lib.hid (fold_take_succ l k (by rw [← Hn.out];exact hlt) (0,0))
   have hv:=fstep_lt (l.take k) (0,0) (by decide) (by decide)
   have hc:=(l.getD k 0).toNat_lt
   have HF:=Lib.hid (show ∀ s,fstep s (l.getD k 0)=((s.1+(l.getD k 0).toNat) % 65535,(s.2+(s.1+(l.getD k 0).toNat) % 65535) % 65535) from fun _=>rfl)
   generalize (l.take k).foldl fstep (0,0)=s at HT hv ⊢
   generalize (l.getD k 0)=cb at hax HT HF hc
   generalize cb.toNat=c at hax HF hc
   obtain ⟨y,z⟩:=s
   have hy:y<65535:=hv.1
   have hz:z<65535:=hv.2
   have HV:=Lib.hid (And.intro hy (And.intro hz hc))
   clear hv hc hy hz
   go_wp2_with fail
   go_roundw
   case rel=>
    have hv:=HV.out
    have e1:IntKind.u64.wrap (c:Int)=c:=by rw [IntKind.wrap_u64];omega
    have e2:IntKind.u64.wrap ((y:Int)+c)=((y+c:Nat):Int):=by rw [IntKind.wrap_u64];omega
    have e3:IntKind.u64.wrap ((z:Int)+((y+c:Nat):Int))=((z+(y+c):Nat):Int):=by rw [IntKind.wrap_u64];omega
    have e4:∀ q:Nat,((q:Nat):Int).tmod 65535=((q % 65535:Nat):Int):=fun q=>by rw [Int.tmod_eq_emod_of_nonneg (by omega)];omega
    refine ⟨k+1,by omega,by go_num,?_,?_,by first|rfl|trivial⟩
    ·rw [HT.out,HF.out,e1,e2,e4]
    ·rw [HT.out,HF.out,e1,e2,e3,e4]
     exact congrArg (fun x:Nat=>Value.int .u64 (x:Int)) (by show (z+(y+c)) % 65535=(z+(y+c) % 65535) % 65535;omega)
   case measure=>simp [intOf];omega
  ·have:k=n:=by omega
   subst this
   have hlt:=fstep_lt (l.take k) (0,0) (by decide) (by decide)
   have e:l.take k=l:=List.take_of_length_le (by rw [← Hn.out];exact Nat.le_refl _)
   rw [e] at hlt ⊢
   have HE:=Lib.hid (show fsum l=(l.foldl fstep (0,0)).2 * 65536+(l.foldl fstep (0,0)).1 from rfl)
   generalize l.foldl fstep (0,0)=s at hlt HE ⊢
   obtain ⟨y,z⟩:=s
   have HL:=Lib.hid hlt;clear hlt
   go_wp2_with fail
   go_ret
   refine ⟨congrArg (fun x=>Ending.returned (Value.int .u32 x)) ?_,by first|rfl|trivial⟩
   have hv:=HL.out
   rw [HE.out,IntKind.wrap_u64,IntKind.wrap_u64]
   omega
end Go.Proofs.Ytonomiljclemnaa

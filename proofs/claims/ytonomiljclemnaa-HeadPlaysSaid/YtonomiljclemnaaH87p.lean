/- H74 H80 H75 H81 H82 H83 H84 H85 H76 H77 H78 H79 H86 H87. -/
import Derived.Test.YtonomiljclemnaaH72p
import Derived.Test.YtonomiljclemnaaL13p
import Derived.Test.YtonomiljclemnaaG2p
set_option linter.unusedVariables false
set_option linter.unusedSimpArgs false
namespace Go.Proofs.Ytonomiljclemnaa
open Go.RowKit
structure FuseIs (s:DS) (i:Int) (s1:DS):Prop where
 s:fuS s.L.length i s=s1
structure CrashIs (s:DS) (ks:List Int) (tn:Int) (s1:DS):Prop where
 a0:WidQ s.Q
 a1:AtQ s.L.length s.Q
 a2:0<s.L.length
 s:crS ks tn s=s1
def C_fuseX (s1:DS):Ctr Td:=fun us sub=>match us,sub with
 |[.one (.ptr 0 0),.one (.v (.int .i64 i))],[⟨.bx [.obj 1,.obj 2,.v (.int .i64 fu),.v (.bool fd),.v (.bool off)],true⟩,⟨.us (.ext (.flat (.secs L))),true⟩,⟨.us (.ext (.flat (.pens Q))),true⟩]=>some ([FuseIs (⟨L,Q,fu,fd,off⟩:DS) i s1],svV (.int .i64 (fuE (L.length:Int) i off)),[⟨.bx [.obj 1,.obj 2,.v (.int .i64 s1.fu),.v (.bool s1.fd),.v (.bool s1.off)],true⟩,⟨.us (.ext (.flat (.secs s1.L))),true⟩,⟨.us (.ext (.flat (.pens s1.Q))),true⟩])
 |_,_=>none
def C_crashX (s1:DS):Ctr Td:=fun us sub=>match us,sub with
 |[.one (.ptr 0 0),.one (.obj 1),.one (.v (.int .i64 tn))],[⟨.bx [.obj 2,.obj 3,.v (.int .i64 fu),.v (.bool fd),.v (.bool off)],true⟩,⟨.us (.ext (.nums ks)),false⟩,⟨.us (.ext (.flat (.secs L))),true⟩,⟨.us (.ext (.flat (.pens Q))),true⟩]=>some ([CrashIs (⟨L,Q,fu,fd,off⟩:DS) ks tn s1],.tup [],[⟨.bx [.obj 2,.obj 4,.v (.int .i64 s1.fu),.v (.bool s1.fd),.v (.bool s1.off)],true⟩,⟨.us (.ext (.nums ks)),false⟩,⟨.us (.ext (.flat (.secs s1.L))),true⟩,⟨.dead,true⟩,⟨.us (.ext (.flat (.pens s1.Q))),true⟩])
 |_,_=>none
structure HDo where
 kind:Int
 at':Int
 n:Int
 ep:Int
 g:Int
 t:Int
 f:Int
 b:List UInt8
 ks:List Int
def HDo.zero:HDo:=⟨0,0,0,0,0,0,0,[],[]⟩
def hdEl (l:List HDo) (i:Nat):List CD:=[.v (.int .i64 (l.getD i HDo.zero).kind),.v (.int .i64 (l.getD i HDo.zero).at'),.v (.int .i64 (l.getD i HDo.zero).n),.v (.int .u64 (l.getD i HDo.zero).ep),.v (.int .u64 (l.getD i HDo.zero).g),.v (.int .u64 (l.getD i HDo.zero).t),.v (.int .u64 (l.getD i HDo.zero).f),.bs (l.getD i HDo.zero).b,.ns (l.getD i HDo.zero).ks]
structure HKS where
 s:DS
 ep:Int
 sg:Int
 st:Int
 sf:Int
 has:Bool
 mg:Int
 mt:Int
 mf:Int
 db:Bool
set_option maxRecDepth 100000 in
theorem C_fuseX_ok (s1:DS):CtrOk Try.prog Id' 30 (C_fuseX s1):=by
 intro us sub ps x sm h hp w e_ vs hM ha
 unfold C_fuseX at h
 split at h
 ·rename_i i fu fd off L Q
  simp only [Option.some.injEq,Prod.mk.injEq] at h
  obtain ⟨rfl,rfl,rfl⟩:=h
  have q:=hp _ (List.mem_cons_self ..)
  obtain ⟨rfl⟩:=q
  exact C_fuse_ok _ _ _ _ _ rfl (fun q hq=>by cases hq) w e_ vs hM ha
 ·cases h
theorem R_fuseX (s1:DS):RowOk Try.prog Id' hardD 30 (ctrF Id' (C_fuseX s1) hardD):=ctrF_ok Try.call30 (C_fuseX_ok s1)
set_option maxRecDepth 100000 in
theorem C_crashX_ok (s1:DS):CtrOk Try.prog Id' 16 (C_crashX s1):=by
 intro us sub ps x sm h hp w e_ vs hM ha
 unfold C_crashX at h
 split at h
 ·rename_i tn fu fd off ks L Q
  simp only [Option.some.injEq,Prod.mk.injEq] at h
  obtain ⟨rfl,rfl,rfl⟩:=h
  have q:=hp _ (List.mem_cons_self ..)
  obtain ⟨q0,q1,q2,rfl⟩:=q
  exact C_crash_ok _ _ _ _ _ rfl (fun q hq=>by simp only [List.mem_cons,List.not_mem_nil,or_false] at hq;rcases hq with rfl|rfl|rfl<;>assumption) w e_ vs hM ha
 ·cases h
theorem R_crashX (s1:DS):RowOk Try.prog Id' hardD 16 (ctrF Id' (C_crashX s1) hardD):=ctrF_ok Try.call16 (C_crashX_ok s1)
end Go.Proofs.Ytonomiljclemnaa
set_option linter.unusedVariables false
set_option linter.unusedSimpArgs false
namespace Go.Proofs.Ytonomiljclemnaa
open Go.RowKit
def F_rfits:Nat×Fn2 Td:=(65,rowP fun us mem=>match us with
 |[.one x,.one n]=>(match valP x,valP n with
  |some (.int .u64 xv),some (.int .i64 nv)=>some ([0≤xv∧xv<18446744073709551616,-9223372036854775808≤nv∧nv≤9223372036854775807],.bool (decide (fitsN xv.toNat nv)))
  |_,_=>none)
 |_=>none)
theorem F_rfits_ok:RowOk Try.prog Id' hardD F_rfits.1 F_rfits.2:=by
 refine rowP_ok Try.call65 (fun args m m' ps v hs hl=>hs) fun args mem ps v hs hp W0 G w E us hM ha=>?_
 split at hs
 ·rename_i x n
  split at hs
  ·rename_i xv nv h1 h2
   simp only [Option.some.injEq,Prod.mk.injEq] at hs
   obtain ⟨rfl,rfl⟩:=hs
   obtain ⟨u0,u1,rfl,a0,a1⟩:=allC2 ha
   have e0:=valP_is h1 (is_one a0)
   have e1:=valP_is h2 (is_one a1)
   subst e0 e1
   have q1:0≤xv∧xv<18446744073709551616:=hp _ (List.mem_cons_self ..)
   have q2:-9223372036854775808≤nv∧nv≤9223372036854775807:=hp _ (List.mem_cons_of_mem _ (List.mem_cons_self ..))
   have:=rfits_c xv.toNat nv w (by omega) q2
   rw [Int.toNat_of_nonneg q1.1] at this
   exact this.mono fun x w' ⟨g1,g2⟩=>⟨g1,by subst g2;exact Ext.refl _⟩
  ·cases hs
 ·cases hs
def F_rvalue:Nat×Fn2 Td:=(70,rowP fun us mem=>match us with
 |[.one x]=>(match bytesP mem x with
  |some l=>some ([l.length≤8],.int .u64 (valBL l:Int))
  |_=>none)
 |_=>none)
theorem F_rvalue_ok:RowOk Try.prog Id' hardD F_rvalue.1 F_rvalue.2:=by
 refine rowP_ok Try.call70 (fun args m m' ps v hs hl=>?_) fun args mem ps v hs hp W0 G w E us hM ha=>?_
 ·split at hs
  ·split at hs
   ·rename_i h1
    simp only [bytesP_mono hl h1];exact hs
   ·cases hs
  ·cases hs
 ·split at hs
  ·split at hs
   ·rename_i l h1
    simp only [Option.some.injEq,Prod.mk.injEq] at hs
    obtain ⟨rfl,rfl⟩:=hs
    obtain ⟨u0,rfl,a0⟩:=allC1 ha
    exact (rvalue_c u0 l w (bytesP_is hM h1 (is_one a0)) (hp _ (List.mem_cons_self ..))).mono fun x w' ⟨g1,g2⟩=>⟨g1,by subst g2;exact Ext.refl _⟩
   ·cases hs
  ·cases hs
def C_rseal:Ctr Td:=fun us sub=>match us,sub with
 |[.agg [.v (.int .u64 ep),.v (.int .u64 ct),.v (.bool fi),.v (.bool la),.obj 0]],[⟨.us (.own d),true⟩]=>some ([0≤ep∧0≤ct],.tup [.one (.obj 1),.one (.v (.int .i64 (okN (pcI ep ct fi la d):Int)))],[⟨.us (.own d),true⟩,⟨.us (.own (okL (pcI ep ct fi la d))),true⟩])
 |_,_=>none
theorem C_rseal_ok:CtrOk Try.prog Id' 67 C_rseal:=by
 intro us sub ps x sm h hp w e vs hM ha
 unfold C_rseal at h
 split at h
 ·rename_i ep ct fi la d
  simp only [Option.some.injEq,Prod.mk.injEq] at h
  obtain ⟨rfl,rfl,rfl⟩:=h
  have h0:0≤ep∧0≤ct:=hp _ (by simp)
  match vs,ha with
  |[v],ha=>
   obtain ⟨us,hu,rfl⟩:=ha.1
   match us,hu with
   |[a1,a2,a3,a4,u],⟨q1,q2,q3,q4,hE,_⟩=>
    have q1:a1=.int .u64 ep:=q1
    have q2:a2=.int .u64 ct:=q2
    have q3:a3=.bool fi:=q3
    have q4:a4=.bool la:=q4
    have hE:e[0]? =some u:=hE
    subst q1 q2 q3 q4
    obtain ⟨B,hB,hown⟩:Id'.holds (.own d) w u:=hM.holds 0 _ _ hE rfl
    have hb:Bs w u d:=Rs.of_owns hown
    have hlen:e.length=1:=hM.len
    have hagg:#[(.agg #[.int .u64 ep,.int .u64 ct,.bool fi,.bool la,u]:Value)]=#[(pcI ep ct fi la d).agg u]:=by
     unfold pcI Pc.agg
     rw [Int.toNat_of_nonneg h0.1,Int.toNat_of_nonneg h0.2]
    show Calls _ _ #[(.agg #[.int .u64 ep,.int .u64 ct,.bool fi,.bool la,u]:Value)] _ _
    rw [hagg]
    have hfin:∀ (s:Value),(e++[s])[1]? =some s:=fun s=>by rw [List.getElem?_append_right (by omega),hlen];rfl
    by_cases hok:(pcI ep ct fi la d).ok
    ·refine (rseal_ok _ u w hok hb).mono fun r w' ⟨ao,cap,h1,h2,h3⟩=>⟨_,e++[.slice ao 128 cap],h1,Grows.push _ _,⟨[.slice ao 128 cap,.int .i64 0],⟨(by show (e++[Value.slice ao 128 cap])[1]? =some _;exact hfin _),?_,trivial⟩,rfl⟩,hM.push h2 _ ⟨.us (.own (okL (pcI ep ct fi la d))),true⟩ ?_ fun k hk=>?_⟩
     ·show _=Value.int .i64 (okN _:Int)
      unfold okN;rw [if_pos hok];rfl
     ·refine ⟨w.heap.size,h2.size,?_⟩
      unfold okL;rw [if_pos hok,Pc.sec_length hok.2.2]
      exact h3
     ·have hk:(Value.slice ao 128 cap).ownBlock=some k:=hk
      rcases h3.2 with ⟨hn,_⟩|⟨g,cap',cur,hn,k1,k2,_⟩
      ·rw [hn] at hk;cases hk
      ·rw [hn] at hk
       cases hk
       exact ⟨k1,(Array.getElem?_eq_some_iff.1 k2).1⟩
    ·refine (rseal_bad _ u w hok hb).mono fun r w' ⟨h1,h2⟩=>⟨_,e++[nilV],h1,Grows.push _ _,⟨[nilV,.int .i64 2],⟨(by show (e++[nilV])[1]? =some _;exact hfin _),?_,trivial⟩,rfl⟩,hM.push h2 _ ⟨.us (.own (okL (pcI ep ct fi la d))),true⟩ ?_ fun k hk=>?_⟩
     ·show _=Value.int .i64 (okN _:Int)
      unfold okN;rw [if_neg hok];rfl
     ·refine ⟨0,Nat.zero_le _,?_⟩
      unfold okL;rw [if_neg hok]
      exact owns_nilV w' 0 _ _
     ·have hk:(none:Option Nat)=some k:=hk
      cases hk
 ·cases h
theorem R_rseal:RowOk Try.prog Id' hardD 67 (ctrF Id' C_rseal hardD):=ctrF_ok Try.call67 C_rseal_ok
def C_runseal:Ctr Td:=fun us sub=>match us,sub with
 |[.one (.obj 0)],[⟨.us (.byt b),false⟩]=>some ([],.tup [.agg [.v (.int .u64 ((secP b).ep:Int)),.v (.int .u64 ((secP b).ct:Int)),.v (.bool (secP b).fi),.v (.bool (secP b).la),.obj 1],.one (.v (.int .i64 (secNL b:Int)))],[⟨.us (.byt b),false⟩,⟨.us (.own (secP b).d),true⟩])
 |_,_=>none
theorem C_runseal_ok:CtrOk Try.prog Id' 69 C_runseal:=by
 intro us sub ps x sm h hp w e vs hM ha
 unfold C_runseal at h
 split at h
 ·rename_i b
  simp only [Option.some.injEq,Prod.mk.injEq] at h
  obtain ⟨rfl,rfl,rfl⟩:=h
  match vs,ha with
  |[u],ha=>
   have hE:e[0]? =some u:=ha.1
   have hb:Bs w u b:=hM.holds 0 _ _ hE rfl
   have hlen:e.length=1:=hM.len
   have hfin:∀ (s:Value),(e++[s])[1]? =some s:=fun s=>by rw [List.getElem?_append_right (by omega),hlen];rfl
   refine (runseal_x u b w hb).mono fun r w' ⟨ao,cap,h1,h2,h3⟩=>⟨_,e++[.slice ao (secP b).d.length cap],h1,Grows.push _ _,⟨[(secP b).agg (.slice ao (secP b).d.length cap),.int .i64 (secNL b:Int)],⟨?_,rfl,trivial⟩,rfl⟩,hM.push h2 _ ⟨.us (.own (secP b).d),true⟩ ⟨w.heap.size,h2.size,h3⟩ fun k hk=>?_⟩
   ·exact ⟨[.int .u64 ((secP b).ep:Int),.int .u64 ((secP b).ct:Int),.bool (secP b).fi,.bool (secP b).la,.slice ao (secP b).d.length cap],⟨rfl,rfl,rfl,rfl,(by show (e++[_])[1]? =some _;exact hfin _),trivial⟩,rfl⟩
   ·have hk:(Value.slice ao (secP b).d.length cap).ownBlock=some k:=hk
    rcases h3.2 with ⟨hn,_⟩|⟨g,cap',cur,hn,k1,k2,_⟩
    ·rw [hn] at hk;cases hk
    ·rw [hn] at hk
     cases hk
     exact ⟨k1,(Array.getElem?_eq_some_iff.1 k2).1⟩
 ·cases h
theorem R_runseal:RowOk Try.prog Id' hardD 69 (ctrF Id' C_runseal hardD):=ctrF_ok Try.call69 C_runseal_ok
end Go.Proofs.Ytonomiljclemnaa
set_option linter.unusedVariables false
set_option linter.unusedSimpArgs false
namespace Go.Proofs.Ytonomiljclemnaa
open Go.RowKit
def hs (ep g t f:Int):List UInt8:=okL (svP ep g t f)
section
variable {ep g t f:Int}
end
end Go.Proofs.Ytonomiljclemnaa
set_option linter.unusedVariables false
set_option linter.unusedSimpArgs false
namespace Go.Proofs.Ytonomiljclemnaa
open Go.RowKit
set_option maxRecDepth 100000 in
theorem rsecB_w0 (ep g t f:Int) (h0:(!decide (fitsN t.toNat 40)||!decide (fitsN f.toNat 24))=true) (h1:0≤t∧t<18446744073709551616) (h2:0≤f∧f<18446744073709551616):∃ qs,wayO Id' (([]:Mem Td):Mem Td).length [] (.tup [.one (.v (.slice none 0 0)),.one (.v (.bool false))]) ((runFn (⟨Try.prog,[F_rfits,(F_rbits (hx:=hardDk):Nat×Fn2 Td),(F_rbytes (hx:=hardDk):Nat×Fn2 Td),(67,ctrF Id' C_rseal hardD)],[],dkHo,Id'.one,60⟩:Sy Td) [] Try.f52 [.one (.v (.int .u64 ep)),.agg [.v (.int .u64 g),.v (.int .u64 t),.v (.int .u64 f)]] ([]:Mem Td)).al [true])=some qs∧∀ q∈qs,q:=
 ⟨[(!!decide (fitsN t.toNat (40:Int))&&true)=true→(0:Int)≤f∧f<(18446744073709551616:Int),(!!decide (fitsN t.toNat (40:Int))&&true)=true→(-9223372036854775808:Int)≤(24:Int)∧(24:Int)≤(9223372036854775807:Int),(0:Int)≤t∧t<(18446744073709551616:Int),(-9223372036854775808:Int)≤(40:Int)∧(40:Int)≤(9223372036854775807:Int),(!decide (fitsN t.toNat (40:Int))||!decide (fitsN f.toNat (24:Int)))=true,Value.slice none 0 0=Value.slice none 0 0,Value.bool false=Value.bool false],by kernel_rfl,(by refine mcons ?_ (mcons ?_ (mcons ?_ (mcons ?_ (mcons ?_ (mcons ?_ (mcons ?_ mnil))))))<;>first|rfl|exact h0|exact h1|exact h2|trivial|(exact ⟨by decide,by decide⟩)|(show _≤1000000;rw [List.length_append,bitsOf_length,bitsOf_length];decide)|(intro _;exact h1)|(intro _;exact h2)|(intro _;exact ⟨by decide,by decide⟩)|(rw [bitsOf_length,bitsOf_length];decide))⟩
set_option maxRecDepth 100000 in
theorem rsecG_w0 (ep g t f:Int) (h0:(!decide (fitsN t.toNat 40)||!decide (fitsN f.toNat 24))=false) (h1:0≤t∧t<18446744073709551616) (h2:0≤f∧f<18446744073709551616) (h3:0≤ep∧0≤g):∃ qs,wayO Id' (([]:Mem Td):Mem Td).length [⟨.us (.own (okL (pcI ep g true true (packed (bitsOf t.toNat 40++bitsOf f.toNat 24))))),true⟩] (.tup [.one (.obj 0),.one (.v (.bool ((okN (pcI ep g true true (packed (bitsOf t.toNat 40++bitsOf f.toNat 24))):Int)==0)))]) ((runFn (⟨Try.prog,[F_rfits,(F_rbits (hx:=hardDk):Nat×Fn2 Td),(F_rbytes (hx:=hardDk):Nat×Fn2 Td),(67,ctrF Id' C_rseal hardD)],[],dkHo,Id'.one,60⟩:Sy Td) [] Try.f52 [.one (.v (.int .u64 ep)),.agg [.v (.int .u64 g),.v (.int .u64 t),.v (.int .u64 f)]] ([]:Mem Td)).al [false])=some qs∧∀ q∈qs,q:=
 ⟨[(!!decide (fitsN t.toNat (40:Int))&&true)=true→(0:Int)≤f∧f<(18446744073709551616:Int),(!!decide (fitsN t.toNat (40:Int))&&true)=true→(-9223372036854775808:Int)≤(24:Int)∧(24:Int)≤(9223372036854775807:Int),(0:Int)≤t∧t<(18446744073709551616:Int),(-9223372036854775808:Int)≤(40:Int)∧(40:Int)≤(9223372036854775807:Int),(!decide (fitsN t.toNat (40:Int))||!decide (fitsN f.toNat (24:Int)))=false,(bitsOf t.toNat 40).length+(bitsOf f.toNat 24).length≤(1000000:Nat),(0:Int)≤f∧f<(18446744073709551616:Int),(0:Int)≤t∧t<(18446744073709551616:Int),(0:Int)≤ep∧(0:Int)≤g,(En.mk (Ob.us (Th.own (packed (bitsOf t.toNat 40++bitsOf f.toNat 24)))) true:En Td)=En.mk (Ob.us (Th.own (packed (bitsOf t.toNat 40++bitsOf f.toNat 24)))) true,(bitsOf t.toNat 40++bitsOf f.toNat 24).length≤(1000000:Nat),(Th.own (okL (pcI ep g true true (packed (bitsOf t.toNat 40++bitsOf f.toNat 24)))):Td)=Th.own (okL (pcI ep g true true (packed (bitsOf t.toNat 40++bitsOf f.toNat 24)))),Value.bool ((↑(okN (pcI ep g true true (packed (bitsOf t.toNat 40++bitsOf f.toNat 24)))):Int)==(0:Int))=Value.bool ((↑(okN (pcI ep g true true (packed (bitsOf t.toNat (40:Nat)++bitsOf f.toNat (24:Nat))))):Int)==(0:Int))],by kernel_rfl,(by refine mcons ?_ (mcons ?_ (mcons ?_ (mcons ?_ (mcons ?_ (mcons ?_ (mcons ?_ (mcons ?_ (mcons ?_ (mcons ?_ (mcons ?_ (mcons ?_ (mcons ?_ mnil))))))))))))<;>first|rfl|exact h0|exact h1|exact h2|exact h3|trivial|(exact ⟨by decide,by decide⟩)|(show _≤1000000;rw [List.length_append,bitsOf_length,bitsOf_length];decide)|(intro _;exact h1)|(intro _;exact h2)|(intro _;exact ⟨by decide,by decide⟩)|(rw [bitsOf_length,bitsOf_length];decide))⟩
structure RSecG (ep g t f:Int) (y:List UInt8) (b:Bool):Prop where
 a0:0≤ep∧0≤g
 a1:0≤t∧t<18446744073709551616
 a2:0≤f∧f<18446744073709551616
 ft:(svW t f).err=0
 y:okL (svP ep g t f)=y
 b:((okN (svP ep g t f):Int)==0)=b
theorem svW_fits {t f:Int}:(svW t f).err=bif (decide (fitsN t.toNat 40)&&decide (fitsN f.toNat 24)) then 0 else 2:=by
 have h1:=puts_err [(t,(40:Int)),(f,(24:Int))] (s:=WS.new) rfl
 refine (show (svW t f).err=_ from h1).trans ?_
 simp only [List.all_cons,List.all_nil,Bool.and_true,fitB]
theorem svW_packed {t f:Int} (h:(svW t f).err=0):(svW t f).out=packed (bitsOf t.toNat 40++bitsOf f.toNat 24):=by
 have hf:=svW_fits (t:=t) (f:=f)
 rw [h] at hf
 cases hc:(decide (fitsN t.toNat 40)&&decide (fitsN f.toNat 24)) with
 |false=>rw [hc] at hf;cases hf
 |true=>
  rw [Bool.and_eq_true] at hc
  have h2:=puts_bl [(t,(40:Int)),(f,(24:Int))] (s:=WS.new) rfl (by simp only [List.all_cons,List.all_nil,Bool.and_true,fitB,hc.1,hc.2])
  unfold WS.out
  rw [if_pos h]
  refine congrArg packed ((show (svW t f).bl=_ from h2).trans ?_)
  show []++(bitsOf t.toNat 40++(bitsOf f.toNat 24++[]))=_
  simp
def C_rsecX (y:List UInt8) (b:Bool):Ctr Td:=fun us sub=>match us,sub with
 |[.one (.v (.int .u64 ep)),.agg [.v (.int .u64 g),.v (.int .u64 t),.v (.int .u64 f)]],([]:Mem Td)=>some ([RSecG ep g t f y b],.tup [.one (.obj 0),.one (.v (.bool b))],[⟨.us (.own y),true⟩])
 |_,_=>none
def C_rsecB:Ctr Td:=fun us sub=>match us,sub with
 |[.one (.v (.int .u64 ep)),.agg [.v (.int .u64 g),.v (.int .u64 t),.v (.int .u64 f)]],([]:Mem Td)=>some ([(0≤t∧t<18446744073709551616)∧(0≤f∧f<18446744073709551616)∧(svW t f).err≠0],.tup [.one (.v (.slice none 0 0)),.one (.v (.bool false))],[])
 |_,_=>none
theorem fitsS {t f:Int}:((svW t f).err=0→(!decide (fitsN t.toNat 40)||!decide (fitsN f.toNat 24))=false)∧((svW t f).err≠0→(!decide (fitsN t.toNat 40)||!decide (fitsN f.toNat 24))=true):=by
 rw [svW_fits]
 cases decide (fitsN t.toNat 40)<;>cases decide (fitsN f.toNat 24)<;>simp
set_option maxRecDepth 100000 in
theorem C_rsecX_ok (y:List UInt8) (b:Bool):CtrOk Try.prog Id' 52 (C_rsecX y b):=by
 intro us sub ps x sm h hp w e_ vs hM ha
 unfold C_rsecX at h
 split at h
 ·rename_i ep g t f
  simp only [Option.some.injEq,Prod.mk.injEq] at h
  obtain ⟨rfl,rfl,rfl⟩:=h
  have q:=hp _ (List.mem_cons_self ..)
  obtain ⟨q0,q1,q2,q3,rfl,rfl⟩:=q
  have hpk:svP ep g t f=pcI ep g true true (packed (bitsOf t.toNat 40++bitsOf f.toNat 24)):=by unfold svP;rw [svW_packed q3]
  rw [hpk]
  exact ctr_way (I:=Id') (fun (W0:World) (G:Nat→Prop)=>SyOk.mk2 Try.mixed dkHo_ok (FnsR.cons (F_rfits_ok) (FnsR.cons (F_rbits_ok (J:=dkI) (hx:=hardDk)) (FnsR.cons (F_rbytes_ok (J:=dkI) (hx:=hardDk)) (FnsR.cons (R_rseal) (FnsR.nil))))) EqsOk.nil) rfl Try.func52 (by kernel_rfl) (fun _ _=>LpsOk.nil _) (cs:=[false]) (by kernel_rfl) (rsecG_w0 ep g t f (fitsS.1 q3) q1 q2 q0) w e_ vs hM ha
 ·cases h
theorem R_rsecX (y:List UInt8) (b:Bool):RowOk Try.prog Id' hardD 52 (ctrF Id' (C_rsecX y b) hardD):=ctrF_ok Try.call52 (C_rsecX_ok y b)
set_option maxRecDepth 100000 in
theorem C_rsecB_ok:CtrOk Try.prog Id' 52 C_rsecB:=by
 intro us sub ps x sm h hp w e_ vs hM ha
 unfold C_rsecB at h
 split at h
 ·rename_i ep g t f
  simp only [Option.some.injEq,Prod.mk.injEq] at h
  obtain ⟨rfl,rfl,rfl⟩:=h
  obtain ⟨q1,q2,q3⟩:=hp _ (List.mem_cons_self ..)
  exact ctr_way (I:=Id') (fun (W0:World) (G:Nat→Prop)=>SyOk.mk2 Try.mixed dkHo_ok (FnsR.cons (F_rfits_ok) (FnsR.cons (F_rbits_ok (J:=dkI) (hx:=hardDk)) (FnsR.cons (F_rbytes_ok (J:=dkI) (hx:=hardDk)) (FnsR.cons (R_rseal) (FnsR.nil))))) EqsOk.nil) rfl Try.func52 (by kernel_rfl) (fun _ _=>LpsOk.nil _) (cs:=[true]) (by kernel_rfl) (rsecB_w0 ep g t f (fitsS.2 q3) q1 q2) w e_ vs hM ha
 ·cases h
theorem R_rsecB:RowOk Try.prog Id' hardD 52 (ctrF Id' C_rsecB hardD):=ctrF_ok Try.call52 C_rsecB_ok
end Go.Proofs.Ytonomiljclemnaa
set_option linter.unusedVariables false
set_option linter.unusedSimpArgs false
namespace Go.Proofs.Ytonomiljclemnaa
open Go.RowKit
set_option maxRecDepth 100000 in
theorem rsaveB0_w0 (L:List (List UInt8)) (Q:List (Int×List UInt8)) (ru:Int) (ro:Bool) (i ep g t f:Int) (y:List UInt8) (b:Bool) (e1:Int) (s1:DS) (h0:(decide (i<0)||decide (i≥IntKind.i64.wrap ((L.length:Int) - 1))||!false)=true) (h1:(0≤t∧t<18446744073709551616)∧(0≤f∧f<18446744073709551616)∧(svW t f).err≠0) (h2:(2:Int)=e1) (h3:ru=rOf s1.fd s1.fu) (h4:ro=s1.off) (h5:L=s1.L) (h6:(Q:List (Int×List UInt8))=s1.Q):∃ qs,wayO Id' ([⟨.bx [.obj 1,.obj 2,.v (.int .i64 ru),.v (.bool ro)],true⟩,⟨.us (.ext (.tab (.bs L))),true⟩,⟨.us (.ext (.tab (.wq 89 Q))),true⟩]:Mem Td).length [⟨.bx [.obj 1,.obj 3,.v (.int .i64 (rOf s1.fd s1.fu)),.v (.bool s1.off)],true⟩,⟨.us (.ext (.tab (.bs s1.L))),true⟩,⟨.dead,true⟩,⟨.us (.ext (.tab (.wq 89 s1.Q))),true⟩] (svV (.int .i64 e1)) ((runFn (⟨Try.prog,[(52,ctrF Id' C_rsecB hardD),(27,ctrF Id' C_rwrite hardD),(28,ctrF Id' C_rflush hardD)],[],dkHo,Id'.one,60⟩:Sy Td) [] Try.f38 [.one (.ptr 0 0),.one (.v (.int .i64 i)),.one (.v (.int .u64 ep)),.agg [.v (.int .u64 g),.v (.int .u64 t),.v (.int .u64 f)]] [⟨.bx [.obj 1,.obj 2,.v (.int .i64 ru),.v (.bool ro)],true⟩,⟨.us (.ext (.tab (.bs L))),true⟩,⟨.us (.ext (.tab (.wq 89 Q))),true⟩]).al [true])=some qs∧∀ q∈qs,q:=
 ⟨[((0:Int)≤t∧t<(18446744073709551616:Int))∧((0:Int)≤f∧f<(18446744073709551616:Int))∧(svW t f).err≠(0:Int),(decide (i<(0:Int))||decide (i≥IntKind.i64.wrap ((↑(TB.bs L).n:Int) - (1:Int)))||!false)=true,Value.int IntKind.i64 ru=Value.int IntKind.i64 (rOf s1.fd s1.fu),Value.bool ro=Value.bool s1.off,Th.ext (Dk.tab (TB.bs L))=Th.ext (Dk.tab (TB.bs s1.1)),Th.ext (Dk.tab (TB.wq 89 Q))=Th.ext (Dk.tab (TB.wq 89 s1.2)),Value.int IntKind.i64 (Int.ofNat 2)=Value.int IntKind.i64 e1],by kernel_rfl,(by refine mcons ?_ (mcons ?_ (mcons ?_ (mcons ?_ (mcons ?_ (mcons ?_ (mcons ?_ mnil))))))<;>first|rfl|exact h0|exact h1|exact h2|exact h3|exact h4|exact h5|exact h6|trivial|(exact congrArg _ h2)|(exact congrArg _ h3)|(exact congrArg _ h4)|(exact congrArg (fun x=>Th.ext (Dk.tab (.bs x))) h5)|(exact congrArg (fun x=>Th.ext (Dk.tab (.wq 89 x))) h6))⟩
set_option maxRecDepth 100000 in
theorem rsaveG0_w0 (L:List (List UInt8)) (Q:List (Int×List UInt8)) (ru:Int) (ro:Bool) (i ep g t f:Int) (y:List UInt8) (b:Bool) (e1:Int) (s1:DS) (h0:(decide (i<0)||decide (i≥IntKind.i64.wrap ((L.length:Int) - 1))||!b)=true) (h1:RSecG ep g t f y b) (h2:(2:Int)=e1) (h3:ru=rOf s1.fd s1.fu) (h4:ro=s1.off) (h5:L=s1.L) (h6:(Q:List (Int×List UInt8))=s1.Q):∃ qs,wayO Id' ([⟨.bx [.obj 1,.obj 2,.v (.int .i64 ru),.v (.bool ro)],true⟩,⟨.us (.ext (.tab (.bs L))),true⟩,⟨.us (.ext (.tab (.wq 89 Q))),true⟩]:Mem Td).length [⟨.bx [.obj 1,.obj 3,.v (.int .i64 (rOf s1.fd s1.fu)),.v (.bool s1.off)],true⟩,⟨.us (.ext (.tab (.bs s1.L))),true⟩,⟨.dead,true⟩,⟨.us (.ext (.tab (.wq 89 s1.Q))),true⟩] (svV (.int .i64 e1)) ((runFn (⟨Try.prog,[(52,ctrF Id' (C_rsecX y b) hardD),(27,ctrF Id' C_rwrite hardD),(28,ctrF Id' C_rflush hardD)],[],dkHo,Id'.one,60⟩:Sy Td) [] Try.f38 [.one (.ptr 0 0),.one (.v (.int .i64 i)),.one (.v (.int .u64 ep)),.agg [.v (.int .u64 g),.v (.int .u64 t),.v (.int .u64 f)]] [⟨.bx [.obj 1,.obj 2,.v (.int .i64 ru),.v (.bool ro)],true⟩,⟨.us (.ext (.tab (.bs L))),true⟩,⟨.us (.ext (.tab (.wq 89 Q))),true⟩]).al [true])=some qs∧∀ q∈qs,q:=
 ⟨[RSecG ep g t f y b,(decide (i<(0:Int))||decide (i≥IntKind.i64.wrap ((↑(TB.bs L).n:Int) - (1:Int)))||!b)=true,Value.int IntKind.i64 ru=Value.int IntKind.i64 (rOf s1.fd s1.fu),Value.bool ro=Value.bool s1.off,Th.ext (Dk.tab (TB.bs L))=Th.ext (Dk.tab (TB.bs s1.1)),Th.ext (Dk.tab (TB.wq 89 Q))=Th.ext (Dk.tab (TB.wq 89 s1.2)),Value.int IntKind.i64 (Int.ofNat 2)=Value.int IntKind.i64 e1],by kernel_rfl,(by refine mcons ?_ (mcons ?_ (mcons ?_ (mcons ?_ (mcons ?_ (mcons ?_ (mcons ?_ mnil))))))<;>first|rfl|exact h0|exact h1|exact h2|exact h3|exact h4|exact h5|exact h6|trivial|(exact congrArg _ h2)|(exact congrArg _ h3)|(exact congrArg _ h4)|(exact congrArg (fun x=>Th.ext (Dk.tab (.bs x))) h5)|(exact congrArg (fun x=>Th.ext (Dk.tab (.wq 89 x))) h6))⟩
set_option maxRecDepth 100000 in
theorem rsaveG1_w0 (L:List (List UInt8)) (Q:List (Int×List UInt8)) (ru:Int) (ro:Bool) (i ep g t f:Int) (y:List UInt8) (b:Bool) (e1:Int) (s1:DS) (h0:(decide (i<0)||decide (i≥IntKind.i64.wrap ((L.length:Int) - 1))||!b)=false) (h1:((rwE (IntKind.i64.wrap (i+IntKind.i64.wrap (Int.tmod g 2))) (L.length:Int) (y.length:Int) ro ru) != 0)=true) (h2:RSecG ep g t f y b) (h3:Q.length+1≤100000) (h4:(rwE (IntKind.i64.wrap (i+IntKind.i64.wrap (Int.tmod g 2))) (L.length:Int) (y.length:Int) ro ru)=e1) (h5:(rwFu (IntKind.i64.wrap (i+IntKind.i64.wrap (Int.tmod g 2))) (L.length:Int) (y.length:Int) ru)=rOf s1.fd s1.fu) (h6:(rwOff (IntKind.i64.wrap (i+IntKind.i64.wrap (Int.tmod g 2))) (L.length:Int) (y.length:Int) ro ru)=s1.off) (h7:L=s1.L) (h8:((rwQ Q (IntKind.i64.wrap (i+IntKind.i64.wrap (Int.tmod g 2))) (L.length:Int) y ro ru):List (Int×List UInt8))=s1.Q):∃ qs,wayO Id' ([⟨.bx [.obj 1,.obj 2,.v (.int .i64 ru),.v (.bool ro)],true⟩,⟨.us (.ext (.tab (.bs L))),true⟩,⟨.us (.ext (.tab (.wq 89 Q))),true⟩]:Mem Td).length [⟨.bx [.obj 1,.obj 3,.v (.int .i64 (rOf s1.fd s1.fu)),.v (.bool s1.off)],true⟩,⟨.us (.ext (.tab (.bs s1.L))),true⟩,⟨.dead,true⟩,⟨.us (.ext (.tab (.wq 89 s1.Q))),true⟩] (svV (.int .i64 e1)) ((runFn (⟨Try.prog,[(52,ctrF Id' (C_rsecX y b) hardD),(27,ctrF Id' C_rwrite hardD),(28,ctrF Id' C_rflush hardD)],[],dkHo,Id'.one,60⟩:Sy Td) [] Try.f38 [.one (.ptr 0 0),.one (.v (.int .i64 i)),.one (.v (.int .u64 ep)),.agg [.v (.int .u64 g),.v (.int .u64 t),.v (.int .u64 f)]] [⟨.bx [.obj 1,.obj 2,.v (.int .i64 ru),.v (.bool ro)],true⟩,⟨.us (.ext (.tab (.bs L))),true⟩,⟨.us (.ext (.tab (.wq 89 Q))),true⟩]).al [false,true])=some qs∧∀ q∈qs,q:=
 ⟨[RSecG ep g t f y b,(decide (i<(0:Int))||decide (i≥IntKind.i64.wrap ((↑(TB.bs L).n:Int) - (1:Int)))||!b)=false,Q.length+(1:Nat)≤(100000:Nat),(En.mk (Ob.us (Th.own y)) true:En Td)=En.mk (Ob.us (Th.own y)) true,(rwE (IntKind.i64.wrap (i+IntKind.i64.wrap (g.tmod (2:Int)))) (↑L.length:Int) (↑y.length:Int) ro ru != (0:Int))=true,Value.int IntKind.i64 (rwFu (IntKind.i64.wrap (i+IntKind.i64.wrap (g.tmod (2:Int)))) (↑L.length:Int) (↑y.length:Int) ru)=Value.int IntKind.i64 (rOf s1.fd s1.fu),Value.bool (rwOff (IntKind.i64.wrap (i+IntKind.i64.wrap (g.tmod (2:Int)))) (↑L.length:Int) (↑y.length:Int) ro ru)=Value.bool s1.off,Th.ext (Dk.tab (TB.bs L))=Th.ext (Dk.tab (TB.bs s1.1)),Th.ext (Dk.tab (TB.wq 89 (rwQ Q (IntKind.i64.wrap (i+IntKind.i64.wrap (g.tmod (2:Int)))) (↑L.length:Int) y ro ru)))=Th.ext (Dk.tab (TB.wq 89 s1.2)),Value.int IntKind.i64 (rwE (IntKind.i64.wrap (i+IntKind.i64.wrap (g.tmod (2:Int)))) (↑L.length:Int) (↑y.length:Int) ro ru)=Value.int IntKind.i64 e1],by kernel_rfl,(by refine mcons ?_ (mcons ?_ (mcons ?_ (mcons ?_ (mcons ?_ (mcons ?_ (mcons ?_ (mcons ?_ (mcons ?_ (mcons ?_ mnil)))))))))<;>first|rfl|exact h0|exact h1|exact h2|exact h3|exact h4|exact h5|exact h6|exact h7|exact h8|trivial|(exact congrArg _ h4)|(exact congrArg _ h5)|(exact congrArg _ h6)|(exact congrArg (fun x=>Th.ext (Dk.tab (.bs x))) h7)|(exact congrArg (fun x=>Th.ext (Dk.tab (.wq 89 x))) h8))⟩
set_option maxRecDepth 100000 in
theorem rsaveG2_w0 (L:List (List UInt8)) (Q:List (Int×List UInt8)) (ru:Int) (ro:Bool) (i ep g t f:Int) (y:List UInt8) (b:Bool) (e1:Int) (s1:DS) (h0:(decide (i<0)||decide (i≥IntKind.i64.wrap ((L.length:Int) - 1))||!b)=false) (h1:((rwE (IntKind.i64.wrap (i+IntKind.i64.wrap (Int.tmod g 2))) (L.length:Int) (y.length:Int) ro ru) != 0)=false) (h2:RSecG ep g t f y b) (h3:Q.length+1≤100000) (h4:WidQ (rwQ Q (IntKind.i64.wrap (i+IntKind.i64.wrap (Int.tmod g 2))) (L.length:Int) y ro ru)) (h5:AtQ L.length (rwQ Q (IntKind.i64.wrap (i+IntKind.i64.wrap (Int.tmod g 2))) (L.length:Int) y ro ru)) (h6:(rfE (rwOff (IntKind.i64.wrap (i+IntKind.i64.wrap (Int.tmod g 2))) (L.length:Int) (y.length:Int) ro ru) (rwFu (IntKind.i64.wrap (i+IntKind.i64.wrap (Int.tmod g 2))) (L.length:Int) (y.length:Int) ru))=e1) (h7:(rFu (rwFu (IntKind.i64.wrap (i+IntKind.i64.wrap (Int.tmod g 2))) (L.length:Int) (y.length:Int) ru))=rOf s1.fd s1.fu) (h8:(rOff (rwOff (IntKind.i64.wrap (i+IntKind.i64.wrap (Int.tmod g 2))) (L.length:Int) (y.length:Int) ro ru) (rwFu (IntKind.i64.wrap (i+IntKind.i64.wrap (Int.tmod g 2))) (L.length:Int) (y.length:Int) ru))=s1.off) (h9:(rfL L (rwQ Q (IntKind.i64.wrap (i+IntKind.i64.wrap (Int.tmod g 2))) (L.length:Int) y ro ru) (rwOff (IntKind.i64.wrap (i+IntKind.i64.wrap (Int.tmod g 2))) (L.length:Int) (y.length:Int) ro ru) (rwFu (IntKind.i64.wrap (i+IntKind.i64.wrap (Int.tmod g 2))) (L.length:Int) (y.length:Int) ru))=s1.L) (h10:((rfQ (rwQ Q (IntKind.i64.wrap (i+IntKind.i64.wrap (Int.tmod g 2))) (L.length:Int) y ro ru) (rwOff (IntKind.i64.wrap (i+IntKind.i64.wrap (Int.tmod g 2))) (L.length:Int) (y.length:Int) ro ru) (rwFu (IntKind.i64.wrap (i+IntKind.i64.wrap (Int.tmod g 2))) (L.length:Int) (y.length:Int) ru)):List (Int×List UInt8))=s1.Q):∃ qs,wayO Id' ([⟨.bx [.obj 1,.obj 2,.v (.int .i64 ru),.v (.bool ro)],true⟩,⟨.us (.ext (.tab (.bs L))),true⟩,⟨.us (.ext (.tab (.wq 89 Q))),true⟩]:Mem Td).length [⟨.bx [.obj 1,.obj 3,.v (.int .i64 (rOf s1.fd s1.fu)),.v (.bool s1.off)],true⟩,⟨.us (.ext (.tab (.bs s1.L))),true⟩,⟨.dead,true⟩,⟨.us (.ext (.tab (.wq 89 s1.Q))),true⟩] (svV (.int .i64 e1)) ((runFn (⟨Try.prog,[(52,ctrF Id' (C_rsecX y b) hardD),(27,ctrF Id' C_rwrite hardD),(28,ctrF Id' C_rflush hardD)],[],dkHo,Id'.one,60⟩:Sy Td) [] Try.f38 [.one (.ptr 0 0),.one (.v (.int .i64 i)),.one (.v (.int .u64 ep)),.agg [.v (.int .u64 g),.v (.int .u64 t),.v (.int .u64 f)]] [⟨.bx [.obj 1,.obj 2,.v (.int .i64 ru),.v (.bool ro)],true⟩,⟨.us (.ext (.tab (.bs L))),true⟩,⟨.us (.ext (.tab (.wq 89 Q))),true⟩]).al [false,false])=some qs∧∀ q∈qs,q:=
 ⟨[RSecG ep g t f y b,(decide (i<(0:Int))||decide (i≥IntKind.i64.wrap ((↑(TB.bs L).n:Int) - (1:Int)))||!b)=false,Q.length+(1:Nat)≤(100000:Nat),(En.mk (Ob.us (Th.own y)) true:En Td)=En.mk (Ob.us (Th.own y)) true,(rwE (IntKind.i64.wrap (i+IntKind.i64.wrap (g.tmod (2:Int)))) (↑L.length:Int) (↑y.length:Int) ro ru != (0:Int))=false,(∀ (q:Int×List UInt8),q∈rwQ Q (IntKind.i64.wrap (i+IntKind.i64.wrap (g.tmod (2:Int)))) (↑L.length:Int) y ro ru→q.snd.length=(128:Nat))∧(rwQ Q (IntKind.i64.wrap (i+IntKind.i64.wrap (g.tmod (2:Int)))) (↑L.length:Int) y ro ru).length≤(100000:Nat),AtQ L.length (rwQ Q (IntKind.i64.wrap (i+IntKind.i64.wrap (g.tmod (2:Int)))) (↑L.length:Int) y ro ru),Value.int IntKind.i64 (rFu (rwFu (IntKind.i64.wrap (i+IntKind.i64.wrap (g.tmod (2:Int)))) (↑L.length:Int) (↑y.length:Int) ru))=Value.int IntKind.i64 (rOf s1.fd s1.fu),Value.bool (rOff (rwOff (IntKind.i64.wrap (i+IntKind.i64.wrap (g.tmod (2:Int)))) (↑L.length:Int) (↑y.length:Int) ro ru) (rwFu (IntKind.i64.wrap (i+IntKind.i64.wrap (g.tmod (2:Int)))) (↑L.length:Int) (↑y.length:Int) ru))=Value.bool s1.off,Th.ext (Dk.tab (TB.bs (rfL L (rwQ Q (IntKind.i64.wrap (i+IntKind.i64.wrap (g.tmod (2:Int)))) (↑L.length:Int) y ro ru) (rwOff (IntKind.i64.wrap (i+IntKind.i64.wrap (g.tmod (2:Int)))) (↑L.length:Int) (↑y.length:Int) ro ru) (rwFu (IntKind.i64.wrap (i+IntKind.i64.wrap (g.tmod (2:Int)))) (↑L.length:Int) (↑y.length:Int) ru))))=Th.ext (Dk.tab (TB.bs s1.1)),Th.ext (Dk.tab (TB.wq 89 (rfQ (rwQ Q (IntKind.i64.wrap (i+IntKind.i64.wrap (g.tmod (2:Int)))) (↑L.length:Int) y ro ru) (rwOff (IntKind.i64.wrap (i+IntKind.i64.wrap (g.tmod (2:Int)))) (↑L.length:Int) (↑y.length:Int) ro ru) (rwFu (IntKind.i64.wrap (i+IntKind.i64.wrap (g.tmod (2:Int)))) (↑L.length:Int) (↑y.length:Int) ru))))=Th.ext (Dk.tab (TB.wq 89 s1.2)),Value.int IntKind.i64 (rfE (rwOff (IntKind.i64.wrap (i+IntKind.i64.wrap (g.tmod (2:Int)))) (↑L.length:Int) (↑y.length:Int) ro ru) (rwFu (IntKind.i64.wrap (i+IntKind.i64.wrap (g.tmod (2:Int)))) (↑L.length:Int) (↑y.length:Int) ru))=Value.int IntKind.i64 e1],by kernel_rfl,(by refine mcons ?_ (mcons ?_ (mcons ?_ (mcons ?_ (mcons ?_ (mcons ?_ (mcons ?_ (mcons ?_ (mcons ?_ (mcons ?_ (mcons ?_ (mcons ?_ mnil)))))))))))<;>first|rfl|exact h0|exact h1|exact h2|exact h3|exact h4|exact h5|exact h6|exact h7|exact h8|exact h9|exact h10|trivial|(exact congrArg _ h6)|(exact congrArg _ h7)|(exact congrArg _ h8)|(exact congrArg (fun x=>Th.ext (Dk.tab (.bs x))) h9)|(exact congrArg (fun x=>Th.ext (Dk.tab (.wq 89 x))) h10))⟩
structure RSaveIs (L:List (List UInt8)) (Q:List (Int×List UInt8)) (ru:Int) (ro:Bool) (s:DS) (i ep g t f e1:Int) (s1:DS):Prop where
 eL:L=s.L
 eQ:Q=s.Q
 eru:ru=rOf s.fd s.fu
 ero:ro=s.off
 inv:∃ n k,DInv n k s∧0<n∧n≤4096∧k+2≤100000
 ir:R64 i
 a0:0≤ep∧0≤g∧g<18446744073709551616
 a1:0≤t∧t<18446744073709551616
 a2:0≤f∧f<18446744073709551616
 e:svE s i ep g t f=e1
 ss:svS s i ep g t f=s1
def C_rsaveX (s:DS) (e1:Int) (s1:DS):Ctr Td:=fun us sub=>match us,sub with
 |[.one (.ptr 0 0),.one (.v (.int .i64 i)),.one (.v (.int .u64 ep)),.agg [.v (.int .u64 g),.v (.int .u64 t),.v (.int .u64 f)]],[⟨.bx [.obj 1,.obj 2,.v (.int .i64 ru),.v (.bool ro)],true⟩,⟨.us (.ext (.tab (.bs L))),true⟩,⟨.us (.ext (.tab (.wq 89 Q))),true⟩]=>some ([RSaveIs L Q ru ro s i ep g t f e1 s1],svV (.int .i64 e1),[⟨.bx [.obj 1,.obj 3,.v (.int .i64 (rOf s1.fd s1.fu)),.v (.bool s1.off)],true⟩,⟨.us (.ext (.tab (.bs s1.L))),true⟩,⟨.dead,true⟩,⟨.us (.ext (.tab (.wq 89 s1.Q))),true⟩])
 |_,_=>none
theorem tmod_place {i g:Int} (h:0≤g∧g<18446744073709551616):(IntKind.i64.wrap (i+IntKind.i64.wrap (Int.tmod g 2)))=hpI i g:=by
 have h1:(BitVec.ofInt IntKind.u64.bits g &&& BitVec.ofInt IntKind.u64.bits 1).toNat=g.toNat % 2:=by
  rw [BitVec.toNat_and,BitVec.toNat_ofInt,BitVec.toNat_ofInt]
  show (g % ((2 ^ 64:Nat):Int)).toNat &&& 1=_
  rw [Int.emod_eq_of_lt (by omega) (by omega),Nat.and_one_is_mod]
 unfold hpI
 rw [h1,u64w_id (by omega),Int.tmod_eq_emod_of_nonneg h.1]
 congr 3
 omega
set_option maxHeartbeats 2000000 in
set_option maxRecDepth 100000 in
theorem C_rsaveX_ok (s:DS) (e1:Int) (s1:DS):CtrOk Try.prog Id' 38 (C_rsaveX s e1 s1):=by
 intro us sub ps x sm h hp w e_ vs hM ha
 unfold C_rsaveX at h
 split at h
 ·rename_i i ep g t f ru ro L Q
  simp only [Option.some.injEq,Prod.mk.injEq] at h
  obtain ⟨rfl,rfl,rfl⟩:=h
  obtain ⟨rfl,rfl,rfl,rfl,⟨n,k,inv,hn,hn2,hk⟩,hi,⟨a0,a0',a0''⟩,a1,a2,rfl,rfl⟩:=hp _ (List.mem_cons_self ..)
  have hlen:=inv.len
  have hP:=tmod_place (i:=i) ⟨a0',a0''⟩
  have hwI:hwI (s.L.length:Int) i=bif decide (i<0)||decide (i≥IntKind.i64.wrap ((s.L.length:Int) - 1)) then 2 else 0:=by
   unfold hwI
   rw [show ((s.L.length:Int)==0)=false from beq_eq_false_iff_ne.2 (by omega)];rfl
  have wi:=wr_inv inv hn (hpI i g) (okL (svP ep g t f))
  by_cases hf:(svW t f).err=0
  ·have hfb:((svW t f).err != 0)=false:=by rw [hf];rfl
   cases hc:(decide (i<0)||decide (i≥IntKind.i64.wrap ((s.L.length:Int) - 1))||!((okN (svP ep g t f):Int)==0)) with
   |true=>
    have hK:svK (s.L.length:Int) i ep g t f=2:=by
     unfold svK
     rw [hwI,hfb]
     rw [Bool.or_eq_true] at hc
     cases hc2:(decide (i<0)||decide (i≥IntKind.i64.wrap ((s.L.length:Int) - 1))) with
     |true=>rfl
     |false=>
      rw [hc2] at hc
      have hb:((okN (svP ep g t f):Int)==0)=false:=by simpa using hc
      have hb':((okN (svP ep g t f):Int) != 0)=true:=by rw [bne,hb];rfl
      rw [hb'];rfl
    have e1:svE s i ep g t f=2:=by unfold svE;rw [hK];rfl
    have e2:svS s i ep g t f=s:=by unfold svS;rw [hK];rfl
    rw [e1,e2]
    exact ctr_way (I:=Id') (fun (W0:World) (G:Nat→Prop)=>SyOk.mk2 Try.mixed dkHo_ok (FnsR.cons (R_rsecX (okL (svP ep g t f)) ((okN (svP ep g t f):Int)==0)) (FnsR.cons (R_rwrite) (FnsR.cons (R_rflush) (FnsR.nil)))) EqsOk.nil) rfl Try.func38 (by kernel_rfl) (fun _ _=>LpsOk.nil _) (cs:=[true]) (by kernel_rfl) (rsaveG0_w0 s.L s.Q (rOf s.fd s.fu) s.off i ep g t f (okL (svP ep g t f)) ((okN (svP ep g t f):Int)==0) _ _ hc ⟨⟨a0,a0'⟩,a1,a2,hf,rfl,rfl⟩ rfl rfl rfl rfl rfl) w e_ vs hM ha
   |false=>
    rw [Bool.or_eq_false_iff] at hc
    have hb:((okN (svP ep g t f):Int)==0)=true:=by simpa using hc.2
    have hK:svK (s.L.length:Int) i ep g t f=0:=by
     unfold svK
     rw [hwI,hc.1,hfb]
     have hb':((okN (svP ep g t f):Int) != 0)=false:=by rw [bne,hb];rfl
     rw [hb'];rfl
    have hc':(decide (i<0)||decide (i≥IntKind.i64.wrap ((s.L.length:Int) - 1))||!((okN (svP ep g t f):Int)==0))=false:=by rw [hc.1,hb];rfl
    have hX:svX s i ep g t f=rwE (IntKind.i64.wrap (i+IntKind.i64.wrap (Int.tmod g 2))) (s.L.length:Int) ((okL (svP ep g t f)).length:Int) s.off (rOf s.fd s.fu):=by
     unfold svX;rw [hP,hlen];exact wrE_eq hn ..
    have hT:svT s i ep g t f=wrS n (hpI i g) (okL (svP ep g t f)) s:=by unfold svT;rw [hlen]
    have qQ:rwQ s.Q (IntKind.i64.wrap (i+IntKind.i64.wrap (Int.tmod g 2))) (s.L.length:Int) (okL (svP ep g t f)) s.off (rOf s.fd s.fu)=(svT s i ep g t f).Q:=by rw [hT,hP,hlen];exact rwQ_eq hn ..
    have qF:rwFu (IntKind.i64.wrap (i+IntKind.i64.wrap (Int.tmod g 2))) (s.L.length:Int) ((okL (svP ep g t f)).length:Int) (rOf s.fd s.fu)=rOf (svT s i ep g t f).fd (svT s i ep g t f).fu:=by rw [hT,hP,hlen];exact rwFu_eq inv hn ..
    have qO:rwOff (IntKind.i64.wrap (i+IntKind.i64.wrap (Int.tmod g 2))) (s.L.length:Int) ((okL (svP ep g t f)).length:Int) s.off (rOf s.fd s.fu)=(svT s i ep g t f).off:=by rw [hT,hP,hlen];exact rwOff_eq hn ..
    have qL:s.L=(svT s i ep g t f).L:=rfl
    cases hw:(svX s i ep g t f != 0) with
    |true=>
     have e1:svE s i ep g t f=svX s i ep g t f:=by unfold svE;rw [hK,hw];rfl
     have e2:svS s i ep g t f=svT s i ep g t f:=by unfold svS;rw [hK,hw];rfl
     rw [e1,e2]
     exact ctr_way (I:=Id') (fun (W0:World) (G:Nat→Prop)=>SyOk.mk2 Try.mixed dkHo_ok (FnsR.cons (R_rsecX (okL (svP ep g t f)) ((okN (svP ep g t f):Int)==0)) (FnsR.cons (R_rwrite) (FnsR.cons (R_rflush) (FnsR.nil)))) EqsOk.nil) rfl Try.func38 (by kernel_rfl) (fun _ _=>LpsOk.nil _) (cs:=[false,true]) (by kernel_rfl) (rsaveG1_w0 s.L s.Q (rOf s.fd s.fu) s.off i ep g t f (okL (svP ep g t f)) ((okN (svP ep g t f):Int)==0) _ _ hc' (by rw [← hX];exact hw) ⟨⟨a0,a0'⟩,a1,a2,hf,rfl,rfl⟩ (by have:=inv.k;omega) hX.symm qF qO qL qQ) w e_ vs hM ha
    |false=>
     have e1:svE s i ep g t f=flE (s.L.length:Int) (svT s i ep g t f).off (svT s i ep g t f).fd (svT s i ep g t f).fu:=by unfold svE;rw [hK,hw];rfl
     have e2:svS s i ep g t f=flS s.L.length (svT s i ep g t f):=by unfold svS;rw [hK,hw];rfl
     rw [← hT] at wi
     have fl:=fl_eq wi hn
     rw [e1,e2,hlen]
     exact ctr_way (I:=Id') (fun (W0:World) (G:Nat→Prop)=>SyOk.mk2 Try.mixed dkHo_ok (FnsR.cons (R_rsecX (okL (svP ep g t f)) ((okN (svP ep g t f):Int)==0)) (FnsR.cons (R_rwrite) (FnsR.cons (R_rflush) (FnsR.nil)))) EqsOk.nil) rfl Try.func38 (by kernel_rfl) (fun _ _=>LpsOk.nil _) (cs:=[false,false]) (by kernel_rfl) (rsaveG2_w0 s.L s.Q (rOf s.fd s.fu) s.off i ep g t f (okL (svP ep g t f)) ((okN (svP ep g t f):Int)==0) _ _ hc' (by rw [← hX];exact hw) ⟨⟨a0,a0'⟩,a1,a2,hf,rfl,rfl⟩ (by have:=inv.k;omega) (by rw [qQ];exact wi.wq (by omega)) (by rw [qQ,hlen];exact wi.at') (by rw [qO,qF];exact (flE_eq hn ..).symm) (by rw [qF];exact fl.2.2.1) (by rw [qO,qF];exact fl.2.2.2) (by rw [qQ,qO,qF];exact fl.1) (by rw [qQ,qO,qF];exact fl.2.1)) w e_ vs hM ha
  ·have e1:svE s i ep g t f=2:=by
    have hfb:((svW t f).err != 0)=true:=by simpa using hf
    have hK:svK (s.L.length:Int) i ep g t f=2:=by
     unfold svK
     rw [hwI,hfb]
     cases (decide (i<0)||decide (i≥IntKind.i64.wrap ((s.L.length:Int) - 1)))<;>rfl
    unfold svE;rw [hK];rfl
   have e2:svS s i ep g t f=s:=by
    have hfb:((svW t f).err != 0)=true:=by simpa using hf
    have hK:svK (s.L.length:Int) i ep g t f=2:=by
     unfold svK
     rw [hwI,hfb]
     cases (decide (i<0)||decide (i≥IntKind.i64.wrap ((s.L.length:Int) - 1)))<;>rfl
    unfold svS;rw [hK];rfl
   rw [e1,e2]
   exact ctr_way (I:=Id') (fun (W0:World) (G:Nat→Prop)=>SyOk.mk2 Try.mixed dkHo_ok (FnsR.cons (R_rsecB) (FnsR.cons (R_rwrite) (FnsR.cons (R_rflush) (FnsR.nil)))) EqsOk.nil) rfl Try.func38 (by kernel_rfl) (fun _ _=>LpsOk.nil _) (cs:=[true]) (by kernel_rfl) (rsaveB0_w0 s.L s.Q (rOf s.fd s.fu) s.off i ep g t f [] false _ _ (by simp) ⟨a1,a2,hf⟩ rfl rfl rfl rfl rfl) w e_ vs hM ha
 ·cases h
theorem R_rsaveX (s:DS) (e1:Int) (s1:DS):RowOk Try.prog Id' hardD 38 (ctrF Id' (C_rsaveX s e1 s1) hardD):=ctrF_ok Try.call38 (C_rsaveX_ok s e1 s1)
end Go.Proofs.Ytonomiljclemnaa
set_option linter.unusedVariables false
set_option linter.unusedSimpArgs false
namespace Go.Proofs.Ytonomiljclemnaa
open Go.RowKit
def roT (od:Int) (b:List UInt8):Bool:=((secNL b:Int) != 0||!(secP b).fi||!(secP b).la||Int.tmod ((secP b).ct:Int) 2 != od||(((secP b).d.length:Nat):Int) != 8)
def roB (od:Int) (b:List UInt8):Bool:=!roT od b
def roG (od:Int) (b:List UInt8):Int:=bif roT od b then 0 else ((secP b).ct:Int)
def roL (od:Int) (b:List UInt8):Int:=bif roT od b then 0 else (valBL ((secP b).d.take 5):Int)
def roF (od:Int) (b:List UInt8):Int:=bif roT od b then 0 else (valBL ((secP b).d.drop 5):Int)
set_option maxRecDepth 100000 in
theorem rone0_w0 (b:List UInt8) (od:Int) (h0:((secNL b:Int) != 0||!(secP b).fi||!(secP b).la||Int.tmod ((secP b).ct:Int) 2 != od||(((secP b).d.length:Nat):Int) != 8)=true) (h1:roG od b=0) (h2:roL od b=0) (h3:roF od b=0) (h4:roB od b=false):∃ qs,wayO Id' ([⟨.us (.byt b),false⟩]:Mem Td).length [⟨.us (.byt b),false⟩] (.tup [.agg [.v (.int .u64 (roG od b)),.v (.int .u64 (roL od b)),.v (.int .u64 (roF od b))],.one (.v (.bool (roB od b)))]) ((runFn (⟨Try.prog,[(69,ctrF Id' C_runseal hardD),F_rvalue],[],dkHo,Id'.one,60⟩:Sy Td) [] Try.f53 [.one (.obj 0),.one (.v (.int .u64 od))] [⟨.us (.byt b),false⟩]).al [true])=some qs∧∀ q∈qs,q:=
 ⟨[((↑(secNL b):Int) != (0:Int)||!(secP b).fi||!(secP b).la||(↑(secP b).ct:Int).tmod (2:Int) != od||(↑(secP b).d.length:Int) != (8:Int))=true,(Th.byt b:Td)=Th.byt b,Value.int IntKind.u64 (Int.ofNat 0)=Value.int IntKind.u64 (roG od b),Value.int IntKind.u64 (Int.ofNat 0)=Value.int IntKind.u64 (roL od b),Value.int IntKind.u64 (Int.ofNat 0)=Value.int IntKind.u64 (roF od b),Value.bool false=Value.bool (roB od b)],by kernel_rfl,(by refine mcons ?_ (mcons ?_ (mcons ?_ (mcons ?_ (mcons ?_ (mcons ?_ mnil)))))<;>first|rfl|exact h0|exact h1|exact h2|exact h3|exact h4|trivial|(exact congrArg _ h1.symm)|(exact congrArg _ h2.symm)|(exact congrArg _ h3.symm)|(exact congrArg _ h4.symm)|(rw [h1];rfl)|(rw [h2];rfl)|(rw [h3];rfl)|(rw [h4];rfl)|(rw [h1];done)|(rw [h2];done)|(rw [h3];done)|(rw [h4];done)|(rw [List.length_take];omega)|(rw [List.length_take,List.length_drop];omega)|(exact ⟨by decide,by omega,Int.le_refl _⟩)|(exact ⟨by decide,by decide,by omega⟩)|(rw [h3];refine congrArg (fun x:List UInt8=>Value.int IntKind.u64 (valBL x:Int)) ?_;show List.take _ (List.drop 5 _)=_;exact List.take_of_length_le (by rw [List.length_drop];omega))|(rw [h2];rfl))⟩
set_option maxRecDepth 100000 in
theorem rone1_w0 (b:List UInt8) (od:Int) (h0:((secNL b:Int) != 0||!(secP b).fi||!(secP b).la||Int.tmod ((secP b).ct:Int) 2 != od||(((secP b).d.length:Nat):Int) != 8)=false) (h1:roG od b=((secP b).ct:Int)) (h2:roL od b=(valBL ((secP b).d.take 5):Int)) (h3:roF od b=(valBL ((secP b).d.drop 5):Int)) (h4:roB od b=true) (h5:(secP b).d.length=8):∃ qs,wayO Id' ([⟨.us (.byt b),false⟩]:Mem Td).length [⟨.us (.byt b),false⟩] (.tup [.agg [.v (.int .u64 (roG od b)),.v (.int .u64 (roL od b)),.v (.int .u64 (roF od b))],.one (.v (.bool (roB od b)))]) ((runFn (⟨Try.prog,[(69,ctrF Id' C_runseal hardD),F_rvalue],[],dkHo,Id'.one,60⟩:Sy Td) [] Try.f53 [.one (.obj 0),.one (.v (.int .u64 od))] [⟨.us (.byt b),false⟩]).al [false])=some qs∧∀ q∈qs,q:=
 ⟨[((↑(secNL b):Int) != (0:Int)||!(secP b).fi||!(secP b).la||(↑(secP b).ct:Int).tmod (2:Int) != od||(↑(secP b).d.length:Int) != (8:Int))=false,(List.take ((↑(secP b).d.length:Int).toNat - Int.toNat (5:Int)) (List.drop (Int.toNat (5:Int)) (secP b).d)).length≤(8:Nat),(0:Int)≤(5:Int)∧(5:Int)≤(↑(secP b).d.length:Int)∧(↑(secP b).d.length:Int)≤(↑(secP b).d.length:Int),(List.take (Int.toNat (5:Int) - Int.toNat (0:Int)) (List.drop (Int.toNat (0:Int)) (secP b).d)).length≤(8:Nat),(0:Int)≤(0:Int)∧(0:Int)≤(5:Int)∧(5:Int)≤(↑(secP b).d.length:Int),(Th.byt b:Td)=Th.byt b,Value.int IntKind.u64 (↑(secP b).ct:Int)=Value.int IntKind.u64 (roG od b),Value.int IntKind.u64 (↑(valBL (List.take (Int.toNat (5:Int) - Int.toNat (0:Int)) (List.drop (Int.toNat (0:Int)) (secP b).d))):Int)=Value.int IntKind.u64 (roL od b),Value.int IntKind.u64 (↑(valBL (List.take ((↑(secP b).d.length:Int).toNat - Int.toNat (5:Int)) (List.drop (Int.toNat (5:Int)) (secP b).d))):Int)=Value.int IntKind.u64 (roF od b),Value.bool true=Value.bool (roB od b)],by kernel_rfl,(by refine mcons ?_ (mcons ?_ (mcons ?_ (mcons ?_ (mcons ?_ (mcons ?_ (mcons ?_ (mcons ?_ (mcons ?_ (mcons ?_ mnil)))))))))<;>first|rfl|exact h0|exact h1|exact h2|exact h3|exact h4|exact h5|trivial|(exact congrArg _ h1.symm)|(exact congrArg _ h2.symm)|(exact congrArg _ h3.symm)|(exact congrArg _ h4.symm)|(rw [h1];rfl)|(rw [h2];rfl)|(rw [h3];rfl)|(rw [h4];rfl)|(rw [h1];done)|(rw [h2];done)|(rw [h3];done)|(rw [h4];done)|(rw [List.length_take];omega)|(rw [List.length_take,List.length_drop];omega)|(exact ⟨by decide,by omega,Int.le_refl _⟩)|(exact ⟨by decide,by decide,by omega⟩)|(rw [h3];refine congrArg (fun x:List UInt8=>Value.int IntKind.u64 (valBL x:Int)) ?_;show List.take _ (List.drop 5 _)=_;exact List.take_of_length_le (by rw [List.length_drop];omega))|(rw [h2];rfl))⟩
def C_rone:Ctr Td:=fun us sub=>match us,sub with
 |[.one (.obj 0),.one (.v (.int .u64 od))],[⟨.us (.byt b),false⟩]=>some ([],.tup [.agg [.v (.int .u64 (roG od b)),.v (.int .u64 (roL od b)),.v (.int .u64 (roF od b))],.one (.v (.bool (roB od b)))],[⟨.us (.byt b),false⟩])
 |_,_=>none
set_option maxRecDepth 100000 in
theorem C_rone_ok:CtrOk Try.prog Id' 53 C_rone:=by
 intro us sub ps x sm h hp w e_ vs hM ha
 unfold C_rone at h
 split at h
 ·rename_i od b
  simp only [Option.some.injEq,Prod.mk.injEq] at h
  obtain ⟨rfl,rfl,rfl⟩:=h
  cases hc:roT od b with
  |true=>exact ctr_way (I:=Id') (fun (W0:World) (G:Nat→Prop)=>SyOk.mk2 Try.mixed dkHo_ok (FnsR.cons (R_runseal) (FnsR.cons (F_rvalue_ok) (FnsR.nil))) EqsOk.nil) rfl Try.func53 (by kernel_rfl) (fun _ _=>LpsOk.nil _) (cs:=[true]) (by kernel_rfl) (rone0_w0 b od hc (by unfold roG;rw [hc];rfl) (by unfold roL;rw [hc];rfl) (by unfold roF;rw [hc];rfl) (by unfold roB;rw [hc];rfl)) w e_ vs hM ha
  |false=>
   have hl:(secP b).d.length=8:=by
    unfold roT at hc
    rw [Bool.or_eq_false_iff] at hc
    have:=hc.2
    simp at this
    omega
   exact ctr_way (I:=Id') (fun (W0:World) (G:Nat→Prop)=>SyOk.mk2 Try.mixed dkHo_ok (FnsR.cons (R_runseal) (FnsR.cons (F_rvalue_ok) (FnsR.nil))) EqsOk.nil) rfl Try.func53 (by kernel_rfl) (fun _ _=>LpsOk.nil _) (cs:=[false]) (by kernel_rfl) (rone1_w0 b od hc (by unfold roG;rw [hc];rfl) (by unfold roL;rw [hc];rfl) (by unfold roF;rw [hc];rfl) (by unfold roB;rw [hc];rfl) hl) w e_ vs hM ha
 ·cases h
theorem R_rone:RowOk Try.prog Id' hardD 53 (ctrF Id' C_rone hardD):=ctrF_ok Try.call53 C_rone_ok
end Go.Proofs.Ytonomiljclemnaa
set_option linter.unusedVariables false
set_option linter.unusedSimpArgs false
namespace Go.Proofs.Ytonomiljclemnaa
open Go.RowKit
set_option maxRecDepth 100000 in
theorem rload0_w0 (L:List (List UInt8)) (Q:List (Int×List UInt8)) (ru:Int) (ro:Bool) (a:Int) (g t f:Int) (b:Bool) (e1:Int) (h0:(decide (a<0)||decide (a≥IntKind.i64.wrap ((L.length:Int) - 1)))=true) (h1:0=g) (h2:0=t) (h3:0=f) (h4:false=b) (h5:(2:Int)=e1):∃ qs,wayO Id' ([⟨.bx [.obj 1,.obj 2,.v (.int .i64 ru),.v (.bool ro)],true⟩,⟨.us (.ext (.tab (.bs L))),true⟩,⟨.us (.ext (.tab (.wq 89 Q))),true⟩]:Mem Td).length [⟨.bx [.obj 1,.obj 2,.v (.int .i64 ru),.v (.bool ro)],true⟩,⟨.us (.ext (.tab (.bs L))),true⟩,⟨.us (.ext (.tab (.wq 89 Q))),true⟩] (.tup [.agg [.v (.int .u64 g),.v (.int .u64 t),.v (.int .u64 f)],.one (.v (.bool b)),.one (.v (.int .i64 e1))]) ((runFn (⟨Try.prog,[(44,ctrF Id' C_ris hardD),(53,ctrF Id' C_rone hardD)],[],dkHo,Id'.one,60⟩:Sy Td) [] Try.f39 [.one (.ptr 0 0),.one (.v (.int .i64 a))] [⟨.bx [.obj 1,.obj 2,.v (.int .i64 ru),.v (.bool ro)],true⟩,⟨.us (.ext (.tab (.bs L))),true⟩,⟨.us (.ext (.tab (.wq 89 Q))),true⟩]).al [true])=some qs∧∀ q∈qs,q:=
 ⟨[(decide (a<(0:Int))||decide (a≥IntKind.i64.wrap ((↑(TB.bs L).n:Int) - (1:Int))))=true,Value.int IntKind.i64 ru=Value.int IntKind.i64 ru,Value.bool ro=Value.bool ro,Th.ext (Dk.tab (TB.bs L))=Th.ext (Dk.tab (TB.bs L)),Th.ext (Dk.tab (TB.wq 89 Q))=Th.ext (Dk.tab (TB.wq 89 Q)),Value.int IntKind.u64 (Int.ofNat 0)=Value.int IntKind.u64 g,Value.int IntKind.u64 (Int.ofNat 0)=Value.int IntKind.u64 t,Value.int IntKind.u64 (Int.ofNat 0)=Value.int IntKind.u64 f,Value.bool false=Value.bool b,Value.int IntKind.i64 (Int.ofNat 2)=Value.int IntKind.i64 e1],by kernel_rfl,(by refine mcons ?_ (mcons ?_ (mcons ?_ (mcons ?_ (mcons ?_ (mcons ?_ (mcons ?_ (mcons ?_ (mcons ?_ (mcons ?_ mnil)))))))))<;>first|rfl|exact h0|exact h1|exact h2|exact h3|exact h4|exact h5|trivial|(exact congrArg _ h1)|(exact congrArg _ h2)|(exact congrArg _ h3)|(exact congrArg _ h4)|(exact congrArg _ h5))⟩
set_option maxRecDepth 100000 in
theorem rload1_w0 (L:List (List UInt8)) (Q:List (Int×List UInt8)) (ru:Int) (ro:Bool) (a:Int) (g t f:Int) (b:Bool) (e1:Int) (h0:(decide (a<0)||decide (a≥IntKind.i64.wrap ((L.length:Int) - 1)))=false) (h1:(roB 1 (isD L Q (IntKind.i64.wrap (a+1)))&&(!roB 0 (isD L Q a)||decide (roG 1 (isD L Q (IntKind.i64.wrap (a+1)))>roG 0 (isD L Q a))))=true) (h2:0≤a∧a.toNat<L.length) (h3:0≤IntKind.i64.wrap (a+1)∧(IntKind.i64.wrap (a+1)).toNat<L.length) (h4:Q.length≤100000) (h5:roG 1 (isD L Q (IntKind.i64.wrap (a+1)))=g) (h6:roL 1 (isD L Q (IntKind.i64.wrap (a+1)))=t) (h7:roF 1 (isD L Q (IntKind.i64.wrap (a+1)))=f) (h8:true=b) (h9:(0:Int)=e1):∃ qs,wayO Id' ([⟨.bx [.obj 1,.obj 2,.v (.int .i64 ru),.v (.bool ro)],true⟩,⟨.us (.ext (.tab (.bs L))),true⟩,⟨.us (.ext (.tab (.wq 89 Q))),true⟩]:Mem Td).length [⟨.bx [.obj 1,.obj 2,.v (.int .i64 ru),.v (.bool ro)],true⟩,⟨.us (.ext (.tab (.bs L))),true⟩,⟨.us (.ext (.tab (.wq 89 Q))),true⟩] (.tup [.agg [.v (.int .u64 g),.v (.int .u64 t),.v (.int .u64 f)],.one (.v (.bool b)),.one (.v (.int .i64 e1))]) ((runFn (⟨Try.prog,[(44,ctrF Id' C_ris hardD),(53,ctrF Id' C_rone hardD)],[],dkHo,Id'.one,60⟩:Sy Td) [] Try.f39 [.one (.ptr 0 0),.one (.v (.int .i64 a))] [⟨.bx [.obj 1,.obj 2,.v (.int .i64 ru),.v (.bool ro)],true⟩,⟨.us (.ext (.tab (.bs L))),true⟩,⟨.us (.ext (.tab (.wq 89 Q))),true⟩]).al [false,true])=some qs∧∀ q∈qs,q:=
 ⟨[(decide (a<(0:Int))||decide (a≥IntKind.i64.wrap ((↑(TB.bs L).n:Int) - (1:Int))))=false,(0:Int)≤a∧a.toNat<L.length,Q.length≤(100000:Nat),(0:Int)≤IntKind.i64.wrap (a+(1:Int))∧(IntKind.i64.wrap (a+(1:Int))).toNat<L.length,Q.length≤(100000:Nat),(roB (1:Int) (isD L Q (IntKind.i64.wrap (a+(1:Int))))&&(!roB (0:Int) (isD L Q a)||decide (roG (1:Int) (isD L Q (IntKind.i64.wrap (a+(1:Int))))>roG (0:Int) (isD L Q a))))=true,Value.int IntKind.i64 ru=Value.int IntKind.i64 ru,Value.bool ro=Value.bool ro,Th.ext (Dk.tab (TB.bs L))=Th.ext (Dk.tab (TB.bs L)),Th.ext (Dk.tab (TB.wq 89 Q))=Th.ext (Dk.tab (TB.wq 89 Q)),Value.int IntKind.u64 (roG (1:Int) (isD L Q (IntKind.i64.wrap (a+(1:Int)))))=Value.int IntKind.u64 g,Value.int IntKind.u64 (roL (1:Int) (isD L Q (IntKind.i64.wrap (a+(1:Int)))))=Value.int IntKind.u64 t,Value.int IntKind.u64 (roF (1:Int) (isD L Q (IntKind.i64.wrap (a+(1:Int)))))=Value.int IntKind.u64 f,Value.bool true=Value.bool b,Value.int IntKind.i64 (Int.ofNat 0)=Value.int IntKind.i64 e1],by kernel_rfl,(by refine mcons ?_ (mcons ?_ (mcons ?_ (mcons ?_ (mcons ?_ (mcons ?_ (mcons ?_ (mcons ?_ (mcons ?_ (mcons ?_ (mcons ?_ (mcons ?_ (mcons ?_ (mcons ?_ (mcons ?_ mnil))))))))))))))<;>first|rfl|exact h0|exact h1|exact h2|exact h3|exact h4|exact h5|exact h6|exact h7|exact h8|exact h9|trivial|(exact congrArg _ h5)|(exact congrArg _ h6)|(exact congrArg _ h7)|(exact congrArg _ h8)|(exact congrArg _ h9))⟩
set_option maxRecDepth 100000 in
theorem rload2_w0 (L:List (List UInt8)) (Q:List (Int×List UInt8)) (ru:Int) (ro:Bool) (a:Int) (g t f:Int) (b:Bool) (e1:Int) (h0:(decide (a<0)||decide (a≥IntKind.i64.wrap ((L.length:Int) - 1)))=false) (h1:(roB 1 (isD L Q (IntKind.i64.wrap (a+1)))&&(!roB 0 (isD L Q a)||decide (roG 1 (isD L Q (IntKind.i64.wrap (a+1)))>roG 0 (isD L Q a))))=false) (h2:0≤a∧a.toNat<L.length) (h3:0≤IntKind.i64.wrap (a+1)∧(IntKind.i64.wrap (a+1)).toNat<L.length) (h4:Q.length≤100000) (h5:roG 0 (isD L Q a)=g) (h6:roL 0 (isD L Q a)=t) (h7:roF 0 (isD L Q a)=f) (h8:roB 0 (isD L Q a)=b) (h9:(0:Int)=e1):∃ qs,wayO Id' ([⟨.bx [.obj 1,.obj 2,.v (.int .i64 ru),.v (.bool ro)],true⟩,⟨.us (.ext (.tab (.bs L))),true⟩,⟨.us (.ext (.tab (.wq 89 Q))),true⟩]:Mem Td).length [⟨.bx [.obj 1,.obj 2,.v (.int .i64 ru),.v (.bool ro)],true⟩,⟨.us (.ext (.tab (.bs L))),true⟩,⟨.us (.ext (.tab (.wq 89 Q))),true⟩] (.tup [.agg [.v (.int .u64 g),.v (.int .u64 t),.v (.int .u64 f)],.one (.v (.bool b)),.one (.v (.int .i64 e1))]) ((runFn (⟨Try.prog,[(44,ctrF Id' C_ris hardD),(53,ctrF Id' C_rone hardD)],[],dkHo,Id'.one,60⟩:Sy Td) [] Try.f39 [.one (.ptr 0 0),.one (.v (.int .i64 a))] [⟨.bx [.obj 1,.obj 2,.v (.int .i64 ru),.v (.bool ro)],true⟩,⟨.us (.ext (.tab (.bs L))),true⟩,⟨.us (.ext (.tab (.wq 89 Q))),true⟩]).al [false,false])=some qs∧∀ q∈qs,q:=
 ⟨[(decide (a<(0:Int))||decide (a≥IntKind.i64.wrap ((↑(TB.bs L).n:Int) - (1:Int))))=false,(0:Int)≤a∧a.toNat<L.length,Q.length≤(100000:Nat),(0:Int)≤IntKind.i64.wrap (a+(1:Int))∧(IntKind.i64.wrap (a+(1:Int))).toNat<L.length,Q.length≤(100000:Nat),(roB (1:Int) (isD L Q (IntKind.i64.wrap (a+(1:Int))))&&(!roB (0:Int) (isD L Q a)||decide (roG (1:Int) (isD L Q (IntKind.i64.wrap (a+(1:Int))))>roG (0:Int) (isD L Q a))))=false,Value.int IntKind.i64 ru=Value.int IntKind.i64 ru,Value.bool ro=Value.bool ro,Th.ext (Dk.tab (TB.bs L))=Th.ext (Dk.tab (TB.bs L)),Th.ext (Dk.tab (TB.wq 89 Q))=Th.ext (Dk.tab (TB.wq 89 Q)),Value.int IntKind.u64 (roG (0:Int) (isD L Q a))=Value.int IntKind.u64 g,Value.int IntKind.u64 (roL (0:Int) (isD L Q a))=Value.int IntKind.u64 t,Value.int IntKind.u64 (roF (0:Int) (isD L Q a))=Value.int IntKind.u64 f,Value.bool (roB (0:Int) (isD L Q a))=Value.bool b,Value.int IntKind.i64 (Int.ofNat 0)=Value.int IntKind.i64 e1],by kernel_rfl,(by refine mcons ?_ (mcons ?_ (mcons ?_ (mcons ?_ (mcons ?_ (mcons ?_ (mcons ?_ (mcons ?_ (mcons ?_ (mcons ?_ (mcons ?_ (mcons ?_ (mcons ?_ (mcons ?_ (mcons ?_ mnil))))))))))))))<;>first|rfl|exact h0|exact h1|exact h2|exact h3|exact h4|exact h5|exact h6|exact h7|exact h8|exact h9|trivial|(exact congrArg _ h5)|(exact congrArg _ h6)|(exact congrArg _ h7)|(exact congrArg _ h8)|(exact congrArg _ h9))⟩
theorem val_bitsAll:∀ l:List UInt8,val (bitsAll l)=valBL l
 |[]=>rfl
 |c::l=>by
  have h:bitsAll (c::l)=bitsOf c.toNat 8++bitsAll l:=rfl
  rw [h,val_append,val_bitsAll l,val_bitsOf,bitsAll_length,valBL_cons,Nat.mod_eq_of_lt (by have:=c.toNat_lt;omega),Nat.pow_mul]
theorem take_len {A B:List Bool} {n:Nat} (h:A.length=n):(A++B).take n=A:=by subst h;exact List.take_left ..
theorem drop_len {A B:List Bool} {n:Nat} (h:A.length=n):(A++B).drop n=B:=by subst h;exact List.drop_left ..
theorem secP_ct (b:List UInt8):(secP b).ct<1099511627776:=by
 unfold secP
 split
 ·exact Nat.mod_lt _ (by decide)
 ·decide
theorem hpI_at {a ct:Int} (ha:0≤a∧a≤100000) (h:0≤ct∧ct<18446744073709551616):hpI a ct=a+ct % 2:=by
 rw [← tmod_place h,Int.tmod_eq_emod_of_nonneg h.1,IntWalk.i64_in (ct % 2) (by omega),IntWalk.i64_in _ (by omega)]
theorem ro_eq {b:List UInt8} {a od:Int} (ha:0≤a∧a≤100000) (ho:od=0∨od=1):roB od b=hrB a (a+od) b∧roG od b=hrG a (a+od) b∧roL od b=hrL a (a+od) b∧roF od b=hrF a (a+od) b:=by
 have hct:=secP_ct b
 have hT:roT od b=(hrT a (a+od) b||((((secP b).d.length:Nat):Int) != 8)):=by
  unfold roT hrT
  have:(Int.tmod ((secP b).ct:Int) 2 != od)=(hpI a ((secP b).ct:Int) != a+od):=by
   rw [hpI_at ha (by omega),Int.tmod_eq_emod_of_nonneg (by omega)]
   rw [Bool.eq_iff_iff]
   simp only [bne_iff_ne,ne_eq]
   omega
  rw [this]
 obtain ⟨d,hd⟩:∃ d,d=(secP b).d:=⟨_,rfl⟩
 have hW:hrW b=((((secP b).d.length:Nat):Int) != 8):=by
  unfold hrW hrR
  rw [← hd]
  by_cases h5:5≤d.length
  ·have c1:=RS.get_ok (s:=RS.new d) (n:=40) rfl (by decide) (by show 0+40≤8 * d.length;omega)
   have e1:(RS.new d).get 40=⟨d,40,0⟩:=c1.1
   rw [e1]
   by_cases h8:8≤d.length
   ·have c2:=RS.get_ok (s:=⟨d,40,0⟩) (n:=24) rfl (by decide) (by show 40+24≤8 * d.length;omega)
    have e2:(⟨d,40,0⟩:RS).get 24=⟨d,64,0⟩:=c2.1
    rw [e2]
    by_cases he:d.length=8
    ·unfold endI endB
     simp only [he]
     rfl
    ·have hb:endB d 64=false:=by unfold endB;rw [decide_eq_false (by omega)]
     have:(((d.length:Nat):Int) != 8)=true:=by simp;omega
     rw [this]
     show ((if (0:Int)≠0 then (0:Int) else if endB d 64=true then 0 else 6) != 0)=true
     rw [hb];rfl
   ·have e2:((⟨d,40,0⟩:RS).get 24).err=3:=by
     show getE d 40 0 24=3
     unfold getE
     rw [if_neg (by decide),if_neg (by decide),if_pos (by omega)]
    have:(((d.length:Nat):Int) != 8)=true:=by simp;omega
    rw [this]
    unfold endI
    rw [e2];rfl
  ·have e1:((RS.new d).get 40).err=3:=by
    show getE d 0 0 40=3
    unfold getE
    rw [if_neg (by decide),if_neg (by decide),if_pos (by omega)]
   have e2:(((RS.new d).get 40).get 24).err=3:=by
    show getE _ _ ((RS.new d).get 40).err 24=3
    rw [e1]
    unfold getE
    rw [if_pos (by decide)]
   have:(((d.length:Nat):Int) != 8)=true:=by simp;omega
   rw [this]
   unfold endI
   rw [e2];rfl
 rw [← hW] at hT
 have hB:hrB a (a+od) b=!roT od b:=by
  rw [hT];unfold hrB
  cases hrT a (a+od) b<;>cases hrW b<;>rfl
 unfold roB roG roL roF hrG hrL hrF
 rw [hB]
 cases hc:roT od b with
 |true=>exact ⟨rfl,rfl,rfl,rfl⟩
 |false=>
  rw [hc] at hT
  have hw:hrW b=false:=by
   cases h:hrW b with
   |false=>rfl
   |true=>rw [h] at hT;simp at hT
  rw [hW] at hw
  have hl:d.length=8:=by rw [← hd] at hw;simp at hw;omega
  have hsp:bitsAll d=bitsAll (d.take 5)++bitsAll (d.drop 5):=by rw [← bitsAll_append,List.take_append_drop]
  have hl5:(bitsAll (d.take 5)).length=40:=by rw [bitsAll_length,List.length_take,hl];rfl
  have hl3:(bitsAll (d.drop 5)).length=24:=by rw [bitsAll_length,List.length_drop,hl]
  have c1:=RS.get_ok (s:=RS.new d) (n:=40) rfl (by decide) (by show 0+40≤8 * d.length;omega)
  have e1:(RS.new d).get 40=⟨d,40,0⟩:=c1.1
  have c2:=RS.get_ok (s:=⟨d,40,0⟩) (n:=24) rfl (by decide) (by show 40+24≤8 * d.length;omega)
  refine ⟨rfl,rfl,?_,?_⟩
  ·rw [← hd]
   show ((valBL (d.take 5):Nat):Int)=(((RS.new d).num 40:Nat):Int)
   have:(RS.new d).num 40=val (((bitsAll d).drop 0).take 40):=c1.2
   rw [this,hsp,List.drop_zero,take_len hl5,val_bitsAll]
  ·rw [← hd,e1]
   show ((valBL (d.drop 5):Nat):Int)=(((⟨d,40,0⟩:RS).num 24:Nat):Int)
   have:(⟨d,40,0⟩:RS).num 24=val (((bitsAll d).drop 40).take 24):=c2.2
   rw [this,hsp,drop_len hl5,List.take_of_length_le (Nat.le_of_eq hl3),val_bitsAll]
structure RLoadIs (L:List (List UInt8)) (Q:List (Int×List UInt8)) (a g t f:Int) (b:Bool) (e:Int):Prop where
 l:LoadIs L Q a g t f b e
 n:0<L.length
def C_rloadX (g t f:Int) (b:Bool) (e1:Int):Ctr Td:=fun us sub=>match us,sub with
 |[.one (.ptr 0 0),.one (.v (.int .i64 a))],[⟨.bx [.obj 1,.obj 2,.v (.int .i64 ru),.v (.bool ro)],true⟩,⟨.us (.ext (.tab (.bs L))),true⟩,⟨.us (.ext (.tab (.wq 89 Q))),true⟩]=>some ([RLoadIs L Q a g t f b e1],.tup [.agg [.v (.int .u64 g),.v (.int .u64 t),.v (.int .u64 f)],.one (.v (.bool b)),.one (.v (.int .i64 e1))],[⟨.bx [.obj 1,.obj 2,.v (.int .i64 ru),.v (.bool ro)],true⟩,⟨.us (.ext (.tab (.bs L))),true⟩,⟨.us (.ext (.tab (.wq 89 Q))),true⟩])
 |_,_=>none
set_option maxHeartbeats 1000000 in
set_option maxRecDepth 100000 in
theorem C_rloadX_ok (g t f:Int) (b:Bool) (e1:Int):CtrOk Try.prog Id' 39 (C_rloadX g t f b e1):=by
 intro us sub ps x sm h hp w e_ vs hM ha
 unfold C_rloadX at h
 split at h
 ·rename_i a ru ro L Q
  simp only [Option.some.injEq,Prod.mk.injEq] at h
  obtain ⟨rfl,rfl,rfl⟩:=h
  obtain ⟨⟨_,hq,hn,rfl,rfl,rfl,rfl,rfl⟩,hn0⟩:=hp _ (List.mem_cons_self ..)
  have hwe:hwI (L.length:Int) a=bif (decide (a<0)||decide (a≥IntKind.i64.wrap ((L.length:Int) - 1))) then 2 else 0:=by
   unfold hwI
   rw [show ((L.length:Int)==0)=false from beq_eq_false_iff_ne.2 (by omega)];rfl
  cases hc:(decide (a<0)||decide (a≥IntKind.i64.wrap ((L.length:Int) - 1))) with
  |true=>
   have h0:(hwI (L.length:Int) a != 0)=true:=by rw [hwe,hc];rfl
   have k1:∀ F,ldV F L Q a=0:=fun F=>by unfold ldV;rw [h0];rfl
   have k2:ldB L Q a=false:=by unfold ldB;rw [h0];rfl
   rw [k1,k1,k1,k2,hwe,hc]
   exact ctr_way (I:=Id') (fun (W0:World) (G:Nat→Prop)=>SyOk.mk2 Try.mixed dkHo_ok (FnsR.cons (R_ris) (FnsR.cons (R_rone) (FnsR.nil))) EqsOk.nil) rfl Try.func39 (by kernel_rfl) (fun _ _=>LpsOk.nil _) (cs:=[true]) (by kernel_rfl) (rload0_w0 L Q ru ro a _ _ _ _ _ hc rfl rfl rfl rfl rfl) w e_ vs hM ha
  |false=>
   have h0:(hwI (L.length:Int) a != 0)=false:=by rw [hwe,hc];rfl
   obtain ⟨a0,a1,_⟩:=hwI_ok hn h0
   have w0:IntKind.i64.wrap (a+0)=a:=by rw [IntWalk.i64_in _ (by omega)];omega
   have w1:IntKind.i64.wrap (a+1)=a+1:=by rw [IntWalk.i64_in _ (by omega)]
   have r0:=ro_eq (b:=isD L Q a) (a:=a) (od:=0) ⟨a0,by omega⟩ (.inl rfl)
   have r1:=ro_eq (b:=isD L Q (IntKind.i64.wrap (a+1))) (a:=a) (od:=1) ⟨a0,by omega⟩ (.inr rfl)
   rw [Int.add_zero] at r0
   have eP:ldP L Q a=roB 0 (isD L Q a):=by unfold ldP;rw [w0];exact r0.1.symm
   have eQ:ldQ L Q a=roB 1 (isD L Q (IntKind.i64.wrap (a+1))):=by unfold ldQ;rw [r1.1,w1]
   have eT:ldT L Q a=(roB 1 (isD L Q (IntKind.i64.wrap (a+1)))&&(!roB 0 (isD L Q a)||decide (roG 1 (isD L Q (IntKind.i64.wrap (a+1)))>roG 0 (isD L Q a)))):=by
    unfold ldT
    rw [eP,eQ,r1.2.1,r0.2.1]
    unfold ldZ ldA
    rw [w0,w1]
    cases roB 0 (isD L Q a)<;>simp
   have hin0:0≤a∧a.toNat<L.length:=by omega
   have hin1:0≤IntKind.i64.wrap (a+1)∧(IntKind.i64.wrap (a+1)).toNat<L.length:=by rw [w1];omega
   cases ht:(roB 1 (isD L Q (IntKind.i64.wrap (a+1)))&&(!roB 0 (isD L Q a)||decide (roG 1 (isD L Q (IntKind.i64.wrap (a+1)))>roG 0 (isD L Q a)))) with
   |true=>
    rw [ht] at eT
    have k1:∀ F,ldV F L Q a=F a (IntKind.i64.wrap (a+1)) (isD L Q (IntKind.i64.wrap (a+1))):=fun F=>by unfold ldV;rw [h0,eT];rfl
    have k2:ldB L Q a=true:=by unfold ldB;rw [h0,eT];rfl
    rw [k1,k1,k1,k2,hwe,hc]
    exact ctr_way (I:=Id') (fun (W0:World) (G:Nat→Prop)=>SyOk.mk2 Try.mixed dkHo_ok (FnsR.cons (R_ris) (FnsR.cons (R_rone) (FnsR.nil))) EqsOk.nil) rfl Try.func39 (by kernel_rfl) (fun _ _=>LpsOk.nil _) (cs:=[false,true]) (by kernel_rfl) (rload1_w0 L Q ru ro a _ _ _ _ _ hc ht hin0 hin1 hq.2 (r1.2.1.trans (by rw [w1])) (r1.2.2.1.trans (by rw [w1])) (r1.2.2.2.trans (by rw [w1])) rfl rfl) w e_ vs hM ha
   |false=>
    rw [ht] at eT
    cases hp0:roB 0 (isD L Q a) with
    |true=>
     have k1:∀ F,ldV F L Q a=F a (IntKind.i64.wrap (a+0)) (isD L Q (IntKind.i64.wrap (a+0))):=fun F=>by unfold ldV;rw [h0,eT,eP,hp0];rfl
     have k2:ldB L Q a=true:=by unfold ldB;rw [h0,eT,eP,hp0];rfl
     rw [k1,k1,k1,k2,hwe,hc,w0]
     exact ctr_way (I:=Id') (fun (W0:World) (G:Nat→Prop)=>SyOk.mk2 Try.mixed dkHo_ok (FnsR.cons (R_ris) (FnsR.cons (R_rone) (FnsR.nil))) EqsOk.nil) rfl Try.func39 (by kernel_rfl) (fun _ _=>LpsOk.nil _) (cs:=[false,false]) (by kernel_rfl) (rload2_w0 L Q ru ro a _ _ _ _ _ hc ht hin0 hin1 hq.2 r0.2.1 r0.2.2.1 r0.2.2.2 hp0 rfl) w e_ vs hM ha
    |false=>
     have k1:∀ F,ldV F L Q a=0:=fun F=>by unfold ldV;rw [h0,eT,eP,hp0];rfl
     have k2:ldB L Q a=false:=by unfold ldB;rw [h0,eT,eP,hp0];rfl
     rw [k1,k1,k1,k2,hwe,hc]
     have hrt:roT 0 (isD L Q a)=true:=by unfold roB at hp0;simpa using hp0
     exact ctr_way (I:=Id') (fun (W0:World) (G:Nat→Prop)=>SyOk.mk2 Try.mixed dkHo_ok (FnsR.cons (R_ris) (FnsR.cons (R_rone) (FnsR.nil))) EqsOk.nil) rfl Try.func39 (by kernel_rfl) (fun _ _=>LpsOk.nil _) (cs:=[false,false]) (by kernel_rfl) (rload2_w0 L Q ru ro a _ _ _ _ _ hc ht hin0 hin1 hq.2 (by unfold roG;rw [hrt];rfl) (by unfold roL;rw [hrt];rfl) (by unfold roF;rw [hrt];rfl) hp0 rfl) w e_ vs hM ha
 ·cases h
theorem R_rloadX (g t f:Int) (b:Bool) (e1:Int):RowOk Try.prog Id' hardD 39 (ctrF Id' (C_rloadX g t f b e1) hardD):=ctrF_ok Try.call39 (C_rloadX_ok g t f b e1)
end Go.Proofs.Ytonomiljclemnaa
set_option linter.unusedVariables false
set_option linter.unusedSimpArgs false
namespace Go.Proofs.Ytonomiljclemnaa
open Go.RowKit
structure WriteIs (s:DS) (i:Int) (b:List UInt8) (s1:DS):Prop where
 q:s.Q.length+1≤100000
 ss:wrS s.L.length i b s=s1
structure RefOf (L:List (List UInt8)) (Q:List (Int×List UInt8)) (ru:Int) (ro:Bool) (s:DS):Prop where
 eL:L=s.L
 eQ:Q=s.Q
 eru:ru=rOf s.fd s.fu
 ero:ro=s.off
 inv:∃ n k,DInv n k s∧0<n∧n≤4096∧k+2≤100000
structure RWriteIs (L:List (List UInt8)) (Q:List (Int×List UInt8)) (ru:Int) (ro:Bool) (s:DS) (i:Int) (b:List UInt8) (s1:DS):Prop where
 r:RefOf L Q ru ro s
 ss:wrS s.L.length i b s=s1
structure RArmIs (L:List (List UInt8)) (Q:List (Int×List UInt8)) (ru:Int) (ro:Bool) (s:DS) (i:Int) (s1:DS):Prop where
 r:RefOf L Q ru ro s
 ss:fuS s.L.length i s=s1
structure RCrashIs (L:List (List UInt8)) (Q:List (Int×List UInt8)) (ru:Int) (ro:Bool) (s:DS) (ks:List Int) (tn:Int) (s1:DS):Prop where
 r:RefOf L Q ru ro s
 ss:crS ks tn s=s1
def C_writeX (s1:DS):Ctr Td:=fun us sub=>match us,sub with
 |[.one (.ptr 0 0),.one (.v (.int .i64 i)),.one (.obj 1)],[⟨.bx [.obj 2,.obj 3,.v (.int .i64 fu),.v (.bool fd),.v (.bool off)],true⟩,⟨.us (.own b),true⟩,⟨.us (.ext (.flat (.secs L))),true⟩,⟨.us (.ext (.flat (.pens Q))),true⟩]=>some ([WriteIs (⟨L,Q,fu,fd,off⟩:DS) i b s1],svV (.int .i64 (wrE (L.length:Int) i (b.length:Int) off fd fu)),[⟨.bx [.obj 2,.obj 4,.v (.int .i64 s1.fu),.v (.bool s1.fd),.v (.bool s1.off)],true⟩,⟨.us (.own b),true⟩,⟨.us (.ext (.flat (.secs s1.L))),true⟩,⟨.dead,true⟩,⟨.us (.ext (.flat (.pens s1.Q))),true⟩])
 |_,_=>none
set_option maxRecDepth 100000 in
theorem C_writeX_ok (s1:DS):CtrOk Try.prog Id' 15 (C_writeX s1):=by
 intro us sub ps x sm h hp w e_ vs hM ha
 unfold C_writeX at h
 split at h
 ·rename_i i fu fd off b L Q
  simp only [Option.some.injEq,Prod.mk.injEq] at h
  obtain ⟨rfl,rfl,rfl⟩:=h
  obtain ⟨q0,rfl⟩:=hp _ (List.mem_cons_self ..)
  exact C_write_ok _ _ _ _ _ rfl (fun q hq=>by simp only [List.mem_cons,List.not_mem_nil,or_false] at hq;subst hq;exact q0) w e_ vs hM ha
 ·cases h
theorem R_writeX (s1:DS):RowOk Try.prog Id' hardD 15 (ctrF Id' (C_writeX s1) hardD):=ctrF_ok Try.call15 (C_writeX_ok s1)
def C_rwriteX (s s1:DS):Ctr Td:=fun us sub=>match us,sub with
 |[.one (.ptr 0 0),.one (.v (.int .i64 i)),.one (.obj 1)],[⟨.bx [.obj 2,.obj 3,.v (.int .i64 ru),.v (.bool ro)],true⟩,⟨.us (.own b),true⟩,⟨.us (.ext (.tab (.bs L))),true⟩,⟨.us (.ext (.tab (.wq 89 Q))),true⟩]=>some ([RWriteIs L Q ru ro s i b s1],svV (.int .i64 (rwE i (L.length:Int) (b.length:Int) ro ru)),[⟨.bx [.obj 2,.obj 4,.v (.int .i64 (rOf s1.fd s1.fu)),.v (.bool s1.off)],true⟩,⟨.us (.own b),true⟩,⟨.us (.ext (.tab (.bs s1.L))),true⟩,⟨.dead,true⟩,⟨.us (.ext (.tab (.wq 89 s1.Q))),true⟩])
 |_,_=>none
set_option maxRecDepth 100000 in
theorem C_rwriteX_ok (s s1:DS):CtrOk Try.prog Id' 27 (C_rwriteX s s1):=by
 intro us sub ps x sm h hp w e_ vs hM ha
 unfold C_rwriteX at h
 split at h
 ·rename_i i ru ro b L Q
  simp only [Option.some.injEq,Prod.mk.injEq] at h
  obtain ⟨rfl,rfl,rfl⟩:=h
  obtain ⟨⟨rfl,rfl,rfl,rfl,n,k,inv,hn,hn2,hk⟩,rfl⟩:=hp _ (List.mem_cons_self ..)
  have hlen:=inv.len
  have qQ:(wrS s.L.length i b s).Q=rwQ s.Q i (s.L.length:Int) b s.off (rOf s.fd s.fu):=by rw [hlen];exact (rwQ_eq hn ..).symm
  have qF:rOf (wrS s.L.length i b s).fd (wrS s.L.length i b s).fu=rwFu i (s.L.length:Int) (b.length:Int) (rOf s.fd s.fu):=by rw [hlen];exact (rwFu_eq inv hn ..).symm
  have qO:(wrS s.L.length i b s).off=rwOff i (s.L.length:Int) (b.length:Int) s.off (rOf s.fd s.fu):=by rw [hlen];exact (rwOff_eq hn ..).symm
  have qL:(wrS s.L.length i b s).L=s.L:=rfl
  rw [qQ,qF,qO,qL]
  exact C_rwrite_ok _ _ _ _ _ rfl (fun q hq=>by simp only [List.mem_cons,List.not_mem_nil,or_false] at hq;subst hq;have:=inv.k;omega) w e_ vs hM ha
 ·cases h
theorem R_rwriteX (s s1:DS):RowOk Try.prog Id' hardD 27 (ctrF Id' (C_rwriteX s s1) hardD):=ctrF_ok Try.call27 (C_rwriteX_ok s s1)
def C_rarmX (s s1:DS):Ctr Td:=fun us sub=>match us,sub with
 |[.one (.ptr 0 0),.one (.v (.int .i64 i))],[⟨.bx [.obj 1,.obj 2,.v (.int .i64 ru),.v (.bool ro)],true⟩,⟨.us (.ext (.tab (.bs L))),true⟩,⟨.us (.ext (.tab (.wq 89 Q))),true⟩]=>some ([RArmIs L Q ru ro s i s1],svV (.int .i64 (armE i ro)),[⟨.bx [.obj 1,.obj 2,.v (.int .i64 (rOf s1.fd s1.fu)),.v (.bool s1.off)],true⟩,⟨.us (.ext (.tab (.bs s1.L))),true⟩,⟨.us (.ext (.tab (.wq 89 s1.Q))),true⟩])
 |_,_=>none
set_option maxRecDepth 100000 in
theorem C_rarmX_ok (s s1:DS):CtrOk Try.prog Id' 31 (C_rarmX s s1):=by
 intro us sub ps x sm h hp w e_ vs hM ha
 unfold C_rarmX at h
 split at h
 ·rename_i i ru ro L Q
  simp only [Option.some.injEq,Prod.mk.injEq] at h
  obtain ⟨rfl,rfl,rfl⟩:=h
  obtain ⟨⟨rfl,rfl,rfl,rfl,n,k,inv,hn,hn2,hk⟩,rfl⟩:=hp _ (List.mem_cons_self ..)
  have hlen:=inv.len
  have qF:rOf (fuS s.L.length i s).fd (fuS s.L.length i s).fu=armFu i s.off (rOf s.fd s.fu):=by rw [hlen];exact (fu_eq hn i).2.symm
  have qO:(fuS s.L.length i s).off=s.off:=rfl
  have qL:(fuS s.L.length i s).L=s.L:=rfl
  have qQ:(fuS s.L.length i s).Q=s.Q:=rfl
  rw [qQ,qF,qO,qL]
  exact C_rarm_ok _ _ _ _ _ rfl (fun q hq=>by cases hq) w e_ vs hM ha
 ·cases h
theorem R_rarmX (s s1:DS):RowOk Try.prog Id' hardD 31 (ctrF Id' (C_rarmX s s1) hardD):=ctrF_ok Try.call31 (C_rarmX_ok s s1)
def C_rcrashX (s s1:DS):Ctr Td:=fun us sub=>match us,sub with
 |[.one (.ptr 0 0),.one (.obj 1),.one (.v (.int .i64 tn))],[⟨.bx [.obj 2,.obj 3,.v (.int .i64 ru),.v (.bool ro)],true⟩,⟨.us (.ext (.nums ks)),false⟩,⟨.us (.ext (.tab (.bs L))),true⟩,⟨.us (.ext (.tab (.wq 89 Q))),true⟩]=>some ([RCrashIs L Q ru ro s ks tn s1],.tup [],[⟨.bx [.obj 2,.obj 4,.v (.int .i64 (rOf s1.fd s1.fu)),.v (.bool s1.off)],true⟩,⟨.us (.ext (.nums ks)),false⟩,⟨.us (.ext (.tab (.bs s1.L))),true⟩,⟨.dead,true⟩,⟨.us (.ext (.tab (.wq 89 s1.Q))),true⟩])
 |_,_=>none
set_option maxRecDepth 100000 in
theorem C_rcrashX_ok (s s1:DS):CtrOk Try.prog Id' 32 (C_rcrashX s s1):=by
 intro us sub ps x sm h hp w e_ vs hM ha
 unfold C_rcrashX at h
 split at h
 ·rename_i tn ru ro ks L Q
  simp only [Option.some.injEq,Prod.mk.injEq] at h
  obtain ⟨rfl,rfl,rfl⟩:=h
  obtain ⟨⟨rfl,rfl,rfl,rfl,n,k,inv,hn,hn2,hk⟩,rfl⟩:=hp _ (List.mem_cons_self ..)
  have hlen:=inv.len
  exact C_rcrash_ok _ _ _ _ _ rfl (fun q hq=>by simp only [List.mem_cons,List.not_mem_nil,or_false] at hq;rcases hq with rfl|rfl|rfl;exact inv.L;exact inv.wq (by omega);rw [hlen];exact inv.at') w e_ vs hM ha
 ·cases h
theorem R_rcrashX (s s1:DS):RowOk Try.prog Id' hardD 32 (ctrF Id' (C_rcrashX s s1) hardD):=ctrF_ok Try.call32 (C_rcrashX_ok s s1)
def C_rnewX (L0:List (List UInt8)):Ctr Td:=fun us sub=>match us,sub with
 |[.one (.v (.int .i64 n))],([]:Mem Td)=>some ([NewIs n L0],.tup [.one (.ptr 0 0),.one (.kI .i64 0)],[⟨.bx [.obj 1,.obj 2,.v (.int .i64 (-1)),.v (.bool false)],true⟩,⟨.us (.ext (.tab (.bs L0))),true⟩,⟨.us (.ext (.tab (.wq 89 []))),true⟩])
 |_,_=>none
set_option maxRecDepth 100000 in
theorem C_rnewX_ok (L0:List (List UInt8)):CtrOk Try.prog Id' 24 (C_rnewX L0):=by
 intro us sub ps x sm h hp w e_ vs hM ha
 unfold C_rnewX at h
 split at h
 ·rename_i n
  simp only [Option.some.injEq,Prod.mk.injEq] at h
  obtain ⟨rfl,rfl,rfl⟩:=h
  obtain ⟨q0,rfl⟩:=hp _ (List.mem_cons_self ..)
  exact C_rnewG_ok _ _ _ _ _ rfl (fun q hq=>by simp only [List.mem_cons,List.not_mem_nil,or_false] at hq;subst hq;exact q0) w e_ vs hM ha
 ·cases h
theorem R_rnewX (L0:List (List UInt8)):RowOk Try.prog Id' hardD 24 (ctrF Id' (C_rnewX L0) hardD):=ctrF_ok Try.call24 (C_rnewX_ok L0)
end Go.Proofs.Ytonomiljclemnaa
set_option linter.unusedVariables false
set_option linter.unusedSimpArgs false
namespace Go.Proofs.Ytonomiljclemnaa
open Go.RowKit
def hFl (d:HDo):Int:=IntKind.u64.wrap ((BitVec.ofInt IntKind.u64.bits d.f &&& BitVec.ofInt IntKind.u64.bits 255).toNat:Int)
section
variable {k:Nat} {x:HKS}
end
def hk0:HKS:=⟨⟨hL0,[],0,false,false⟩,1,0,0,0,false,0,0,0,false⟩
end Go.Proofs.Ytonomiljclemnaa
set_option linter.unusedVariables false
set_option linter.unusedSimpArgs false
namespace Go.Proofs.Ytonomiljclemnaa
open Go.RowKit
end Go.Proofs.Ytonomiljclemnaa
set_option linter.unusedVariables false
set_option linter.unusedSimpArgs false
namespace Go.Proofs.Ytonomiljclemnaa
open Go.RowKit
end Go.Proofs.Ytonomiljclemnaa
set_option linter.unusedVariables false
set_option linter.unusedSimpArgs false
namespace Go.Proofs.Ytonomiljclemnaa
open Go.RowKit Go.ChangeShapes Go.WideShapes Go.ChangeAt
theorem shr_lt' {w:World} {u:Value} {sz n:Nat} {el:Nat→List CD} (h:dkHolds (.shr sz n el) w u):∀ k,Id'.foot (.ext (.shr sz n el)) w u k→k<w.heap.size:=by
 obtain ⟨hs,vals,hR,hc⟩:=h
 intro k hk
 rcases hk with ⟨hn,hk⟩|⟨i,j,c,v,g1,g2,g3,g4,g5,g6⟩
 ·exact rs_lt hR hn hs hk
 ·have hi:i * sz+j<vals.length:=by rw [hR.1];exact slot_lt g1 g2
  have hv:=List.getElem?_eq_getElem hi
  have:v=vals[i * sz+j]:=cdAt_eq g5 (cd_at hR hv)
  subst this
  have hcd:=hc i j c _ g1 g2 g3 hv
  cases c with
  |v x=>exact g4.elim
  |bs b=>
   have hb:Bs w _ b:=hcd
   exact bs_lt hb g4 g6
  |ns b=>
   have hb:Is w _ b:=hcd
   have hl:b.length≠0:=fun e=>g4 (List.eq_nil_of_length_eq_zero e)
   have hb':Rs w 1 _ b.length (b.map (Value.int .i64)):=hb
   exact rs_lt hb' hl (by decide) g6
section
variable {H:Type} {enc:TypeId×Value→H} {W:World}
set_option maxRecDepth 100000 in
theorem read_hhead {cs:List Value} {fuel:Nat} {x:DataW H×List MemPlace} (hl:cs.length=3) (h:DataW.trod enc Try.prog W 0 (fun _=>true) true fuel 75 cs=some x):
  ∃ (z0:Int) (z1:Int) (z2:Int),cs=[.int .u64 z0,.int .u64 z1,.int .u64 z2]∧(0≤z0∧z0<18446744073709551616)∧(0≤z1∧z1<18446744073709551616)∧(0≤z2∧z2<18446744073709551616):=by
 obtain ⟨c0,c1,c2,rfl⟩:∃ c0 c1 c2,cs=[c0,c1,c2]:=by
  match cs,hl with
  |[c0,c1,c2],_=>exact ⟨c0,c1,c2,rfl⟩
 obtain ⟨xs,n,_,_,_,hx,hf⟩:=DataW.trod_struct Try.underlying75 h
 have hxn:xs.length=3:=hx
 have y0:Try.prog.cellsOf 67=1:=by kernel_rfl
 have f0:=hf 0 _ rfl
 have f1:=hf 1 _ rfl
 have f2:=hf 2 _ rfl
 rw [List.getElem?_eq_getElem (by omega)] at f0 f1 f2
 obtain ⟨v0,e0,_,w0⟩:=DataW.trod_int Try.underlying67 f0
 have g0:c0=.int .u64 v0:=by simpa [y0] using e0
 obtain ⟨v1,e1,_,w1⟩:=DataW.trod_int Try.underlying67 f1
 have g1:c1=.int .u64 v1:=by simpa [y0] using e1
 obtain ⟨v2,e2,_,w2⟩:=DataW.trod_int Try.underlying67 f2
 have g2:c2=.int .u64 v2:=by simpa [y0] using e2
 exact ⟨v0,v1,v2,by rw [g0,g1,g2],⟨(wf_u64 w0).1,by have:=(wf_u64 w0).2;omega⟩,⟨(wf_u64 w1).1,by have:=(wf_u64 w1).2;omega⟩,⟨(wf_u64 w2).1,by have:=(wf_u64 w2).2;omega⟩⟩
theorem read_hdo_1 {cs:List Value} {fuel:Nat} {x:DataW H×List MemPlace} (hl:cs.length=9) (h:DataW.trod enc Try.prog W 0 (fun _=>true) true fuel 77 cs=some x):
  ∃ (d:HDo) (v_b v_ks:Value),cs=[.int .i64 d.kind,.int .i64 d.at',.int .i64 d.n,.int .u64 d.ep,.int .u64 d.g,.int .u64 d.t,.int .u64 d.f,v_b,v_ks]∧Bs W v_b d.b∧Is W v_ks d.ks∧(d.n≤9223372036854775807∧(0≤d.ep∧d.ep<18446744073709551616)∧(0≤d.g∧d.g<18446744073709551616)∧(0≤d.t∧d.t<18446744073709551616)∧(0≤d.f∧d.f<18446744073709551616)∧R64 d.at'):=by
 obtain ⟨c0,c1,c2,c3,c4,c5,c6,c7,c8,rfl⟩:∃ c0 c1 c2 c3 c4 c5 c6 c7 c8,cs=[c0,c1,c2,c3,c4,c5,c6,c7,c8]:=by
  match cs,hl with
  |[c0,c1,c2,c3,c4,c5,c6,c7,c8],_=>exact ⟨c0,c1,c2,c3,c4,c5,c6,c7,c8,rfl⟩
 obtain ⟨xs,n,_,_,_,hx,hf⟩:=DataW.trod_struct Try.underlying77 h
 have hxn:xs.length=7:=hx
 have y0:Try.prog.cellsOf 3=1:=by kernel_rfl
 have y1:Try.prog.cellsOf 67=1:=by kernel_rfl
 have y2:Try.prog.cellsOf 75=3:=by kernel_rfl
 have y3:Try.prog.cellsOf 31=1:=by kernel_rfl
 have y4:Try.prog.cellsOf 23=1:=by kernel_rfl
 have f0:=hf 0 _ rfl
 have f1:=hf 1 _ rfl
 have f2:=hf 2 _ rfl
 have f3:=hf 3 _ rfl
 have f4:=hf 4 _ rfl
 have f5:=hf 5 _ rfl
 have f6:=hf 6 _ rfl
 rw [List.getElem?_eq_getElem (by omega)] at f0 f1 f2 f3 f4 f5 f6
 obtain ⟨u0,e0,_,w0⟩:=DataW.trod_int Try.underlying3 f0
 have g0:c0=.int .i64 u0:=by simpa [y0,y1,y2,y3,y4] using e0
 obtain ⟨u1,e1,_,w1⟩:=DataW.trod_int Try.underlying3 f1
 have g1:c1=.int .i64 u1:=by simpa [y0,y1,y2,y3,y4] using e1
 obtain ⟨u2,e2,_,w2⟩:=DataW.trod_int Try.underlying3 f2
 have g2:c2=.int .i64 u2:=by simpa [y0,y1,y2,y3,y4] using e2
 obtain ⟨u3,e3,_,w3⟩:=DataW.trod_int Try.underlying67 f3
 have g3:c3=.int .u64 u3:=by simpa [y0,y1,y2,y3,y4] using e3
 obtain ⟨u4_0,u4_1,u4_2,e4,w4_0,w4_1,w4_2⟩:=read_hhead (by simp [y0,y1,y2,y3,y4]) f4
 have g4:c4=.int .u64 u4_0∧c5=.int .u64 u4_1∧c6=.int .u64 u4_2:=by simpa [y0,y1,y2,y3,y4] using e4
 obtain ⟨g4_0,g4_1,g4_2⟩:=g4
 obtain ⟨a5,p5,u5,e5,h5⟩:=read_bytes Try.underlying31 Try.underlying5 (by kernel_rfl) f5
 have g5:c7=.slice a5 u5.length p5:=by simpa [y0,y1,y2,y3,y4] using e5
 obtain ⟨a6,p6,u6,e6,h6,_⟩:=read_ints Try.underlying23 Try.underlying3 (by kernel_rfl) f6
 have g6:c8=.slice a6 u6.length p6:=by simpa [y0,y1,y2,y3,y4] using e6
 exact ⟨⟨u0,u1,u2,u3,u4_0,u4_1,u4_2,u5,u6⟩,_,_,by rw [g0,g1,g2,g3,g4_0,g4_1,g4_2,g5,g6],h5,h6,⟨(wf_i64 w2).2,⟨(wf_u64 w3).1,by show u3<18446744073709551616;have:=(wf_u64 w3).2;omega⟩,w4_0,w4_1,w4_2,wf_i64 w1⟩⟩
def HDosIs (w:World) (u:Value) (l:List HDo):Prop:=dkHolds (.shr 9 l.length (hdEl l)) w u∧∀ d∈l,d.n≤9223372036854775807∧(0≤d.ep∧d.ep<18446744073709551616)∧(0≤d.g∧d.g<18446744073709551616)∧(0≤d.t∧d.t<18446744073709551616)∧(0≤d.f∧d.f<18446744073709551616)∧R64 d.at'
theorem read_hdo_l {cs:List Value} {fuel:Nat} {x:DataW H×List MemPlace} (h:DataW.trod enc Try.prog W 0 (fun _=>true) true fuel 74 cs=some x):∃ v l,cs=[v]∧HDosIs W v l:=by
 obtain ⟨ao,len,cap,rfl,h1,h2,h3,h4⟩:=read_slice (c:=9) Try.underlying74 (by kernel_rfl) (by decide) h
 obtain ⟨ds,hl,hd⟩:=list_of_lt (p:=fun i (d:HDo)=>∃ (v_b v_ks:Value),(∃ b o,ao=some ⟨b,o,none⟩∧∀ j,j<9→W.cell? ⟨b,o+i * 9+j,none⟩=[Value.int .i64 d.kind,.int .i64 d.at',.int .i64 d.n,.int .u64 d.ep,.int .u64 d.g,.int .u64 d.t,.int .u64 d.f,v_b,v_ks][j]?)∧Bs W v_b d.b∧Is W v_ks d.ks∧(d.n≤9223372036854775807∧(0≤d.ep∧d.ep<18446744073709551616)∧(0≤d.g∧d.g<18446744073709551616)∧(0≤d.t∧d.t<18446744073709551616)∧(0≤d.f∧d.f<18446744073709551616)∧R64 d.at')) len fun i hi=>by
  obtain ⟨b,o,cs',f,y,e1,e2,e3,e4⟩:=h4 i hi
  obtain ⟨d,v_b,v_ks,rfl,q0,q1,q2⟩:=read_hdo_1 e2 e4
  exact ⟨d,v_b,v_ks,⟨b,o,e1,e3⟩,q0,q1,q2⟩
 refine ⟨_,ds,rfl,⟨by decide,?_⟩,fun d hd'=>?_⟩
 ·cases ao with
  |none=>
   have h0:len=0:=by have:=h3 rfl;omega
   subst h0
   have:ds=[]:=List.eq_nil_of_length_eq_zero hl
   subst this
   exact ⟨[],⟨rfl,none,cap,rfl,h1,h2,h3,fun a h=>by cases h⟩,fun i j c v hi=>absurd hi (by simp)⟩
  |some a=>
   let vals:List Value:=(List.range (len * 9)).map fun p=>(W.cell? (a.add p)).getD undef
   have hv:∀ i j,i<len→j<9→∀ (d:HDo) (v_b v_ks:Value),ds[i]? =some d→(W.cell? (a.add (i * 9+j))=([Value.int .i64 d.kind,.int .i64 d.at',.int .i64 d.n,.int .u64 d.ep,.int .u64 d.g,.int .u64 d.t,.int .u64 d.f,v_b,v_ks]:List Value)[j]?→vals[i * 9+j]? =([Value.int .i64 d.kind,.int .i64 d.at',.int .i64 d.n,.int .u64 d.ep,.int .u64 d.g,.int .u64 d.t,.int .u64 d.f,v_b,v_ks]:List Value)[j]?):=fun i j hi hj d v_b v_ks hdi hc=>by
    have hp:i * 9+j<len * 9:=slot_lt hi hj
    have hjl:j<([Value.int .i64 d.kind,.int .i64 d.at',.int .i64 d.n,.int .u64 d.ep,.int .u64 d.g,.int .u64 d.t,.int .u64 d.f,v_b,v_ks]:List Value).length:=hj
    simp only [vals,List.getElem?_map,List.getElem?_range hp,Option.map_some,hc]
    rw [List.getElem?_eq_getElem hjl]
    rfl
   have cell:∀ i,i<len→∃ (d:HDo) (v_b v_ks:Value),ds[i]? =some d∧(∀ j,j<9→W.cell? (a.add (i * 9+j))=([Value.int .i64 d.kind,.int .i64 d.at',.int .i64 d.n,.int .u64 d.ep,.int .u64 d.g,.int .u64 d.t,.int .u64 d.f,v_b,v_ks]:List Value)[j]?)∧Bs W v_b d.b∧Is W v_ks d.ks:=fun i hi=>by
    have hds:ds[i]? =some ds[i]:=List.getElem?_eq_getElem (by omega)
    obtain ⟨v_b,v_ks,⟨b,o,e1,e2⟩,q0,q1,q2⟩:=hd i _ hds
    cases e1
    exact ⟨_,v_b,v_ks,hds,(fun j hj=>by rw [Addr.add_mid,←Nat.add_assoc];exact e2 j hj),q0,q1⟩
   refine ⟨vals,⟨by simp [vals,hl],some a,cap,by rw [hl],by rw [hl];exact h1,h2,h3,fun a' ha' p u hu=>?_⟩,fun i j c v hi hj hc hvv=>?_⟩
   ·cases ha'
    have hp:p<len * 9:=by have:=(List.getElem?_eq_some_iff.1 hu).1;simpa [vals] using this
    have hi:p / 9<len:=by omega
    have hj:p % 9<9:=Nat.mod_lt _ (by decide)
    obtain ⟨d,v_b,v_ks,g1,g2,r0,r1⟩:=cell (p / 9) hi
    have hpe:p / 9 * 9+p % 9=p:=by omega
    have hc:=g2 (p % 9) hj
    have hv2:=hv (p / 9) (p % 9) hi hj d v_b v_ks g1 hc
    rw [hpe] at hc hv2
    rw [hc,←hv2,hu]
   ·rw [hl] at hi
    obtain ⟨d,v_b,v_ks,g1,g2,r0,r1⟩:=cell i hi
    have hv2:=hv i j hi hj d v_b v_ks g1 (g2 j hj)
    rw [hvv] at hv2
    have hdd:ds.getD i HDo.zero=d:=by rw [List.getD_eq_getElem?_getD,g1];rfl
    unfold hdEl at hc
    rw [hdd] at hc
    match j,hj with
    |0,_=>simp at hc hv2;subst hc;exact hv2
    |1,_=>simp at hc hv2;subst hc;exact hv2
    |2,_=>simp at hc hv2;subst hc;exact hv2
    |3,_=>simp at hc hv2;subst hc;exact hv2
    |4,_=>simp at hc hv2;subst hc;exact hv2
    |5,_=>simp at hc hv2;subst hc;exact hv2
    |6,_=>simp at hc hv2;subst hc;exact hv2
    |7,_=>simp at hc hv2;subst hc;subst hv2;exact r0
    |8,_=>simp at hc hv2;subst hc;subst hv2;exact r1
 ·obtain ⟨i,hi,hi'⟩:=List.getElem_of_mem hd'
  obtain ⟨_,_,_,_,_,q⟩:=hd i d (by rw [List.getElem?_eq_getElem hi,hi'])
  exact q
end
end Go.Proofs.Ytonomiljclemnaa
set_option linter.unusedVariables false
set_option linter.unusedSimpArgs false
namespace Go.Proofs.Ytonomiljclemnaa
open Go.RowKit
set_option maxRecDepth 100000 in
theorem hq_s (a:Int) (l:List HDo) (x y:DS) (ev:Int) (g t ff:Int) (b:Bool) (e2:Int) (k:Nat) (f:Nat→Value) (h0:(decide ((k:Int)<(l.length:Int))&&decide ((k:Int)<30))=true) (h1:IntKind.i64.wrap ((k:Int)+1)=((k+1:Nat):Int)) (h2:k<l.length) (h3:((l.getD ((k:Int).toNat) HDo.zero).kind==0)=true) (h4:SaveIs x (l.getD ((k:Int).toNat) HDo.zero).at' (l.getD ((k:Int).toNat) HDo.zero).ep (l.getD ((k:Int).toNat) HDo.zero).g (l.getD ((k:Int).toNat) HDo.zero).t (l.getD ((k:Int).toNat) HDo.zero).f ev y) (h5:RSaveIs x.L x.Q (rOf x.fd x.fu) x.off x (l.getD ((k:Int).toNat) HDo.zero).at' (l.getD ((k:Int).toNat) HDo.zero).ep (l.getD ((k:Int).toNat) HDo.zero).g (l.getD ((k:Int).toNat) HDo.zero).t (l.getD ((k:Int).toNat) HDo.zero).f ev y) (h6:LoadIs y.L y.Q a g t ff b e2) (h7:RLoadIs y.L y.Q a g t ff b e2):∃ qs,alN Id' 7 [(9,.c (.one (.v (.int .i64 ((k+1:Nat):Int)))))] [⟨.us (.ext (.shr 9 l.length (hdEl l))),false⟩,⟨.bx [.obj 2,.obj 7,.v (.int .i64 y.fu),.v (.bool y.fd),.v (.bool y.off)],true⟩,⟨.us (.ext (.flat (.secs y.L))),true⟩,⟨.dead,true⟩,⟨.bx [.obj 5,.obj 8,.v (.int .i64 (rOf y.fd y.fu)),.v (.bool y.off)],true⟩,⟨.us (.ext (.tab (.bs y.L))),true⟩,⟨.dead,true⟩,⟨.us (.ext (.flat (.pens y.Q))),true⟩,⟨.us (.ext (.tab (.wq 89 y.Q))),true⟩] ((symC (⟨Try.prog,[(36,ctrF Id' (C_saveX (ev) y) hardD),(38,ctrF Id' (C_rsaveX x (ev) y) hardD),(13,ctrV C_within hardD),(14,ctrF Id' C_sect hardD),(15,ctrF Id' (C_writeX y) hardD),(27,ctrF Id' (C_rwriteX x y) hardD),(30,ctrF Id' (C_fuseX y) hardD),(31,ctrF Id' (C_rarmX x y) hardD),(16,ctrF Id' (C_crashX y) hardD),(32,ctrF Id' (C_rcrashX x y) hardD),(35,ctrF Id' (C_loadX g t ff b e2) hardD),(39,ctrF Id' (C_rloadX g t ff b e2) hardD)],[],dkHo,Id'.one,60⟩:Sy Td) [] 156 (hdC (loopsC (bodyOf Try.f8)) 0) ⟨[(9,.c (.one (.v (.int .i64 (k:Int)))))]++anyB' (writesC (hdC (loopsC (bodyOf Try.f8)) 0)) ([(0,.c (.one (.v (.int .i64 a)))),(1,.c (.one (.obj 0))),(5,.c (.one (.ptr 1 0))),(7,.c (.one (.ptr 4 0)))]++tabV f 156),[⟨.us (.ext (.shr 9 l.length (hdEl l))),false⟩,⟨.bx [.obj 2,.obj 7,.v (.int .i64 x.fu),.v (.bool x.fd),.v (.bool x.off)],true⟩,⟨.us (.ext (.flat (.secs x.L))),true⟩,⟨.dead,true⟩,⟨.bx [.obj 5,.obj 8,.v (.int .i64 (rOf x.fd x.fu)),.v (.bool x.off)],true⟩,⟨.us (.ext (.tab (.bs x.L))),true⟩,⟨.dead,true⟩,⟨.us (.ext (.flat (.pens x.Q))),true⟩,⟨.us (.ext (.tab (.wq 89 x.Q))),true⟩],0⟩).al [true,true,false,false])=some qs∧∀ q∈qs,q:=
 ⟨[(decide ((↑k:Int)<(↑l.length:Int))&&decide ((↑k:Int)<(30:Int)))=true,(0:Int)≤(↑k:Int)∧(↑k:Int).toNat<l.length,((l.getD (↑k:Int).toNat HDo.zero).kind==(0:Int))=true,SaveIs (DS.mk x.L x.Q x.fu x.fd x.off) (l.getD (↑k:Int).toNat HDo.zero).at' (l.getD (↑k:Int).toNat HDo.zero).ep (l.getD (↑k:Int).toNat HDo.zero).g (l.getD (↑k:Int).toNat HDo.zero).t (l.getD (↑k:Int).toNat HDo.zero).f ev y,RSaveIs x.L x.Q (rOf x.fd x.fu) x.off x (l.getD (↑k:Int).toNat HDo.zero).at' (l.getD (↑k:Int).toNat HDo.zero).ep (l.getD (↑k:Int).toNat HDo.zero).g (l.getD (↑k:Int).toNat HDo.zero).t (l.getD (↑k:Int).toNat HDo.zero).f ev y,(ev != ev)=false,LoadIs y.L y.Q a g t ff b e2,RLoadIs y.L y.Q a g t ff b e2,(g != g||t != t||ff != ff||!b==b||e2 != e2)=false,Th.ext (Dk.shr 9 l.length (hdEl l))=Th.ext (Dk.shr 9 l.length (hdEl l)),Value.int IntKind.i64 y.fu=Value.int IntKind.i64 y.fu,Value.bool y.fd=Value.bool y.fd,Value.bool y.off=Value.bool y.off,Th.ext (Dk.flat (FL.secs y.1))=Th.ext (Dk.flat (FL.secs y.1)),Value.int IntKind.i64 (rOf y.fd y.fu)=Value.int IntKind.i64 (rOf y.fd y.fu),Value.bool y.off=Value.bool y.off,Th.ext (Dk.tab (TB.bs y.1))=Th.ext (Dk.tab (TB.bs y.1)),Th.ext (Dk.flat (FL.pens y.2))=Th.ext (Dk.flat (FL.pens y.2)),Th.ext (Dk.tab (TB.wq 89 y.2))=Th.ext (Dk.tab (TB.wq 89 y.2)),Value.int IntKind.i64 (IntKind.i64.wrap ((↑k:Int)+(1:Int)))=Value.int IntKind.i64 (↑(k+(1:Nat)):Int)],by kernel_rfl,(by refine mcons ?_ (mcons ?_ (mcons ?_ (mcons ?_ (mcons ?_ (mcons ?_ (mcons ?_ (mcons ?_ (mcons ?_ (mcons ?_ (mcons ?_ (mcons ?_ (mcons ?_ (mcons ?_ (mcons ?_ (mcons ?_ (mcons ?_ (mcons ?_ (mcons ?_ (mcons ?_ mnil)))))))))))))))))))<;>first|rfl|exact h0|exact h1|exact h2|exact h3|exact h4|exact h5|exact h6|exact h7|trivial|(exact ⟨by omega,by show (k:Int).toNat<l.length;omega⟩)|(exact congrArg _ h1)|(simp;done))⟩
set_option maxRecDepth 100000 in
theorem hq_w (a:Int) (l:List HDo) (x y:DS) (ev:Int) (g t ff:Int) (b:Bool) (e2:Int) (k:Nat) (f:Nat→Value) (h0:(decide ((k:Int)<(l.length:Int))&&decide ((k:Int)<30))=true) (h1:IntKind.i64.wrap ((k:Int)+1)=((k+1:Nat):Int)) (h2:k<l.length) (h3:((l.getD ((k:Int).toNat) HDo.zero).kind==0)=false) (h4:((l.getD ((k:Int).toNat) HDo.zero).kind==1)=true) (h5:WriteIs x (withI (l.getD ((k:Int).toNat) HDo.zero).at' 0 4) (sectO (l.getD ((k:Int).toNat) HDo.zero).b) y) (h6:RWriteIs x.L x.Q (rOf x.fd x.fu) x.off x (withI (l.getD ((k:Int).toNat) HDo.zero).at' 0 4) (sectO (l.getD ((k:Int).toNat) HDo.zero).b) y) (h7:LoadIs y.L y.Q a g t ff b e2) (h8:RLoadIs y.L y.Q a g t ff b e2):∃ qs,alN Id' 7 [(9,.c (.one (.v (.int .i64 ((k+1:Nat):Int)))))] [⟨.us (.ext (.shr 9 l.length (hdEl l))),false⟩,⟨.bx [.obj 2,.obj 7,.v (.int .i64 y.fu),.v (.bool y.fd),.v (.bool y.off)],true⟩,⟨.us (.ext (.flat (.secs y.L))),true⟩,⟨.dead,true⟩,⟨.bx [.obj 5,.obj 8,.v (.int .i64 (rOf y.fd y.fu)),.v (.bool y.off)],true⟩,⟨.us (.ext (.tab (.bs y.L))),true⟩,⟨.dead,true⟩,⟨.us (.ext (.flat (.pens y.Q))),true⟩,⟨.us (.ext (.tab (.wq 89 y.Q))),true⟩] ((symC (⟨Try.prog,[(36,ctrF Id' (C_saveX (ev) y) hardD),(38,ctrF Id' (C_rsaveX x (ev) y) hardD),(13,ctrV C_within hardD),(14,ctrF Id' C_sect hardD),(15,ctrF Id' (C_writeX y) hardD),(27,ctrF Id' (C_rwriteX x y) hardD),(30,ctrF Id' (C_fuseX y) hardD),(31,ctrF Id' (C_rarmX x y) hardD),(16,ctrF Id' (C_crashX y) hardD),(32,ctrF Id' (C_rcrashX x y) hardD),(35,ctrF Id' (C_loadX g t ff b e2) hardD),(39,ctrF Id' (C_rloadX g t ff b e2) hardD)],[],dkHo,Id'.one,60⟩:Sy Td) [] 156 (hdC (loopsC (bodyOf Try.f8)) 0) ⟨[(9,.c (.one (.v (.int .i64 (k:Int)))))]++anyB' (writesC (hdC (loopsC (bodyOf Try.f8)) 0)) ([(0,.c (.one (.v (.int .i64 a)))),(1,.c (.one (.obj 0))),(5,.c (.one (.ptr 1 0))),(7,.c (.one (.ptr 4 0)))]++tabV f 156),[⟨.us (.ext (.shr 9 l.length (hdEl l))),false⟩,⟨.bx [.obj 2,.obj 7,.v (.int .i64 x.fu),.v (.bool x.fd),.v (.bool x.off)],true⟩,⟨.us (.ext (.flat (.secs x.L))),true⟩,⟨.dead,true⟩,⟨.bx [.obj 5,.obj 8,.v (.int .i64 (rOf x.fd x.fu)),.v (.bool x.off)],true⟩,⟨.us (.ext (.tab (.bs x.L))),true⟩,⟨.dead,true⟩,⟨.us (.ext (.flat (.pens x.Q))),true⟩,⟨.us (.ext (.tab (.wq 89 x.Q))),true⟩],0⟩).al [true,false,true,false])=some qs∧∀ q∈qs,q:=
 ⟨[(decide ((↑k:Int)<(↑l.length:Int))&&decide ((↑k:Int)<(30:Int)))=true,(0:Int)≤(↑k:Int)∧(↑k:Int).toNat<l.length,((l.getD (↑k:Int).toNat HDo.zero).kind==(0:Int))=false,((l.getD (↑k:Int).toNat HDo.zero).kind==(1:Int))=true,WriteIs (DS.mk x.L x.Q x.fu x.fd x.off) (withI (l.getD (↑k:Int).toNat HDo.zero).at' (0:Int) (4:Int)) (sectO (l.getD (↑k:Int).toNat HDo.zero).b) y,(En.mk (Ob.us (Th.own ((List.brecOn.go (motive:=fun x=>List UInt8→List UInt8) (List.take (128:Nat) (l.getD (↑k:Int).toNat HDo.zero).b) List.append._f).1 (List.replicate ((128:Nat) - (l.getD (↑k:Int).toNat HDo.zero).b.length) (0:UInt8))))) true:En Td)=En.mk (Ob.us (Th.own ((List.brecOn.go (motive:=fun x=>List UInt8→List UInt8) (List.take (128:Nat) (l.getD (↑k:Int).toNat HDo.zero).b) List.append._f).1 (List.replicate ((128:Nat) - (l.getD (↑k:Int).toNat HDo.zero).b.length) (0:UInt8))))) true,RWriteIs x.L x.Q (rOf x.fd x.fu) x.off x (withI (l.getD (↑k:Int).toNat HDo.zero).at' (0:Int) (4:Int)) (sectO (l.getD (↑k:Int).toNat HDo.zero).b) y,(En.mk (Ob.us (Th.own ((List.brecOn.go (motive:=fun x=>List UInt8→List UInt8) (List.take (128:Nat) (l.getD (↑k:Int).toNat HDo.zero).b) List.append._f).1 (List.replicate ((128:Nat) - (l.getD (↑k:Int).toNat HDo.zero).b.length) (0:UInt8))))) true:En Td)=En.mk (Ob.us (Th.own ((List.brecOn.go (motive:=fun x=>List UInt8→List UInt8) (List.take (128:Nat) (l.getD (↑k:Int).toNat HDo.zero).b) List.append._f).1 (List.replicate ((128:Nat) - (l.getD (↑k:Int).toNat HDo.zero).b.length) (0:UInt8))))) true,LoadIs y.L y.Q a g t ff b e2,RLoadIs y.L y.Q a g t ff b e2,(g != g||t != t||ff != ff||!b==b||e2 != e2)=false,Th.ext (Dk.shr 9 l.length (hdEl l))=Th.ext (Dk.shr 9 l.length (hdEl l)),Value.int IntKind.i64 y.fu=Value.int IntKind.i64 y.fu,Value.bool y.fd=Value.bool y.fd,Value.bool y.off=Value.bool y.off,Th.ext (Dk.flat (FL.secs y.1))=Th.ext (Dk.flat (FL.secs y.1)),Value.int IntKind.i64 (rOf y.fd y.fu)=Value.int IntKind.i64 (rOf y.fd y.fu),Value.bool y.off=Value.bool y.off,Th.ext (Dk.tab (TB.bs y.1))=Th.ext (Dk.tab (TB.bs y.1)),Th.ext (Dk.flat (FL.pens y.2))=Th.ext (Dk.flat (FL.pens y.2)),Th.ext (Dk.tab (TB.wq 89 y.2))=Th.ext (Dk.tab (TB.wq 89 y.2)),Value.int IntKind.i64 (IntKind.i64.wrap ((↑k:Int)+(1:Int)))=Value.int IntKind.i64 (↑(k+(1:Nat)):Int)],by kernel_rfl,(by refine mcons ?_ (mcons ?_ (mcons ?_ (mcons ?_ (mcons ?_ (mcons ?_ (mcons ?_ (mcons ?_ (mcons ?_ (mcons ?_ (mcons ?_ (mcons ?_ (mcons ?_ (mcons ?_ (mcons ?_ (mcons ?_ (mcons ?_ (mcons ?_ (mcons ?_ (mcons ?_ (mcons ?_ (mcons ?_ mnil)))))))))))))))))))))<;>first|rfl|exact h0|exact h1|exact h2|exact h3|exact h4|exact h5|exact h6|exact h7|exact h8|trivial|(exact ⟨by omega,by show (k:Int).toNat<l.length;omega⟩)|(exact congrArg _ h1)|(simp;done))⟩
set_option maxRecDepth 100000 in
theorem hq_f (a:Int) (l:List HDo) (x y:DS) (ev:Int) (g t ff:Int) (b:Bool) (e2:Int) (k:Nat) (f:Nat→Value) (h0:(decide ((k:Int)<(l.length:Int))&&decide ((k:Int)<30))=true) (h1:IntKind.i64.wrap ((k:Int)+1)=((k+1:Nat):Int)) (h2:k<l.length) (h3:((l.getD ((k:Int).toNat) HDo.zero).kind==0)=false) (h4:((l.getD ((k:Int).toNat) HDo.zero).kind==1)=false) (h5:((l.getD ((k:Int).toNat) HDo.zero).kind==2)=true) (h6:FuseIs x (l.getD ((k:Int).toNat) HDo.zero).n y) (h7:RArmIs x.L x.Q (rOf x.fd x.fu) x.off x (l.getD ((k:Int).toNat) HDo.zero).n y) (h8:LoadIs y.L y.Q a g t ff b e2) (h9:RLoadIs y.L y.Q a g t ff b e2):∃ qs,alN Id' 7 [(9,.c (.one (.v (.int .i64 ((k+1:Nat):Int)))))] [⟨.us (.ext (.shr 9 l.length (hdEl l))),false⟩,⟨.bx [.obj 2,.obj 7,.v (.int .i64 y.fu),.v (.bool y.fd),.v (.bool y.off)],true⟩,⟨.us (.ext (.flat (.secs y.L))),true⟩,⟨.dead,true⟩,⟨.bx [.obj 5,.obj 8,.v (.int .i64 (rOf y.fd y.fu)),.v (.bool y.off)],true⟩,⟨.us (.ext (.tab (.bs y.L))),true⟩,⟨.dead,true⟩,⟨.us (.ext (.flat (.pens y.Q))),true⟩,⟨.us (.ext (.tab (.wq 89 y.Q))),true⟩] ((symC (⟨Try.prog,[(36,ctrF Id' (C_saveX (ev) y) hardD),(38,ctrF Id' (C_rsaveX x (ev) y) hardD),(13,ctrV C_within hardD),(14,ctrF Id' C_sect hardD),(15,ctrF Id' (C_writeX y) hardD),(27,ctrF Id' (C_rwriteX x y) hardD),(30,ctrF Id' (C_fuseX y) hardD),(31,ctrF Id' (C_rarmX x y) hardD),(16,ctrF Id' (C_crashX y) hardD),(32,ctrF Id' (C_rcrashX x y) hardD),(35,ctrF Id' (C_loadX g t ff b e2) hardD),(39,ctrF Id' (C_rloadX g t ff b e2) hardD)],[],dkHo,Id'.one,60⟩:Sy Td) [] 156 (hdC (loopsC (bodyOf Try.f8)) 0) ⟨[(9,.c (.one (.v (.int .i64 (k:Int)))))]++anyB' (writesC (hdC (loopsC (bodyOf Try.f8)) 0)) ([(0,.c (.one (.v (.int .i64 a)))),(1,.c (.one (.obj 0))),(5,.c (.one (.ptr 1 0))),(7,.c (.one (.ptr 4 0)))]++tabV f 156),[⟨.us (.ext (.shr 9 l.length (hdEl l))),false⟩,⟨.bx [.obj 2,.obj 7,.v (.int .i64 x.fu),.v (.bool x.fd),.v (.bool x.off)],true⟩,⟨.us (.ext (.flat (.secs x.L))),true⟩,⟨.dead,true⟩,⟨.bx [.obj 5,.obj 8,.v (.int .i64 (rOf x.fd x.fu)),.v (.bool x.off)],true⟩,⟨.us (.ext (.tab (.bs x.L))),true⟩,⟨.dead,true⟩,⟨.us (.ext (.flat (.pens x.Q))),true⟩,⟨.us (.ext (.tab (.wq 89 x.Q))),true⟩],0⟩).al [true,false,false,true,false])=some qs∧∀ q∈qs,q:=
 ⟨[(decide ((↑k:Int)<(↑l.length:Int))&&decide ((↑k:Int)<(30:Int)))=true,(0:Int)≤(↑k:Int)∧(↑k:Int).toNat<l.length,((l.getD (↑k:Int).toNat HDo.zero).kind==(0:Int))=false,((l.getD (↑k:Int).toNat HDo.zero).kind==(1:Int))=false,((l.getD (↑k:Int).toNat HDo.zero).kind==(2:Int))=true,FuseIs (DS.mk x.L x.Q x.fu x.fd x.off) (l.getD (↑k:Int).toNat HDo.zero).n y,RArmIs x.L x.Q (rOf x.fd x.fu) x.off x (l.getD (↑k:Int).toNat HDo.zero).n y,LoadIs y.L y.Q a g t ff b e2,RLoadIs y.L y.Q a g t ff b e2,(g != g||t != t||ff != ff||!b==b||e2 != e2)=false,Th.ext (Dk.shr 9 l.length (hdEl l))=Th.ext (Dk.shr 9 l.length (hdEl l)),Value.int IntKind.i64 y.fu=Value.int IntKind.i64 y.fu,Value.bool y.fd=Value.bool y.fd,Value.bool y.off=Value.bool y.off,Th.ext (Dk.flat (FL.secs y.1))=Th.ext (Dk.flat (FL.secs y.1)),Value.int IntKind.i64 (rOf y.fd y.fu)=Value.int IntKind.i64 (rOf y.fd y.fu),Value.bool y.off=Value.bool y.off,Th.ext (Dk.tab (TB.bs y.1))=Th.ext (Dk.tab (TB.bs y.1)),Th.ext (Dk.flat (FL.pens y.2))=Th.ext (Dk.flat (FL.pens y.2)),Th.ext (Dk.tab (TB.wq 89 y.2))=Th.ext (Dk.tab (TB.wq 89 y.2)),Value.int IntKind.i64 (IntKind.i64.wrap ((↑k:Int)+(1:Int)))=Value.int IntKind.i64 (↑(k+(1:Nat)):Int)],by kernel_rfl,(by refine mcons ?_ (mcons ?_ (mcons ?_ (mcons ?_ (mcons ?_ (mcons ?_ (mcons ?_ (mcons ?_ (mcons ?_ (mcons ?_ (mcons ?_ (mcons ?_ (mcons ?_ (mcons ?_ (mcons ?_ (mcons ?_ (mcons ?_ (mcons ?_ (mcons ?_ (mcons ?_ (mcons ?_ mnil))))))))))))))))))))<;>first|rfl|exact h0|exact h1|exact h2|exact h3|exact h4|exact h5|exact h6|exact h7|exact h8|exact h9|trivial|(exact ⟨by omega,by show (k:Int).toNat<l.length;omega⟩)|(exact congrArg _ h1)|(simp;done))⟩
set_option maxRecDepth 100000 in
theorem hq_c (a:Int) (l:List HDo) (x y:DS) (ev:Int) (g t ff:Int) (b:Bool) (e2:Int) (k:Nat) (f:Nat→Value) (h0:(decide ((k:Int)<(l.length:Int))&&decide ((k:Int)<30))=true) (h1:IntKind.i64.wrap ((k:Int)+1)=((k+1:Nat):Int)) (h2:k<l.length) (h3:((l.getD ((k:Int).toNat) HDo.zero).kind==0)=false) (h4:((l.getD ((k:Int).toNat) HDo.zero).kind==1)=false) (h5:((l.getD ((k:Int).toNat) HDo.zero).kind==2)=false) (h6:CrashIs x (l.getD ((k:Int).toNat) HDo.zero).ks (l.getD ((k:Int).toNat) HDo.zero).n y) (h7:RCrashIs x.L x.Q (rOf x.fd x.fu) x.off x (l.getD ((k:Int).toNat) HDo.zero).ks (l.getD ((k:Int).toNat) HDo.zero).n y) (h8:LoadIs y.L y.Q a g t ff b e2) (h9:RLoadIs y.L y.Q a g t ff b e2):∃ qs,alN Id' 7 [(9,.c (.one (.v (.int .i64 ((k+1:Nat):Int)))))] [⟨.us (.ext (.shr 9 l.length (hdEl l))),false⟩,⟨.bx [.obj 2,.obj 7,.v (.int .i64 y.fu),.v (.bool y.fd),.v (.bool y.off)],true⟩,⟨.us (.ext (.flat (.secs y.L))),true⟩,⟨.dead,true⟩,⟨.bx [.obj 5,.obj 8,.v (.int .i64 (rOf y.fd y.fu)),.v (.bool y.off)],true⟩,⟨.us (.ext (.tab (.bs y.L))),true⟩,⟨.dead,true⟩,⟨.us (.ext (.flat (.pens y.Q))),true⟩,⟨.us (.ext (.tab (.wq 89 y.Q))),true⟩] ((symC (⟨Try.prog,[(36,ctrF Id' (C_saveX (ev) y) hardD),(38,ctrF Id' (C_rsaveX x (ev) y) hardD),(13,ctrV C_within hardD),(14,ctrF Id' C_sect hardD),(15,ctrF Id' (C_writeX y) hardD),(27,ctrF Id' (C_rwriteX x y) hardD),(30,ctrF Id' (C_fuseX y) hardD),(31,ctrF Id' (C_rarmX x y) hardD),(16,ctrF Id' (C_crashX y) hardD),(32,ctrF Id' (C_rcrashX x y) hardD),(35,ctrF Id' (C_loadX g t ff b e2) hardD),(39,ctrF Id' (C_rloadX g t ff b e2) hardD)],[],dkHo,Id'.one,60⟩:Sy Td) [] 156 (hdC (loopsC (bodyOf Try.f8)) 0) ⟨[(9,.c (.one (.v (.int .i64 (k:Int)))))]++anyB' (writesC (hdC (loopsC (bodyOf Try.f8)) 0)) ([(0,.c (.one (.v (.int .i64 a)))),(1,.c (.one (.obj 0))),(5,.c (.one (.ptr 1 0))),(7,.c (.one (.ptr 4 0)))]++tabV f 156),[⟨.us (.ext (.shr 9 l.length (hdEl l))),false⟩,⟨.bx [.obj 2,.obj 7,.v (.int .i64 x.fu),.v (.bool x.fd),.v (.bool x.off)],true⟩,⟨.us (.ext (.flat (.secs x.L))),true⟩,⟨.dead,true⟩,⟨.bx [.obj 5,.obj 8,.v (.int .i64 (rOf x.fd x.fu)),.v (.bool x.off)],true⟩,⟨.us (.ext (.tab (.bs x.L))),true⟩,⟨.dead,true⟩,⟨.us (.ext (.flat (.pens x.Q))),true⟩,⟨.us (.ext (.tab (.wq 89 x.Q))),true⟩],0⟩).al [true,false,false,false,false])=some qs∧∀ q∈qs,q:=
 ⟨[(decide ((↑k:Int)<(↑l.length:Int))&&decide ((↑k:Int)<(30:Int)))=true,(0:Int)≤(↑k:Int)∧(↑k:Int).toNat<l.length,((l.getD (↑k:Int).toNat HDo.zero).kind==(0:Int))=false,((l.getD (↑k:Int).toNat HDo.zero).kind==(1:Int))=false,((l.getD (↑k:Int).toNat HDo.zero).kind==(2:Int))=false,CrashIs (DS.mk x.L x.Q x.fu x.fd x.off) (l.getD (↑k:Int).toNat HDo.zero).ks (l.getD (↑k:Int).toNat HDo.zero).n y,RCrashIs x.L x.Q (rOf x.fd x.fu) x.off x (l.getD (↑k:Int).toNat HDo.zero).ks (l.getD (↑k:Int).toNat HDo.zero).n y,LoadIs y.L y.Q a g t ff b e2,RLoadIs y.L y.Q a g t ff b e2,(g != g||t != t||ff != ff||!b==b||e2 != e2)=false,Th.ext (Dk.shr 9 l.length (hdEl l))=Th.ext (Dk.shr 9 l.length (hdEl l)),Value.int IntKind.i64 y.fu=Value.int IntKind.i64 y.fu,Value.bool y.fd=Value.bool y.fd,Value.bool y.off=Value.bool y.off,Th.ext (Dk.flat (FL.secs y.1))=Th.ext (Dk.flat (FL.secs y.1)),Value.int IntKind.i64 (rOf y.fd y.fu)=Value.int IntKind.i64 (rOf y.fd y.fu),Value.bool y.off=Value.bool y.off,Th.ext (Dk.tab (TB.bs y.1))=Th.ext (Dk.tab (TB.bs y.1)),Th.ext (Dk.flat (FL.pens y.2))=Th.ext (Dk.flat (FL.pens y.2)),Th.ext (Dk.tab (TB.wq 89 y.2))=Th.ext (Dk.tab (TB.wq 89 y.2)),Value.int IntKind.i64 (IntKind.i64.wrap ((↑k:Int)+(1:Int)))=Value.int IntKind.i64 (↑(k+(1:Nat)):Int)],by kernel_rfl,(by refine mcons ?_ (mcons ?_ (mcons ?_ (mcons ?_ (mcons ?_ (mcons ?_ (mcons ?_ (mcons ?_ (mcons ?_ (mcons ?_ (mcons ?_ (mcons ?_ (mcons ?_ (mcons ?_ (mcons ?_ (mcons ?_ (mcons ?_ (mcons ?_ (mcons ?_ (mcons ?_ (mcons ?_ mnil))))))))))))))))))))<;>first|rfl|exact h0|exact h1|exact h2|exact h3|exact h4|exact h5|exact h6|exact h7|exact h8|exact h9|trivial|(exact ⟨by omega,by show (k:Int).toNat<l.length;omega⟩)|(exact congrArg _ h1)|(simp;done))⟩
set_option maxRecDepth 100000 in
theorem hq_x (a:Int) (l:List HDo) (x y:DS) (ev:Int) (g t ff:Int) (b:Bool) (e2:Int) (k:Nat) (f:Nat→Value) (h0:(decide ((k:Int)<(l.length:Int))&&decide ((k:Int)<30))=false):∃ qs,alX Id' 7 0 [] [⟨.us (.ext (.shr 9 l.length (hdEl l))),false⟩,⟨.dead,true⟩,⟨.dead,true⟩,⟨.dead,true⟩,⟨.dead,true⟩,⟨.dead,true⟩,⟨.dead,true⟩] ((symC (⟨Try.prog,[(36,ctrF Id' (C_saveX (ev) y) hardD),(38,ctrF Id' (C_rsaveX x (ev) y) hardD),(13,ctrV C_within hardD),(14,ctrF Id' C_sect hardD),(15,ctrF Id' (C_writeX y) hardD),(27,ctrF Id' (C_rwriteX x y) hardD),(30,ctrF Id' (C_fuseX y) hardD),(31,ctrF Id' (C_rarmX x y) hardD),(16,ctrF Id' (C_crashX y) hardD),(32,ctrF Id' (C_rcrashX x y) hardD),(35,ctrF Id' (C_loadX g t ff b e2) hardD),(39,ctrF Id' (C_rloadX g t ff b e2) hardD)],[],dkHo,Id'.one,60⟩:Sy Td) [] 156 (hdC (loopsC (bodyOf Try.f8)) 0) ⟨[(9,.c (.one (.v (.int .i64 (k:Int)))))]++anyB' (writesC (hdC (loopsC (bodyOf Try.f8)) 0)) ([(0,.c (.one (.v (.int .i64 a)))),(1,.c (.one (.obj 0))),(5,.c (.one (.ptr 1 0))),(7,.c (.one (.ptr 4 0)))]++tabV f 156),[⟨.us (.ext (.shr 9 l.length (hdEl l))),false⟩,⟨.bx [.obj 2,.obj 7,.v (.int .i64 x.fu),.v (.bool x.fd),.v (.bool x.off)],true⟩,⟨.us (.ext (.flat (.secs x.L))),true⟩,⟨.dead,true⟩,⟨.bx [.obj 5,.obj 8,.v (.int .i64 (rOf x.fd x.fu)),.v (.bool x.off)],true⟩,⟨.us (.ext (.tab (.bs x.L))),true⟩,⟨.dead,true⟩,⟨.us (.ext (.flat (.pens x.Q))),true⟩,⟨.us (.ext (.tab (.wq 89 x.Q))),true⟩],0⟩).al [false])=some qs∧∀ q∈qs,q:=
 ⟨[(decide ((↑k:Int)<(↑l.length:Int))&&decide ((↑k:Int)<(30:Int)))=false,Th.ext (Dk.shr 9 l.length (hdEl l))=Th.ext (Dk.shr 9 l.length (hdEl l))],by kernel_rfl,(by refine mcons ?_ (mcons ?_ mnil)<;>first|rfl|exact h0|trivial)⟩
end Go.Proofs.Ytonomiljclemnaa
set_option linter.unusedVariables false
set_option linter.unusedSimpArgs false
namespace Go.Proofs.Ytonomiljclemnaa
open Go.RowKit
def qst (d:HDo) (s:DS):DS:=
 bif d.kind==0 then svS s d.at' d.ep d.g d.t d.f else bif d.kind==1 then wrS s.L.length (withI d.at' 0 4) (sectO d.b) s else bif d.kind==2 then fuS s.L.length d.n s else crS d.ks d.n s
def qS (l:List HDo) (s:DS):Nat→DS
 |0=>s
 |k+1=>qst (l.getD k HDo.zero) (qS l s k)
def HOk (d:HDo):Prop:=d.n≤9223372036854775807∧(0≤d.ep∧d.ep<18446744073709551616)∧(0≤d.g∧d.g<18446744073709551616)∧(0≤d.t∧d.t<18446744073709551616)∧(0≤d.f∧d.f<18446744073709551616)∧R64 d.at'
theorem hok_at {l:List HDo} (h:∀ d∈l,HOk d) (k:Nat):HOk (l.getD k HDo.zero):=by
 rw [List.getD_eq_getElem?_getD]
 cases hk:l[k]? with
 |none=>exact ⟨by decide,by decide,by decide,by decide,by decide,⟨by decide,by decide⟩⟩
 |some d=>exact h d (List.mem_of_getElem? hk)
theorem svT_inv {n k:Nat} {s:DS} (h:DInv n k s) (hn:0<n) (i ep g t f:Int):DInv n (k+1) (svT s i ep g t f):=by
 unfold svT;rw [h.len];exact wr_inv h hn _ _
theorem svS_inv {n k:Nat} {s:DS} (h:DInv n k s) (hn:0<n) (hk:k+1≤100000) (i ep g t f:Int):DInv n (k+2) (svS s i ep g t f):=by
 have h1:=svT_inv h hn i ep g t f
 unfold svS
 cases (svK (s.L.length:Int) i ep g t f != 0) with
 |true=>exact h.mono.mono
 |false=>
  cases (svX s i ep g t f != 0) with
  |true=>exact h1.mono
  |false=>rw [h.len];exact fl_inv h1 hn hk
theorem qst_inv {k:Nat} {s:DS} (h:DInv 5 (2 * k) s) (hk:k≤1000) {d:HDo} (hd:HOk d):DInv 5 (2 * (k+1)) (qst d s):=by
 unfold qst
 cases d.kind==0 with
 |true=>exact svS_inv h (by decide) (by omega) _ _ _ _ _
 |false=>
  rw [h.len]
  cases d.kind==1 with
  |true=>exact (wr_inv h (by decide) _ _).mono
  |false=>
   cases d.kind==2 with
   |true=>exact (fu_inv h (by decide) hd.1).mono
   |false=>exact (cr_inv h (by omega) _ _).mono
theorem qS_inv {l:List HDo} {s0:DS} (hl:∀ d∈l,HOk d) (h0:DInv 5 0 s0):∀ k,k≤1000→DInv 5 (2 * k) (qS l s0 k)
 |0,_=>h0
 |k+1,hk=>qst_inv (qS_inv hl h0 k (by omega)) (by omega) (hok_at hl k)
theorem load_is {n k:Nat} {s:DS} (h:DInv n k s) (hk:k≤100000) (hn:n≤100000) (a:Int):LoadIs s.L s.Q a (ldV hrG s.L s.Q a) (ldV hrL s.L s.Q a) (ldV hrF s.L s.Q a) (ldB s.L s.Q a) (hwI (s.L.length:Int) a):=
 ⟨h.L,h.wq hk,by rw [h.len];exact hn,rfl,rfl,rfl,rfl,rfl⟩
set_option maxHeartbeats 2000000 in
set_option maxRecDepth 100000 in
theorem hq_lp (a:Int) (l:List HDo) (s0:DS) (hl:∀ d∈l,HOk d) (h0:DInv 5 0 s0) {W0:World} {G:Nat→Prop} (S0:Sy Td) (hS0:S0.P=Try.prog):LoopSound S0 Id' W0 G 156 (hdC (loopsC (bodyOf Try.f8)) 0) (lpG Id' 156 (hdC (loopsC (bodyOf Try.f8)) 0) 7 [(9,.c (.one (.v (.int .i64 ((0:Nat):Int)))))] [(0,.c (.one (.v (.int .i64 a)))),(1,.c (.one (.obj 0))),(5,.c (.one (.ptr 1 0))),(7,.c (.one (.ptr 4 0)))] [⟨.us (.ext (.shr 9 l.length (hdEl l))),false⟩,⟨.bx [.obj 2,.obj 7,.v (.int .i64 (qS l s0 0).fu),.v (.bool (qS l s0 0).fd),.v (.bool (qS l s0 0).off)],true⟩,⟨.us (.ext (.flat (.secs (qS l s0 0).L))),true⟩,⟨.dead,true⟩,⟨.bx [.obj 5,.obj 8,.v (.int .i64 (rOf (qS l s0 0).fd (qS l s0 0).fu)),.v (.bool (qS l s0 0).off)],true⟩,⟨.us (.ext (.tab (.bs (qS l s0 0).L))),true⟩,⟨.dead,true⟩,⟨.us (.ext (.flat (.pens (qS l s0 0).Q))),true⟩,⟨.us (.ext (.tab (.wq 89 (qS l s0 0).Q))),true⟩] (.leaf (.exit 0) [] [⟨.us (.ext (.shr 9 l.length (hdEl l))),false⟩,⟨.dead,true⟩,⟨.dead,true⟩,⟨.dead,true⟩,⟨.dead,true⟩,⟨.dead,true⟩,⟨.dead,true⟩])):=by
 refine lp_sound (V:=fun k=>[(9,.c (.one (.v (.int .i64 (k:Int)))))]) (M:=(fun k=>[⟨.us (.ext (.shr 9 l.length (hdEl l))),false⟩,⟨.bx [.obj 2,.obj 7,.v (.int .i64 (qS l s0 k).fu),.v (.bool (qS l s0 k).fd),.v (.bool (qS l s0 k).off)],true⟩,⟨.us (.ext (.flat (.secs (qS l s0 k).L))),true⟩,⟨.dead,true⟩,⟨.bx [.obj 5,.obj 8,.v (.int .i64 (rOf (qS l s0 k).fd (qS l s0 k).fu)),.v (.bool (qS l s0 k).off)],true⟩,⟨.us (.ext (.tab (.bs (qS l s0 k).L))),true⟩,⟨.dead,true⟩,⟨.us (.ext (.flat (.pens (qS l s0 k).Q))),true⟩,⟨.us (.ext (.tab (.wq 89 (qS l s0 k).Q))),true⟩]:Nat→Mem Td)) (N:=30) (Ux:=fun k x=>match x with|.exit 0=>some ([],([⟨.us (.ext (.shr 9 l.length (hdEl l))),false⟩,⟨.dead,true⟩,⟨.dead,true⟩,⟨.dead,true⟩,⟨.dead,true⟩,⟨.dead,true⟩,⟨.dead,true⟩]:Mem Td))|_=>none) (X:=fun _ _=>True) (J:=fun _=>True) (fun k=>by kernel_rfl) trivial (fun k hk hJ f=>?_) (fun K hK k x U hk hU hX=>?_)
 ·rw [hS0]
  cases hc:(decide ((k:Int)<(l.length:Int))&&decide ((k:Int)<30)) with
  |false=>
   obtain ⟨ps,h1,h2⟩:=hq_x a l (qS l s0 k) (qS l s0 k) 0 0 0 0 false 0 k f hc
   exact rnd_x (⟨Try.prog,[(36,ctrF Id' (C_saveX (0) (qS l s0 k)) hardD),(38,ctrF Id' (C_rsaveX (qS l s0 k) (0) (qS l s0 k)) hardD),(13,ctrV C_within hardD),(14,ctrF Id' C_sect hardD),(15,ctrF Id' (C_writeX (qS l s0 k)) hardD),(27,ctrF Id' (C_rwriteX (qS l s0 k) (qS l s0 k)) hardD),(30,ctrF Id' (C_fuseX (qS l s0 k)) hardD),(31,ctrF Id' (C_rarmX (qS l s0 k) (qS l s0 k)) hardD),(16,ctrF Id' (C_crashX (qS l s0 k)) hardD),(32,ctrF Id' (C_rcrashX (qS l s0 k) (qS l s0 k)) hardD),(35,ctrF Id' (C_loadX 0 0 0 false 0) hardD),(39,ctrF Id' (C_rloadX 0 0 0 false 0) hardD)],[],dkHo,Id'.one,60⟩:Sy Td) [] rfl ((fun (W0:World) (G:Nat→Prop)=>SyOk.mk2 Try.mixed dkHo_ok (FnsR.cons (R_saveX (0) (qS l s0 k)) (FnsR.cons (R_rsaveX (qS l s0 k) (0) (qS l s0 k)) (FnsR.cons (R_within) (FnsR.cons (R_sect) (FnsR.cons (R_writeX (qS l s0 k)) (FnsR.cons (R_rwriteX (qS l s0 k) (qS l s0 k)) (FnsR.cons (R_fuseX (qS l s0 k)) (FnsR.cons (R_rarmX (qS l s0 k) (qS l s0 k)) (FnsR.cons (R_crashX (qS l s0 k)) (FnsR.cons (R_rcrashX (qS l s0 k) (qS l s0 k)) (FnsR.cons (R_loadX 0 0 0 false 0) (FnsR.cons (R_rloadX 0 0 0 false 0) (FnsR.nil))))))))))))) EqsOk.nil) W0 G) (LpsOk.nil _) (fun w e h=>h) _ 0 ps h1 h2 rfl trivial
  |true=>
   have hk0:k<l.length∧k<30:=by simp at hc;omega
   have hk1:=hk0.1
   have hW:IntKind.i64.wrap ((k:Int)+1)=((k+1:Nat):Int):=by rw [IntWalk.i64_in _ (by omega)];omega
   have inv:=qS_inv hl h0 k (by omega)
   have inv1:=qS_inv hl h0 (k+1) (by omega)
   have hd:=hok_at hl k
   obtain ⟨y,hyk⟩:∃ y,y=qS l s0 (k+1):=⟨_,rfl⟩
   have hyf:qS l s0 (k+1)=y:=hyk.symm
   rw [hyf] at inv1
   have hyk:y=qst (l.getD k HDo.zero) (qS l s0 k):=hyk
   obtain ⟨x,hx⟩:∃ x,x=qS l s0 k:=⟨_,rfl⟩
   rw [← hx] at hyk inv
   simp only [hyf,←hx]
   have hld:=load_is inv1 (by omega) (by decide) a
   have hn5:0<y.L.length:=by rw [inv1.len];decide
   have hsT:=svT_inv inv (by decide) (l.getD k HDo.zero).at' (l.getD k HDo.zero).ep (l.getD k HDo.zero).g (l.getD k HDo.zero).t (l.getD k HDo.zero).f
   cases t0:(l.getD ((k:Int).toNat) HDo.zero).kind==0 with
   |true=>
    have hy:y=svS x (l.getD k HDo.zero).at' (l.getD k HDo.zero).ep (l.getD k HDo.zero).g (l.getD k HDo.zero).t (l.getD k HDo.zero).f:=by rw [hyk];simp only [Int.toNat_natCast] at t0;unfold qst;rw [t0];rfl
    obtain ⟨ps,h1,h2⟩:=hq_s a l x y (svE x (l.getD ((k:Int).toNat) HDo.zero).at' (l.getD ((k:Int).toNat) HDo.zero).ep (l.getD ((k:Int).toNat) HDo.zero).g (l.getD ((k:Int).toNat) HDo.zero).t (l.getD ((k:Int).toNat) HDo.zero).f) (ldV hrG y.L y.Q a) (ldV hrL y.L y.Q a) (ldV hrF y.L y.Q a) (ldB y.L y.Q a) (hwI (y.L.length:Int) a) k f hc hW hk1 t0 ⟨⟨hd.2.1.1,hd.2.2.1.1⟩,hd.2.2.2.1,hd.2.2.2.2.1,by have:=inv.k;omega,hsT.wq (by omega),by rw [inv.len];exact hsT.at',rfl,hy.symm⟩ (RSaveIs.mk rfl rfl rfl rfl ⟨5,2 * k,inv,by decide,by decide,by omega⟩ hd.2.2.2.2.2 ⟨hd.2.1.1,hd.2.2.1⟩ hd.2.2.2.1 hd.2.2.2.2.1 rfl hy.symm) hld ⟨hld,hn5⟩
    exact rnd_n (⟨Try.prog,[(36,ctrF Id' (C_saveX ((svE x (l.getD ((k:Int).toNat) HDo.zero).at' (l.getD ((k:Int).toNat) HDo.zero).ep (l.getD ((k:Int).toNat) HDo.zero).g (l.getD ((k:Int).toNat) HDo.zero).t (l.getD ((k:Int).toNat) HDo.zero).f)) y) hardD),(38,ctrF Id' (C_rsaveX x ((svE x (l.getD ((k:Int).toNat) HDo.zero).at' (l.getD ((k:Int).toNat) HDo.zero).ep (l.getD ((k:Int).toNat) HDo.zero).g (l.getD ((k:Int).toNat) HDo.zero).t (l.getD ((k:Int).toNat) HDo.zero).f)) y) hardD),(13,ctrV C_within hardD),(14,ctrF Id' C_sect hardD),(15,ctrF Id' (C_writeX y) hardD),(27,ctrF Id' (C_rwriteX x y) hardD),(30,ctrF Id' (C_fuseX y) hardD),(31,ctrF Id' (C_rarmX x y) hardD),(16,ctrF Id' (C_crashX y) hardD),(32,ctrF Id' (C_rcrashX x y) hardD),(35,ctrF Id' (C_loadX (ldV hrG y.L y.Q a) (ldV hrL y.L y.Q a) (ldV hrF y.L y.Q a) (ldB y.L y.Q a) (hwI (y.L.length:Int) a)) hardD),(39,ctrF Id' (C_rloadX (ldV hrG y.L y.Q a) (ldV hrL y.L y.Q a) (ldV hrF y.L y.Q a) (ldB y.L y.Q a) (hwI (y.L.length:Int) a)) hardD)],[],dkHo,Id'.one,60⟩:Sy Td) [] rfl ((fun (W0:World) (G:Nat→Prop)=>SyOk.mk2 Try.mixed dkHo_ok (FnsR.cons (R_saveX ((svE x (l.getD ((k:Int).toNat) HDo.zero).at' (l.getD ((k:Int).toNat) HDo.zero).ep (l.getD ((k:Int).toNat) HDo.zero).g (l.getD ((k:Int).toNat) HDo.zero).t (l.getD ((k:Int).toNat) HDo.zero).f)) y) (FnsR.cons (R_rsaveX x ((svE x (l.getD ((k:Int).toNat) HDo.zero).at' (l.getD ((k:Int).toNat) HDo.zero).ep (l.getD ((k:Int).toNat) HDo.zero).g (l.getD ((k:Int).toNat) HDo.zero).t (l.getD ((k:Int).toNat) HDo.zero).f)) y) (FnsR.cons (R_within) (FnsR.cons (R_sect) (FnsR.cons (R_writeX y) (FnsR.cons (R_rwriteX x y) (FnsR.cons (R_fuseX y) (FnsR.cons (R_rarmX x y) (FnsR.cons (R_crashX y) (FnsR.cons (R_rcrashX x y) (FnsR.cons (R_loadX (ldV hrG y.L y.Q a) (ldV hrL y.L y.Q a) (ldV hrF y.L y.Q a) (ldB y.L y.Q a) (hwI (y.L.length:Int) a)) (FnsR.cons (R_rloadX (ldV hrG y.L y.Q a) (ldV hrL y.L y.Q a) (ldV hrF y.L y.Q a) (ldB y.L y.Q a) (hwI (y.L.length:Int) a)) (FnsR.nil))))))))))))) EqsOk.nil) W0 G) (LpsOk.nil _) (fun w e h=>h) _ ps h1 h2 rfl (congrArg (fun y:DS=>([⟨.us (.ext (.shr 9 l.length (hdEl l))),false⟩,⟨.bx [.obj 2,.obj 7,.v (.int .i64 y.fu),.v (.bool y.fd),.v (.bool y.off)],true⟩,⟨.us (.ext (.flat (.secs y.L))),true⟩,⟨.dead,true⟩,⟨.bx [.obj 5,.obj 8,.v (.int .i64 (rOf y.fd y.fu)),.v (.bool y.off)],true⟩,⟨.us (.ext (.tab (.bs y.L))),true⟩,⟨.dead,true⟩,⟨.us (.ext (.flat (.pens y.Q))),true⟩,⟨.us (.ext (.tab (.wq 89 y.Q))),true⟩]:Mem Td)) hyf) (by omega) trivial
   |false=>
    cases t1:(l.getD ((k:Int).toNat) HDo.zero).kind==1 with
    |true=>
     have hy:y=wrS x.L.length (withI (l.getD k HDo.zero).at' 0 4) (sectO (l.getD k HDo.zero).b) x:=by rw [hyk];simp only [Int.toNat_natCast] at t0 t1;unfold qst;rw [t0,t1];rfl
     obtain ⟨ps,h1,h2⟩:=hq_w a l x y 0 (ldV hrG y.L y.Q a) (ldV hrL y.L y.Q a) (ldV hrF y.L y.Q a) (ldB y.L y.Q a) (hwI (y.L.length:Int) a) k f hc hW hk1 t0 t1 ⟨by have:=inv.k;omega,hy.symm⟩ ⟨⟨rfl,rfl,rfl,rfl,5,2 * k,inv,by decide,by decide,by omega⟩,hy.symm⟩ hld ⟨hld,hn5⟩
     exact rnd_n (⟨Try.prog,[(36,ctrF Id' (C_saveX (0) y) hardD),(38,ctrF Id' (C_rsaveX x (0) y) hardD),(13,ctrV C_within hardD),(14,ctrF Id' C_sect hardD),(15,ctrF Id' (C_writeX y) hardD),(27,ctrF Id' (C_rwriteX x y) hardD),(30,ctrF Id' (C_fuseX y) hardD),(31,ctrF Id' (C_rarmX x y) hardD),(16,ctrF Id' (C_crashX y) hardD),(32,ctrF Id' (C_rcrashX x y) hardD),(35,ctrF Id' (C_loadX (ldV hrG y.L y.Q a) (ldV hrL y.L y.Q a) (ldV hrF y.L y.Q a) (ldB y.L y.Q a) (hwI (y.L.length:Int) a)) hardD),(39,ctrF Id' (C_rloadX (ldV hrG y.L y.Q a) (ldV hrL y.L y.Q a) (ldV hrF y.L y.Q a) (ldB y.L y.Q a) (hwI (y.L.length:Int) a)) hardD)],[],dkHo,Id'.one,60⟩:Sy Td) [] rfl ((fun (W0:World) (G:Nat→Prop)=>SyOk.mk2 Try.mixed dkHo_ok (FnsR.cons (R_saveX (0) y) (FnsR.cons (R_rsaveX x (0) y) (FnsR.cons (R_within) (FnsR.cons (R_sect) (FnsR.cons (R_writeX y) (FnsR.cons (R_rwriteX x y) (FnsR.cons (R_fuseX y) (FnsR.cons (R_rarmX x y) (FnsR.cons (R_crashX y) (FnsR.cons (R_rcrashX x y) (FnsR.cons (R_loadX (ldV hrG y.L y.Q a) (ldV hrL y.L y.Q a) (ldV hrF y.L y.Q a) (ldB y.L y.Q a) (hwI (y.L.length:Int) a)) (FnsR.cons (R_rloadX (ldV hrG y.L y.Q a) (ldV hrL y.L y.Q a) (ldV hrF y.L y.Q a) (ldB y.L y.Q a) (hwI (y.L.length:Int) a)) (FnsR.nil))))))))))))) EqsOk.nil) W0 G) (LpsOk.nil _) (fun w e h=>h) _ ps h1 h2 rfl (congrArg (fun y:DS=>([⟨.us (.ext (.shr 9 l.length (hdEl l))),false⟩,⟨.bx [.obj 2,.obj 7,.v (.int .i64 y.fu),.v (.bool y.fd),.v (.bool y.off)],true⟩,⟨.us (.ext (.flat (.secs y.L))),true⟩,⟨.dead,true⟩,⟨.bx [.obj 5,.obj 8,.v (.int .i64 (rOf y.fd y.fu)),.v (.bool y.off)],true⟩,⟨.us (.ext (.tab (.bs y.L))),true⟩,⟨.dead,true⟩,⟨.us (.ext (.flat (.pens y.Q))),true⟩,⟨.us (.ext (.tab (.wq 89 y.Q))),true⟩]:Mem Td)) hyf) (by omega) trivial
    |false=>
     cases t2:(l.getD ((k:Int).toNat) HDo.zero).kind==2 with
     |true=>
      have hy:y=fuS x.L.length (l.getD k HDo.zero).n x:=by rw [hyk];simp only [Int.toNat_natCast] at t0 t1 t2;unfold qst;rw [t0,t1,t2];rfl
      obtain ⟨ps,h1,h2⟩:=hq_f a l x y 0 (ldV hrG y.L y.Q a) (ldV hrL y.L y.Q a) (ldV hrF y.L y.Q a) (ldB y.L y.Q a) (hwI (y.L.length:Int) a) k f hc hW hk1 t0 t1 t2 ⟨hy.symm⟩ ⟨⟨rfl,rfl,rfl,rfl,5,2 * k,inv,by decide,by decide,by omega⟩,hy.symm⟩ hld ⟨hld,hn5⟩
      exact rnd_n (⟨Try.prog,[(36,ctrF Id' (C_saveX (0) y) hardD),(38,ctrF Id' (C_rsaveX x (0) y) hardD),(13,ctrV C_within hardD),(14,ctrF Id' C_sect hardD),(15,ctrF Id' (C_writeX y) hardD),(27,ctrF Id' (C_rwriteX x y) hardD),(30,ctrF Id' (C_fuseX y) hardD),(31,ctrF Id' (C_rarmX x y) hardD),(16,ctrF Id' (C_crashX y) hardD),(32,ctrF Id' (C_rcrashX x y) hardD),(35,ctrF Id' (C_loadX (ldV hrG y.L y.Q a) (ldV hrL y.L y.Q a) (ldV hrF y.L y.Q a) (ldB y.L y.Q a) (hwI (y.L.length:Int) a)) hardD),(39,ctrF Id' (C_rloadX (ldV hrG y.L y.Q a) (ldV hrL y.L y.Q a) (ldV hrF y.L y.Q a) (ldB y.L y.Q a) (hwI (y.L.length:Int) a)) hardD)],[],dkHo,Id'.one,60⟩:Sy Td) [] rfl ((fun (W0:World) (G:Nat→Prop)=>SyOk.mk2 Try.mixed dkHo_ok (FnsR.cons (R_saveX (0) y) (FnsR.cons (R_rsaveX x (0) y) (FnsR.cons (R_within) (FnsR.cons (R_sect) (FnsR.cons (R_writeX y) (FnsR.cons (R_rwriteX x y) (FnsR.cons (R_fuseX y) (FnsR.cons (R_rarmX x y) (FnsR.cons (R_crashX y) (FnsR.cons (R_rcrashX x y) (FnsR.cons (R_loadX (ldV hrG y.L y.Q a) (ldV hrL y.L y.Q a) (ldV hrF y.L y.Q a) (ldB y.L y.Q a) (hwI (y.L.length:Int) a)) (FnsR.cons (R_rloadX (ldV hrG y.L y.Q a) (ldV hrL y.L y.Q a) (ldV hrF y.L y.Q a) (ldB y.L y.Q a) (hwI (y.L.length:Int) a)) (FnsR.nil))))))))))))) EqsOk.nil) W0 G) (LpsOk.nil _) (fun w e h=>h) _ ps h1 h2 rfl (congrArg (fun y:DS=>([⟨.us (.ext (.shr 9 l.length (hdEl l))),false⟩,⟨.bx [.obj 2,.obj 7,.v (.int .i64 y.fu),.v (.bool y.fd),.v (.bool y.off)],true⟩,⟨.us (.ext (.flat (.secs y.L))),true⟩,⟨.dead,true⟩,⟨.bx [.obj 5,.obj 8,.v (.int .i64 (rOf y.fd y.fu)),.v (.bool y.off)],true⟩,⟨.us (.ext (.tab (.bs y.L))),true⟩,⟨.dead,true⟩,⟨.us (.ext (.flat (.pens y.Q))),true⟩,⟨.us (.ext (.tab (.wq 89 y.Q))),true⟩]:Mem Td)) hyf) (by omega) trivial
     |false=>
      have hy:y=crS (l.getD k HDo.zero).ks (l.getD k HDo.zero).n x:=by rw [hyk];simp only [Int.toNat_natCast] at t0 t1 t2;unfold qst;rw [t0,t1,t2];rfl
      obtain ⟨ps,h1,h2⟩:=hq_c a l x y 0 (ldV hrG y.L y.Q a) (ldV hrL y.L y.Q a) (ldV hrF y.L y.Q a) (ldB y.L y.Q a) (hwI (y.L.length:Int) a) k f hc hW hk1 t0 t1 t2 ⟨inv.wq (by omega),by rw [inv.len];exact inv.at',by rw [inv.len];decide,hy.symm⟩ ⟨⟨rfl,rfl,rfl,rfl,5,2 * k,inv,by decide,by decide,by omega⟩,hy.symm⟩ hld ⟨hld,hn5⟩
      exact rnd_n (⟨Try.prog,[(36,ctrF Id' (C_saveX (0) y) hardD),(38,ctrF Id' (C_rsaveX x (0) y) hardD),(13,ctrV C_within hardD),(14,ctrF Id' C_sect hardD),(15,ctrF Id' (C_writeX y) hardD),(27,ctrF Id' (C_rwriteX x y) hardD),(30,ctrF Id' (C_fuseX y) hardD),(31,ctrF Id' (C_rarmX x y) hardD),(16,ctrF Id' (C_crashX y) hardD),(32,ctrF Id' (C_rcrashX x y) hardD),(35,ctrF Id' (C_loadX (ldV hrG y.L y.Q a) (ldV hrL y.L y.Q a) (ldV hrF y.L y.Q a) (ldB y.L y.Q a) (hwI (y.L.length:Int) a)) hardD),(39,ctrF Id' (C_rloadX (ldV hrG y.L y.Q a) (ldV hrL y.L y.Q a) (ldV hrF y.L y.Q a) (ldB y.L y.Q a) (hwI (y.L.length:Int) a)) hardD)],[],dkHo,Id'.one,60⟩:Sy Td) [] rfl ((fun (W0:World) (G:Nat→Prop)=>SyOk.mk2 Try.mixed dkHo_ok (FnsR.cons (R_saveX (0) y) (FnsR.cons (R_rsaveX x (0) y) (FnsR.cons (R_within) (FnsR.cons (R_sect) (FnsR.cons (R_writeX y) (FnsR.cons (R_rwriteX x y) (FnsR.cons (R_fuseX y) (FnsR.cons (R_rarmX x y) (FnsR.cons (R_crashX y) (FnsR.cons (R_rcrashX x y) (FnsR.cons (R_loadX (ldV hrG y.L y.Q a) (ldV hrL y.L y.Q a) (ldV hrF y.L y.Q a) (ldB y.L y.Q a) (hwI (y.L.length:Int) a)) (FnsR.cons (R_rloadX (ldV hrG y.L y.Q a) (ldV hrL y.L y.Q a) (ldV hrF y.L y.Q a) (ldB y.L y.Q a) (hwI (y.L.length:Int) a)) (FnsR.nil))))))))))))) EqsOk.nil) W0 G) (LpsOk.nil _) (fun w e h=>h) _ ps h1 h2 rfl (congrArg (fun y:DS=>([⟨.us (.ext (.shr 9 l.length (hdEl l))),false⟩,⟨.bx [.obj 2,.obj 7,.v (.int .i64 y.fu),.v (.bool y.fd),.v (.bool y.off)],true⟩,⟨.us (.ext (.flat (.secs y.L))),true⟩,⟨.dead,true⟩,⟨.bx [.obj 5,.obj 8,.v (.int .i64 (rOf y.fd y.fu)),.v (.bool y.off)],true⟩,⟨.us (.ext (.tab (.bs y.L))),true⟩,⟨.dead,true⟩,⟨.us (.ext (.flat (.pens y.Q))),true⟩,⟨.us (.ext (.tab (.wq 89 y.Q))),true⟩]:Mem Td)) hyf) (by omega) trivial
 ·revert hU
  match x with
  |.exit 0=>intro hU;simp only [Option.some.injEq] at hU;subst hU;exact hK
  |.normal=>intro hU;cases hU
  |.ret=>intro hU;cases hU
  |.exit (n+1)=>intro hU;cases hU
set_option maxRecDepth 100000 in
theorem hplays_w0 (a:Int) (l:List HDo) (L0:List (List UInt8)) (s0:DS) (h0:NewIs 5 L0) (h1:0=s0.fu) (h2:false=s0.fd) (h3:false=s0.off) (h4:L0=s0.L) (h5:[]=s0.Q) (h6:-1=rOf s0.fd s0.fu):∃ qs,wayO Id' ([⟨.us (.ext (.shr 9 l.length (hdEl l))),false⟩]:Mem Td).length [⟨.us (.ext (.shr 9 l.length (hdEl l))),false⟩] (svV (.bool true)) ((runFn (⟨Try.prog,[(23,ctrF Id' (C_newX L0) hardD),(24,ctrF Id' (C_rnewX L0) hardD),(37,ctrF Id' C_hlives hardD)],[],dkHo,Id'.one,60⟩:Sy Td) [(6,(lpG Id' 156 (hdC (loopsC (bodyOf Try.f8)) 0) 7 [(9,.c (.one (.v (.int .i64 ((0:Nat):Int)))))] [(0,.c (.one (.v (.int .i64 a)))),(1,.c (.one (.obj 0))),(5,.c (.one (.ptr 1 0))),(7,.c (.one (.ptr 4 0)))] [⟨.us (.ext (.shr 9 l.length (hdEl l))),false⟩,⟨.bx [.obj 2,.obj 7,.v (.int .i64 (qS l s0 0).fu),.v (.bool (qS l s0 0).fd),.v (.bool (qS l s0 0).off)],true⟩,⟨.us (.ext (.flat (.secs (qS l s0 0).L))),true⟩,⟨.dead,true⟩,⟨.bx [.obj 5,.obj 8,.v (.int .i64 (rOf (qS l s0 0).fd (qS l s0 0).fu)),.v (.bool (qS l s0 0).off)],true⟩,⟨.us (.ext (.tab (.bs (qS l s0 0).L))),true⟩,⟨.dead,true⟩,⟨.us (.ext (.flat (.pens (qS l s0 0).Q))),true⟩,⟨.us (.ext (.tab (.wq 89 (qS l s0 0).Q))),true⟩] (.leaf (.exit 0) [] [⟨.us (.ext (.shr 9 l.length (hdEl l))),false⟩,⟨.dead,true⟩,⟨.dead,true⟩,⟨.dead,true⟩,⟨.dead,true⟩,⟨.dead,true⟩,⟨.dead,true⟩])))] Try.f8 [.one (.v (.int .i64 a)),.one (.obj 0)] [⟨.us (.ext (.shr 9 l.length (hdEl l))),false⟩]).al [])=some qs∧∀ q∈qs,q:=
 ⟨[NewIs (5:Int) L0,NewIs (5:Int) L0,Value.int IntKind.i64 a=Value.int IntKind.i64 a,Th.ext (Dk.shr 9 l.length (hdEl l))=Th.ext (Dk.shr 9 l.length (hdEl l)),Value.int IntKind.i64 (Int.ofNat 0)=Value.int IntKind.i64 (qS l s0 (0:Nat)).fu,Value.bool false=Value.bool (qS l s0 (0:Nat)).fd,Value.bool false=Value.bool (qS l s0 (0:Nat)).off,Th.ext (Dk.flat (FL.secs L0))=Th.ext (Dk.flat (FL.secs (qS l s0 (0:Nat)).1)),Value.int IntKind.i64 (Int.negSucc 0)=Value.int IntKind.i64 (rOf (qS l s0 (0:Nat)).fd (qS l s0 (0:Nat)).fu),Value.bool false=Value.bool (qS l s0 (0:Nat)).off,Th.ext (Dk.tab (TB.bs L0))=Th.ext (Dk.tab (TB.bs (qS l s0 (0:Nat)).1)),Th.ext (Dk.flat (FL.pens []))=Th.ext (Dk.flat (FL.pens (qS l s0 (0:Nat)).2)),Th.ext (Dk.tab (TB.wq 89 []))=Th.ext (Dk.tab (TB.wq 89 (qS l s0 (0:Nat)).2)),Value.int IntKind.i64 (Int.ofNat 0)=Value.int IntKind.i64 (Int.ofNat (0:Nat)),Th.ext (Dk.shr 9 l.length (hdEl l))=Th.ext (Dk.shr 9 l.length (hdEl l)),Value.bool true=Value.bool true],by kernel_rfl,(by refine mcons ?_ (mcons ?_ (mcons ?_ (mcons ?_ (mcons ?_ (mcons ?_ (mcons ?_ (mcons ?_ (mcons ?_ (mcons ?_ (mcons ?_ (mcons ?_ (mcons ?_ (mcons ?_ (mcons ?_ (mcons ?_ mnil)))))))))))))))<;>first|rfl|exact h0|exact h1|exact h2|exact h3|exact h4|exact h5|exact h6|trivial|(exact congrArg _ h1)|(exact congrArg _ h2)|(exact congrArg _ h3)|(exact congrArg _ h4)|(exact congrArg _ h5)|(exact congrArg _ h6)|(exact congrArg (fun x=>Th.ext (Dk.flat (FL.secs x))) h4)|(exact congrArg (fun x=>Th.ext (Dk.flat (FL.pens x))) h5)|(exact congrArg (fun x=>Th.ext (Dk.tab (.bs x))) h4)|(exact congrArg (fun x=>Th.ext (Dk.tab (.wq 89 x))) h5))⟩
def hL5:List (List UInt8):=List.replicate 5 sec0
def hS5:DS:=⟨hL5,[],0,false,false⟩
theorem hnew5:NewIs 5 hL5:=⟨by decide,rfl⟩
theorem hplays_c (a:Int) (l:List HDo) (hl:∀ d∈l,HOk d):∀ w e vs,MemOk w (FootOf Id' w e [⟨.us (.ext (.shr 9 l.length (hdEl l))),false⟩]) Id' w e [⟨.us (.ext (.shr 9 l.length (hdEl l))),false⟩]→AllC e [.one (.v (.int .i64 a)),.one (.obj 0)] vs→
  Calls Try.prog 8 vs.toArray w (fun y w'=>∃ v e',y=.returned v∧Grows e e'∧(svV (.bool true)).is e' v∧MemOk w (FootOf Id' w e [⟨.us (.ext (.shr 9 l.length (hdEl l))),false⟩]) Id' w' e' [⟨.us (.ext (.shr 9 l.length (hdEl l))),false⟩]):=by
 intro w e vs hM ha
 exact ctr_way (I:=Id') (fun (W0:World) (G:Nat→Prop)=>SyOk.mk2 Try.mixed dkHo_ok (FnsR.cons (R_newX hL5) (FnsR.cons (R_rnewX hL5) (FnsR.cons (R_hlives) (FnsR.nil)))) EqsOk.nil) rfl Try.func8 (by kernel_rfl) (fun _ _=>LpsOk.cons (by kernel_rfl) (hq_lp a l hS5 hl (new0_inv 5) _ rfl) (LpsOk.nil _)) (cs:=[]) (by kernel_rfl) (hplays_w0 a l hL5 hS5 hnew5 rfl rfl rfl rfl rfl rfl) w e vs hM ha
theorem headPlays_calls (a:Int) (v:Value) (l:List HDo) (W:World) (_:-9223372036854775808≤a∧a≤9223372036854775807) (h:HDosIs W v l):Calls Try.prog 8 #[.int .i64 a,v] W fun e w'=>e=.returned (.bool true)∧Below W.heap.size W w':=by
 have hM:=args_us (args_nil Id' W) (fun n hn=>by cases hn) (b:=.ext (.shr 9 l.length (hdEl l))) (u:=v) h.1 (shr_lt' h.1)
 refine (hplays_c a l (fun d hd=>h.2 d hd) W [v] [.int .i64 a,v] hM ⟨rfl,rfl,trivial⟩).mono fun y w' ⟨u,e',h1,_,h2,h3⟩=>⟨h1.trans (congrArg _ h2),?_⟩
 have hx:Ext W w':=h3.mod.mono fun k _ hk=>by
  obtain ⟨i,_,n,_,hn,hmu,_⟩:=footE.1 hk
  cases i with
  |zero=>simp at hn;subst hn;cases hmu
  |succ i=>simp at hn
 exact hx.below
end Go.Proofs.Ytonomiljclemnaa

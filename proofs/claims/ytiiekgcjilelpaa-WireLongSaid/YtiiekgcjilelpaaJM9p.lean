/- JM8 JM9. -/
import Derived.Test.YtiiekgcjilelpaaJM7p
set_option linter.unusedSimpArgs false
set_option linter.unusedVariables false
namespace Go.Proofs.Ytiiekgcjilelpaa
open Go.RowKit
namespace Mm
structure Msg where
 (ty cl ss sq bo kd er f1 f2 d1 d2:Int)
 (nm ot:ByteArray)
 (mo pl:Int)
 (da:ByteArray)
 (ve:Int)
 (en:List Ent)
def eqS (a b:ByteArray):Bool:=a.toList==b.toList
def headSame (a b:Msg):Bool:=a.ty==b.ty&&a.cl==b.cl&&a.ss==b.ss&&a.sq==b.sq&&a.bo==b.bo&&a.kd==b.kd&&a.er==b.er
def fileSame (a b:Msg):Bool:=(a.f1==b.f1&&a.f2==b.f2)
def dirSame (a b:Msg):Bool:=(a.d1==b.d1&&a.d2==b.d2)
def filesSame (a b:Msg):Bool:=fileSame a b&&dirSame a b&&eqS a.nm b.nm&&eqS a.ot b.ot&&a.mo==b.mo
def sameR (a b:Msg):Bool:=headSame a b&&filesSame a b&&a.pl==b.pl&&eqS a.da b.da&&a.ve==b.ve&&sameE a.en b.en
def HI (x:Bool):Prop:=x=true
end Mm
namespace Mm
set_option maxRecDepth 100000 in
theorem rsm_c (ty cl ss sq bo kd er f1 f2 d1 d2:Int) (nm ot:ByteArray) (mo pl:Int) (da:ByteArray) (ve:Int) (en:List Ent) (v:Value) (ty' cl' ss' sq' bo' kd' er' f1' f2' d1' d2':Int) (nm' ot':ByteArray) (mo' pl':Int) (da':ByteArray) (ve':Int) (en':List Ent) (v':Value) (w:World) (hv:Es w v en) (hv':Es w v' en'):Calls Try.prog 40 #[.agg #[.int .i64 ty,.int .i64 cl,.int .u64 ss,.int .u64 sq,.int .u64 bo,.int .i64 kd,.int .i64 er,.int .i64 f1,.int .i64 f2,.int .i64 d1,.int .i64 d2,.string nm,.string ot,.int .i64 mo,.int .i64 pl,.string da,.int .u64 ve,v],.agg #[.int .i64 ty',.int .i64 cl',.int .u64 ss',.int .u64 sq',.int .u64 bo',.int .i64 kd',.int .i64 er',.int .i64 f1',.int .i64 f2',.int .i64 d1',.int .i64 d2',.string nm',.string ot',.int .i64 mo',.int .i64 pl',.string da',.int .u64 ve',v']] w fun e w'=>e=.returned (.bool (sameR (⟨ty,cl,ss,sq,bo,kd,er,f1,f2,d1,d2,nm,ot,mo,pl,da,ve,en⟩:Msg) (⟨ty',cl',ss',sq',bo',kd',er',f1',f2',d1',d2',nm',ot',mo',pl',da',ve',en'⟩:Msg)))∧Ext w w':=
 sym_b (S:=⟨Try.prog,[F_rsame],[E_file],noApp,labI.one,40⟩) (I:=labI) (L:=[]) (args:=[.agg [.v (.int .i64 ty),.v (.int .i64 cl),.v (.int .u64 ss),.v (.int .u64 sq),.v (.int .u64 bo),.v (.int .i64 kd),.v (.int .i64 er),.v (.int .i64 f1),.v (.int .i64 f2),.v (.int .i64 d1),.v (.int .i64 d2),.v (.string nm),.v (.string ot),.v (.int .i64 mo),.v (.int .i64 pl),.v (.string da),.v (.int .u64 ve),.obj 0],.agg [.v (.int .i64 ty'),.v (.int .i64 cl'),.v (.int .u64 ss'),.v (.int .u64 sq'),.v (.int .u64 bo'),.v (.int .i64 kd'),.v (.int .i64 er'),.v (.int .i64 f1'),.v (.int .i64 f2'),.v (.int .i64 d1'),.v (.int .i64 d2'),.v (.string nm'),.v (.string ot'),.v (.int .i64 mo'),.v (.int .i64 pl'),.v (.string da'),.v (.int .u64 ve'),.obj 1]]) (us:=[.agg #[.int .i64 ty,.int .i64 cl,.int .u64 ss,.int .u64 sq,.int .u64 bo,.int .i64 kd,.int .i64 er,.int .i64 f1,.int .i64 f2,.int .i64 d1,.int .i64 d2,.string nm,.string ot,.int .i64 mo,.int .i64 pl,.string da,.int .u64 ve,v],.agg #[.int .i64 ty',.int .i64 cl',.int .u64 ss',.int .u64 sq',.int .u64 bo',.int .i64 kd',.int .i64 er',.int .i64 f1',.int .i64 f2',.int .i64 d1',.int .i64 d2',.string nm',.string ot',.int .i64 mo',.int .i64 pl',.string da',.int .u64 ve',v']]) (e:=[v,v']) (mem:=[enS en,enS en']) (SyOk.mk' Try.mixed (F_rsame_ok (FnsOk.nil)) (E_file_ok (EqsOk.nil))) Try.func40 (by kernel_rfl) (LpsOk.nil _) ⟨⟨[.int .i64 ty,.int .i64 cl,.int .u64 ss,.int .u64 sq,.int .u64 bo,.int .i64 kd,.int .i64 er,.int .i64 f1,.int .i64 f2,.int .i64 d1,.int .i64 d2,.string nm,.string ot,.int .i64 mo,.int .i64 pl,.string da,.int .u64 ve,v],⟨rfl,rfl,rfl,rfl,rfl,rfl,rfl,rfl,rfl,rfl,rfl,rfl,rfl,rfl,rfl,rfl,rfl,rfl,trivial⟩,rfl⟩,⟨[.int .i64 ty',.int .i64 cl',.int .u64 ss',.int .u64 sq',.int .u64 bo',.int .i64 kd',.int .i64 er',.int .i64 f1',.int .i64 f2',.int .i64 d1',.int .i64 d2',.string nm',.string ot',.int .i64 mo',.int .i64 pl',.string da',.int .u64 ve',v'],⟨rfl,rfl,rfl,rfl,rfl,rfl,rfl,rfl,rfl,rfl,rfl,rfl,rfl,rfl,rfl,rfl,rfl,rfl,trivial⟩,rfl⟩,trivial⟩ (by kernel_rfl) (memOk_es2 hv hv') [((headSame (⟨ty,cl,ss,sq,bo,kd,er,f1,f2,d1,d2,nm,ot,mo,pl,da,ve,en⟩:Msg) (⟨ty',cl',ss',sq',bo',kd',er',f1',f2',d1',d2',nm',ot',mo',pl',da',ve',en'⟩:Msg)&&filesSame (⟨ty,cl,ss,sq,bo,kd,er,f1,f2,d1,d2,nm,ot,mo,pl,da,ve,en⟩:Msg) (⟨ty',cl',ss',sq',bo',kd',er',f1',f2',d1',d2',nm',ot',mo',pl',da',ve',en'⟩:Msg)&&pl==pl'&&eqS da da'&&ve==ve')&&true)=true→entKS en=entKS en,((headSame (⟨ty,cl,ss,sq,bo,kd,er,f1,f2,d1,d2,nm,ot,mo,pl,da,ve,en⟩:Msg) (⟨ty',cl',ss',sq',bo',kd',er',f1',f2',d1',d2',nm',ot',mo',pl',da',ve',en'⟩:Msg)&&filesSame (⟨ty,cl,ss,sq,bo,kd,er,f1,f2,d1,d2,nm,ot,mo,pl,da,ve,en⟩:Msg) (⟨ty',cl',ss',sq',bo',kd',er',f1',f2',d1',d2',nm',ot',mo',pl',da',ve',en'⟩:Msg)&&pl==pl'&&eqS da da'&&ve==ve')&&true)=true→entKS en'=entKS en'] (by kernel_rfl) (by kernel_rfl) ((mcons (fun _=>rfl) (mcons (fun _=>rfl) mnil)))
end Mm
end Go.Proofs.Ytiiekgcjilelpaa

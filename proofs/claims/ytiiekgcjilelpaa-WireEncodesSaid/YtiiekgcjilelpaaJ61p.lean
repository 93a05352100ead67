/- J61. -/
import Derived.Test.YtiiekgcjilelpaaJ60p
set_option linter.unusedSimpArgs false
set_option linter.unusedVariables false
namespace Go.Proofs.Ytiiekgcjilelpaa
open Go.RowKit
theorem let_nil:Mm.hasL (⟨#[]⟩:ByteArray) 102=false∧Mm.hasL (⟨#[]⟩:ByteArray) 100=false∧Mm.hasL (⟨#[]⟩:ByteArray) 110=false∧Mm.hasL (⟨#[]⟩:ByteArray) 111=false∧Mm.hasL (⟨#[]⟩:ByteArray) 107=false∧Mm.hasL (⟨#[]⟩:ByteArray) 97=false∧Mm.hasL (⟨#[]⟩:ByteArray) 116=false∧Mm.hasL (⟨#[]⟩:ByteArray) 118=false∧Mm.hasL (⟨#[]⟩:ByteArray) 101=false:=by decide +kernel
theorem ydm (q:MQ):docS (⟨#[]⟩:ByteArray) q=docT false false false false false false false false false q:=by
 obtain ⟨h1,h2,h3,h4,h5,h6,h7,h8,h9⟩:=let_nil
 unfold docS
 rw [h1,h2,h3,h4,h5,h6,h7,h8,h9]
theorem let_dn:Mm.hasL (⟨#[100,110]⟩:ByteArray) 102=false∧Mm.hasL (⟨#[100,110]⟩:ByteArray) 100=true∧Mm.hasL (⟨#[100,110]⟩:ByteArray) 110=true∧Mm.hasL (⟨#[100,110]⟩:ByteArray) 111=false∧Mm.hasL (⟨#[100,110]⟩:ByteArray) 107=false∧Mm.hasL (⟨#[100,110]⟩:ByteArray) 97=false∧Mm.hasL (⟨#[100,110]⟩:ByteArray) 116=false∧Mm.hasL (⟨#[100,110]⟩:ByteArray) 118=false∧Mm.hasL (⟨#[100,110]⟩:ByteArray) 101=false:=by decide +kernel
theorem docS_dn (q:MQ):docS (⟨#[100,110]⟩:ByteArray) q=docT false true true false false false false false false q:=by
 obtain ⟨h1,h2,h3,h4,h5,h6,h7,h8,h9⟩:=let_dn
 unfold docS
 rw [h1,h2,h3,h4,h5,h6,h7,h8,h9]
theorem let_dnk:Mm.hasL (⟨#[100,110,107]⟩:ByteArray) 102=false∧Mm.hasL (⟨#[100,110,107]⟩:ByteArray) 100=true∧Mm.hasL (⟨#[100,110,107]⟩:ByteArray) 110=true∧Mm.hasL (⟨#[100,110,107]⟩:ByteArray) 111=false∧Mm.hasL (⟨#[100,110,107]⟩:ByteArray) 107=true∧Mm.hasL (⟨#[100,110,107]⟩:ByteArray) 97=false∧Mm.hasL (⟨#[100,110,107]⟩:ByteArray) 116=false∧Mm.hasL (⟨#[100,110,107]⟩:ByteArray) 118=false∧Mm.hasL (⟨#[100,110,107]⟩:ByteArray) 101=false:=by decide +kernel
theorem docS_dnk (q:MQ):docS (⟨#[100,110,107]⟩:ByteArray) q=docT false true true false true false false false false q:=by
 obtain ⟨h1,h2,h3,h4,h5,h6,h7,h8,h9⟩:=let_dnk
 unfold docS
 rw [h1,h2,h3,h4,h5,h6,h7,h8,h9]
theorem let_dnfo:Mm.hasL (⟨#[100,110,102,111]⟩:ByteArray) 102=true∧Mm.hasL (⟨#[100,110,102,111]⟩:ByteArray) 100=true∧Mm.hasL (⟨#[100,110,102,111]⟩:ByteArray) 110=true∧Mm.hasL (⟨#[100,110,102,111]⟩:ByteArray) 111=true∧Mm.hasL (⟨#[100,110,102,111]⟩:ByteArray) 107=false∧Mm.hasL (⟨#[100,110,102,111]⟩:ByteArray) 97=false∧Mm.hasL (⟨#[100,110,102,111]⟩:ByteArray) 116=false∧Mm.hasL (⟨#[100,110,102,111]⟩:ByteArray) 118=false∧Mm.hasL (⟨#[100,110,102,111]⟩:ByteArray) 101=false:=by decide +kernel
theorem docS_dnfo (q:MQ):docS (⟨#[100,110,102,111]⟩:ByteArray) q=docT true true true true false false false false false q:=by
 obtain ⟨h1,h2,h3,h4,h5,h6,h7,h8,h9⟩:=let_dnfo
 unfold docS
 rw [h1,h2,h3,h4,h5,h6,h7,h8,h9]
theorem let_d:Mm.hasL (⟨#[100]⟩:ByteArray) 102=false∧Mm.hasL (⟨#[100]⟩:ByteArray) 100=true∧Mm.hasL (⟨#[100]⟩:ByteArray) 110=false∧Mm.hasL (⟨#[100]⟩:ByteArray) 111=false∧Mm.hasL (⟨#[100]⟩:ByteArray) 107=false∧Mm.hasL (⟨#[100]⟩:ByteArray) 97=false∧Mm.hasL (⟨#[100]⟩:ByteArray) 116=false∧Mm.hasL (⟨#[100]⟩:ByteArray) 118=false∧Mm.hasL (⟨#[100]⟩:ByteArray) 101=false:=by decide +kernel
theorem docS_d (q:MQ):docS (⟨#[100]⟩:ByteArray) q=docT false true false false false false false false false q:=by
 obtain ⟨h1,h2,h3,h4,h5,h6,h7,h8,h9⟩:=let_d
 unfold docS
 rw [h1,h2,h3,h4,h5,h6,h7,h8,h9]
theorem let_f:Mm.hasL (⟨#[102]⟩:ByteArray) 102=true∧Mm.hasL (⟨#[102]⟩:ByteArray) 100=false∧Mm.hasL (⟨#[102]⟩:ByteArray) 110=false∧Mm.hasL (⟨#[102]⟩:ByteArray) 111=false∧Mm.hasL (⟨#[102]⟩:ByteArray) 107=false∧Mm.hasL (⟨#[102]⟩:ByteArray) 97=false∧Mm.hasL (⟨#[102]⟩:ByteArray) 116=false∧Mm.hasL (⟨#[102]⟩:ByteArray) 118=false∧Mm.hasL (⟨#[102]⟩:ByteArray) 101=false:=by decide +kernel
theorem yui (q:MQ):docS (⟨#[102]⟩:ByteArray) q=docT true false false false false false false false false q:=by
 obtain ⟨h1,h2,h3,h4,h5,h6,h7,h8,h9⟩:=let_f
 unfold docS
 rw [h1,h2,h3,h4,h5,h6,h7,h8,h9]
theorem let_fk:Mm.hasL (⟨#[102,107]⟩:ByteArray) 102=true∧Mm.hasL (⟨#[102,107]⟩:ByteArray) 100=false∧Mm.hasL (⟨#[102,107]⟩:ByteArray) 110=false∧Mm.hasL (⟨#[102,107]⟩:ByteArray) 111=false∧Mm.hasL (⟨#[102,107]⟩:ByteArray) 107=true∧Mm.hasL (⟨#[102,107]⟩:ByteArray) 97=false∧Mm.hasL (⟨#[102,107]⟩:ByteArray) 116=false∧Mm.hasL (⟨#[102,107]⟩:ByteArray) 118=false∧Mm.hasL (⟨#[102,107]⟩:ByteArray) 101=false:=by decide +kernel
theorem ysq (q:MQ):docS (⟨#[102,107]⟩:ByteArray) q=docT true false false false true false false false false q:=by
 obtain ⟨h1,h2,h3,h4,h5,h6,h7,h8,h9⟩:=let_fk
 unfold docS
 rw [h1,h2,h3,h4,h5,h6,h7,h8,h9]
theorem let_fa:Mm.hasL (⟨#[102,97]⟩:ByteArray) 102=true∧Mm.hasL (⟨#[102,97]⟩:ByteArray) 100=false∧Mm.hasL (⟨#[102,97]⟩:ByteArray) 110=false∧Mm.hasL (⟨#[102,97]⟩:ByteArray) 111=false∧Mm.hasL (⟨#[102,97]⟩:ByteArray) 107=false∧Mm.hasL (⟨#[102,97]⟩:ByteArray) 97=true∧Mm.hasL (⟨#[102,97]⟩:ByteArray) 116=false∧Mm.hasL (⟨#[102,97]⟩:ByteArray) 118=false∧Mm.hasL (⟨#[102,97]⟩:ByteArray) 101=false:=by decide +kernel
theorem docS_fa (q:MQ):docS (⟨#[102,97]⟩:ByteArray) q=docT true false false false false true false false false q:=by
 obtain ⟨h1,h2,h3,h4,h5,h6,h7,h8,h9⟩:=let_fa
 unfold docS
 rw [h1,h2,h3,h4,h5,h6,h7,h8,h9]
theorem let_fat:Mm.hasL (⟨#[102,97,116]⟩:ByteArray) 102=true∧Mm.hasL (⟨#[102,97,116]⟩:ByteArray) 100=false∧Mm.hasL (⟨#[102,97,116]⟩:ByteArray) 110=false∧Mm.hasL (⟨#[102,97,116]⟩:ByteArray) 111=false∧Mm.hasL (⟨#[102,97,116]⟩:ByteArray) 107=false∧Mm.hasL (⟨#[102,97,116]⟩:ByteArray) 97=true∧Mm.hasL (⟨#[102,97,116]⟩:ByteArray) 116=true∧Mm.hasL (⟨#[102,97,116]⟩:ByteArray) 118=false∧Mm.hasL (⟨#[102,97,116]⟩:ByteArray) 101=false:=by decide +kernel
theorem docS_fat (q:MQ):docS (⟨#[102,97,116]⟩:ByteArray) q=docT true false false false false true true false false q:=by
 obtain ⟨h1,h2,h3,h4,h5,h6,h7,h8,h9⟩:=let_fat
 unfold docS
 rw [h1,h2,h3,h4,h5,h6,h7,h8,h9]
theorem let_v:Mm.hasL (⟨#[118]⟩:ByteArray) 102=false∧Mm.hasL (⟨#[118]⟩:ByteArray) 100=false∧Mm.hasL (⟨#[118]⟩:ByteArray) 110=false∧Mm.hasL (⟨#[118]⟩:ByteArray) 111=false∧Mm.hasL (⟨#[118]⟩:ByteArray) 107=false∧Mm.hasL (⟨#[118]⟩:ByteArray) 97=false∧Mm.hasL (⟨#[118]⟩:ByteArray) 116=false∧Mm.hasL (⟨#[118]⟩:ByteArray) 118=true∧Mm.hasL (⟨#[118]⟩:ByteArray) 101=false:=by decide +kernel
theorem yuh (q:MQ):docS (⟨#[118]⟩:ByteArray) q=docT false false false false false false false true false q:=by
 obtain ⟨h1,h2,h3,h4,h5,h6,h7,h8,h9⟩:=let_v
 unfold docS
 rw [h1,h2,h3,h4,h5,h6,h7,h8,h9]
theorem let_tv:Mm.hasL (⟨#[116,118]⟩:ByteArray) 102=false∧Mm.hasL (⟨#[116,118]⟩:ByteArray) 100=false∧Mm.hasL (⟨#[116,118]⟩:ByteArray) 110=false∧Mm.hasL (⟨#[116,118]⟩:ByteArray) 111=false∧Mm.hasL (⟨#[116,118]⟩:ByteArray) 107=false∧Mm.hasL (⟨#[116,118]⟩:ByteArray) 97=false∧Mm.hasL (⟨#[116,118]⟩:ByteArray) 116=true∧Mm.hasL (⟨#[116,118]⟩:ByteArray) 118=true∧Mm.hasL (⟨#[116,118]⟩:ByteArray) 101=false:=by decide +kernel
theorem docS_tv (q:MQ):docS (⟨#[116,118]⟩:ByteArray) q=docT false false false false false false true true false q:=by
 obtain ⟨h1,h2,h3,h4,h5,h6,h7,h8,h9⟩:=let_tv
 unfold docS
 rw [h1,h2,h3,h4,h5,h6,h7,h8,h9]
theorem let_e:Mm.hasL (⟨#[101]⟩:ByteArray) 102=false∧Mm.hasL (⟨#[101]⟩:ByteArray) 100=false∧Mm.hasL (⟨#[101]⟩:ByteArray) 110=false∧Mm.hasL (⟨#[101]⟩:ByteArray) 111=false∧Mm.hasL (⟨#[101]⟩:ByteArray) 107=false∧Mm.hasL (⟨#[101]⟩:ByteArray) 97=false∧Mm.hasL (⟨#[101]⟩:ByteArray) 116=false∧Mm.hasL (⟨#[101]⟩:ByteArray) 118=false∧Mm.hasL (⟨#[101]⟩:ByteArray) 101=true:=by decide +kernel
theorem docS_e (q:MQ):docS (⟨#[101]⟩:ByteArray) q=docT false false false false false false false false true q:=by
 obtain ⟨h1,h2,h3,h4,h5,h6,h7,h8,h9⟩:=let_e
 unfold docS
 rw [h1,h2,h3,h4,h5,h6,h7,h8,h9]
theorem in_k {x:Int} (h:x=1∨x=2):0≤x∧x<((2 ^ 2:Nat):Int):=by
 have:((2 ^ 2:Nat):Int)=4:=by decide
 rw [this];omega
theorem in_a {x:Int} (h:0≤x∧x≤7):0≤x∧x<((2 ^ 3:Nat):Int):=by
 have:((2 ^ 3:Nat):Int)=8:=by decide
 rw [this];omega
theorem in_v {x:Int} (h:x≤1099511627775):x.toNat<2 ^ 40:=by
 have:(2:Nat) ^ 40=1099511627776:=by decide
 rw [this];omega
theorem bo_R (cl ss sq bo f1 f2 d1 d2:Int) (nm ot:ByteArray) (mo pl:Int) (da:ByteArray) (ve:Int) (R:List Rw) (h:Hd (⟨3,cl,ss,sq,bo,0,0,f1,f2,d1,d2,nm,ot,mo,pl,da,ve,R⟩:MQ)) (j:Just (⟨3,cl,ss,sq,bo,0,0,f1,f2,d1,d2,nm,ot,mo,pl,da,ve,R⟩:MQ) ((⟨3,cl,ss,sq,bo,0,0,f1,f2,d1,d2,nm,ot,mo,pl,da,ve,R⟩:MQ)).s):Wb (boW (hdW 3 cl ss sq bo 0 0) 3 cl ss sq bo 0 0 f1 f2 d1 d2 nm ot mo pl da ve) (docB (⟨3,cl,ss,sq,bo,0,0,f1,f2,d1,d2,nm,ot,mo,pl,da,ve,R⟩:MQ)):=by
 have es:((⟨3,cl,ss,sq,bo,0,0,f1,f2,d1,d2,nm,ot,mo,pl,da,ve,R⟩:MQ)).s=(⟨#[102]⟩:ByteArray):=by kernel_rfl
 have hw:boW (hdW 3 cl ss sq bo 0 0) 3 cl ss sq bo 0 0 f1 f2 d1 d2 nm ot mo pl da ve=(fiW (hdW 3 cl ss sq bo 0 0) f1 f2):=by kernel_rfl
 rw [es] at j
 rw [docB,es,yui,hw]
 have hh:=Wb.hd h
 exact (hh.fi (j.f let_f.1))
theorem bo_A1 (cl ss sq bo f1 f2 d1 d2:Int) (nm ot:ByteArray) (mo pl:Int) (da:ByteArray) (ve:Int) (R:List Rw) (h:Hd (⟨1,cl,ss,sq,bo,1,0,f1,f2,d1,d2,nm,ot,mo,pl,da,ve,R⟩:MQ)) (j:Just (⟨1,cl,ss,sq,bo,1,0,f1,f2,d1,d2,nm,ot,mo,pl,da,ve,R⟩:MQ) ((⟨1,cl,ss,sq,bo,1,0,f1,f2,d1,d2,nm,ot,mo,pl,da,ve,R⟩:MQ)).s):Wb (boW (hdW 1 cl ss sq bo 1 0) 1 cl ss sq bo 1 0 f1 f2 d1 d2 nm ot mo pl da ve) (docB (⟨1,cl,ss,sq,bo,1,0,f1,f2,d1,d2,nm,ot,mo,pl,da,ve,R⟩:MQ)):=by
 have es:((⟨1,cl,ss,sq,bo,1,0,f1,f2,d1,d2,nm,ot,mo,pl,da,ve,R⟩:MQ)).s=(⟨#[]⟩:ByteArray):=by kernel_rfl
 have hw:boW (hdW 1 cl ss sq bo 1 0) 1 cl ss sq bo 1 0 f1 f2 d1 d2 nm ot mo pl da ve=(hdW 1 cl ss sq bo 1 0):=by kernel_rfl
 rw [es] at j
 rw [docB,es,ydm,hw]
 have hh:=Wb.hd h
 exact hh
theorem bo_A2 (cl ss sq bo f1 f2 d1 d2:Int) (nm ot:ByteArray) (mo pl:Int) (da:ByteArray) (ve:Int) (R:List Rw) (h:Hd (⟨1,cl,ss,sq,bo,2,0,f1,f2,d1,d2,nm,ot,mo,pl,da,ve,R⟩:MQ)) (j:Just (⟨1,cl,ss,sq,bo,2,0,f1,f2,d1,d2,nm,ot,mo,pl,da,ve,R⟩:MQ) ((⟨1,cl,ss,sq,bo,2,0,f1,f2,d1,d2,nm,ot,mo,pl,da,ve,R⟩:MQ)).s):Wb (boW (hdW 1 cl ss sq bo 2 0) 1 cl ss sq bo 2 0 f1 f2 d1 d2 nm ot mo pl da ve) (docB (⟨1,cl,ss,sq,bo,2,0,f1,f2,d1,d2,nm,ot,mo,pl,da,ve,R⟩:MQ)):=by
 have es:((⟨1,cl,ss,sq,bo,2,0,f1,f2,d1,d2,nm,ot,mo,pl,da,ve,R⟩:MQ)).s=(⟨#[]⟩:ByteArray):=by kernel_rfl
 have hw:boW (hdW 1 cl ss sq bo 2 0) 1 cl ss sq bo 2 0 f1 f2 d1 d2 nm ot mo pl da ve=(hdW 1 cl ss sq bo 2 0):=by kernel_rfl
 rw [es] at j
 rw [docB,es,ydm,hw]
 have hh:=Wb.hd h
 exact hh
theorem bo_A3 (cl ss sq bo f1 f2 d1 d2:Int) (nm ot:ByteArray) (mo pl:Int) (da:ByteArray) (ve:Int) (R:List Rw) (h:Hd (⟨1,cl,ss,sq,bo,3,0,f1,f2,d1,d2,nm,ot,mo,pl,da,ve,R⟩:MQ)) (j:Just (⟨1,cl,ss,sq,bo,3,0,f1,f2,d1,d2,nm,ot,mo,pl,da,ve,R⟩:MQ) ((⟨1,cl,ss,sq,bo,3,0,f1,f2,d1,d2,nm,ot,mo,pl,da,ve,R⟩:MQ)).s):Wb (boW (hdW 1 cl ss sq bo 3 0) 1 cl ss sq bo 3 0 f1 f2 d1 d2 nm ot mo pl da ve) (docB (⟨1,cl,ss,sq,bo,3,0,f1,f2,d1,d2,nm,ot,mo,pl,da,ve,R⟩:MQ)):=by
 have es:((⟨1,cl,ss,sq,bo,3,0,f1,f2,d1,d2,nm,ot,mo,pl,da,ve,R⟩:MQ)).s=(⟨#[100,110]⟩:ByteArray):=by kernel_rfl
 have hw:boW (hdW 1 cl ss sq bo 3 0) 1 cl ss sq bo 3 0 f1 f2 d1 d2 nm ot mo pl da ve=((fiW (hdW 1 cl ss sq bo 3 0) d1 d2).text nm):=by kernel_rfl
 rw [es] at j
 rw [docB,es,docS_dn,hw]
 have hh:=Wb.hd h
 exact ((hh.fi (j.d let_dn.2.1)).text nm)
theorem bo_A4 (cl ss sq bo f1 f2 d1 d2:Int) (nm ot:ByteArray) (mo pl:Int) (da:ByteArray) (ve:Int) (R:List Rw) (h:Hd (⟨1,cl,ss,sq,bo,4,0,f1,f2,d1,d2,nm,ot,mo,pl,da,ve,R⟩:MQ)) (j:Just (⟨1,cl,ss,sq,bo,4,0,f1,f2,d1,d2,nm,ot,mo,pl,da,ve,R⟩:MQ) ((⟨1,cl,ss,sq,bo,4,0,f1,f2,d1,d2,nm,ot,mo,pl,da,ve,R⟩:MQ)).s):Wb (boW (hdW 1 cl ss sq bo 4 0) 1 cl ss sq bo 4 0 f1 f2 d1 d2 nm ot mo pl da ve) (docB (⟨1,cl,ss,sq,bo,4,0,f1,f2,d1,d2,nm,ot,mo,pl,da,ve,R⟩:MQ)):=by
 have es:((⟨1,cl,ss,sq,bo,4,0,f1,f2,d1,d2,nm,ot,mo,pl,da,ve,R⟩:MQ)).s=(⟨#[100,110,107]⟩:ByteArray):=by kernel_rfl
 have hw:boW (hdW 1 cl ss sq bo 4 0) 1 cl ss sq bo 4 0 f1 f2 d1 d2 nm ot mo pl da ve=(((fiW (hdW 1 cl ss sq bo 4 0) d1 d2).text nm).put (IntKind.u64.wrap mo) 2):=by kernel_rfl
 rw [es] at j
 rw [docB,es,docS_dnk,hw]
 have hh:=Wb.hd h
 exact (((hh.fi (j.d let_dnk.2.1)).text nm).putI (x:=mo) (w:=2) (by decide) (in_k (j.k let_dnk.2.2.2.2.1)))
theorem bo_A5 (cl ss sq bo f1 f2 d1 d2:Int) (nm ot:ByteArray) (mo pl:Int) (da:ByteArray) (ve:Int) (R:List Rw) (h:Hd (⟨1,cl,ss,sq,bo,5,0,f1,f2,d1,d2,nm,ot,mo,pl,da,ve,R⟩:MQ)) (j:Just (⟨1,cl,ss,sq,bo,5,0,f1,f2,d1,d2,nm,ot,mo,pl,da,ve,R⟩:MQ) ((⟨1,cl,ss,sq,bo,5,0,f1,f2,d1,d2,nm,ot,mo,pl,da,ve,R⟩:MQ)).s):Wb (boW (hdW 1 cl ss sq bo 5 0) 1 cl ss sq bo 5 0 f1 f2 d1 d2 nm ot mo pl da ve) (docB (⟨1,cl,ss,sq,bo,5,0,f1,f2,d1,d2,nm,ot,mo,pl,da,ve,R⟩:MQ)):=by
 have es:((⟨1,cl,ss,sq,bo,5,0,f1,f2,d1,d2,nm,ot,mo,pl,da,ve,R⟩:MQ)).s=(⟨#[100,110]⟩:ByteArray):=by kernel_rfl
 have hw:boW (hdW 1 cl ss sq bo 5 0) 1 cl ss sq bo 5 0 f1 f2 d1 d2 nm ot mo pl da ve=((fiW (hdW 1 cl ss sq bo 5 0) d1 d2).text nm):=by kernel_rfl
 rw [es] at j
 rw [docB,es,docS_dn,hw]
 have hh:=Wb.hd h
 exact ((hh.fi (j.d let_dn.2.1)).text nm)
theorem bo_A6 (cl ss sq bo f1 f2 d1 d2:Int) (nm ot:ByteArray) (mo pl:Int) (da:ByteArray) (ve:Int) (R:List Rw) (h:Hd (⟨1,cl,ss,sq,bo,6,0,f1,f2,d1,d2,nm,ot,mo,pl,da,ve,R⟩:MQ)) (j:Just (⟨1,cl,ss,sq,bo,6,0,f1,f2,d1,d2,nm,ot,mo,pl,da,ve,R⟩:MQ) ((⟨1,cl,ss,sq,bo,6,0,f1,f2,d1,d2,nm,ot,mo,pl,da,ve,R⟩:MQ)).s):Wb (boW (hdW 1 cl ss sq bo 6 0) 1 cl ss sq bo 6 0 f1 f2 d1 d2 nm ot mo pl da ve) (docB (⟨1,cl,ss,sq,bo,6,0,f1,f2,d1,d2,nm,ot,mo,pl,da,ve,R⟩:MQ)):=by
 have es:((⟨1,cl,ss,sq,bo,6,0,f1,f2,d1,d2,nm,ot,mo,pl,da,ve,R⟩:MQ)).s=(⟨#[100,110,102,111]⟩:ByteArray):=by kernel_rfl
 have hw:boW (hdW 1 cl ss sq bo 6 0) 1 cl ss sq bo 6 0 f1 f2 d1 d2 nm ot mo pl da ve=(((fiW (fiW (hdW 1 cl ss sq bo 6 0) f1 f2) d1 d2).text nm).text ot):=by kernel_rfl
 rw [es] at j
 rw [docB,es,docS_dnfo,hw]
 have hh:=Wb.hd h
 exact ((((hh.fi (j.f let_dnfo.1)).fi (j.d let_dnfo.2.1)).text nm).text ot)
theorem bo_A7 (cl ss sq bo f1 f2 d1 d2:Int) (nm ot:ByteArray) (mo pl:Int) (da:ByteArray) (ve:Int) (R:List Rw) (h:Hd (⟨1,cl,ss,sq,bo,7,0,f1,f2,d1,d2,nm,ot,mo,pl,da,ve,R⟩:MQ)) (j:Just (⟨1,cl,ss,sq,bo,7,0,f1,f2,d1,d2,nm,ot,mo,pl,da,ve,R⟩:MQ) ((⟨1,cl,ss,sq,bo,7,0,f1,f2,d1,d2,nm,ot,mo,pl,da,ve,R⟩:MQ)).s):Wb (boW (hdW 1 cl ss sq bo 7 0) 1 cl ss sq bo 7 0 f1 f2 d1 d2 nm ot mo pl da ve) (docB (⟨1,cl,ss,sq,bo,7,0,f1,f2,d1,d2,nm,ot,mo,pl,da,ve,R⟩:MQ)):=by
 have es:((⟨1,cl,ss,sq,bo,7,0,f1,f2,d1,d2,nm,ot,mo,pl,da,ve,R⟩:MQ)).s=(⟨#[100]⟩:ByteArray):=by kernel_rfl
 have hw:boW (hdW 1 cl ss sq bo 7 0) 1 cl ss sq bo 7 0 f1 f2 d1 d2 nm ot mo pl da ve=(fiW (hdW 1 cl ss sq bo 7 0) d1 d2):=by kernel_rfl
 rw [es] at j
 rw [docB,es,docS_d,hw]
 have hh:=Wb.hd h
 exact (hh.fi (j.d let_d.2.1))
theorem bo_A8 (cl ss sq bo f1 f2 d1 d2:Int) (nm ot:ByteArray) (mo pl:Int) (da:ByteArray) (ve:Int) (R:List Rw) (h:Hd (⟨1,cl,ss,sq,bo,8,0,f1,f2,d1,d2,nm,ot,mo,pl,da,ve,R⟩:MQ)) (j:Just (⟨1,cl,ss,sq,bo,8,0,f1,f2,d1,d2,nm,ot,mo,pl,da,ve,R⟩:MQ) ((⟨1,cl,ss,sq,bo,8,0,f1,f2,d1,d2,nm,ot,mo,pl,da,ve,R⟩:MQ)).s):Wb (boW (hdW 1 cl ss sq bo 8 0) 1 cl ss sq bo 8 0 f1 f2 d1 d2 nm ot mo pl da ve) (docB (⟨1,cl,ss,sq,bo,8,0,f1,f2,d1,d2,nm,ot,mo,pl,da,ve,R⟩:MQ)):=by
 have es:((⟨1,cl,ss,sq,bo,8,0,f1,f2,d1,d2,nm,ot,mo,pl,da,ve,R⟩:MQ)).s=(⟨#[102,107]⟩:ByteArray):=by kernel_rfl
 have hw:boW (hdW 1 cl ss sq bo 8 0) 1 cl ss sq bo 8 0 f1 f2 d1 d2 nm ot mo pl da ve=((fiW (hdW 1 cl ss sq bo 8 0) f1 f2).put (IntKind.u64.wrap mo) 2):=by kernel_rfl
 rw [es] at j
 rw [docB,es,ysq,hw]
 have hh:=Wb.hd h
 exact ((hh.fi (j.f let_fk.1)).putI (x:=mo) (w:=2) (by decide) (in_k (j.k let_fk.2.2.2.2.1)))
theorem bo_A9 (cl ss sq bo f1 f2 d1 d2:Int) (nm ot:ByteArray) (mo pl:Int) (da:ByteArray) (ve:Int) (R:List Rw) (h:Hd (⟨1,cl,ss,sq,bo,9,0,f1,f2,d1,d2,nm,ot,mo,pl,da,ve,R⟩:MQ)) (j:Just (⟨1,cl,ss,sq,bo,9,0,f1,f2,d1,d2,nm,ot,mo,pl,da,ve,R⟩:MQ) ((⟨1,cl,ss,sq,bo,9,0,f1,f2,d1,d2,nm,ot,mo,pl,da,ve,R⟩:MQ)).s):Wb (boW (hdW 1 cl ss sq bo 9 0) 1 cl ss sq bo 9 0 f1 f2 d1 d2 nm ot mo pl da ve) (docB (⟨1,cl,ss,sq,bo,9,0,f1,f2,d1,d2,nm,ot,mo,pl,da,ve,R⟩:MQ)):=by
 have es:((⟨1,cl,ss,sq,bo,9,0,f1,f2,d1,d2,nm,ot,mo,pl,da,ve,R⟩:MQ)).s=(⟨#[102,97]⟩:ByteArray):=by kernel_rfl
 have hw:boW (hdW 1 cl ss sq bo 9 0) 1 cl ss sq bo 9 0 f1 f2 d1 d2 nm ot mo pl da ve=((fiW (hdW 1 cl ss sq bo 9 0) f1 f2).put (IntKind.u64.wrap pl) 3):=by kernel_rfl
 rw [es] at j
 rw [docB,es,docS_fa,hw]
 have hh:=Wb.hd h
 exact ((hh.fi (j.f let_fa.1)).putI (x:=pl) (w:=3) (by decide) (in_a (j.a let_fa.2.2.2.2.2.1)))
theorem bo_A10 (cl ss sq bo f1 f2 d1 d2:Int) (nm ot:ByteArray) (mo pl:Int) (da:ByteArray) (ve:Int) (R:List Rw) (h:Hd (⟨1,cl,ss,sq,bo,10,0,f1,f2,d1,d2,nm,ot,mo,pl,da,ve,R⟩:MQ)) (j:Just (⟨1,cl,ss,sq,bo,10,0,f1,f2,d1,d2,nm,ot,mo,pl,da,ve,R⟩:MQ) ((⟨1,cl,ss,sq,bo,10,0,f1,f2,d1,d2,nm,ot,mo,pl,da,ve,R⟩:MQ)).s):Wb (boW (hdW 1 cl ss sq bo 10 0) 1 cl ss sq bo 10 0 f1 f2 d1 d2 nm ot mo pl da ve) (docB (⟨1,cl,ss,sq,bo,10,0,f1,f2,d1,d2,nm,ot,mo,pl,da,ve,R⟩:MQ)):=by
 have es:((⟨1,cl,ss,sq,bo,10,0,f1,f2,d1,d2,nm,ot,mo,pl,da,ve,R⟩:MQ)).s=(⟨#[102,97,116]⟩:ByteArray):=by kernel_rfl
 have hw:boW (hdW 1 cl ss sq bo 10 0) 1 cl ss sq bo 10 0 f1 f2 d1 d2 nm ot mo pl da ve=(((fiW (hdW 1 cl ss sq bo 10 0) f1 f2).put (IntKind.u64.wrap pl) 3).text da):=by kernel_rfl
 rw [es] at j
 rw [docB,es,docS_fat,hw]
 have hh:=Wb.hd h
 exact (((hh.fi (j.f let_fat.1)).putI (x:=pl) (w:=3) (by decide) (in_a (j.a let_fat.2.2.2.2.2.1))).text da)
theorem bo_A11 (cl ss sq bo f1 f2 d1 d2:Int) (nm ot:ByteArray) (mo pl:Int) (da:ByteArray) (ve:Int) (R:List Rw) (h:Hd (⟨1,cl,ss,sq,bo,11,0,f1,f2,d1,d2,nm,ot,mo,pl,da,ve,R⟩:MQ)) (j:Just (⟨1,cl,ss,sq,bo,11,0,f1,f2,d1,d2,nm,ot,mo,pl,da,ve,R⟩:MQ) ((⟨1,cl,ss,sq,bo,11,0,f1,f2,d1,d2,nm,ot,mo,pl,da,ve,R⟩:MQ)).s):Wb (boW (hdW 1 cl ss sq bo 11 0) 1 cl ss sq bo 11 0 f1 f2 d1 d2 nm ot mo pl da ve) (docB (⟨1,cl,ss,sq,bo,11,0,f1,f2,d1,d2,nm,ot,mo,pl,da,ve,R⟩:MQ)):=by
 have es:((⟨1,cl,ss,sq,bo,11,0,f1,f2,d1,d2,nm,ot,mo,pl,da,ve,R⟩:MQ)).s=(⟨#[102]⟩:ByteArray):=by kernel_rfl
 have hw:boW (hdW 1 cl ss sq bo 11 0) 1 cl ss sq bo 11 0 f1 f2 d1 d2 nm ot mo pl da ve=(fiW (hdW 1 cl ss sq bo 11 0) f1 f2):=by kernel_rfl
 rw [es] at j
 rw [docB,es,yui,hw]
 have hh:=Wb.hd h
 exact (hh.fi (j.f let_f.1))
theorem bo_A12 (cl ss sq bo f1 f2 d1 d2:Int) (nm ot:ByteArray) (mo pl:Int) (da:ByteArray) (ve:Int) (R:List Rw) (h:Hd (⟨1,cl,ss,sq,bo,12,0,f1,f2,d1,d2,nm,ot,mo,pl,da,ve,R⟩:MQ)) (j:Just (⟨1,cl,ss,sq,bo,12,0,f1,f2,d1,d2,nm,ot,mo,pl,da,ve,R⟩:MQ) ((⟨1,cl,ss,sq,bo,12,0,f1,f2,d1,d2,nm,ot,mo,pl,da,ve,R⟩:MQ)).s):Wb (boW (hdW 1 cl ss sq bo 12 0) 1 cl ss sq bo 12 0 f1 f2 d1 d2 nm ot mo pl da ve) (docB (⟨1,cl,ss,sq,bo,12,0,f1,f2,d1,d2,nm,ot,mo,pl,da,ve,R⟩:MQ)):=by
 have es:((⟨1,cl,ss,sq,bo,12,0,f1,f2,d1,d2,nm,ot,mo,pl,da,ve,R⟩:MQ)).s=(⟨#[102]⟩:ByteArray):=by kernel_rfl
 have hw:boW (hdW 1 cl ss sq bo 12 0) 1 cl ss sq bo 12 0 f1 f2 d1 d2 nm ot mo pl da ve=(fiW (hdW 1 cl ss sq bo 12 0) f1 f2):=by kernel_rfl
 rw [es] at j
 rw [docB,es,yui,hw]
 have hh:=Wb.hd h
 exact (hh.fi (j.f let_f.1))
theorem bo_A13 (cl ss sq bo f1 f2 d1 d2:Int) (nm ot:ByteArray) (mo pl:Int) (da:ByteArray) (ve:Int) (R:List Rw) (h:Hd (⟨1,cl,ss,sq,bo,13,0,f1,f2,d1,d2,nm,ot,mo,pl,da,ve,R⟩:MQ)) (j:Just (⟨1,cl,ss,sq,bo,13,0,f1,f2,d1,d2,nm,ot,mo,pl,da,ve,R⟩:MQ) ((⟨1,cl,ss,sq,bo,13,0,f1,f2,d1,d2,nm,ot,mo,pl,da,ve,R⟩:MQ)).s):Wb (boW (hdW 1 cl ss sq bo 13 0) 1 cl ss sq bo 13 0 f1 f2 d1 d2 nm ot mo pl da ve) (docB (⟨1,cl,ss,sq,bo,13,0,f1,f2,d1,d2,nm,ot,mo,pl,da,ve,R⟩:MQ)):=by
 have es:((⟨1,cl,ss,sq,bo,13,0,f1,f2,d1,d2,nm,ot,mo,pl,da,ve,R⟩:MQ)).s=(⟨#[102,107]⟩:ByteArray):=by kernel_rfl
 have hw:boW (hdW 1 cl ss sq bo 13 0) 1 cl ss sq bo 13 0 f1 f2 d1 d2 nm ot mo pl da ve=((fiW (hdW 1 cl ss sq bo 13 0) f1 f2).put (IntKind.u64.wrap mo) 2):=by kernel_rfl
 rw [es] at j
 rw [docB,es,ysq,hw]
 have hh:=Wb.hd h
 exact ((hh.fi (j.f let_fk.1)).putI (x:=mo) (w:=2) (by decide) (in_k (j.k let_fk.2.2.2.2.1)))
theorem bo_A14 (cl ss sq bo f1 f2 d1 d2:Int) (nm ot:ByteArray) (mo pl:Int) (da:ByteArray) (ve:Int) (R:List Rw) (h:Hd (⟨1,cl,ss,sq,bo,14,0,f1,f2,d1,d2,nm,ot,mo,pl,da,ve,R⟩:MQ)) (j:Just (⟨1,cl,ss,sq,bo,14,0,f1,f2,d1,d2,nm,ot,mo,pl,da,ve,R⟩:MQ) ((⟨1,cl,ss,sq,bo,14,0,f1,f2,d1,d2,nm,ot,mo,pl,da,ve,R⟩:MQ)).s):Wb (boW (hdW 1 cl ss sq bo 14 0) 1 cl ss sq bo 14 0 f1 f2 d1 d2 nm ot mo pl da ve) (docB (⟨1,cl,ss,sq,bo,14,0,f1,f2,d1,d2,nm,ot,mo,pl,da,ve,R⟩:MQ)):=by
 have es:((⟨1,cl,ss,sq,bo,14,0,f1,f2,d1,d2,nm,ot,mo,pl,da,ve,R⟩:MQ)).s=(⟨#[]⟩:ByteArray):=by kernel_rfl
 have hw:boW (hdW 1 cl ss sq bo 14 0) 1 cl ss sq bo 14 0 f1 f2 d1 d2 nm ot mo pl da ve=(hdW 1 cl ss sq bo 14 0):=by kernel_rfl
 rw [es] at j
 rw [docB,es,ydm,hw]
 have hh:=Wb.hd h
 exact hh
theorem bo_T1 (cl ss sq bo f1 f2 d1 d2:Int) (nm ot:ByteArray) (mo pl:Int) (da:ByteArray) (ve:Int) (R:List Rw) (h:Hd (⟨2,cl,ss,sq,bo,1,0,f1,f2,d1,d2,nm,ot,mo,pl,da,ve,R⟩:MQ)) (j:Just (⟨2,cl,ss,sq,bo,1,0,f1,f2,d1,d2,nm,ot,mo,pl,da,ve,R⟩:MQ) ((⟨2,cl,ss,sq,bo,1,0,f1,f2,d1,d2,nm,ot,mo,pl,da,ve,R⟩:MQ)).s):Wb (boW (hdW 2 cl ss sq bo 1 0) 2 cl ss sq bo 1 0 f1 f2 d1 d2 nm ot mo pl da ve) (docB (⟨2,cl,ss,sq,bo,1,0,f1,f2,d1,d2,nm,ot,mo,pl,da,ve,R⟩:MQ)):=by
 have es:((⟨2,cl,ss,sq,bo,1,0,f1,f2,d1,d2,nm,ot,mo,pl,da,ve,R⟩:MQ)).s=(⟨#[]⟩:ByteArray):=by kernel_rfl
 have hw:boW (hdW 2 cl ss sq bo 1 0) 2 cl ss sq bo 1 0 f1 f2 d1 d2 nm ot mo pl da ve=(hdW 2 cl ss sq bo 1 0):=by kernel_rfl
 rw [es] at j
 rw [docB,es,ydm,hw]
 have hh:=Wb.hd h
 exact hh
theorem bo_T2 (cl ss sq bo f1 f2 d1 d2:Int) (nm ot:ByteArray) (mo pl:Int) (da:ByteArray) (ve:Int) (R:List Rw) (h:Hd (⟨2,cl,ss,sq,bo,2,0,f1,f2,d1,d2,nm,ot,mo,pl,da,ve,R⟩:MQ)) (j:Just (⟨2,cl,ss,sq,bo,2,0,f1,f2,d1,d2,nm,ot,mo,pl,da,ve,R⟩:MQ) ((⟨2,cl,ss,sq,bo,2,0,f1,f2,d1,d2,nm,ot,mo,pl,da,ve,R⟩:MQ)).s):Wb (boW (hdW 2 cl ss sq bo 2 0) 2 cl ss sq bo 2 0 f1 f2 d1 d2 nm ot mo pl da ve) (docB (⟨2,cl,ss,sq,bo,2,0,f1,f2,d1,d2,nm,ot,mo,pl,da,ve,R⟩:MQ)):=by
 have es:((⟨2,cl,ss,sq,bo,2,0,f1,f2,d1,d2,nm,ot,mo,pl,da,ve,R⟩:MQ)).s=(⟨#[]⟩:ByteArray):=by kernel_rfl
 have hw:boW (hdW 2 cl ss sq bo 2 0) 2 cl ss sq bo 2 0 f1 f2 d1 d2 nm ot mo pl da ve=(hdW 2 cl ss sq bo 2 0):=by kernel_rfl
 rw [es] at j
 rw [docB,es,ydm,hw]
 have hh:=Wb.hd h
 exact hh
theorem bo_T3 (cl ss sq bo f1 f2 d1 d2:Int) (nm ot:ByteArray) (mo pl:Int) (da:ByteArray) (ve:Int) (R:List Rw) (h:Hd (⟨2,cl,ss,sq,bo,3,0,f1,f2,d1,d2,nm,ot,mo,pl,da,ve,R⟩:MQ)) (j:Just (⟨2,cl,ss,sq,bo,3,0,f1,f2,d1,d2,nm,ot,mo,pl,da,ve,R⟩:MQ) ((⟨2,cl,ss,sq,bo,3,0,f1,f2,d1,d2,nm,ot,mo,pl,da,ve,R⟩:MQ)).s):Wb (boW (hdW 2 cl ss sq bo 3 0) 2 cl ss sq bo 3 0 f1 f2 d1 d2 nm ot mo pl da ve) (docB (⟨2,cl,ss,sq,bo,3,0,f1,f2,d1,d2,nm,ot,mo,pl,da,ve,R⟩:MQ)):=by
 have es:((⟨2,cl,ss,sq,bo,3,0,f1,f2,d1,d2,nm,ot,mo,pl,da,ve,R⟩:MQ)).s=(⟨#[102,107]⟩:ByteArray):=by kernel_rfl
 have hw:boW (hdW 2 cl ss sq bo 3 0) 2 cl ss sq bo 3 0 f1 f2 d1 d2 nm ot mo pl da ve=((fiW (hdW 2 cl ss sq bo 3 0) f1 f2).put (IntKind.u64.wrap mo) 2):=by kernel_rfl
 rw [es] at j
 rw [docB,es,ysq,hw]
 have hh:=Wb.hd h
 exact ((hh.fi (j.f let_fk.1)).putI (x:=mo) (w:=2) (by decide) (in_k (j.k let_fk.2.2.2.2.1)))
theorem bo_T4 (cl ss sq bo f1 f2 d1 d2:Int) (nm ot:ByteArray) (mo pl:Int) (da:ByteArray) (ve:Int) (R:List Rw) (h:Hd (⟨2,cl,ss,sq,bo,4,0,f1,f2,d1,d2,nm,ot,mo,pl,da,ve,R⟩:MQ)) (j:Just (⟨2,cl,ss,sq,bo,4,0,f1,f2,d1,d2,nm,ot,mo,pl,da,ve,R⟩:MQ) ((⟨2,cl,ss,sq,bo,4,0,f1,f2,d1,d2,nm,ot,mo,pl,da,ve,R⟩:MQ)).s):Wb (boW (hdW 2 cl ss sq bo 4 0) 2 cl ss sq bo 4 0 f1 f2 d1 d2 nm ot mo pl da ve) (docB (⟨2,cl,ss,sq,bo,4,0,f1,f2,d1,d2,nm,ot,mo,pl,da,ve,R⟩:MQ)):=by
 have es:((⟨2,cl,ss,sq,bo,4,0,f1,f2,d1,d2,nm,ot,mo,pl,da,ve,R⟩:MQ)).s=(⟨#[102]⟩:ByteArray):=by kernel_rfl
 have hw:boW (hdW 2 cl ss sq bo 4 0) 2 cl ss sq bo 4 0 f1 f2 d1 d2 nm ot mo pl da ve=(fiW (hdW 2 cl ss sq bo 4 0) f1 f2):=by kernel_rfl
 rw [es] at j
 rw [docB,es,yui,hw]
 have hh:=Wb.hd h
 exact (hh.fi (j.f let_f.1))
theorem bo_T5 (cl ss sq bo f1 f2 d1 d2:Int) (nm ot:ByteArray) (mo pl:Int) (da:ByteArray) (ve:Int) (R:List Rw) (h:Hd (⟨2,cl,ss,sq,bo,5,0,f1,f2,d1,d2,nm,ot,mo,pl,da,ve,R⟩:MQ)) (j:Just (⟨2,cl,ss,sq,bo,5,0,f1,f2,d1,d2,nm,ot,mo,pl,da,ve,R⟩:MQ) ((⟨2,cl,ss,sq,bo,5,0,f1,f2,d1,d2,nm,ot,mo,pl,da,ve,R⟩:MQ)).s):Wb (boW (hdW 2 cl ss sq bo 5 0) 2 cl ss sq bo 5 0 f1 f2 d1 d2 nm ot mo pl da ve) (docB (⟨2,cl,ss,sq,bo,5,0,f1,f2,d1,d2,nm,ot,mo,pl,da,ve,R⟩:MQ)):=by
 have es:((⟨2,cl,ss,sq,bo,5,0,f1,f2,d1,d2,nm,ot,mo,pl,da,ve,R⟩:MQ)).s=(⟨#[]⟩:ByteArray):=by kernel_rfl
 have hw:boW (hdW 2 cl ss sq bo 5 0) 2 cl ss sq bo 5 0 f1 f2 d1 d2 nm ot mo pl da ve=(hdW 2 cl ss sq bo 5 0):=by kernel_rfl
 rw [es] at j
 rw [docB,es,ydm,hw]
 have hh:=Wb.hd h
 exact hh
theorem bo_T6 (cl ss sq bo f1 f2 d1 d2:Int) (nm ot:ByteArray) (mo pl:Int) (da:ByteArray) (ve:Int) (R:List Rw) (h:Hd (⟨2,cl,ss,sq,bo,6,0,f1,f2,d1,d2,nm,ot,mo,pl,da,ve,R⟩:MQ)) (j:Just (⟨2,cl,ss,sq,bo,6,0,f1,f2,d1,d2,nm,ot,mo,pl,da,ve,R⟩:MQ) ((⟨2,cl,ss,sq,bo,6,0,f1,f2,d1,d2,nm,ot,mo,pl,da,ve,R⟩:MQ)).s):Wb (boW (hdW 2 cl ss sq bo 6 0) 2 cl ss sq bo 6 0 f1 f2 d1 d2 nm ot mo pl da ve) (docB (⟨2,cl,ss,sq,bo,6,0,f1,f2,d1,d2,nm,ot,mo,pl,da,ve,R⟩:MQ)):=by
 have es:((⟨2,cl,ss,sq,bo,6,0,f1,f2,d1,d2,nm,ot,mo,pl,da,ve,R⟩:MQ)).s=(⟨#[]⟩:ByteArray):=by kernel_rfl
 have hw:boW (hdW 2 cl ss sq bo 6 0) 2 cl ss sq bo 6 0 f1 f2 d1 d2 nm ot mo pl da ve=(hdW 2 cl ss sq bo 6 0):=by kernel_rfl
 rw [es] at j
 rw [docB,es,ydm,hw]
 have hh:=Wb.hd h
 exact hh
theorem bo_T8 (cl ss sq bo f1 f2 d1 d2:Int) (nm ot:ByteArray) (mo pl:Int) (da:ByteArray) (ve:Int) (R:List Rw) (h:Hd (⟨2,cl,ss,sq,bo,8,0,f1,f2,d1,d2,nm,ot,mo,pl,da,ve,R⟩:MQ)) (j:Just (⟨2,cl,ss,sq,bo,8,0,f1,f2,d1,d2,nm,ot,mo,pl,da,ve,R⟩:MQ) ((⟨2,cl,ss,sq,bo,8,0,f1,f2,d1,d2,nm,ot,mo,pl,da,ve,R⟩:MQ)).s):Wb (boW (hdW 2 cl ss sq bo 8 0) 2 cl ss sq bo 8 0 f1 f2 d1 d2 nm ot mo pl da ve) (docB (⟨2,cl,ss,sq,bo,8,0,f1,f2,d1,d2,nm,ot,mo,pl,da,ve,R⟩:MQ)):=by
 have es:((⟨2,cl,ss,sq,bo,8,0,f1,f2,d1,d2,nm,ot,mo,pl,da,ve,R⟩:MQ)).s=(⟨#[118]⟩:ByteArray):=by kernel_rfl
 have hw:boW (hdW 2 cl ss sq bo 8 0) 2 cl ss sq bo 8 0 f1 f2 d1 d2 nm ot mo pl da ve=((hdW 2 cl ss sq bo 8 0).put ve 40):=by kernel_rfl
 rw [es] at j
 rw [docB,es,yuh,hw]
 have hh:=Wb.hd h
 exact (hh.put (x:=ve) (w:=40) (by decide) (in_v (j.v let_v.2.2.2.2.2.2.2.1)))
theorem bo_T9 (cl ss sq bo f1 f2 d1 d2:Int) (nm ot:ByteArray) (mo pl:Int) (da:ByteArray) (ve:Int) (R:List Rw) (h:Hd (⟨2,cl,ss,sq,bo,9,0,f1,f2,d1,d2,nm,ot,mo,pl,da,ve,R⟩:MQ)) (j:Just (⟨2,cl,ss,sq,bo,9,0,f1,f2,d1,d2,nm,ot,mo,pl,da,ve,R⟩:MQ) ((⟨2,cl,ss,sq,bo,9,0,f1,f2,d1,d2,nm,ot,mo,pl,da,ve,R⟩:MQ)).s):Wb (boW (hdW 2 cl ss sq bo 9 0) 2 cl ss sq bo 9 0 f1 f2 d1 d2 nm ot mo pl da ve) (docB (⟨2,cl,ss,sq,bo,9,0,f1,f2,d1,d2,nm,ot,mo,pl,da,ve,R⟩:MQ)):=by
 have es:((⟨2,cl,ss,sq,bo,9,0,f1,f2,d1,d2,nm,ot,mo,pl,da,ve,R⟩:MQ)).s=(⟨#[116,118]⟩:ByteArray):=by kernel_rfl
 have hw:boW (hdW 2 cl ss sq bo 9 0) 2 cl ss sq bo 9 0 f1 f2 d1 d2 nm ot mo pl da ve=(((hdW 2 cl ss sq bo 9 0).text da).put ve 40):=by kernel_rfl
 rw [es] at j
 rw [docB,es,docS_tv,hw]
 have hh:=Wb.hd h
 exact ((hh.text da).put (x:=ve) (w:=40) (by decide) (in_v (j.v let_tv.2.2.2.2.2.2.2.1)))
theorem bo_T10 (cl ss sq bo f1 f2 d1 d2:Int) (nm ot:ByteArray) (mo pl:Int) (da:ByteArray) (ve:Int) (R:List Rw) (h:Hd (⟨2,cl,ss,sq,bo,10,0,f1,f2,d1,d2,nm,ot,mo,pl,da,ve,R⟩:MQ)) (j:Just (⟨2,cl,ss,sq,bo,10,0,f1,f2,d1,d2,nm,ot,mo,pl,da,ve,R⟩:MQ) ((⟨2,cl,ss,sq,bo,10,0,f1,f2,d1,d2,nm,ot,mo,pl,da,ve,R⟩:MQ)).s):Wb (boW (hdW 2 cl ss sq bo 10 0) 2 cl ss sq bo 10 0 f1 f2 d1 d2 nm ot mo pl da ve) (docB (⟨2,cl,ss,sq,bo,10,0,f1,f2,d1,d2,nm,ot,mo,pl,da,ve,R⟩:MQ)):=by
 have es:((⟨2,cl,ss,sq,bo,10,0,f1,f2,d1,d2,nm,ot,mo,pl,da,ve,R⟩:MQ)).s=(⟨#[118]⟩:ByteArray):=by kernel_rfl
 have hw:boW (hdW 2 cl ss sq bo 10 0) 2 cl ss sq bo 10 0 f1 f2 d1 d2 nm ot mo pl da ve=((hdW 2 cl ss sq bo 10 0).put ve 40):=by kernel_rfl
 rw [es] at j
 rw [docB,es,yuh,hw]
 have hh:=Wb.hd h
 exact (hh.put (x:=ve) (w:=40) (by decide) (in_v (j.v let_v.2.2.2.2.2.2.2.1)))
theorem bo_T11 (cl ss sq bo f1 f2 d1 d2:Int) (nm ot:ByteArray) (mo pl:Int) (da:ByteArray) (ve:Int) (R:List Rw) (h:Hd (⟨2,cl,ss,sq,bo,11,0,f1,f2,d1,d2,nm,ot,mo,pl,da,ve,R⟩:MQ)) (j:Just (⟨2,cl,ss,sq,bo,11,0,f1,f2,d1,d2,nm,ot,mo,pl,da,ve,R⟩:MQ) ((⟨2,cl,ss,sq,bo,11,0,f1,f2,d1,d2,nm,ot,mo,pl,da,ve,R⟩:MQ)).s):Wb (boW (hdW 2 cl ss sq bo 11 0) 2 cl ss sq bo 11 0 f1 f2 d1 d2 nm ot mo pl da ve) (docB (⟨2,cl,ss,sq,bo,11,0,f1,f2,d1,d2,nm,ot,mo,pl,da,ve,R⟩:MQ)):=by
 have es:((⟨2,cl,ss,sq,bo,11,0,f1,f2,d1,d2,nm,ot,mo,pl,da,ve,R⟩:MQ)).s=(⟨#[118]⟩:ByteArray):=by kernel_rfl
 have hw:boW (hdW 2 cl ss sq bo 11 0) 2 cl ss sq bo 11 0 f1 f2 d1 d2 nm ot mo pl da ve=((hdW 2 cl ss sq bo 11 0).put ve 40):=by kernel_rfl
 rw [es] at j
 rw [docB,es,yuh,hw]
 have hh:=Wb.hd h
 exact (hh.put (x:=ve) (w:=40) (by decide) (in_v (j.v let_v.2.2.2.2.2.2.2.1)))
theorem bo_T12 (cl ss sq bo f1 f2 d1 d2:Int) (nm ot:ByteArray) (mo pl:Int) (da:ByteArray) (ve:Int) (R:List Rw) (h:Hd (⟨2,cl,ss,sq,bo,12,0,f1,f2,d1,d2,nm,ot,mo,pl,da,ve,R⟩:MQ)) (j:Just (⟨2,cl,ss,sq,bo,12,0,f1,f2,d1,d2,nm,ot,mo,pl,da,ve,R⟩:MQ) ((⟨2,cl,ss,sq,bo,12,0,f1,f2,d1,d2,nm,ot,mo,pl,da,ve,R⟩:MQ)).s):Wb (boW (hdW 2 cl ss sq bo 12 0) 2 cl ss sq bo 12 0 f1 f2 d1 d2 nm ot mo pl da ve) (docB (⟨2,cl,ss,sq,bo,12,0,f1,f2,d1,d2,nm,ot,mo,pl,da,ve,R⟩:MQ)):=by
 have es:((⟨2,cl,ss,sq,bo,12,0,f1,f2,d1,d2,nm,ot,mo,pl,da,ve,R⟩:MQ)).s=(⟨#[]⟩:ByteArray):=by kernel_rfl
 have hw:boW (hdW 2 cl ss sq bo 12 0) 2 cl ss sq bo 12 0 f1 f2 d1 d2 nm ot mo pl da ve=(hdW 2 cl ss sq bo 12 0):=by kernel_rfl
 rw [es] at j
 rw [docB,es,ydm,hw]
 have hh:=Wb.hd h
 exact hh
theorem bo_T13 (cl ss sq bo f1 f2 d1 d2:Int) (nm ot:ByteArray) (mo pl:Int) (da:ByteArray) (ve:Int) (R:List Rw) (h:Hd (⟨2,cl,ss,sq,bo,13,0,f1,f2,d1,d2,nm,ot,mo,pl,da,ve,R⟩:MQ)) (j:Just (⟨2,cl,ss,sq,bo,13,0,f1,f2,d1,d2,nm,ot,mo,pl,da,ve,R⟩:MQ) ((⟨2,cl,ss,sq,bo,13,0,f1,f2,d1,d2,nm,ot,mo,pl,da,ve,R⟩:MQ)).s):Wb (boW (hdW 2 cl ss sq bo 13 0) 2 cl ss sq bo 13 0 f1 f2 d1 d2 nm ot mo pl da ve) (docB (⟨2,cl,ss,sq,bo,13,0,f1,f2,d1,d2,nm,ot,mo,pl,da,ve,R⟩:MQ)):=by
 have es:((⟨2,cl,ss,sq,bo,13,0,f1,f2,d1,d2,nm,ot,mo,pl,da,ve,R⟩:MQ)).s=(⟨#[118]⟩:ByteArray):=by kernel_rfl
 have hw:boW (hdW 2 cl ss sq bo 13 0) 2 cl ss sq bo 13 0 f1 f2 d1 d2 nm ot mo pl da ve=((hdW 2 cl ss sq bo 13 0).put ve 40):=by kernel_rfl
 rw [es] at j
 rw [docB,es,yuh,hw]
 have hh:=Wb.hd h
 exact (hh.put (x:=ve) (w:=40) (by decide) (in_v (j.v let_v.2.2.2.2.2.2.2.1)))
theorem bo_T14 (cl ss sq bo f1 f2 d1 d2:Int) (nm ot:ByteArray) (mo pl:Int) (da:ByteArray) (ve:Int) (R:List Rw) (h:Hd (⟨2,cl,ss,sq,bo,14,0,f1,f2,d1,d2,nm,ot,mo,pl,da,ve,R⟩:MQ)) (j:Just (⟨2,cl,ss,sq,bo,14,0,f1,f2,d1,d2,nm,ot,mo,pl,da,ve,R⟩:MQ) ((⟨2,cl,ss,sq,bo,14,0,f1,f2,d1,d2,nm,ot,mo,pl,da,ve,R⟩:MQ)).s):Wb (boW (hdW 2 cl ss sq bo 14 0) 2 cl ss sq bo 14 0 f1 f2 d1 d2 nm ot mo pl da ve) (docB (⟨2,cl,ss,sq,bo,14,0,f1,f2,d1,d2,nm,ot,mo,pl,da,ve,R⟩:MQ)):=by
 have es:((⟨2,cl,ss,sq,bo,14,0,f1,f2,d1,d2,nm,ot,mo,pl,da,ve,R⟩:MQ)).s=(⟨#[]⟩:ByteArray):=by kernel_rfl
 have hw:boW (hdW 2 cl ss sq bo 14 0) 2 cl ss sq bo 14 0 f1 f2 d1 d2 nm ot mo pl da ve=(hdW 2 cl ss sq bo 14 0):=by kernel_rfl
 rw [es] at j
 rw [docB,es,ydm,hw]
 have hh:=Wb.hd h
 exact hh
theorem bo_E (cl ss sq bo f1 f2 d1 d2:Int) (nm ot:ByteArray) (mo pl:Int) (da:ByteArray) (ve:Int) (R:List Rw) (kd er:Int) (hn:er≠0) (h:Hd (⟨2,cl,ss,sq,bo,kd,er,f1,f2,d1,d2,nm,ot,mo,pl,da,ve,R⟩:MQ)) (j:Just (⟨2,cl,ss,sq,bo,kd,er,f1,f2,d1,d2,nm,ot,mo,pl,da,ve,R⟩:MQ) ((⟨2,cl,ss,sq,bo,kd,er,f1,f2,d1,d2,nm,ot,mo,pl,da,ve,R⟩:MQ)).s):Wb (boW (hdW 2 cl ss sq bo kd er) 2 cl ss sq bo kd er f1 f2 d1 d2 nm ot mo pl da ve) (docB (⟨2,cl,ss,sq,bo,kd,er,f1,f2,d1,d2,nm,ot,mo,pl,da,ve,R⟩:MQ)):=by
 have es:((⟨2,cl,ss,sq,bo,kd,er,f1,f2,d1,d2,nm,ot,mo,pl,da,ve,R⟩:MQ)).s=(⟨#[]⟩:ByteArray):=by
  show fl17 2 kd er=_
  unfold fl17
  rw [show (er != 0)=true by simpa using hn];rfl
 have hw:boW (hdW 2 cl ss sq bo kd er) 2 cl ss sq bo kd er f1 f2 d1 d2 nm ot mo pl da ve=(hdW 2 cl ss sq bo kd er):=by
  unfold boW
  rw [beq_eq_false_iff_ne.2 hn];rfl
 rw [es] at j
 rw [docB,es,ydm,hw]
 have hh:=Wb.hd h
 exact hh
theorem kd_14 {k:Int} (h:1≤k∧k≤14):k=1∨k=2∨k=3∨k=4∨k=5∨k=6∨k=7∨k=8∨k=9∨k=10∨k=11∨k=12∨k=13∨k=14:=by omega
theorem boW_b {q:MQ} (h:Hd q) (j:Just q q.s) (ht:yjv q.ty q.kd q.er=false):Wb (boW (hdW q.ty q.cl q.ss q.sq q.bo q.kd q.er) q.ty q.cl q.ss q.sq q.bo q.kd q.er q.f1 q.f2 q.d1 q.d2 q.nm q.ot q.mo q.pl q.da q.ve) (docB q):=by
 obtain ⟨ty,cl,ss,sq,bo,kd,er,f1,f2,d1,d2,nm,ot,mo,pl,da,ve,R⟩:=q
 have h1:1≤ty∧ty≤3:=h.ty
 have h2:0≤kd∧kd≤14:=h.kd
 have h3:ty=3∨1≤kd:=h.so
 have h4:ty=1→er=0:=h.re
 have h5:ty=3→kd=0∧er=0:=h.rc
 have hty:ty=3∨ty=1∨ty=2:=by omega
 rcases hty with rfl|rfl|rfl
 ·obtain ⟨rfl,rfl⟩:=h5 rfl
  exact bo_R cl ss sq bo f1 f2 d1 d2 nm ot mo pl da ve R h j
 ·obtain rfl:=h4 rfl
  rcases kd_14 (show 1≤kd∧kd≤14 by omega) with rfl|rfl|rfl|rfl|rfl|rfl|rfl|rfl|rfl|rfl|rfl|rfl|rfl|rfl
  ·exact bo_A1 cl ss sq bo f1 f2 d1 d2 nm ot mo pl da ve R h j
  ·exact bo_A2 cl ss sq bo f1 f2 d1 d2 nm ot mo pl da ve R h j
  ·exact bo_A3 cl ss sq bo f1 f2 d1 d2 nm ot mo pl da ve R h j
  ·exact bo_A4 cl ss sq bo f1 f2 d1 d2 nm ot mo pl da ve R h j
  ·exact bo_A5 cl ss sq bo f1 f2 d1 d2 nm ot mo pl da ve R h j
  ·exact bo_A6 cl ss sq bo f1 f2 d1 d2 nm ot mo pl da ve R h j
  ·exact bo_A7 cl ss sq bo f1 f2 d1 d2 nm ot mo pl da ve R h j
  ·exact bo_A8 cl ss sq bo f1 f2 d1 d2 nm ot mo pl da ve R h j
  ·exact bo_A9 cl ss sq bo f1 f2 d1 d2 nm ot mo pl da ve R h j
  ·exact bo_A10 cl ss sq bo f1 f2 d1 d2 nm ot mo pl da ve R h j
  ·exact bo_A11 cl ss sq bo f1 f2 d1 d2 nm ot mo pl da ve R h j
  ·exact bo_A12 cl ss sq bo f1 f2 d1 d2 nm ot mo pl da ve R h j
  ·exact bo_A13 cl ss sq bo f1 f2 d1 d2 nm ot mo pl da ve R h j
  ·exact bo_A14 cl ss sq bo f1 f2 d1 d2 nm ot mo pl da ve R h j
 ·by_cases hn:er=0
  ·subst hn
   rcases kd_14 (show 1≤kd∧kd≤14 by omega) with rfl|rfl|rfl|rfl|rfl|rfl|rfl|rfl|rfl|rfl|rfl|rfl|rfl|rfl
   ·exact bo_T1 cl ss sq bo f1 f2 d1 d2 nm ot mo pl da ve R h j
   ·exact bo_T2 cl ss sq bo f1 f2 d1 d2 nm ot mo pl da ve R h j
   ·exact bo_T3 cl ss sq bo f1 f2 d1 d2 nm ot mo pl da ve R h j
   ·exact bo_T4 cl ss sq bo f1 f2 d1 d2 nm ot mo pl da ve R h j
   ·exact bo_T5 cl ss sq bo f1 f2 d1 d2 nm ot mo pl da ve R h j
   ·exact bo_T6 cl ss sq bo f1 f2 d1 d2 nm ot mo pl da ve R h j
   ·exact absurd (show yjv 2 7 0=false from ht) (by decide)
   ·exact bo_T8 cl ss sq bo f1 f2 d1 d2 nm ot mo pl da ve R h j
   ·exact bo_T9 cl ss sq bo f1 f2 d1 d2 nm ot mo pl da ve R h j
   ·exact bo_T10 cl ss sq bo f1 f2 d1 d2 nm ot mo pl da ve R h j
   ·exact bo_T11 cl ss sq bo f1 f2 d1 d2 nm ot mo pl da ve R h j
   ·exact bo_T12 cl ss sq bo f1 f2 d1 d2 nm ot mo pl da ve R h j
   ·exact bo_T13 cl ss sq bo f1 f2 d1 d2 nm ot mo pl da ve R h j
   ·exact bo_T14 cl ss sq bo f1 f2 d1 d2 nm ot mo pl da ve R h j
  ·exact bo_E cl ss sq bo f1 f2 d1 d2 nm ot mo pl da ve R kd er hn h j
theorem teW_b {q:MQ} (h:Hd q) (j:Just q q.s) (ht:yjv q.ty q.kd q.er=true):Wb (enW ((hdW q.ty q.cl q.ss q.sq q.bo q.kd q.er).put (IntKind.u64.wrap (q.R.length:Int)) 5) q.R q.R.length) (docB q)∧q.R.length≤24:=by
 obtain ⟨ty,cl,ss,sq,bo,kd,er,f1,f2,d1,d2,nm,ot,mo,pl,da,ve,R⟩:=q
 have h1:1≤ty∧ty≤3:=h.ty
 have ht:(!(ty==3)&&!(ty==1)&&er==0&&kd==7)=true:=ht
 simp only [Bool.and_eq_true,Bool.not_eq_true',beq_eq_false_iff_ne,beq_iff_eq] at ht
 obtain ⟨⟨⟨n3,n1⟩,rfl⟩,rfl⟩:=ht
 obtain rfl:ty=2:=by omega
 have es:(⟨2,cl,ss,sq,bo,7,0,f1,f2,d1,d2,nm,ot,mo,pl,da,ve,R⟩:MQ).s=(⟨#[101]⟩:ByteArray):=by kernel_rfl
 rw [es] at j
 rw [docB,es,docS_e]
 have hR:Mm.entsR (ents R)=true:=j.e let_e.2.2.2.2.2.2.2.2
 have hl:=(ynh hR).1
 have e5:((2 ^ 5:Nat):Int)=32:=by decide
 exact ⟨((Wb.hd h).putI (x:=(R.length:Int)) (w:=5) (by decide) (by rw [e5];omega)).ents hR R.length (Nat.le_refl _),hl⟩
theorem bodW_b {q:MQ} (h:Hd q) (j:Just q q.s):Wb (bodW (hdW q.ty q.cl q.ss q.sq q.bo q.kd q.er) q.ty q.cl q.ss q.sq q.bo q.kd q.er q.f1 q.f2 q.d1 q.d2 q.nm q.ot q.mo q.pl q.da q.ve q.R) (docB q):=by
 unfold bodW
 cases ht:yjv q.ty q.kd q.er with
 |true=>exact (teW_b h j ht).1
 |false=>exact boW_b h j ht
end Go.Proofs.Ytiiekgcjilelpaa

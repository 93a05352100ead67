/- L1. -/
import Derived.Test.YtonomiljclemnaaBasep
set_option linter.unusedVariables false
set_option linter.unusedSimpArgs false
namespace Go.Proofs.Ytonomiljclemnaa
def numL (x:Nat):Nat→List UInt8
 |0=>[]
 |n+1=>UInt8.ofNat (x / 256 ^ n)::numL x n
def valFrom:Nat→List UInt8→Nat
 |v,[]=>v
 |v,c::l=>valFrom (v * 256+c.toNat) l
def valBL (l:List UInt8):Nat:=valFrom 0 l
theorem numL_length (x:Nat):∀ n,(numL x n).length=n
 |0=>rfl
 |n+1=>by simp [numL,numL_length x n]
theorem valFrom_eq:∀ (l:List UInt8) (v:Nat),valFrom v l=v * 256 ^ l.length+valBL l
 |[],v=>by simp [valFrom,valBL]
 |c::l,v=>by
  have h1:=valFrom_eq l (v * 256+c.toNat)
  have h2:=valFrom_eq l (0 * 256+c.toNat)
  simp only [valBL,valFrom,List.length_cons]
  rw [h1,h2,Nat.pow_succ,Nat.add_mul,Nat.add_mul]
  have:v * 256 * 256 ^ l.length=v * (256 ^ l.length * 256):=by rw [Nat.mul_assoc,Nat.mul_comm 256]
  omega
theorem valBL_nil:valBL []=0:=rfl
theorem valBL_cons (c:UInt8) (l:List UInt8):valBL (c::l)=c.toNat * 256 ^ l.length+valBL l:=by
 rw [valBL,valFrom,valFrom_eq];simp
theorem valBL_append:∀ (a b:List UInt8),valBL (a++b)=valBL a * 256 ^ b.length+valBL b
 |[],b=>by simp [valBL_nil]
 |c::a,b=>by
  rw [List.cons_append,valBL_cons,valBL_cons,valBL_append a b,List.length_append,Nat.pow_add,Nat.add_mul,Nat.mul_assoc]
  omega
theorem valBL_lt:∀ l:List UInt8,valBL l<256 ^ l.length
 |[]=>by simp [valBL_nil]
 |c::l=>by
  have h1:=valBL_lt l
  have h2:=c.toNat_lt
  rw [valBL_cons,List.length_cons,Nat.pow_succ]
  have h3:c.toNat * 256 ^ l.length≤255 * 256 ^ l.length:=Nat.mul_le_mul_right _ (by omega)
  omega
theorem numL_getElem? (x:Nat):∀ (n i:Nat),i<n→(numL x n)[i]? =some (UInt8.ofNat (x / 256 ^ (n - 1 - i)))
 |0,_,h=>absurd h (by omega)
 |n+1,0,_=>by simp [numL]
 |n+1,i+1,h=>by
  rw [numL,List.getElem?_cons_succ,numL_getElem? x n i (by omega)]
  congr 4;omega
theorem numL_take_succ (x:Nat) {n i:Nat} (h:i<n):(numL x n).take (i+1)=(numL x n).take i++[UInt8.ofNat (x / 256 ^ (n - 1 - i))]:=by
 have hl:i<(numL x n).length:=by rw [numL_length];exact h
 rw [List.take_succ_eq_append_getElem hl]
 have:=numL_getElem? x n i h
 rw [List.getElem?_eq_getElem hl] at this
 rw [Option.some.inj this]
theorem valBL_snoc (l:List UInt8) (c:UInt8):valBL (l++[c])=valBL l * 256+c.toNat:=by
 rw [valBL_append,valBL_cons,valBL_nil];simp
def fstep (h:Nat×Nat) (c:UInt8):Nat×Nat:=((h.1+c.toNat) % 65535,(h.2+(h.1+c.toNat) % 65535) % 65535)
def fsum (l:List UInt8):Nat:=(l.foldl fstep (0,0)).2 * 65536+(l.foldl fstep (0,0)).1
theorem fstep_lt (l:List UInt8):∀ (h:Nat×Nat),h.1<65535→h.2<65535→(l.foldl fstep h).1<65535∧(l.foldl fstep h).2<65535:=by
 induction l with
 |nil=>intro h h1 h2;exact ⟨h1,h2⟩
 |cons c l ih=>intro h _ _;exact ih _ (Nat.mod_lt _ (by decide)) (Nat.mod_lt _ (by decide))
theorem fsum_lt (l:List UInt8):fsum l<4294967296:=by
 have:=fstep_lt l (0,0) (by decide) (by decide)
 unfold fsum;omega
structure Pc where
 ep:Nat
 ct:Nat
 fi:Bool
 la:Bool
 d:List UInt8
deriving DecidableEq
def Pc.flag (p:Pc):Nat:=p.fi.toNat+2 * p.la.toNat
def Pc.st (p:Pc):Nat:=p.ep * 1099511627776+p.ct
def Pc.ok (p:Pc):Prop:=p.ep≤16777215∧p.ct≤1099511627775∧p.d.length≤106
instance (p:Pc):Decidable p.ok:=by unfold Pc.ok;infer_instance
def Pc.body (p:Pc):List UInt8:=numL p.st 8++[UInt8.ofNat p.flag,UInt8.ofNat p.d.length]++p.d++List.replicate (106 - p.d.length) 0
def Pc.sec (p:Pc):List UInt8:=p.body++numL (fsum p.body) 4++numL p.st 8
def pcOf (l:List UInt8):Pc:=⟨valBL (l.take 8) / 1099511627776,valBL (l.take 8) % 1099511627776,decide ((l.getD 8 0).toNat % 2=1),decide ((l.getD 8 0).toNat / 2 % 2=1),(l.drop 10).take (l.getD 9 0).toNat⟩
def isSec (l:List UInt8):Prop:=l.length=128∧(l.getD 9 0).toNat≤106∧(pcOf l).sec=l
instance (l:List UInt8):Decidable (isSec l):=by unfold isSec;infer_instance
theorem Pc.body_length {p:Pc} (h:p.d.length≤106):p.body.length=116:=by
 simp [Pc.body,numL_length];omega
theorem Pc.sec_length {p:Pc} (h:p.d.length≤106):p.sec.length=128:=by
 simp [Pc.sec,numL_length,Pc.body_length h]
theorem Pc.sec_eq (p:Pc):p.sec=numL p.st 8++(UInt8.ofNat p.flag::UInt8.ofNat p.d.length::(p.d++(List.replicate (106 - p.d.length) 0++(numL (fsum p.body) 4++numL p.st 8)))):=by
 simp [Pc.sec,Pc.body]
theorem Pc.sec_8 {p:Pc}:p.sec.getD 8 0=UInt8.ofNat p.flag:=by
 rw [Pc.sec_eq]
 simp [List.getD,List.getElem?_append,numL_length]
theorem toNat_small {n:Nat} (h:n<256):(UInt8.ofNat n).toNat=n:=by rw [UInt8.toNat_ofNat'];exact Nat.mod_eq_of_lt h
theorem flag_lt (p:Pc):p.flag<4:=by unfold Pc.flag;cases p.fi<;>cases p.la<;>decide
theorem pcOf_ok {l:List UInt8} (h:l.length=128) (h9:(l.getD 9 0).toNat≤106):(pcOf l).ok∧(pcOf l).d.length=(l.getD 9 0).toNat:=by
 have hv:=valBL_lt (l.take 8)
 rw [List.length_take,h] at hv
 have hd:(pcOf l).d.length=(l.getD 9 0).toNat:=by
  simp only [pcOf,List.length_take,List.length_drop,h];omega
 refine ⟨⟨?_,?_,by rw [hd];exact h9⟩,hd⟩
 ·simp only [pcOf];simp at hv;omega
 ·simp only [pcOf];omega
theorem isSec_flag {l:List UInt8} (h:isSec l):(l.getD 8 0).toNat≤3:=by
 rw [← h.2.2,Pc.sec_8,toNat_small (by have:=flag_lt (pcOf l);omega)]
 have:=flag_lt (pcOf l);omega
end Go.Proofs.Ytonomiljclemnaa

/- G1. -/
import Derived.Test.YtdenmoiaiemokaaBasep
import Derived.Test.YtdenmoiaiemokaaG0p
import Derived.Laws.OwnMore
import Derived.Deep.AppendLies
import Derived.RegionTactic
import Derived.Deep.CutBlock
import Derived.Deep.DeepCutAuto
import Derived.Laws.Bits64
import Derived.Laws.BitsAllLaws
import Derived.Deep.QuietTactic
set_option linter.unusedSimpArgs false
set_option linter.unusedVariables false
namespace Go.Proofs.Ytdenmoiaiemokaa
def bitsOf (x:Nat):Nat→List Bool
 |0=>[]
 |n+1=>x.testBit n::bitsOf x n
def valGo:Nat→List Bool→Nat
 |v,[]=>v
 |v,b::l=>valGo (2 * v+b.toNat) l
def val (l:List Bool):Nat:=valGo 0 l
theorem bitsOf_length (x:Nat):∀ n,(bitsOf x n).length=n
 |0=>rfl
 |n+1=>by simp [bitsOf,bitsOf_length x n]
theorem valGo_eq:∀ (l:List Bool) (v:Nat),valGo v l=v * 2 ^ l.length+val l
 |[],v=>by simp [valGo,val]
 |b::l,v=>by
  have h1:=valGo_eq l (2 * v+b.toNat)
  have h2:=valGo_eq l (2 * 0+b.toNat)
  simp only [val,valGo,List.length_cons]
  rw [h1,h2,Nat.pow_succ,Nat.add_mul,Nat.add_mul]
  have:2 * v * 2 ^ l.length=v * (2 ^ l.length * 2):=by rw [Nat.mul_comm 2 v,Nat.mul_assoc,Nat.mul_comm 2]
  omega
theorem val_nil:val []=0:=rfl
theorem val_cons (b:Bool) (l:List Bool):val (b::l)=b.toNat * 2 ^ l.length+val l:=by
 rw [val,valGo,valGo_eq];simp
theorem val_append:∀ (c d:List Bool),val (c++d)=val c * 2 ^ d.length+val d
 |[],d=>by simp [val_nil]
 |b::c,d=>by
  rw [List.cons_append,val_cons,val_cons,val_append c d,List.length_append,Nat.pow_add,Nat.add_mul,Nat.mul_assoc]
  omega
theorem val_lt:∀ l:List Bool,val l<2 ^ l.length
 |[]=>by simp [val_nil]
 |b::l=>by
  have h1:=val_lt l
  rw [val_cons,List.length_cons,Nat.pow_succ]
  cases b<;>simp<;>omega
theorem bitsOf_val:∀ l:List Bool,bitsOf (val l) l.length=l:=by
 have key:∀ (l:List Bool) (h:Nat),bitsOf (h * 2 ^ l.length+val l) l.length=l:=by
  intro l
  induction l with
  |nil=>intro h;rfl
  |cons b l ih=>
   intro h
   simp only [List.length_cons,bitsOf]
   have e:h * 2 ^ (l.length+1)+val (b::l)=(h * 2+b.toNat) * 2 ^ l.length+val l:=by
    rw [val_cons,Nat.pow_succ,Nat.add_mul,Nat.mul_assoc,Nat.mul_comm 2];omega
   rw [e,ih]
   congr 1
   rw [Nat.testBit_eq_decide_div_mod_eq,Nat.mul_comm,Nat.mul_add_div (Nat.two_pow_pos _),Nat.div_eq_of_lt (val_lt l)]
   cases b<;>simp<;>omega
 intro l
 simpa using key l 0
theorem val_bitsOf (x:Nat):∀ n,val (bitsOf x n)=x % 2 ^ n
 |0=>by simp [bitsOf,val_nil,Nat.mod_one]
 |n+1=>by
  rw [bitsOf,val_cons,bitsOf_length,val_bitsOf x n,Nat.pow_succ,Nat.mod_mul,Nat.testBit_eq_decide_div_mod_eq]
  have h2:x / 2 ^ n % 2<2:=Nat.mod_lt _ (by decide)
  rcases (show x / 2 ^ n % 2=0∨x / 2 ^ n % 2=1 by omega) with h|h<;>rw [h]<;>simp<;>omega
def byteN (c:List Bool):Nat:=val c * 2 ^ (8 - c.length)
def byteOf (c:List Bool):UInt8:=UInt8.ofNat (byteN c)
theorem byteN_lt {c:List Bool} (h:c.length≤8):byteN c<256:=by
 unfold byteN
 have h1:val c * 2 ^ (8 - c.length)<2 ^ c.length * 2 ^ (8 - c.length):=Nat.mul_lt_mul_of_pos_right (val_lt c) (Nat.two_pow_pos _)
 rw [← Nat.pow_add,show c.length+(8 - c.length)=8 by omega] at h1
 exact h1
theorem byteOf_toNat {c:List Bool} (h:c.length≤8):(byteOf c).toNat=byteN c:=by
 unfold byteOf
 rw [UInt8.toNat_ofNat']
 exact Nat.mod_eq_of_lt (byteN_lt h)
def packed (l:List Bool):List UInt8:=(List.range ((l.length+7) / 8)).map fun i=>byteOf ((l.drop (8 * i)).take 8)
theorem packed_length (l:List Bool):(packed l).length=(l.length+7) / 8:=by simp [packed]
theorem packed_snoc {a c:List Bool} (ha:a.length % 8=0) (hc:c.length≤8) (h0:c≠[]):packed (a++c)=packed a++[byteOf c]:=by
 have h1:0<c.length:=List.length_pos_iff.2 h0
 unfold packed
 rw [show ((a++c).length+7) / 8=(a.length+7) / 8+1 by rw [List.length_append];omega,List.range_succ,List.map_append]
 congr 1
 ·refine List.map_congr_left fun i hi=>?_
  rw [List.mem_range] at hi
  congr 1
  rw [List.drop_append_of_le_length (by omega),List.take_append_of_le_length (by rw [List.length_drop];omega)]
 ·rw [List.map_cons,List.map_nil]
  rw [show 8 * ((a.length+7) / 8)=a.length by omega,List.drop_append_of_le_length (Nat.le_refl _),List.drop_of_length_le (Nat.le_refl _),List.nil_append,List.take_of_length_le hc]
def bitsAll (l:List UInt8):List Bool:=l.flatMap fun b=>bitsOf b.toNat 8
theorem bitsAll_length:∀ l:List UInt8,(bitsAll l).length=8 * l.length
 |[]=>rfl
 |b::l=>by
  have h:=bitsAll_length l
  unfold bitsAll at h ⊢
  rw [List.flatMap_cons,List.length_append,h,bitsOf_length,List.length_cons]
  omega
theorem bitsAll_append (l m:List UInt8):bitsAll (l++m)=bitsAll l++bitsAll m:=List.flatMap_append
theorem bitsOf_byteOf {c:List Bool} (h:c.length≤8):bitsOf (byteOf c).toNat 8=c++List.replicate (8 - c.length) false:=by
 rw [byteOf_toNat h]
 have e:byteN c=val (c++List.replicate (8 - c.length) false):=by
  rw [val_append]
  have:∀ n,val (List.replicate n false)=0:=by
   intro n
   induction n with
   |zero=>rfl
   |succ n ih=>rw [List.replicate_succ,val_cons,ih];simp
  rw [this,List.length_replicate];rfl
 have h8:(c++List.replicate (8 - c.length) false).length=8:=by simp;omega
 rw [e]
 conv=>lhs;arg 2;rw [← h8]
 exact bitsOf_val _
theorem bitsAll_packed:∀ (n:Nat) (l:List Bool),l.length≤n→∃ k,k<8∧bitsAll (packed l)=l++List.replicate k false:=by
 intro n
 induction n with
 |zero=>intro l h;have:l=[]:=List.eq_nil_of_length_eq_zero (by omega);subst this;exact ⟨0,by omega,rfl⟩
 |succ n ih=>
  intro l h
  by_cases hl:l=[]
  ·subst hl;exact ⟨0,by omega,rfl⟩
  ·have hp:0<l.length:=List.length_pos_iff.2 hl
   obtain ⟨a,c,rfl,ha,hc,h0⟩:∃ a c,l=a++c∧a.length % 8=0∧c.length≤8∧c≠[]:=by
    refine ⟨l.take ((l.length - 1) / 8 * 8),l.drop ((l.length - 1) / 8 * 8),(List.take_append_drop _ _).symm,?_,?_,?_⟩
    ·rw [List.length_take,Nat.min_eq_left (by omega)];omega
    ·rw [List.length_drop];omega
    ·intro e;have:=congrArg List.length e;rw [List.length_drop] at this;simp at this;omega
   have hcl:0<c.length:=List.length_pos_iff.2 h0
   obtain ⟨k,hk,e⟩:=ih a (by rw [List.length_append] at h;omega)
   rw [packed_snoc ha hc h0,bitsAll_append,e]
   have hlen:=congrArg List.length e
   rw [bitsAll_length,packed_length,List.length_append,List.length_replicate] at hlen
   have hk0:k=0:=by omega
   subst hk0
   refine ⟨8 - c.length,by omega,?_⟩
   simp [bitsAll,bitsOf_byteOf hc]
end Go.Proofs.Ytdenmoiaiemokaa
namespace Go.Proofs.Ytdenmoiaiemokaa
open Go.RowKit
def usedOf (l:List Bool):Nat:=if l.length % 8=0 then 8 else l.length % 8
def WrIs (w:World) (B wb:Nat) (l:List Bool) (err:Int):Prop:=
 ∃ ao cap,w.heap[wb]? =some (.cells #[.bool true,.slice ao (packed l).length cap,.int .i64 (usedOf l:Int),.int .i64 err] 231 (0,0))∧B≤wb∧
  w.ownsRow B 5 1 (.slice ao (packed l).length cap) (packed l).length ((packed l).map bv)
def WrF (w:World) (wb:Nat) (k:Nat):Prop:=k=wb∨∃ v,w.cell? ⟨wb,1,none⟩=some v∧v.ownBlock=some k
def fitsN (x:Nat) (n:Int):Prop:=0≤n∧n≤64∧x<2 ^ n.toNat
instance (x:Nat) (n:Int):Decidable (fitsN x n):=by unfold fitsN;infer_instance
def RdIs (w:World) (B rb:Nat) (l:List UInt8) (at':Nat) (err:Int):Prop:=
 ∃ ao cap,w.heap[rb]? =some (.cells #[.bool true,.slice ao l.length cap,.int .i64 (at':Int),.int .i64 err] 234 (0,0))∧B≤rb∧
  w.ownsRow B 5 1 (.slice ao l.length cap) l.length (l.map bv)∧∀ k,(Value.slice ao l.length cap).ownBlock=some k→k<rb
section
variable {w:World} {B rb:Nat} {l:List UInt8} {at':Nat} {err:Int}
end
def bitsFrom (l:List UInt8) (at' n:Nat):List Bool:=((bitsAll l).drop at').take n
end Go.Proofs.Ytdenmoiaiemokaa

/- What the desk's two laws lean on: part 09 (contracts and plain laws; their conditions stand in each). -/
import Derived.Test.YtnaebigoknfndaaGreatDoorE01
import Derived.WalkKit
import Derived.Laws.BitsAllLaws
import Derived.Lib.BitFns
import Derived.Lib.ItoaNum
import Derived.Test.YtnaebigoknfndaaGreatDoorRows
import Derived.WalkSpells
import Derived.WalkLawsBesides
import Derived.Laws.Externs
import Derived.Shelf.Spec.BitsCarry
import Derived.Test.YtnaebigoknfndaaGreatDoorE07
import Derived.Lib.Hide
import Derived.Deep.RegionWith
set_option linter.unusedVariables false
set_option linter.unusedSimpArgs false
set_option maxRecDepth 100000
set_option maxHeartbeats 20000000
namespace Go.Proofs.YtnaebigoknfndaaGreatDoor
def hi (x:Int):Int:=x / 18446744073709551616
def lo (x:Int):Int:=x % 18446744073709551616
def U64 (x:Int):Prop:=0≤x∧x<18446744073709551616
def U128 (x:Int):Prop:=0≤x∧x<340282366920938463463374607431768211456
def Wd (x h l:Int):Prop:=U128 x∧h=hi x∧l=lo x
theorem U128.hi {x:Int} (h:U128 x):U64 (hi x):=by unfold U64 U128 YtnaebigoknfndaaGreatDoor.hi at *;omega
theorem U128.lo {x:Int} (_:U128 x):U64 (lo x):=by unfold U64 YtnaebigoknfndaaGreatDoor.lo;omega
theorem Wd.mk {x:Int} (h:U128 x):Wd x (hi x) (lo x):=⟨h,rfl,rfl⟩
theorem Wd.of {h l:Int} (a:U64 h) (b:U64 l):∃ x,U128 x∧h=hi x∧l=lo x:=
 ⟨h * 18446744073709551616+l,by unfold U64 U128 hi lo at *;omega⟩
theorem Wd.lits {h l:Int} (a:U64 h) (b:U64 l):Wd (h * 18446744073709551616+l) h l:=by unfold Wd U64 U128 hi lo at *;omega
theorem Wd.lit {l:Int} (b:U64 l):Wd l 0 l:=by unfold Wd U64 U128 hi lo at *;omega
theorem U128.zero:U128 0:=by unfold U128;omega
theorem hi_zero:hi 0=0:=rfl
theorem lo_zero:lo 0=0:=rfl
theorem sum_halves {a b:Int} (ha:U128 a) (hb:U128 b) (h:U128 (a+b)) :
  ∃ c,0≤c∧c≤1∧lo a+lo b+0=c * 18446744073709551616+lo (a+b)∧hi a+hi b+c=0 * 18446744073709551616+hi (a+b):=
 ⟨(lo a+lo b) / 18446744073709551616,by unfold U128 hi lo at *;omega⟩
theorem sum_large {a b:Int} (ha:U128 a) (hb:U128 b) (h:¬ U128 (a+b)) :
  ∃ c s,0≤c∧c≤1∧U64 s∧lo a+lo b+0=c * 18446744073709551616+lo (a+b)∧hi a+hi b+c=1 * 18446744073709551616+s:=
 ⟨(lo a+lo b) / 18446744073709551616,hi a+hi b+(lo a+lo b) / 18446744073709551616 - 18446744073709551616,by unfold U128 U64 hi lo at *;omega⟩
theorem diff_halves {a b:Int} (ha:U128 a) (hb:U128 b) (h:U128 (a - b)) :
  ∃ c,0≤c∧c≤1∧lo a - lo b - 0=lo (a - b) - c * 18446744073709551616∧hi a - hi b - c=hi (a - b) - 0 * 18446744073709551616:=
 ⟨if lo a<lo b then 1 else 0,by unfold U128 hi lo at *;split <;> omega⟩
theorem diff_sign {a b:Int} (ha:U128 a) (hb:U128 b) (h:¬ U128 (a - b)) :
  ∃ c s,0≤c∧c≤1∧U64 s∧lo a - lo b - 0=lo (a - b) - c * 18446744073709551616∧hi a - hi b - c=s - 1 * 18446744073709551616:=
 ⟨if lo a<lo b then 1 else 0,hi a - hi b - (if lo a<lo b then 1 else 0)+18446744073709551616,by unfold U128 U64 hi lo at *;split <;> omega⟩
theorem lo_u64 (x:Int):U64 (lo x):=by unfold U64 lo;omega
end Go.Proofs.YtnaebigoknfndaaGreatDoor
namespace Go.Proofs.YtnaebigoknfndaaGreatDoor
theorem two_split (n m:Nat):(2:Nat) ^ n * 2 ^ m=2 ^ (n+m):=(Nat.pow_add 2 n m).symm
theorem or_add {n u v:Nat} (h:v<2 ^ n):(u * 2 ^ n) ||| v=u * 2 ^ n+v:=by
 rw [Nat.mul_comm,Nat.two_pow_add_eq_or_of_lt h]
theorem up_parts {A L q r:Nat} (hq:0<q) (hr:0<r) (hqr:r * q=18446744073709551616) (hL:L<18446744073709551616) :
  A * q % 18446744073709551616=A % r * q∧L / r<q ∧
  (A * 18446744073709551616+L) * q % 340282366920938463463374607431768211456 / 18446744073709551616=A % r * q+L / r ∧
  (A * 18446744073709551616+L) * q % 340282366920938463463374607431768211456 % 18446744073709551616=L * q % 18446744073709551616:=by
 have eA:A=r * (A / r)+A % r:=(Nat.div_add_mod A r).symm
 have eL:L=r * (L / r)+L % r:=(Nat.div_add_mod L r).symm
 have hA0:A % r<r:=Nat.mod_lt _ hr
 have hL0:L % r<r:=Nat.mod_lt _ hr
 have hL1:L / r<q:=Nat.div_lt_of_lt_mul (by omega)
 have mA:A * q=A / r * 18446744073709551616+A % r * q:=by
  rw [← hqr];conv=>lhs;rw [eA]
  rw [Nat.add_mul,Nat.mul_comm r (A / r),Nat.mul_assoc]
 have mL:L * q=L / r * 18446744073709551616+L % r * q:=by
  rw [← hqr];conv=>lhs;rw [eL]
  rw [Nat.add_mul,Nat.mul_comm r (L / r),Nat.mul_assoc]
 have bA:A % r * q+q≤18446744073709551616:=by
  have:=Nat.mul_le_mul_right q (Nat.succ_le_of_lt hA0)
  rw [Nat.succ_mul,hqr] at this;exact this
 have bL:L % r * q+q≤18446744073709551616:=by
  have:=Nat.mul_le_mul_right q (Nat.succ_le_of_lt hL0)
  rw [Nat.succ_mul,hqr] at this;exact this
 have e:(A * 18446744073709551616+L) * q=A * q * 18446744073709551616+L * q:=by rw [Nat.add_mul,Nat.mul_right_comm]
 rw [e,mA,mL]
 generalize A % r * q=u at *
 generalize L % r * q=v at *
 generalize A / r=A1 at *
 generalize L / r=L1 at *
 refine ⟨by omega,hL1,by omega,by omega⟩
theorem down_parts {A L q r:Nat} (hq:0<q) (hr:0<r) (hqr:q * r=18446744073709551616) (hA:A<18446744073709551616) (hL:L<18446744073709551616) :
  A * r % 18446744073709551616=A % q * r∧L / q<r ∧
  (A * 18446744073709551616+L) / q / 18446744073709551616=A / q ∧
  (A * 18446744073709551616+L) / q % 18446744073709551616=A % q * r+L / q:=by
 have eA:A=q * (A / q)+A % q:=(Nat.div_add_mod A q).symm
 have hA0:A % q<q:=Nat.mod_lt _ hq
 have hL1:L / q<r:=Nat.div_lt_of_lt_mul (by omega)
 have mA:A * r=A / q * 18446744073709551616+A % q * r:=by
  rw [← hqr];conv=>lhs;rw [eA]
  rw [Nat.add_mul,Nat.mul_comm q (A / q),Nat.mul_assoc]
 have bA:A % q * r+r≤18446744073709551616:=by
  have:=Nat.mul_le_mul_right r (Nat.succ_le_of_lt hA0)
  rw [Nat.succ_mul,hqr] at this;exact this
 have e:(A * 18446744073709551616+L) / q=A * r+L / q:=by
  rw [← hqr,show A * (q * r)+L=L+q * (A * r) from by rw [Nat.add_comm,Nat.mul_left_comm],Nat.add_mul_div_left _ _ hq,Nat.add_comm]
 rw [e,mA]
 generalize A % q * r=u at *
 generalize A / q=A1 at *
 generalize L / q=L1 at *
 clear eA hA0 e mA hqr hA hL hq hr
 refine ⟨by omega,hL1,by omega,by omega⟩
def up (a n:Int):Int:=a * 2 ^ n.toNat % 340282366920938463463374607431768211456
theorem up_fits {a n:Int} (h:U128 (a * 2 ^ n.toNat)):up a n=a * 2 ^ n.toNat:=by
 unfold U128 at h;unfold up;generalize a * 2 ^ n.toNat=x at *;omega
theorem halves {a:Int} (ha:U128 a):∃ A L:Nat,hi a=A∧lo a=L∧A<18446744073709551616∧L<18446744073709551616∧a=((A * 18446744073709551616+L:Nat):Int):=
 ⟨(hi a).toNat,(lo a).toNat,by unfold U128 hi lo at *;omega⟩
theorem up_small_halves {a n:Int} (ha:U128 a) (h:0≤n) (h1:n<64) :
  bits .or .u64 (IntKind.u64.wrap (hi a * 2 ^ n.toNat)) (lo a / 2 ^ (64 - n).toNat)=hi (up a n)∧IntKind.u64.wrap (lo a * 2 ^ n.toNat)=lo (up a n):=by
 obtain ⟨A,L,eA,eL,hA,hL,e⟩:=halves ha
 obtain ⟨k,rfl⟩:=Int.eq_ofNat_of_zero_le h
 have hk:k<64:=by omega
 rw [eA,eL,show ((64:Int) - (k:Int)).toNat=64 - k from by omega,show ((k:Int)).toNat=k from rfl]
 have hqr:2 ^ (64 - k) * 2 ^ k=18446744073709551616:=by rw [two_split,show 64 - k+k=64 from by omega]
 obtain ⟨p1,p2,p3,p4⟩:=up_parts (A:=A) (Nat.two_pow_pos k) (Nat.two_pow_pos (64 - k)) hqr hL
 have c:∀ x:Nat,((x:Int) * 2 ^ k)=((x * 2 ^ k:Nat):Int):=fun x=>by rw [Int.natCast_mul,Int.natCast_pow];rfl
 have d:(L:Int) / 2 ^ (64 - k)=((L / 2 ^ (64 - k):Nat):Int):=by rw [Int.natCast_ediv,Int.natCast_pow];rfl
 have wr:∀ x:Nat,IntKind.u64.wrap (x:Int)=((x % 18446744073709551616:Nat):Int):=fun x=>by rw [IntKind.wrap_u64];omega
 unfold up
 rw [show ((k:Int)).toNat=k from rfl,e,c,c,c,d,wr,wr]
 have hu:A * 2 ^ k % 18446744073709551616<18446744073709551616:=Nat.mod_lt _ (by omega)
 have hk2:(2:Nat) ^ k≤18446744073709551616:=Nat.pow_le_pow_right (by omega) (show k≤64 by omega)
 rw [u64_or_nat _ _ hu (by omega),p1,or_add p2,← p3]
 refine ⟨by unfold hi;omega,?_⟩
 rw [← p4];unfold lo;omega
theorem up_big_halves {a n:Int} (ha:U128 a) (h:64≤n):IntKind.u64.wrap (lo a * 2 ^ (n - 64).toNat)=hi (up a n)∧0=lo (up a n):=by
 obtain ⟨A,L,eA,eL,hA,hL,e⟩:=halves ha
 obtain ⟨k,rfl⟩:∃ k:Nat,n=(k:Int)+64:=⟨(n - 64).toNat,by omega⟩
 rw [eL,show ((k:Int)+64 - 64).toNat=k from by omega]
 unfold up
 rw [show ((k:Int)+64).toNat=k+64 from by omega,e,IntKind.wrap_u64]
 have c:((A * 18446744073709551616+L:Nat):Int) * 2 ^ (k+64)=((A:Int) * 2 ^ k) * 340282366920938463463374607431768211456+((L:Int) * 2 ^ k) * 18446744073709551616:=by
  have h64:(2:Int) ^ 64=18446744073709551616:=rfl
  rw [Int.pow_add,h64,Int.natCast_add,Int.natCast_mul]
  generalize (2:Int) ^ k=z
  rw [show ((18446744073709551616:Nat):Int)=18446744073709551616 from rfl,← Int.mul_assoc,Int.add_mul,Int.mul_right_comm (A:Int) 18446744073709551616 z]
  generalize (A:Int) * z=u
  generalize (L:Int) * z=v
  omega
 rw [c]
 generalize (A:Int) * 2 ^ k=u
 generalize (L:Int) * 2 ^ k=v
 unfold hi lo
 omega
theorem down_small_halves {a n:Int} (ha:U128 a) (h:0≤n) (h1:n<64) :
  hi a / 2 ^ n.toNat=hi (a / 2 ^ n.toNat)∧bits .or .u64 (lo a / 2 ^ n.toNat) (IntKind.u64.wrap (hi a * 2 ^ (64 - n).toNat))=lo (a / 2 ^ n.toNat):=by
 obtain ⟨A,L,eA,eL,hA,hL,e⟩:=halves ha
 obtain ⟨k,rfl⟩:=Int.eq_ofNat_of_zero_le h
 have hk:k<64:=by omega
 rw [eA,eL,show ((64:Int) - (k:Int)).toNat=64 - k from by omega,show ((k:Int)).toNat=k from rfl]
 have hqr:2 ^ k * 2 ^ (64 - k)=18446744073709551616:=by rw [two_split,show k+(64 - k)=64 from by omega]
 obtain ⟨p1,p2,p3,p4⟩:=down_parts (Nat.two_pow_pos k) (Nat.two_pow_pos (64 - k)) hqr hA hL
 have c:∀ x:Nat,((x:Int) * 2 ^ (64 - k))=((x * 2 ^ (64 - k):Nat):Int):=fun x=>by rw [Int.natCast_mul,Int.natCast_pow];rfl
 have d:∀ x:Nat,(x:Int) / 2 ^ k=((x / 2 ^ k:Nat):Int):=fun x=>by rw [Int.natCast_ediv,Int.natCast_pow];rfl
 have wr:∀ x:Nat,IntKind.u64.wrap (x:Int)=((x % 18446744073709551616:Nat):Int):=fun x=>by rw [IntKind.wrap_u64];omega
 rw [e,c,d,d,d,wr]
 have hu:A * 2 ^ (64 - k) % 18446744073709551616<18446744073709551616:=Nat.mod_lt _ (by omega)
 have hk2:(2:Nat) ^ (64 - k)≤18446744073709551616:=Nat.pow_le_pow_right (by omega) (show 64 - k≤64 by omega)
 refine ⟨by unfold hi;omega,?_⟩
 rw [u64_or_nat _ _ (by omega) hu,Nat.or_comm,p1,or_add p2,← p4]
 unfold lo;omega
theorem down_big_halves {a n:Int} (ha:U128 a) (h:64≤n):0=hi (a / 2 ^ n.toNat)∧hi a / 2 ^ (n - 64).toNat=lo (a / 2 ^ n.toNat):=by
 obtain ⟨k,rfl⟩:∃ k:Nat,n=(k:Int)+64:=⟨(n - 64).toNat,by omega⟩
 rw [show ((k:Int)+64 - 64).toNat=k from by omega,show ((k:Int)+64).toNat=64+k from by omega,Int.pow_add,← Int.ediv_ediv_of_nonneg (Int.pow_nonneg (by omega)),show (2:Int) ^ 64=18446744073709551616 from rfl]
 have b:0≤a / 18446744073709551616∧a / 18446744073709551616<18446744073709551616:=by unfold U128 at ha;omega
 have b1:0≤a / 18446744073709551616 / 2 ^ k:=Int.ediv_nonneg b.1 (Int.pow_nonneg (by omega))
 have b2:a / 18446744073709551616 / 2 ^ k≤a / 18446744073709551616:=Int.ediv_le_self _ b.1
 unfold hi lo
 generalize a / 18446744073709551616 / 2 ^ k=x at *
 omega
end Go.Proofs.YtnaebigoknfndaaGreatDoor
namespace Go.Proofs.YtnaebigoknfndaaGreatDoor
def blen (a:Int):Int:=if 0<hi a then 64+(Lib.bitLen (hi a).toNat:Int) else (Lib.bitLen (lo a).toNat:Int)
theorem blen_hi {a:Int} (h:0<hi a):64+(Lib.bitLen (hi a).toNat:Int)=blen a:=by rw [blen,if_pos h]
theorem blen_lo {a:Int} (h:¬ 0<hi a):(Lib.bitLen (lo a).toNat:Int)=blen a:=by rw [blen,if_neg h]
theorem bitLen_bounds (x:Nat) (h:x<18446744073709551616) (h0:x≠0):∃ k:Nat,Lib.bitLen x=k+1∧2 ^ k≤x∧x<2 ^ (k+1):=by
 obtain ⟨h1,h2,h3⟩:=Lib.bitLenAux_bounds 64 x h h0
 refine ⟨Lib.bitLenAux 64 x - 1,?_,h2,?_⟩
 ·unfold Lib.bitLen;omega
 ·rw [show Lib.bitLenAux 64 x - 1+1=Lib.bitLenAux 64 x from by omega];exact h3
theorem blen_zero:blen 0=0:=by decide
theorem pow_cast (k:Nat):((2 ^ k:Nat):Int)=2 ^ k:=by rw [Int.natCast_pow];rfl
theorem p2 (k:Nat):(0:Int)<2 ^ k:=by rw [← pow_cast];exact Int.ofNat_lt.2 (Nat.two_pow_pos k)
theorem blen_pos {a:Int} (ha:U128 a) (h:0<a):∃ k:Nat,blen a=k+1∧2 ^ k≤a∧a<2 ^ (k+1):=by
 by_cases c:0<hi a
 ·have b1:(hi a).toNat<18446744073709551616:=by unfold U128 hi at *;omega
  obtain ⟨k,e,l,u⟩:=bitLen_bounds _ b1 (by omega)
  refine ⟨64+k,by rw [← blen_hi c,e];omega,?_,?_⟩
  ·rw [Int.pow_add,← pow_cast k,show (2:Int) ^ 64=18446744073709551616 from rfl]
   generalize 2 ^ k=z at *
   unfold hi at *;omega
  ·rw [show 64+k+1=64+(k+1) from by omega,Int.pow_add,← pow_cast (k+1),show (2:Int) ^ 64=18446744073709551616 from rfl]
   generalize 2 ^ (k+1)=z at *
   unfold hi at *;omega
 ·have e0:lo a=a:=by unfold U128 hi lo at *;omega
  have b1:(lo a).toNat<18446744073709551616:=by unfold lo at *;omega
  obtain ⟨k,e,l,u⟩:=bitLen_bounds _ b1 (by omega)
  refine ⟨k,by rw [← blen_lo c,e];omega,?_,?_⟩
  ·rw [← pow_cast k]
   generalize 2 ^ k=z at *
   omega
  ·rw [← pow_cast (k+1)]
   generalize 2 ^ (k+1)=z at *
   omega
theorem blen_bd {a:Int} (ha:U128 a):0≤blen a∧blen a≤128:=by
 by_cases c:0<hi a
 ·have b1:(hi a).toNat<2 ^ 64:=by unfold U128 hi at *;omega
  have:=Lib.bitLen_le _ 64 (by omega) b1
  rw [← blen_hi c];omega
 ·have b1:(lo a).toNat<2 ^ 64:=by unfold lo at *;omega
  have:=Lib.bitLen_le _ 64 (by omega) b1
  rw [← blen_lo c];omega
theorem pow_lt_pow {i j:Nat} (h:i<j):(2:Int) ^ i * 2≤2 ^ j:=by
 obtain ⟨d,rfl⟩:∃ d,j=i+1+d:=⟨j - i - 1,by omega⟩
 rw [Int.pow_add,Int.pow_succ]
 have h1:(1:Int)≤2 ^ d:=p2 d
 have h2:(0:Int)≤2 ^ i * 2:=by have:=p2 i;omega
 calc (2:Int) ^ i * 2=2 ^ i * 2 * 1:=by omega
  _≤2 ^ i * 2 * 2 ^ d:=Int.mul_le_mul_of_nonneg_left h1 h2
theorem shift_fits {a n:Int} (ha:U128 a) (h:0<a) (h0:0≤n):U128 (a * 2 ^ n.toNat)↔blen a+n≤128:=by
 obtain ⟨k,e,l,u⟩:=blen_pos ha h
 obtain ⟨m,rfl⟩:=Int.eq_ofNat_of_zero_le h0
 rw [e,show ((m:Int)).toNat=m from rfl]
 have hm:(1:Int)≤2 ^ m:=p2 m
 have p128:(340282366920938463463374607431768211456:Int)=2 ^ 128:=rfl
 constructor
 ·intro hu
  rcases Nat.lt_or_ge (k+m) 128 with c | c
  ·omega
  ·exfalso
   have h1:(2:Int) ^ 128≤2 ^ (k+m):=by
    rcases Nat.lt_or_ge 128 (k+m) with c' | c'
    ·have:=pow_lt_pow c'
     have h2:=p2 128
     omega
    ·rw [show k+m=128 from by omega];exact Int.le_refl _
   rw [Int.pow_add] at h1
   have h2:(2:Int) ^ k * 2 ^ m≤a * 2 ^ m:=Int.mul_le_mul_of_nonneg_right l (by omega)
   have:=hu.2
   rw [p128] at this
   exact absurd (Int.lt_of_le_of_lt (Int.le_trans h1 h2) this) (Int.lt_irrefl _)
 ·intro hle
  refine ⟨Int.mul_nonneg ha.1 (by omega),?_⟩
  rw [p128]
  have h2:a * 2 ^ m<2 ^ (k+1) * 2 ^ m:=Int.mul_lt_mul_of_pos_right u (by omega)
  rw [← Int.pow_add] at h2
  rcases Nat.lt_or_ge (k+1+m) 128 with c | c
  ·have:=pow_lt_pow c
   have h3:=p2 (k+1+m)
   have h4:(2:Int) ^ (k+1+m)≤2 ^ 128:=Int.le_trans (by omega) this
   exact Int.lt_of_lt_of_le h2 h4
  ·rwa [show k+1+m=128 from by omega] at h2
end Go.Proofs.YtnaebigoknfndaaGreatDoor
namespace Go.Proofs.YtnaebigoknfndaaGreatDoor
open Go.RowKit
theorem add64_run (x y c s k:Int) (hx:U64 x) (hy:U64 y) (hc0:0≤c) (hc:c≤1) (hs:U64 s) (h:x+y+c=k * 18446744073709551616+s) (w:World) :
  (callFunc 100 #[.int .u64 x,.int .u64 y,.int .u64 c]).run Tryz.prog w=.ok (.value (.tuple #[.int .u64 s,.int .u64 k])) w:=by
 rw [run_callFunc_extern (P:=Tryz.prog) (fn:=Tryz.f100) Tryz.func100 (by kernel_rfl) (by kernel_rfl) (by kernel_rfl) (e:=add64Entry) (by kernel_rfl),run_add64 x y c hx.1 hy.1 hc0 hc]
 simp only [Result.andThen]
 have e1:(x+y+c) % 18446744073709551616=s:=by unfold U64 at *;omega
 have e2:(x+y+c) / 18446744073709551616=k:=by unfold U64 at *;omega
 rw [e1,e2]
theorem sub64_run (x y c s k:Int) (hx:U64 x) (hy:U64 y) (hc0:0≤c) (hc:c≤1) (hs:U64 s) (h:x - y - c=s - k * 18446744073709551616) (w:World) :
  (callFunc 101 #[.int .u64 x,.int .u64 y,.int .u64 c]).run Tryz.prog w=.ok (.value (.tuple #[.int .u64 s,.int .u64 k])) w:=by
 obtain ⟨X,rfl⟩:=Int.eq_ofNat_of_zero_le hx.1
 obtain ⟨Y,rfl⟩:=Int.eq_ofNat_of_zero_le hy.1
 obtain ⟨C,rfl⟩:=Int.eq_ofNat_of_zero_le hc0
 rw [run_callFunc_extern (P:=Tryz.prog) (fn:=Tryz.f101) Tryz.func101 (by kernel_rfl) (by kernel_rfl) (by kernel_rfl) (e:=sub64Entry) (by kernel_rfl),run_sub64 X Y C (by omega)]
 simp only [Result.andThen]
 have e1:(((X+18446744073709551616 - Y - C) % 18446744073709551616:Nat):Int)=s:=by unfold U64 at *;omega
 have e2:((if X<Y+C then 1 else 0:Nat):Int)=k:=by unfold U64 at *;split <;> omega
 rw [e1,e2]
theorem add_ok (a b x:Int) {ah al bh bl:Int} (ha:Wd a ah al) (hb:Wd b bh bl) (hx:a+b=x) (h:U128 x) (w:World) :
  Calls Tryz.prog 38 #[.agg #[.int .u64 ah,.int .u64 al],.agg #[.int .u64 bh,.int .u64 bl]] w fun e w'=>
   e=.returned (.tuple #[.agg #[.int .u64 (hi x),.int .u64 (lo x)],.int .i64 0])∧Below w.heap.size w w':=by
 subst hx
 obtain ⟨ha,rfl,rfl⟩:=ha
 obtain ⟨hb,rfl,rfl⟩:=hb
 obtain ⟨c,c0,c1,e1,e2⟩:=sum_halves ha hb h
 have r1:=add64_run _ _ _ _ _ ha.lo hb.lo (by omega) (by omega) h.lo e1
 have r2:=add64_run _ _ _ _ _ ha.hi hb.hi c0 c1 h.hi e2
 clear e1 e2 ha hb h
 go_enter Tryz.func38,Tryz.ntmps38
 go_wp2
 refine bodyPost_ret (v:=.tuple #[.agg #[.int .u64 (hi (a+b)),.int .u64 (lo (a+b))],.int .i64 0]) (by simp [results,Tryz.results38,go_sem]) rfl ?_
 exact ⟨rfl,(by repeat (first | (with_reducible exact Below.refl _ _) | (with_reducible refine bAl ?_ _) | (with_reducible refine bSc ?_ _) | (with_reducible refine Below.drew ?_) | (refine Below.trans ?_ (by assumption))))⟩
theorem add_large (a b:Int) {ah al bh bl:Int} (ha:Wd a ah al) (hb:Wd b bh bl) (h:¬ U128 (a+b)) (w:World) :
  Calls Tryz.prog 38 #[.agg #[.int .u64 ah,.int .u64 al],.agg #[.int .u64 bh,.int .u64 bl]] w fun e w'=>
   e=.returned (.tuple #[.agg #[.int .u64 0,.int .u64 0],.int .i64 2])∧Below w.heap.size w w':=by
 obtain ⟨ha,rfl,rfl⟩:=ha
 obtain ⟨hb,rfl,rfl⟩:=hb
 obtain ⟨c,s,c0,c1,hs,e1,e2⟩:=sum_large ha hb h
 have r1:=add64_run _ _ _ _ _ ha.lo hb.lo (by omega) (by omega) (lo_u64 _) e1
 have r2:=add64_run _ _ _ _ _ ha.hi hb.hi c0 c1 hs e2
 clear e1 e2 ha hb h hs
 go_enter Tryz.func38,Tryz.ntmps38
 go_wp2
 refine bodyPost_ret (v:=.tuple #[.agg #[.int .u64 0,.int .u64 0],.int .i64 2]) (by simp [results,Tryz.results38,go_sem]) rfl ?_
 exact ⟨rfl,(by repeat (first | (with_reducible exact Below.refl _ _) | (with_reducible refine bAl ?_ _) | (with_reducible refine bSc ?_ _) | (with_reducible refine Below.drew ?_) | (refine Below.trans ?_ (by assumption))))⟩
theorem sub_ok (a b x:Int) {ah al bh bl:Int} (ha:Wd a ah al) (hb:Wd b bh bl) (hx:a - b=x) (h:U128 x) (w:World) :
  Calls Tryz.prog 40 #[.agg #[.int .u64 ah,.int .u64 al],.agg #[.int .u64 bh,.int .u64 bl]] w fun e w'=>
   e=.returned (.tuple #[.agg #[.int .u64 (hi x),.int .u64 (lo x)],.int .i64 0])∧Below w.heap.size w w':=by
 subst hx
 obtain ⟨ha,rfl,rfl⟩:=ha
 obtain ⟨hb,rfl,rfl⟩:=hb
 obtain ⟨c,c0,c1,e1,e2⟩:=diff_halves ha hb h
 have r1:=sub64_run _ _ _ _ _ ha.lo hb.lo (by omega) (by omega) h.lo e1
 have r2:=sub64_run _ _ _ _ _ ha.hi hb.hi c0 c1 h.hi e2
 clear e1 e2 ha hb h
 go_enter Tryz.func40,Tryz.ntmps40
 go_wp2
 refine bodyPost_ret (v:=.tuple #[.agg #[.int .u64 (hi (a - b)),.int .u64 (lo (a - b))],.int .i64 0]) (by simp [results,Tryz.results40,go_sem]) rfl ?_
 exact ⟨rfl,(by repeat (first | (with_reducible exact Below.refl _ _) | (with_reducible refine bAl ?_ _) | (with_reducible refine bSc ?_ _) | (with_reducible refine Below.drew ?_) | (refine Below.trans ?_ (by assumption))))⟩
theorem sub_sign (a b:Int) {ah al bh bl:Int} (ha:Wd a ah al) (hb:Wd b bh bl) (h:¬ U128 (a - b)) (w:World) :
  Calls Tryz.prog 40 #[.agg #[.int .u64 ah,.int .u64 al],.agg #[.int .u64 bh,.int .u64 bl]] w fun e w'=>
   e=.returned (.tuple #[.agg #[.int .u64 0,.int .u64 0],.int .i64 7])∧Below w.heap.size w w':=by
 obtain ⟨ha,rfl,rfl⟩:=ha
 obtain ⟨hb,rfl,rfl⟩:=hb
 obtain ⟨c,s,c0,c1,hs,e1,e2⟩:=diff_sign ha hb h
 have r1:=sub64_run _ _ _ _ _ ha.lo hb.lo (by omega) (by omega) (lo_u64 _) e1
 have r2:=sub64_run _ _ _ _ _ ha.hi hb.hi c0 c1 hs e2
 clear e1 e2 ha hb h hs
 go_enter Tryz.func40,Tryz.ntmps40
 go_wp2
 refine bodyPost_ret (v:=.tuple #[.agg #[.int .u64 0,.int .u64 0],.int .i64 7]) (by simp [results,Tryz.results40,go_sem]) rfl ?_
 exact ⟨rfl,(by repeat (first | (with_reducible exact Below.refl _ _) | (with_reducible refine bAl ?_ _) | (with_reducible refine bSc ?_ _) | (with_reducible refine Below.drew ?_) | (refine Below.trans ?_ (by assumption))))⟩
end Go.Proofs.YtnaebigoknfndaaGreatDoor
namespace Go.Proofs.YtnaebigoknfndaaGreatDoor
open Go.RowKit
theorem cmp_eq (a:Int) {ah al bh bl:Int} (ha:Wd a ah al) (hb:Wd a bh bl) (w:World) :
  Calls Tryz.prog 103 #[.agg #[.int .u64 ah,.int .u64 al],.agg #[.int .u64 bh,.int .u64 bl]] w fun e w'=>
   e=.returned (.int .i64 0)∧Below w.heap.size w w':=by
 obtain ⟨ha,rfl,rfl⟩:=ha
 obtain ⟨hb,rfl,rfl⟩:=hb
 clear ha hb
 go_enter Tryz.func103,Tryz.ntmps103
 go_wp2
 go_ret
 exact ⟨rfl,(by repeat (first | (with_reducible exact Below.refl _ _) | (with_reducible refine bAl ?_ _) | (with_reducible refine bSc ?_ _) | (with_reducible refine Below.drew ?_) | (refine Below.trans ?_ (by assumption))))⟩
theorem cmp_lt (a b:Int) {ah al bh bl:Int} (ha:Wd a ah al) (hb:Wd b bh bl) (h:a<b) (w:World) :
  Calls Tryz.prog 103 #[.agg #[.int .u64 ah,.int .u64 al],.agg #[.int .u64 bh,.int .u64 bl]] w fun e w'=>
   e=.returned (.int .i64 (-1))∧Below w.heap.size w w':=by
 obtain ⟨ha,rfl,rfl⟩:=ha
 obtain ⟨hb,rfl,rfl⟩:=hb
 by_cases c:hi a<hi b
 ·have d:¬ hi a=hi b:=by omega
  clear ha hb h
  go_enter Tryz.func103,Tryz.ntmps103
  go_wp2
  go_ret
  exact ⟨rfl,(by repeat (first | (with_reducible exact Below.refl _ _) | (with_reducible refine bAl ?_ _) | (with_reducible refine bSc ?_ _) | (with_reducible refine Below.drew ?_) | (refine Below.trans ?_ (by assumption))))⟩
 ·have d:hi b=hi a:=by unfold hi U128 at *;omega
  have c':lo a<lo b:=by unfold hi lo U128 at *;omega
  have c'':¬ lo a=lo b:=by omega
  have c3:¬ hi a<hi a:=by omega
  rw [d]
  clear ha hb h c d
  go_enter Tryz.func103,Tryz.ntmps103
  go_wp2
  go_ret
  exact ⟨rfl,(by repeat (first | (with_reducible exact Below.refl _ _) | (with_reducible refine bAl ?_ _) | (with_reducible refine bSc ?_ _) | (with_reducible refine Below.drew ?_) | (refine Below.trans ?_ (by assumption))))⟩
theorem cmp_gt (a b:Int) {ah al bh bl:Int} (ha:Wd a ah al) (hb:Wd b bh bl) (h:b<a) (w:World) :
  Calls Tryz.prog 103 #[.agg #[.int .u64 ah,.int .u64 al],.agg #[.int .u64 bh,.int .u64 bl]] w fun e w'=>
   e=.returned (.int .i64 1)∧Below w.heap.size w w':=by
 obtain ⟨ha,rfl,rfl⟩:=ha
 obtain ⟨hb,rfl,rfl⟩:=hb
 by_cases c:hi b<hi a
 ·have d:¬ hi a=hi b:=by omega
  have c':¬ hi a<hi b:=by omega
  clear ha hb h
  go_enter Tryz.func103,Tryz.ntmps103
  go_wp2
  go_ret
  exact ⟨rfl,(by repeat (first | (with_reducible exact Below.refl _ _) | (with_reducible refine bAl ?_ _) | (with_reducible refine bSc ?_ _) | (with_reducible refine Below.drew ?_) | (refine Below.trans ?_ (by assumption))))⟩
 ·have d:hi b=hi a:=by unfold hi U128 at *;omega
  have c':¬ lo a<lo b:=by unfold hi lo U128 at *;omega
  have c'':¬ lo a=lo b:=by unfold hi lo U128 at *;omega
  have c3:¬ hi a<hi a:=by omega
  rw [d]
  clear ha hb h c d
  go_enter Tryz.func103,Tryz.ntmps103
  go_wp2
  go_ret
  exact ⟨rfl,(by repeat (first | (with_reducible exact Below.refl _ _) | (with_reducible refine bAl ?_ _) | (with_reducible refine bSc ?_ _) | (with_reducible refine Below.drew ?_) | (refine Below.trans ?_ (by assumption))))⟩
theorem len_any (a:Int) {ah al:Int} (ha:Wd a ah al) (w:World) :
  Calls Tryz.prog 53 #[.agg #[.int .u64 ah,.int .u64 al]] w fun e w'=>
   e=.returned (.int .i64 (blen a))∧Below w.heap.size w w':=by
 obtain ⟨ha,rfl,rfl⟩:=ha
 have l1:=ha.lo
 have l2:=ha.hi
 unfold U64 at l1 l2
 have b1:=Lib.bitLen_le (hi a).toNat 64 (by omega) (by omega)
 by_cases c:0<hi a
 ·rw [← blen_hi c]
  generalize hk:Lib.bitLen (hi a).toNat=k at b1
  have Hk:=Lib.hid hk
  clear hk
  go_enter Tryz.func53,Tryz.ntmps53
  go_wp2_with (go_at_call 107;refine (Tryz.bits_Len64 _ _ (by omega) (by omega)).mono ?_;rintro e w' ⟨rfl,rfl⟩;rw [Hk.out])
  go_ret
  exact ⟨rfl,(by repeat (first | (with_reducible exact Below.refl _ _) | (with_reducible refine bAl ?_ _) | (with_reducible refine bSc ?_ _) | (with_reducible refine Below.drew ?_) | (refine Below.trans ?_ (by assumption))))⟩
 ·rw [← blen_lo c]
  clear b1
  go_enter Tryz.func53,Tryz.ntmps53
  go_wp2_with (go_at_call 107;refine (Tryz.bits_Len64 _ _ (by omega) (by omega)).mono ?_;rintro e w' ⟨rfl,rfl⟩)
  go_ret
  exact ⟨rfl,(by repeat (first | (with_reducible exact Below.refl _ _) | (with_reducible refine bAl ?_ _) | (with_reducible refine bSc ?_ _) | (with_reducible refine Below.drew ?_) | (refine Below.trans ?_ (by assumption))))⟩
theorem mul_any (x y z:Int) (w:World) (hx:U64 x) (hy:U64 y) (hz:x * y=z) :
  Calls Tryz.prog 102 #[.int .u64 x,.int .u64 y] w fun e w'=>
   e=.returned (.agg #[.int .u64 (hi z),.int .u64 (lo z)])∧Below w.heap.size w w':=by
 subst hz
 obtain ⟨X,rfl⟩:=Int.eq_ofNat_of_zero_le hx.1
 obtain ⟨Y,rfl⟩:=Int.eq_ofNat_of_zero_le hy.1
 have e1:hi ((X:Int) * Y)=((X * Y / 18446744073709551616:Nat):Int):=by unfold hi;rw [← Int.natCast_mul];omega
 have e2:lo ((X:Int) * Y)=((X * Y % 18446744073709551616:Nat):Int):=by unfold lo;rw [← Int.natCast_mul];omega
 rw [e1,e2]
 generalize hp:X * Y / 18446744073709551616=p
 generalize hq:X * Y % 18446744073709551616=q
 have Hp:=Lib.hid hp
 have Hq:=Lib.hid hq
 clear e1 e2 hp hq
 have bx:X<18446744073709551616:=by unfold U64 at hx;omega
 have by':Y<18446744073709551616:=by unfold U64 at hy;omega
 go_enter Tryz.func102,Tryz.ntmps102
 go_wp2_with (go_at_call 136;refine (Tryz.bits_Mul64 _ _ bx by' _).mono ?_;rintro e w' ⟨rfl,rfl⟩;rw [Hp.out,Hq.out])
 refine bodyPost_ret (v:=.agg #[.int .u64 (p:Int),.int .u64 (q:Int)]) (by simp [results,Tryz.results102,go_sem]) rfl ?_
 exact ⟨rfl,(by repeat (first | (with_reducible exact Below.refl _ _) | (with_reducible refine bAl ?_ _) | (with_reducible refine bSc ?_ _) | (with_reducible refine Below.drew ?_) | (refine Below.trans ?_ (by assumption))))⟩
theorem up_any (a n:Int) {ah al:Int} (ha:Wd a ah al) (w:World) (h:0≤n) (h1:n≤127) :
  Calls Tryz.prog 105 #[.agg #[.int .u64 ah,.int .u64 al],.int .i64 n] w fun e w'=>
   e=.returned (.agg #[.int .u64 (hi (up a n)),.int .u64 (lo (up a n))])∧Below w.heap.size w w':=by
 obtain ⟨ha,rfl,rfl⟩:=ha
 by_cases c:64≤n
 ·obtain ⟨e1,e2⟩:=up_big_halves ha c
  rw [← e1,← e2]
  clear e1 e2 ha
  go_enter Tryz.func105,Tryz.ntmps105
  go_wp2
  refine bodyPost_ret (v:=.agg #[.int .u64 (IntKind.u64.wrap (lo a * 2 ^ (n - 64).toNat)),.int .u64 0]) (by simp [results,Tryz.results105,go_sem]) rfl ?_
  exact ⟨rfl,(by repeat (first | (with_reducible exact Below.refl _ _) | (with_reducible refine bAl ?_ _) | (with_reducible refine bSc ?_ _) | (with_reducible refine Below.drew ?_) | (refine Below.trans ?_ (by assumption))))⟩
 ·obtain ⟨e1,e2⟩:=up_small_halves ha h (by omega)
  rw [← e1,← e2]
  clear e1 e2 ha
  go_enter Tryz.func105,Tryz.ntmps105
  go_wp2
  refine wp_region_quiet_tail 15 (fun w'=>w'=World.drew _) (by kernel_rfl) (by kernel_rfl) rfl ?_
  simp only [List.take_succ_cons,List.take_zero,List.drop_succ_cons,List.drop_zero]
  repeat (first | go_big_quiet_step (fail) | quiet_step (fail))
  refine wpQuiet_nil ?_
  rintro _ rfl
  go_wp2
  refine bodyPost_ret (v:=.agg #[.int .u64 (bits .or .u64 (IntKind.u64.wrap (hi a * 2 ^ n.toNat)) (lo a / 2 ^ (64 - n).toNat)),.int .u64 (IntKind.u64.wrap (lo a * 2 ^ n.toNat))]) (by simp [results,Tryz.results105,go_sem]) rfl ?_
  exact ⟨rfl,(by repeat (first | (with_reducible exact Below.refl _ _) | (with_reducible refine bAl ?_ _) | (with_reducible refine bSc ?_ _) | (with_reducible refine Below.drew ?_) | (refine Below.trans ?_ (by assumption))))⟩
theorem shr_any (a n:Int) {ah al:Int} (ha:Wd a ah al) (w:World) (h:0≤n) (h1:n≤127) :
  Calls Tryz.prog 54 #[.agg #[.int .u64 ah,.int .u64 al],.int .i64 n] w fun e w'=>
   e=.returned (.tuple #[.agg #[.int .u64 (hi (a / 2 ^ n.toNat)),.int .u64 (lo (a / 2 ^ n.toNat))],.int .i64 0])∧Below w.heap.size w w':=by
 obtain ⟨ha,rfl,rfl⟩:=ha
 by_cases c:64≤n
 ·obtain ⟨e1,e2⟩:=down_big_halves ha c
  rw [← e1,← e2]
  clear e1 e2 ha
  go_enter Tryz.func54,Tryz.ntmps54
  go_wp2
  refine bodyPost_ret (v:=.tuple #[.agg #[.int .u64 0,.int .u64 (hi a / 2 ^ (n - 64).toNat)],.int .i64 0]) (by simp [results,Tryz.results54,go_sem]) rfl ?_
  exact ⟨rfl,(by repeat (first | (with_reducible exact Below.refl _ _) | (with_reducible refine bAl ?_ _) | (with_reducible refine bSc ?_ _) | (with_reducible refine Below.drew ?_) | (refine Below.trans ?_ (by assumption))))⟩
 ·obtain ⟨e1,e2⟩:=down_small_halves ha h (by omega)
  rw [← e1,← e2]
  clear e1 e2 ha
  go_enter Tryz.func54,Tryz.ntmps54
  go_wp2
  refine wp_region_quiet_tail 15 (fun w'=>w'=World.drew _) (by kernel_rfl) (by kernel_rfl) rfl ?_
  simp only [List.take_succ_cons,List.take_zero,List.drop_succ_cons,List.drop_zero]
  repeat (first | go_big_quiet_step (fail) | quiet_step (fail))
  refine wpQuiet_nil ?_
  rintro _ rfl
  go_wp2
  refine bodyPost_ret (v:=.tuple #[.agg #[.int .u64 (hi a / 2 ^ n.toNat),.int .u64 (bits .or .u64 (lo a / 2 ^ n.toNat) (IntKind.u64.wrap (hi a * 2 ^ (64 - n).toNat)))],.int .i64 0]) (by simp [results,Tryz.results54,go_sem]) rfl ?_
  exact ⟨rfl,(by repeat (first | (with_reducible exact Below.refl _ _) | (with_reducible refine bAl ?_ _) | (with_reducible refine bSc ?_ _) | (with_reducible refine Below.drew ?_) | (refine Below.trans ?_ (by assumption))))⟩
end Go.Proofs.YtnaebigoknfndaaGreatDoor
namespace Go.Proofs.YtnaebigoknfndaaGreatDoor
open Go.RowKit
theorem nz_of {b bh bl:Int} (hb:Wd b bh bl) (h:0<b):¬ bh=0∨bh=0∧¬ bl=0:=by
 obtain ⟨u,e1,e2⟩:=hb
 unfold hi at e1;unfold lo at e2;unfold U128 at u;omega
theorem halv_zero (a:Int) {ah al:Int} (ha:Wd a ah al) (w:World) :
  Calls Tryz.prog 47 #[.agg #[.int .u64 ah,.int .u64 al],.agg #[.int .u64 0,.int .u64 0]] w fun e w'=>
   e=.returned (.tuple #[.int .i64 0,.int .i64 6])∧Below w.heap.size w w':=by
 clear ha
 go_enter Tryz.func47,Tryz.ntmps47
 go_wp2_with fail
 go_ret2
 exact ⟨rfl,(by repeat (first | (with_reducible exact Below.refl _ _) | (with_reducible refine bAl ?_ _) | (with_reducible refine bSc ?_ _) | (with_reducible refine Below.drew ?_) | (refine Below.trans ?_ (by assumption))))⟩
theorem halv_neg (a b k:Int) {ah al bh bl:Int} (ha:Wd a ah al) (hb:Wd b bh bl) (h:0<b) (hk:blen a - blen b=k) (kn:k<0) (w:World) :
  Calls Tryz.prog 47 #[.agg #[.int .u64 ah,.int .u64 al],.agg #[.int .u64 bh,.int .u64 bl]] w fun e w'=>
   e=.returned (.tuple #[.int .i64 0,.int .i64 4])∧Below w.heap.size w w':=by
 have nz:=nz_of hb h
 have b1:=blen_bd ha.1
 have b2:=blen_bd hb.1
 have qa:=alloc_cells
 have qf:=alloc_frozens
 obtain ⟨L,e_L⟩:∃ z_,blen a=z_:=⟨_,rfl⟩
 rw [e_L] at hk b1
 have HL:=Lib.hid e_L
 clear e_L
 obtain ⟨M,e_M⟩:∃ z_,blen b=z_:=⟨_,rfl⟩
 rw [e_M] at hk b2
 have HM:=Lib.hid e_M
 clear e_M
 have hla:∀ w',_:=fun w'=>HL.out ▸ len_any a ha w'
 have hlb:∀ w',_:=fun w'=>HM.out ▸ len_any b hb w'
 have Hla:=Lib.hid hla
 have Hlb:=Lib.hid hlb
 have e1:IntKind.i64.wrap (L - M)=L - M:=IntWalk.i64_in _ (by omega)
 have kn':L - M<0:=by omega
 have kd:decide (0≤L - M)=false:=by simp;omega
 have kd':decide (M≤L)=false:=by simp;omega
 clear ha hb hla hlb hk kn
 rcases nz with nz | ⟨rfl,nz⟩
 all_goals
  go_enter Tryz.func47,Tryz.ntmps47
  go_wp2_with fail
  refine wp_region_quiet_all (Ext _) (by kernel_rfl) (by kernel_rfl) (Ext.drawn _) ?_
  repeat (first | go_big_quiet_skip | go_big_quiet_step (fail) | (refine BigFrame.wpQuiet_want rfl (fun K hK=>?_);apply Exists.intro;refine ⟨fun w2 h2=>?_,?_⟩;(next=>(have g1:=Below.cells h2.below;have g2:=Below.frozens h2.below;(try simp only [World.size_alloc,World.size_setCell] at g1 g2);first | (go_simp;(first | (go_at_call_of 53 (Value.agg #[Value.int IntKind.u64 ah,Value.int IntKind.u64 al]);refine h2.calls (Hla.out _)) | (go_at_call 53;refine h2.calls (Hlb.out _)))) | (simp [go_sem,↓IntWalk.iteOmega, *];done) | (simp [go_sem,↓IntWalk.iteOmega, *];rfl))));(go_simp;refine hK _ ?_;clear hK K))
  refine wpQuiet_nil ?_
  intro w1 h1
  have hb1:=h1.below
  clear h1
  have z1:=hb1.size
  have c1:=Below.cells hb1
  have f1:=Below.frozens hb1
  try simp only [World.size_alloc,World.size_setCell,World.size_drew] at z1 c1 f1
  go_wp2_with fail
  refine wp_region_quiet_all (Ext _) (by kernel_rfl) (by kernel_rfl) (Ext.drawn _) ?_
  repeat (first | go_big_quiet_skip | go_big_quiet_step (fail) | (refine BigFrame.wpQuiet_want rfl (fun K hK=>?_);apply Exists.intro;refine ⟨fun w2 h2=>?_,?_⟩;(next=>(have g1:=Below.cells h2.below;have g2:=Below.frozens h2.below;(try simp only [World.size_alloc,World.size_setCell] at g1 g2);first | (go_simp;(fail)) | (simp [go_sem,↓IntWalk.iteOmega, *];done) | (simp [go_sem,↓IntWalk.iteOmega, *];rfl))));(go_simp;refine hK _ ?_;clear hK K))
  refine wpQuiet_nil ?_
  intro w2 h2
  have hb2:=h2.below
  clear h2
  have z2:=hb2.size
  have c2:=Below.cells hb2
  have f2:=Below.frozens hb2
  try simp only [World.size_alloc,World.size_setCell,World.size_drew] at z2 c2 f2
  go_wp2_with fail
  go_ret2
  exact ⟨rfl,(by repeat (first | (with_reducible exact Below.refl _ _) | (with_reducible refine bAl ?_ _) | (with_reducible refine bSc ?_ _) | (with_reducible refine Below.drew ?_) | (with_reducible refine bTm ?_ hb2) | (with_reducible refine bTm ?_ hb1)))⟩
theorem halv_some (a b k x c r:Int) {ah al bh bl:Int} (ha:Wd a ah al) (hb:Wd b bh bl) (h:0<b) (hk:blen a - blen b=k) (kn:0≤k) (hx:b * 2 ^ k.toNat=x) (ux:U128 x)
  (k127:k≤127) (hc:(c = -1∧x<a∨c=0∧x=a∨c=1∧a<x)) (hr:r=if c=1 then k - 1 else k) (hr0:0≤r) (w:World) :
  Calls Tryz.prog 47 #[.agg #[.int .u64 ah,.int .u64 al],.agg #[.int .u64 bh,.int .u64 bl]] w fun e w'=>
   e=.returned (.tuple #[.int .i64 r,.int .i64 0])∧Below w.heap.size w w':=by
 have nz:=nz_of hb h
 have b1:=blen_bd ha.1
 have b2:=blen_bd hb.1
 have qa:=alloc_cells
 have qf:=alloc_frozens
 have hcmp:∀ w',Calls Tryz.prog 103 #[.agg #[.int .u64 (hi x),.int .u64 (lo x)],.agg #[.int .u64 ah,.int .u64 al]] w' fun e w''=>e=.returned (.int .i64 c)∧Below w'.heap.size w' w'':=by
  intro w'
  rcases hc with ⟨rfl,h1⟩ | ⟨rfl,h1⟩ | ⟨rfl,h1⟩
  ·exact cmp_lt x a (Wd.mk ux) ha h1 w'
  ·subst h1;exact cmp_eq x (Wd.mk ux) ha w'
  ·exact cmp_gt x a (Wd.mk ux) ha h1 w'
 have hup:∀ w',_:=fun w'=>up_any b k hb w' kn k127
 rw [show up b k=x from by rw [up_fits (hx ▸ ux),hx]] at hup
 obtain ⟨L,e_L⟩:∃ z_,blen a=z_:=⟨_,rfl⟩
 rw [e_L] at hk b1
 have HL:=Lib.hid e_L
 clear e_L
 obtain ⟨M,e_M⟩:∃ z_,blen b=z_:=⟨_,rfl⟩
 rw [e_M] at hk b2
 have HM:=Lib.hid e_M
 clear e_M
 have hla:∀ w',_:=fun w'=>HL.out ▸ len_any a ha w'
 have hlb:∀ w',_:=fun w'=>HM.out ▸ len_any b hb w'
 have Hla:=Lib.hid hla
 have Hlb:=Lib.hid hlb
 have Hup:=Lib.hid hup
 have Hcmp:=Lib.hid hcmp
 have e1:IntKind.i64.wrap (L - M)=k:=by rw [IntWalk.i64_in _ (by omega)];omega
 have e2:IntKind.i64.wrap (k - 1)=k - 1:=IntWalk.i64_in _ (by omega)
 have e3:L - M=k:=hk
 have kd:decide (0≤k)=true:=by simp;omega
 have e0:IntKind.i64.wrap k=k:=IntWalk.i64_in _ (by omega)
 have kd1:decide (0≤L - M)=true:=by simp;omega
 have kd2:decide (M≤L)=true:=by simp;omega
 have kd3:M≤L:=by omega
 clear ha hb hla hlb hk hup hcmp hx ux
 have hcc:c=1∨(c = -1∨c=0):=by omega
 rcases hcc with rfl | hcc
 ·rw [if_pos rfl] at hr
  subst hr
  clear hc
  rcases nz with nz | ⟨rfl,nz⟩
  all_goals
   go_enter Tryz.func47,Tryz.ntmps47
   go_wp2_with fail
   refine wp_region_quiet_all (Ext _) (by kernel_rfl) (by kernel_rfl) (Ext.drawn _) ?_
   repeat (first | go_big_quiet_skip | go_big_quiet_step (fail) | (refine BigFrame.wpQuiet_want rfl (fun K hK=>?_);apply Exists.intro;refine ⟨fun w2 h2=>?_,?_⟩;(next=>(have g1:=Below.cells h2.below;have g2:=Below.frozens h2.below;(try simp only [World.size_alloc,World.size_setCell] at g1 g2);first | (go_simp;(first | (go_at_call_of 53 (Value.agg #[Value.int IntKind.u64 ah,Value.int IntKind.u64 al]);refine h2.calls (Hla.out _)) | (go_at_call 53;refine h2.calls (Hlb.out _)))) | (simp [go_sem,↓IntWalk.iteOmega, *];done) | (simp [go_sem,↓IntWalk.iteOmega, *];rfl))));(go_simp;refine hK _ ?_;clear hK K))
   refine wpQuiet_nil ?_
   intro w1 h1
   have hb1:=h1.below
   clear h1
   have z1:=hb1.size
   have c1:=Below.cells hb1
   have f1:=Below.frozens hb1
   try simp only [World.size_alloc,World.size_setCell,World.size_drew] at z1 c1 f1
   go_wp2_with fail
   refine wp_region_quiet_all (Ext _) (by kernel_rfl) (by kernel_rfl) (Ext.drawn _) ?_
   repeat (first | go_big_quiet_skip | go_big_quiet_step (fail) | (refine BigFrame.wpQuiet_want rfl (fun K hK=>?_);apply Exists.intro;refine ⟨fun w2 h2=>?_,?_⟩;(next=>(have g1:=Below.cells h2.below;have g2:=Below.frozens h2.below;(try simp only [World.size_alloc,World.size_setCell] at g1 g2);first | (go_simp;(first | (go_at_call 105;refine h2.calls (Hup.out _)) | (go_at_call 103;refine h2.calls (Hcmp.out _)))) | (simp [go_sem,↓IntWalk.iteOmega, *];done) | (simp [go_sem,↓IntWalk.iteOmega, *];rfl))));(go_simp;refine hK _ ?_;clear hK K))
   refine wpQuiet_nil ?_
   intro w2 h2
   have hb2:=h2.below
   clear h2
   have z2:=hb2.size
   have c2:=Below.cells hb2
   have f2:=Below.frozens hb2
   try simp only [World.size_alloc,World.size_setCell,World.size_drew] at z2 c2 f2
   go_wp2_with fail
   go_ret2
   exact ⟨rfl,(by repeat (first | (with_reducible exact Below.refl _ _) | (with_reducible refine bAl ?_ _) | (with_reducible refine bSc ?_ _) | (with_reducible refine Below.drew ?_) | (with_reducible refine bTm ?_ hb2) | (with_reducible refine bTm ?_ hb1)))⟩
 ·rw [if_neg (by omega)] at hr
  subst hr
  clear hc
  rcases hcc with rfl | rfl
  all_goals
   rcases nz with nz | ⟨rfl,nz⟩
  all_goals
   go_enter Tryz.func47,Tryz.ntmps47
   go_wp2_with fail
   refine wp_region_quiet_all (Ext _) (by kernel_rfl) (by kernel_rfl) (Ext.drawn _) ?_
   repeat (first | go_big_quiet_skip | go_big_quiet_step (fail) | (refine BigFrame.wpQuiet_want rfl (fun K hK=>?_);apply Exists.intro;refine ⟨fun w2 h2=>?_,?_⟩;(next=>(have g1:=Below.cells h2.below;have g2:=Below.frozens h2.below;(try simp only [World.size_alloc,World.size_setCell] at g1 g2);first | (go_simp;(first | (go_at_call_of 53 (Value.agg #[Value.int IntKind.u64 ah,Value.int IntKind.u64 al]);refine h2.calls (Hla.out _)) | (go_at_call 53;refine h2.calls (Hlb.out _)))) | (simp [go_sem,↓IntWalk.iteOmega, *];done) | (simp [go_sem,↓IntWalk.iteOmega, *];rfl))));(go_simp;refine hK _ ?_;clear hK K))
   refine wpQuiet_nil ?_
   intro w1 h1
   have hb1:=h1.below
   clear h1
   have z1:=hb1.size
   have c1:=Below.cells hb1
   have f1:=Below.frozens hb1
   try simp only [World.size_alloc,World.size_setCell,World.size_drew] at z1 c1 f1
   go_wp2_with fail
   refine wp_region_quiet_all (Ext _) (by kernel_rfl) (by kernel_rfl) (Ext.drawn _) ?_
   repeat (first | go_big_quiet_skip | go_big_quiet_step (fail) | (refine BigFrame.wpQuiet_want rfl (fun K hK=>?_);apply Exists.intro;refine ⟨fun w2 h2=>?_,?_⟩;(next=>(have g1:=Below.cells h2.below;have g2:=Below.frozens h2.below;(try simp only [World.size_alloc,World.size_setCell] at g1 g2);first | (go_simp;(first | (go_at_call 105;refine h2.calls (Hup.out _)) | (go_at_call 103;refine h2.calls (Hcmp.out _)))) | (simp [go_sem,↓IntWalk.iteOmega, *];done) | (simp [go_sem,↓IntWalk.iteOmega, *];rfl))));(go_simp;refine hK _ ?_;clear hK K))
   refine wpQuiet_nil ?_
   intro w2 h2
   have hb2:=h2.below
   clear h2
   have z2:=hb2.size
   have c2:=Below.cells hb2
   have f2:=Below.frozens hb2
   try simp only [World.size_alloc,World.size_setCell,World.size_drew] at z2 c2 f2
   go_wp2_with fail
   go_ret2
   exact ⟨rfl,(by repeat (first | (with_reducible exact Below.refl _ _) | (with_reducible refine bAl ?_ _) | (with_reducible refine bSc ?_ _) | (with_reducible refine Below.drew ?_) | (with_reducible refine bTm ?_ hb2) | (with_reducible refine bTm ?_ hb1)))⟩
theorem halv_less (a b:Int) {ah al bh bl:Int} (ha:Wd a ah al) (hb:Wd b bh bl) (h:0<b) (hk:blen a - blen b=0) (hc:a<b) (w:World) :
  Calls Tryz.prog 47 #[.agg #[.int .u64 ah,.int .u64 al],.agg #[.int .u64 bh,.int .u64 bl]] w fun e w'=>
   e=.returned (.tuple #[.int .i64 0,.int .i64 4])∧Below w.heap.size w w':=by
 have nz:=nz_of hb h
 have b1:=blen_bd ha.1
 have b2:=blen_bd hb.1
 have qa:=alloc_cells
 have qf:=alloc_frozens
 have hcmp:∀ w',_:=fun w'=>cmp_gt b a (Wd.mk hb.1) ha hc w'
 have hup:∀ w',_:=fun w'=>up_any b 0 hb w' (by omega) (by omega)
 rw [show up b 0=b from by rw [up_fits (by simpa using hb.1)];simp] at hup
 obtain ⟨L,e_L⟩:∃ z_,blen a=z_:=⟨_,rfl⟩
 rw [e_L] at hk b1
 have HL:=Lib.hid e_L
 clear e_L
 obtain ⟨M,e_M⟩:∃ z_,blen b=z_:=⟨_,rfl⟩
 rw [e_M] at hk b2
 have HM:=Lib.hid e_M
 clear e_M
 obtain rfl:L=M:=by omega
 have hla:∀ w',_:=fun w'=>HL.out ▸ len_any a ha w'
 have hlb:∀ w',_:=fun w'=>HM.out ▸ len_any b hb w'
 have Hla:=Lib.hid hla
 have Hlb:=Lib.hid hlb
 have Hup:=Lib.hid hup
 have Hcmp:=Lib.hid hcmp
 have e1:IntKind.i64.wrap (L - L)=0:=by rw [IntWalk.i64_in _ (by omega)];omega
 have e0:IntKind.i64.wrap 0=0:=IntWalk.i64_in _ (by omega)
 have e3:L - L=0:=by omega
 clear ha hb hla hlb hk hup hcmp
 rcases nz with nz | ⟨rfl,nz⟩
 all_goals
  go_enter Tryz.func47,Tryz.ntmps47
  go_wp2_with fail
  refine wp_region_quiet_all (Ext _) (by kernel_rfl) (by kernel_rfl) (Ext.drawn _) ?_
  repeat (first | go_big_quiet_skip | go_big_quiet_step (fail) | (refine BigFrame.wpQuiet_want rfl (fun K hK=>?_);apply Exists.intro;refine ⟨fun w2 h2=>?_,?_⟩;(next=>(have g1:=Below.cells h2.below;have g2:=Below.frozens h2.below;(try simp only [World.size_alloc,World.size_setCell] at g1 g2);first | (go_simp;(first | (go_at_call_of 53 (Value.agg #[Value.int IntKind.u64 ah,Value.int IntKind.u64 al]);refine h2.calls (Hla.out _)) | (go_at_call 53;refine h2.calls (Hlb.out _)))) | (simp [go_sem,↓IntWalk.iteOmega, *];done) | (simp [go_sem,↓IntWalk.iteOmega, *];rfl))));(go_simp;refine hK _ ?_;clear hK K))
  refine wpQuiet_nil ?_
  intro w1 h1
  have hb1:=h1.below
  clear h1
  have z1:=hb1.size
  have c1:=Below.cells hb1
  have f1:=Below.frozens hb1
  try simp only [World.size_alloc,World.size_setCell,World.size_drew] at z1 c1 f1
  go_wp2_with fail
  refine wp_region_quiet_all (Ext _) (by kernel_rfl) (by kernel_rfl) (Ext.drawn _) ?_
  repeat (first | go_big_quiet_skip | go_big_quiet_step (fail) | (refine BigFrame.wpQuiet_want rfl (fun K hK=>?_);apply Exists.intro;refine ⟨fun w2 h2=>?_,?_⟩;(next=>(have g1:=Below.cells h2.below;have g2:=Below.frozens h2.below;(try simp only [World.size_alloc,World.size_setCell] at g1 g2);first | (go_simp;(first | (go_at_call 105;refine h2.calls (Hup.out _)) | (go_at_call 103;refine h2.calls (Hcmp.out _)))) | (simp [go_sem,↓IntWalk.iteOmega, *];done) | (simp [go_sem,↓IntWalk.iteOmega, *];rfl))));(go_simp;refine hK _ ?_;clear hK K))
  refine wpQuiet_nil ?_
  intro w2 h2
  have hb2:=h2.below
  clear h2
  have z2:=hb2.size
  have c2:=Below.cells hb2
  have f2:=Below.frozens hb2
  try simp only [World.size_alloc,World.size_setCell,World.size_drew] at z2 c2 f2
  go_wp2_with fail
  go_ret2
  exact ⟨rfl,(by repeat (first | (with_reducible exact Below.refl _ _) | (with_reducible refine bAl ?_ _) | (with_reducible refine bSc ?_ _) | (with_reducible refine Below.drew ?_) | (with_reducible refine bTm ?_ hb2) | (with_reducible refine bTm ?_ hb1)))⟩
theorem halv_ok (a b k:Int) {ah al bh bl:Int} (ha:Wd a ah al) (hb:Wd b bh bl) (h:0<b) (k0:0≤k) (h1:b * 2 ^ k.toNat≤a) (h2:a<b * 2 ^ (k+1).toNat) (w:World) :
  Calls Tryz.prog 47 #[.agg #[.int .u64 ah,.int .u64 al],.agg #[.int .u64 bh,.int .u64 bl]] w fun e w'=>
   e=.returned (.tuple #[.int .i64 k,.int .i64 0])∧Below w.heap.size w w':=by
 obtain ⟨m,rfl⟩:=Int.eq_ofNat_of_zero_le k0
 rw [show ((m:Int)).toNat=m from rfl] at h1
 rw [show ((m:Int)+1).toNat=m+1 from by omega] at h2
 have pm:=p2 m
 have apos:0<a:=by
  have:0<b * 2 ^ m:=Int.mul_pos h pm
  omega
 obtain ⟨i,ei,li,ui⟩:=blen_pos ha.1 apos
 obtain ⟨j,ej,lj,uj⟩:=blen_pos hb.1 h
 have sh:∀ d:Nat,(2:Int) ^ (j+d)≤b * 2 ^ d∧b * 2 ^ d<2 ^ (j+d+1):=fun d=>by
  have pd:=p2 d
  refine ⟨by rw [Int.pow_add];exact Int.mul_le_mul_of_nonneg_right lj (by omega),?_⟩
  rw [show j+d+1=(j+1)+d from by omega,Int.pow_add];exact Int.mul_lt_mul_of_pos_right uj pd
 have lo1:j+m≤i:=by
  rcases Nat.lt_or_ge i (j+m) with c | c
  ·exfalso
   have q:=pow_lt_pow c
   rw [Int.pow_succ] at ui
   have:=(sh m).1
   omega
  ·exact c
 have up1:i≤j+m+1:=by
  rcases Nat.lt_or_ge (j+m+1) i with c | c
  ·exfalso
   have q:=pow_lt_pow c
   have s1:=(sh (m+1)).2
   rw [show j+(m+1)+1=(j+m+1)+1 from by omega,Int.pow_succ 2 (j+m+1)] at s1
   omega
  ·exact c
 have b128:=blen_bd ha.1
 have fit:∀ d:Nat,j+d≤i→U128 (b * 2 ^ d):=fun d hd=>by
  have:=(shift_fits hb.1 h (n:=d) (by omega)).2 (by rw [ej];omega)
  simpa using this
 rcases Nat.lt_or_ge (j+m) i with c | c
 ·
  have ei':i=j+(m+1):=by omega
  refine halv_some a b (m+1:Nat) (b * 2 ^ (m+1)) 1 m ha hb h (by rw [ei,ej];omega) (by omega) (by simp) (fit _ (by omega)) (by omega) (.inr (.inr ⟨rfl,h2⟩)) (by rw [if_pos rfl];omega) (by omega) w
 ·have ei':i=j+m:=by omega
  by_cases e:b * 2 ^ m=a
  ·exact halv_some a b m (b * 2 ^ m) 0 m ha hb h (by rw [ei,ej];omega) (by omega) (by simp) (fit _ (by omega)) (by omega) (.inr (.inl ⟨rfl,e⟩)) (by rw [if_neg (by omega)]) (by omega) w
  ·exact halv_some a b m (b * 2 ^ m) (-1) m ha hb h (by rw [ei,ej];omega) (by omega) (by simp) (fit _ (by omega)) (by omega) (.inl ⟨rfl,by omega⟩) (by rw [if_neg (by omega)]) (by omega) w
def HalvR (a b k e:Int):Prop:=
 (b=0∧k=0∧e=6)∨(0<b∧a<b∧k=0∧e=4)∨(0<b∧0≤k∧k≤127∧b * 2 ^ k.toNat≤a∧a<b * 2 ^ (k+1).toNat∧e=0)
theorem halvR_ex {a b:Int} (ha:U128 a) (hb:U128 b):∃ k e,HalvR a b k e:=by
 by_cases c:0<b
 ·by_cases d:a<b
  ·exact ⟨0,4,.inr (.inl ⟨c,d,rfl,rfl⟩)⟩
  ·
   have key:∀ n:Nat,a<b * 2 ^ n→∃ k:Nat,k<n∧b * 2 ^ k≤a∧a<b * 2 ^ (k+1):=by
    intro n
    induction n with
    | zero=>intro h;simp at h;omega
    | succ n ih=>
     intro h
     by_cases h':a<b * 2 ^ n
     ·obtain ⟨k,h1,h2⟩:=ih h'
      exact ⟨k,by omega,h2⟩
     ·exact ⟨n,by omega,by omega,h⟩
   obtain ⟨k,h1,h2,h3⟩:=key 128 (by
    have:(1:Int) * 2 ^ 128≤b * 2 ^ 128:=Int.mul_le_mul_of_nonneg_right (by omega) (by have:=p2 128;omega)
    have p128:(2:Int) ^ 128=340282366920938463463374607431768211456:=rfl
    unfold U128 at ha;omega)
   refine ⟨k,0,.inr (.inr ⟨c,by omega,by omega,by simpa using h2,?_,rfl⟩)⟩
   rw [show ((k:Int)+1).toNat=k+1 from by omega];exact h3
 ·exact ⟨0,6,.inl ⟨by have:=hb.1;omega,rfl,rfl⟩⟩
theorem halv_any (a b k e:Int) {ah al bh bl:Int} (ha:Wd a ah al) (hb:Wd b bh bl) (h:HalvR a b k e) (w:World) :
  Calls Tryz.prog 47 #[.agg #[.int .u64 ah,.int .u64 al],.agg #[.int .u64 bh,.int .u64 bl]] w fun e' w'=>
   e'=.returned (.tuple #[.int .i64 k,.int .i64 e])∧Below w.heap.size w w':=by
 rcases h with ⟨rfl,rfl,rfl⟩ | ⟨h1,h2,rfl,rfl⟩ | ⟨h1,h2,h3,h4,h5,rfl⟩
 ·obtain ⟨u,rfl,rfl⟩:=hb
  exact halv_zero a ha w
 ·by_cases c:blen a - blen b<0
  ·exact halv_neg a b _ ha hb h1 rfl c w
  ·refine halv_less a b ha hb h1 ?_ h2 w
   by_cases d:0<a
   ·obtain ⟨i,ei,li,ui⟩:=blen_pos ha.1 d
    obtain ⟨j,ej,lj,uj⟩:=blen_pos hb.1 h1
    rcases Nat.lt_or_ge j i with q | q
    ·have:=pow_lt_pow q
     rw [Int.pow_succ] at uj
     omega
    ·omega
   ·have:a=0:=by have:=ha.1.1;omega
    obtain ⟨j,ej,lj,uj⟩:=blen_pos hb.1 h1
    rw [this,blen_zero,ej] at c
    omega
 ·exact halv_ok a b k ha hb h1 h2 h4 h5 w
end Go.Proofs.YtnaebigoknfndaaGreatDoor

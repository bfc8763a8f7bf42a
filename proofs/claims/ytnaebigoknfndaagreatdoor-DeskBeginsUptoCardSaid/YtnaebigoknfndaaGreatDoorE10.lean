/- What the desk's two laws lean on: part 10 (contracts and plain laws; their conditions stand in each). -/
import Derived.Test.YtnaebigoknfndaaGreatDoorE01
import Derived.Test.YtnaebigoknfndaaGreatDoorE09
import Derived.Test.YtnaebigoknfndaaGreatDoorE04
import Derived.Test.YtnaebigoknfndaaGreatDoorE02
import Derived.RegionTactic
import Derived.BigRegion
set_option linter.unusedVariables false
set_option linter.unusedSimpArgs false
set_option maxRecDepth 100000
set_option maxHeartbeats 20000000
namespace Go.Proofs.YtnaebigoknfndaaGreatDoor
theorem pow_le {i j:Nat} (h:i≤j):(2:Int) ^ i≤2 ^ j:=by
 rcases Nat.lt_or_eq_of_le h with q | q
 ·have:=pow_lt_pow q;have:=p2 i;omega
 ·rw [q];exact Int.le_refl _
def LevR (N D k:Int):Prop:=0≤k∧k≤126∧N * 2 ^ k.toNat≤N+D * D∧N+D * D<N * 2 ^ (k+1).toNat
def lfl (n X L:Int):Int:=if X<n * n * L * L then n * n * L * L else X
def late0 (n S T:Int):Int:=if 0<n * T - S then n * T - S else 0
theorem lfl_bd {n X L:Int} (hn:1≤n∧n≤64) (hX:0≤X∧X≤1152921504606846976) (hL:1≤L∧L≤16777216):1≤lfl n X L∧lfl n X L≤1152921504606846976:=by
 have a:=mul_bd (a:=n) (b:=n) (A:=64) (B:=64) (by omega) (by omega)
 have b:=mul_bd a (b:=L) (B:=16777216) (by omega)
 have c:=mul_bd b (b:=L) (B:=16777216) (by omega)
 have d:1≤n * n * L * L:=by
  have e1:1 * 1≤n * n:=Int.mul_le_mul hn.1 hn.1 (by omega) (by omega)
  have e2:1 * 1≤n * n * L:=Int.mul_le_mul e1 hL.1 (by omega) (by omega)
  have e3:1 * 1≤n * n * L * L:=Int.mul_le_mul e2 hL.1 (by omega) (by omega)
  omega
 unfold lfl;split <;> omega
theorem late0_bd {n S T:Int} (hn:1≤n∧n≤64) (hS:0≤S) (hT:0≤T∧T≤1073741824):0≤late0 n S T∧late0 n S T≤68719476736:=by
 have a:=mul_bd (a:=n) (b:=T) (A:=64) (B:=1073741824) (by omega) (by omega)
 unfold late0;split <;> omega
theorem levR_ex {N D:Int} (hN:1≤N∧N≤1152921504606846976) (hD:0≤D∧D≤68719476736):∃ k,LevR N D k:=by
 have dd:=mul_bd hD hD
 have ua:U128 (N+D * D):=by unfold U128;omega
 have ub:U128 N:=by unfold U128;omega
 obtain ⟨k,e,h⟩:=halvR_ex ua ub
 rcases h with ⟨h,_⟩ | ⟨_,h,_⟩ | ⟨h1,h2,h3,h4,h5,_⟩
 ·omega
 ·omega
 ·refine ⟨k,h2,?_,h4,h5⟩
  by_cases c:k≤126
  ·exact c
  ·obtain rfl:k=127:=by omega
   have:N * 170141183460469231731687303715884105728≤N+D * D:=h4
   omega
theorem LevR.mono {N D D' k k':Int} (hN:1≤N) (h0:0≤D) (h:LevR N D k) (h':LevR N D' k') (hD:D≤D'):k≤k':=by
 obtain ⟨a1,a2,a3,a4⟩:=h
 obtain ⟨b1,b2,b3,b4⟩:=h'
 have dd:D * D≤D' * D':=Int.mul_le_mul hD hD h0 (by omega)
 rcases Int.lt_or_le k' k with c | c
 ·have e:(k'+1).toNat≤k.toNat:=by omega
  have p:(2:Int) ^ (k'+1).toNat≤2 ^ k.toNat:=by
   exact pow_le e
  have q:=Int.mul_le_mul_of_nonneg_left p (show 0≤N by omega)
  omega
 ·exact c
theorem LevR.ge {N D k t:Int} (hN:1≤N) (h:LevR N D k) (ht:0≤t):t≤k↔N * 2 ^ t.toNat≤N+D * D:=by
 obtain ⟨a1,a2,a3,a4⟩:=h
 constructor
 ·intro c
  have p:(2:Int) ^ t.toNat≤2 ^ k.toNat:=by
   exact pow_le (show t.toNat≤k.toNat by omega)
  have q:=Int.mul_le_mul_of_nonneg_left p (show 0≤N by omega)
  omega
 ·intro c
  rcases Int.lt_or_le k t with q | q
  ·have p:(2:Int) ^ (k+1).toNat≤2 ^ t.toNat:=by
    exact pow_le (show (k+1).toNat≤t.toNat by omega)
   have q:=Int.mul_le_mul_of_nonneg_left p (show 0≤N by omega)
   omega
  ·exact q
end Go.Proofs.YtnaebigoknfndaaGreatDoor
namespace Go.Proofs.YtnaebigoknfndaaGreatDoor
open Go.RowKit
theorem look_ok (z L:Int) (A:Option Addr) (n c:Nat) (l:List Int) (w:World) (hr:Row w A n l) (hz:1≤z∧z≤64) (hn:(n:Int)≤z) (h0:0<n) (hb:Btw 0 16777216 l) (hL:1≤L∧L≤16777216) :
  Calls Tryz.prog 115 #[.agg #[.int .i64 z,.slice A n c],.int .i64 L] w fun e w'=>e=.returned (.int .i64 0)∧Below w.heap.size w w':=by
 have hc:∀ w',Row w' A n l→_:=fun w' h=>wcheck_ok z A n c l w' h hz hn hb
 have HC:=Lib.hid hc
 have HR:=Lib.hid hr
 have hne:((n:Int)==0)=false:=by simp;omega
 obtain ⟨L0,L1⟩:=hL
 have qa:=alloc_cells
 have qf:=alloc_frozens
 clear hc hr hb
 go_enter Tryz.func115,Tryz.ntmps115
 go_wp2_with fail
 refine (HC.out _ (HR.out.below (by repeat (first | (with_reducible exact Below.refl _ _) | (with_reducible refine bAl ?_ _) | (with_reducible refine bSc ?_ _) | (with_reducible refine Below.drew ?_) | (refine Below.trans ?_ (by assumption)))))).mono ?_
 rintro e w1 ⟨rfl,hb1⟩
 have z1:=hb1.size
 have c1:=Below.cells hb1
 have f1:=Below.frozens hb1
 try simp only [World.size_alloc,World.size_setCell,World.size_drew] at z1 c1 f1
 go_wp2_with fail
 go_ret
 exact ⟨rfl,(by repeat (first | (with_reducible exact Below.refl _ _) | (with_reducible refine bAl ?_ _) | (with_reducible refine bSc ?_ _) | (with_reducible refine Below.drew ?_) | (with_reducible refine bTm ?_ hb1)))⟩
theorem lspread_ok (z L S Q X N:Int) (A:Option Addr) (n c:Nat) (l:List Int) (w:World) (hr:Row w A n l) (h0:0<n) (hm:n≤64) (hb:Btw 0 16777216 l) (hL:1≤L∧L≤16777216) (hS:sumI l=S) (hQ:sqI l=Q) (ok:SumsOK n S Q) (hX:(n:Int) * Q - S * S=X) (hN:lfl n X L=N) :
  Calls Tryz.prog 116 #[.agg #[.int .i64 z,.slice A n c],.int .i64 L] w fun e w'=>e=.returned (.tuple #[.agg #[.int .i64 n,.int .i64 S,.int .i64 Q],.int .i64 N])∧Below w.heap.size w w':=by
 have hc:∀ w',Row w' A n l→_:=fun w' h=>sof_ok A n c l S Q w' h hm hb hS hQ
 have hs:∀ w',_:=fun w'=>spread_ok n S Q X ok hX w'
 have bd:=ok.bd
 have HC:=Lib.hid hc
 have HS:=Lib.hid hs
 have HR:=Lib.hid hr
 have a:=mul_bd (a:=(n:Int)) (b:=n) (A:=64) (B:=64) (by omega) (by omega)
 have b:=mul_bd a (b:=L) (B:=16777216) (by omega)
 have d:=mul_bd b (b:=L) (B:=16777216) (by omega)
 have e1:IntKind.i64.wrap ((n:Int) * n)=n * n:=IntWalk.i64_in _ (by omega)
 have e2:IntKind.i64.wrap ((n:Int) * n * L)=n * n * L:=IntWalk.i64_in _ (by omega)
 have e3:IntKind.i64.wrap ((n:Int) * n * L * L)=n * n * L * L:=IntWalk.i64_in _ (by omega)
 have hcs:(X<(n:Int) * n * L * L∧N=n * n * L * L)∨(¬ X<(n:Int) * n * L * L∧N=X):=by
  unfold lfl at hN
  by_cases q:X<(n:Int) * n * L * L
  ·rw [if_pos q] at hN;exact .inl ⟨q,hN.symm⟩
  ·rw [if_neg q] at hN;exact .inr ⟨q,hN.symm⟩
 have qa:=alloc_cells
 have qf:=alloc_frozens
 clear hc hs hr hb hS hQ ok hX hN
 rcases hcs with ⟨q,rfl⟩ | ⟨q,rfl⟩
 ·have em:max X ((n:Int) * n * L * L)=n * n * L * L:=by omega
  go_enter Tryz.func116,Tryz.ntmps116
  go_wp2_with fail
  refine (HC.out _ (HR.out.below (by repeat (first | (with_reducible exact Below.refl _ _) | (with_reducible refine bAl ?_ _) | (with_reducible refine bSc ?_ _) | (with_reducible refine Below.drew ?_) | (refine Below.trans ?_ (by assumption)))))).mono ?_
  rintro e w1 ⟨rfl,hb1⟩
  have z1:=hb1.size
  have c1:=Below.cells hb1
  have f1:=Below.frozens hb1
  try simp only [World.size_alloc,World.size_setCell,World.size_drew] at z1 c1 f1
  go_wp2_with fail
  refine (HS.out _).mono ?_
  rintro e w2 ⟨rfl,hb2⟩
  have z2:=hb2.size
  have c2:=Below.cells hb2
  have f2:=Below.frozens hb2
  try simp only [World.size_alloc,World.size_setCell,World.size_drew] at z2 c2 f2
  go_wp2_with fail
  go_region
  go_wp2_with fail
  refine bodyPost_ret (v:=.tuple #[.agg #[.int .i64 n,.int .i64 S,.int .i64 Q],.int .i64 ((n:Int) * n * L * L)]) (by simp [results,Tryz.results116,go_sem,↓IntWalk.iteOmega, *]) rfl ?_
  exact ⟨rfl,(by repeat (first | (with_reducible exact Below.refl _ _) | (with_reducible refine bAl ?_ _) | (with_reducible refine bSc ?_ _) | (with_reducible refine Below.drew ?_) | (with_reducible refine bTm ?_ hb2) | (with_reducible refine bTm ?_ hb1)))⟩
 ·have em:max N ((n:Int) * n * L * L)=N:=by omega
  go_enter Tryz.func116,Tryz.ntmps116
  go_wp2_with fail
  refine (HC.out _ (HR.out.below (by repeat (first | (with_reducible exact Below.refl _ _) | (with_reducible refine bAl ?_ _) | (with_reducible refine bSc ?_ _) | (with_reducible refine Below.drew ?_) | (refine Below.trans ?_ (by assumption)))))).mono ?_
  rintro e w1 ⟨rfl,hb1⟩
  have z1:=hb1.size
  have c1:=Below.cells hb1
  have f1:=Below.frozens hb1
  try simp only [World.size_alloc,World.size_setCell,World.size_drew] at z1 c1 f1
  go_wp2_with fail
  refine (HS.out _).mono ?_
  rintro e w2 ⟨rfl,hb2⟩
  have z2:=hb2.size
  have c2:=Below.cells hb2
  have f2:=Below.frozens hb2
  try simp only [World.size_alloc,World.size_setCell,World.size_drew] at z2 c2 f2
  go_wp2_with fail
  go_region
  go_wp2_with fail
  refine bodyPost_ret (v:=.tuple #[.agg #[.int .i64 n,.int .i64 S,.int .i64 Q],.int .i64 N]) (by simp [results,Tryz.results116,go_sem,↓IntWalk.iteOmega, *]) rfl ?_
  exact ⟨rfl,(by repeat (first | (with_reducible exact Below.refl _ _) | (with_reducible refine bAl ?_ _) | (with_reducible refine bSc ?_ _) | (with_reducible refine Below.drew ?_) | (with_reducible refine bTm ?_ hb2) | (with_reducible refine bTm ?_ hb1)))⟩
theorem level_ok (z L T S Q X N k:Int) (A:Option Addr) (n c:Nat) (l:List Int) (w:World) (hr:Row w A n l) (hz:1≤z∧z≤64) (hn:(n:Int)≤z) (h0:0<n) (hb:Btw 0 16777216 l) (hL:1≤L∧L≤16777216) (hT:0≤T∧T≤1073741824)
  (hS:sumI l=S) (hQ:sqI l=Q) (ok:SumsOK n S Q) (hX:(n:Int) * Q - S * S=X) (hN:lfl n X L=N) (hk:LevR N (late0 n S T) k) :
  Calls Tryz.prog 71 #[.agg #[.int .i64 z,.slice A n c],.int .i64 L,.int .i64 T] w fun e w'=>e=.returned (.tuple #[.int .i64 k,.int .i64 0])∧Below w.heap.size w w':=by
 have hlook:∀ w',Row w' A n l→_:=fun w' h=>look_ok z L A n c l w' h hz hn h0 hb hL
 have hsp:∀ w',Row w' A n l→_:=fun w' h=>lspread_ok z L S Q X N A n c l w' h h0 (by omega) hb hL hS hQ ok hX hN
 have bd:=ok.bd
 have Xb:0≤X∧X≤1152921504606846976:=by omega
 have Nb:=lfl_bd (n:=n) (by omega) Xb hL
 rw [hN] at Nb
 have HLook:=Lib.hid hlook
 have HSp:=Lib.hid hsp
 have HR:=Lib.hid hr
 have tb:=mul_bd (a:=(n:Int)) (b:=T) (A:=64) (B:=1073741824) (by omega) hT
 obtain ⟨T0,T1⟩:=hT
 have qa:=alloc_cells
 have qf:=alloc_frozens
 by_cases hd:0<(n:Int) * T - S
 ·have e:late0 n S T=n * T - S:=by unfold late0;rw [if_pos hd]
  rw [e] at hk
  obtain ⟨D,hD⟩:∃ D,(n:Int) * T - S=D:=⟨_,rfl⟩
  rw [hD] at hk hd
  have Db:1≤D∧D≤68719476736:=by omega
  have DD:=mul_bd (a:=D) (b:=D) (A:=68719476736) (B:=68719476736) (by omega) (by omega)
  have uD:U64 D:=by unfold U64;omega
  have uN:U64 N:=by unfold U64;omega
  have uDD:U128 (D * D):=by unfold U128;omega
  have uA:U128 (N+D * D):=by unfold U128;omega
  have uNN:U128 N:=by unfold U128;omega
  have hmul:∀ w',_:=fun w'=>mul_any D D (D * D) w' uD uD rfl
  have hadd:∀ w',_:=fun w'=>add_ok N (D * D) (N+D * D) (Wd.lit uN) (Wd.mk uDD) rfl uA w'
  have hhalv:∀ w',_:=fun w'=>halv_ok (N+D * D) N k (Wd.mk uA) (Wd.lit uN) (by omega) hk.1 hk.2.2.1 hk.2.2.2 w'
  have HMul:=Lib.hid hmul
  have HAdd:=Lib.hid hadd
  have HHalv:=Lib.hid hhalv
  clear hlook hsp hr hb hS hQ ok hX hN hk hmul hadd hhalv e uD uN uDD uA uNN DD
  go_enter Tryz.func71,Tryz.ntmps71
  go_wp2_with fail
  refine (HLook.out _ (HR.out.below (by repeat (first | (with_reducible exact Below.refl _ _) | (with_reducible refine bAl ?_ _) | (with_reducible refine bSc ?_ _) | (with_reducible refine Below.drew ?_) | (refine Below.trans ?_ (by assumption)))))).mono ?_
  rintro e w1 ⟨rfl,hb1⟩
  have z1:=hb1.size
  have c1:=Below.cells hb1
  have f1:=Below.frozens hb1
  try simp only [World.size_alloc,World.size_setCell,World.size_drew] at z1 c1 f1
  go_wp2_with fail
  refine (HSp.out _ (HR.out.below (by repeat (first | (with_reducible exact Below.refl _ _) | (with_reducible refine bAl ?_ _) | (with_reducible refine bSc ?_ _) | (with_reducible refine Below.drew ?_) | (with_reducible refine bTm ?_ hb1))))).mono ?_
  rintro e w2 ⟨rfl,hb2⟩
  have z2:=hb2.size
  have c2:=Below.cells hb2
  have f2:=Below.frozens hb2
  try simp only [World.size_alloc,World.size_setCell,World.size_drew] at z2 c2 f2
  go_wp2_with fail
  refine (HMul.out _).mono ?_
  rintro e w3 ⟨rfl,hb3⟩
  have z3:=hb3.size
  have c3:=Below.cells hb3
  have f3:=Below.frozens hb3
  try simp only [World.size_alloc,World.size_setCell,World.size_drew] at z3 c3 f3
  go_wp2_with fail
  refine (HAdd.out _).mono ?_
  rintro e w4 ⟨rfl,hb4⟩
  have z4:=hb4.size
  have c4:=Below.cells hb4
  have f4:=Below.frozens hb4
  try simp only [World.size_alloc,World.size_setCell,World.size_drew] at z4 c4 f4
  go_wp2_with fail
  refine (HHalv.out _).mono ?_
  rintro e w5 ⟨rfl,hb5⟩
  have z5:=hb5.size
  have c5:=Below.cells hb5
  have f5:=Below.frozens hb5
  try simp only [World.size_alloc,World.size_setCell,World.size_drew] at z5 c5 f5
  go_wp2_with fail
  go_ret2
  exact ⟨rfl,(by repeat (first | (with_reducible exact Below.refl _ _) | (with_reducible refine bAl ?_ _) | (with_reducible refine bSc ?_ _) | (with_reducible refine Below.drew ?_) | (with_reducible refine bTm ?_ hb5) | (with_reducible refine bTm ?_ hb4) | (with_reducible refine bTm ?_ hb3) | (with_reducible refine bTm ?_ hb2) | (with_reducible refine bTm ?_ hb1)))⟩
 ·have e:late0 n S T=0:=by unfold late0;rw [if_neg hd]
  rw [e] at hk
  have k0:k=0:=by
   obtain ⟨a1,a2,a3,a4⟩:=hk
   rcases Int.lt_or_le 0 k with q | q
   ·have p:(2:Int) ^ 1≤2 ^ k.toNat:=by
     exact pow_le (show 1≤k.toNat by omega)
    have q:=Int.mul_le_mul_of_nonneg_left p (show 0≤N by omega)
    omega
   ·omega
  subst k0
  clear hlook hsp hr hb hS hQ ok hX hN hk e
  go_enter Tryz.func71,Tryz.ntmps71
  go_wp2_with fail
  refine (HLook.out _ (HR.out.below (by repeat (first | (with_reducible exact Below.refl _ _) | (with_reducible refine bAl ?_ _) | (with_reducible refine bSc ?_ _) | (with_reducible refine Below.drew ?_) | (refine Below.trans ?_ (by assumption)))))).mono ?_
  rintro e w1 ⟨rfl,hb1⟩
  have z1:=hb1.size
  have c1:=Below.cells hb1
  have f1:=Below.frozens hb1
  try simp only [World.size_alloc,World.size_setCell,World.size_drew] at z1 c1 f1
  go_wp2_with fail
  refine (HSp.out _ (HR.out.below (by repeat (first | (with_reducible exact Below.refl _ _) | (with_reducible refine bAl ?_ _) | (with_reducible refine bSc ?_ _) | (with_reducible refine Below.drew ?_) | (with_reducible refine bTm ?_ hb1))))).mono ?_
  rintro e w2 ⟨rfl,hb2⟩
  have z2:=hb2.size
  have c2:=Below.cells hb2
  have f2:=Below.frozens hb2
  try simp only [World.size_alloc,World.size_setCell,World.size_drew] at z2 c2 f2
  go_wp2_with fail
  go_ret2
  exact ⟨rfl,(by repeat (first | (with_reducible exact Below.refl _ _) | (with_reducible refine bAl ?_ _) | (with_reducible refine bSc ?_ _) | (with_reducible refine Below.drew ?_) | (with_reducible refine bTm ?_ hb2) | (with_reducible refine bTm ?_ hb1)))⟩
end Go.Proofs.YtnaebigoknfndaaGreatDoor
namespace Go.Proofs.YtnaebigoknfndaaGreatDoor
open Go.RowKit
theorem filter_lt:∀ (m k:Nat),k≤m→((List.range m).filter fun t=>decide (t<k)).length=k
 | 0,k,h=>by simp;omega
 | m+1,k,h=>by
   rw [List.range_succ,List.filter_append,List.length_append]
   rcases Nat.eq_or_lt_of_le h with c | c
   ·subst c
    have:(List.range m).filter (fun t=>decide (t<m+1))=List.range m:=by
     rw [List.filter_eq_self]
     intro a ha
     have:=List.mem_range.1 ha
     simp;omega
    rw [this];simp
   ·rw [filter_lt m k (by omega)]
    have:¬ m<k:=by omega
    simp [this]
def lv (l:List Int) (L T:Int):Int:=
 let n:Int:=l.length
 let N:=lfl n (n * sqI l - sumI l * sumI l) L
 let D:=late0 n (sumI l) T
 (((List.range 126).filter fun t=>decide (N * 2 ^ (t+1)≤N+D * D)).length:Nat)
theorem lv_facts {l:List Int} {L T:Int} (h0:1≤l.length) (hm:l.length≤64) (hb:Btw 0 16777216 l) (hL:1≤L∧L≤16777216) (hT:0≤T∧T≤1073741824) :
  SumsOK l.length (sumI l) (sqI l)∧(1≤lfl l.length ((l.length:Int) * sqI l - sumI l * sumI l) L∧lfl l.length ((l.length:Int) * sqI l - sumI l * sumI l) L≤1152921504606846976)∧(0≤late0 l.length (sumI l) T∧late0 l.length (sumI l) T≤68719476736) ∧
   LevR (lfl l.length ((l.length:Int) * sqI l - sumI l * sumI l) L) (late0 l.length (sumI l) T) (lv l L T):=by
 have ok:=sumsOK_of hb hm
 have bd:=ok.bd
 have hN:=lfl_bd (n:=l.length) (X:=(l.length:Int) * sqI l - sumI l * sumI l) (by omega) (by omega) hL
 have hD:=late0_bd (n:=l.length) (S:=sumI l) (by omega) ok.2.2.1 hT
 obtain ⟨k,hk⟩:=levR_ex hN hD
 refine ⟨ok,hN,hD,?_⟩
 have e:lv l L T=k:=by
  unfold lv
  simp only []
  have hk0:=hk.1
  have hk1:=hk.2.1
  have:((List.range 126).filter fun t=>decide (lfl (l.length:Int) ((l.length:Int) * sqI l - sumI l * sumI l) L * 2 ^ (t+1)≤lfl (l.length:Int) ((l.length:Int) * sqI l - sumI l * sumI l) L+late0 (l.length:Int) (sumI l) T * late0 (l.length:Int) (sumI l) T))=(List.range 126).filter fun t=>decide (t<k.toNat):=by
   apply List.filter_congr
   intro t _
   have:=LevR.ge hN.1 hk (t:=((t+1:Nat):Int)) (by omega)
   rw [show ((t+1:Nat):Int).toNat=t+1 by omega] at this
   rw [decide_eq_decide,← this]
   omega
  rw [this,filter_lt 126 k.toNat (by omega)]
  omega
 rw [e];exact hk
theorem lv_mono {l:List Int} {L T T':Int} (h0:1≤l.length) (hm:l.length≤64) (hb:Btw 0 16777216 l) (hL:1≤L∧L≤16777216) (hT:0≤T) (hTT:T≤T') (hT':T'≤1073741824):lv l L T≤lv l L T':=by
 obtain ⟨_,hN,hD,h1⟩:=lv_facts (T:=T) h0 hm hb hL ⟨hT,by omega⟩
 obtain ⟨_,_,_,h2⟩:=lv_facts (T:=T') h0 hm hb hL ⟨by omega,hT'⟩
 refine LevR.mono hN.1 hD.1 h1 h2 ?_
 have:(l.length:Int) * T≤(l.length:Int) * T':=Int.mul_le_mul_of_nonneg_left hTT (by omega)
 unfold late0;split <;> split <;> omega
theorem lv_bd {l:List Int} {L T:Int} (h0:1≤l.length) (hm:l.length≤64) (hb:Btw 0 16777216 l) (hL:1≤L∧L≤16777216) (hT:0≤T∧T≤1073741824):0≤lv l L T∧lv l L T≤126:=by
 obtain ⟨_,_,_,h1⟩:=lv_facts h0 hm hb hL hT
 exact ⟨h1.1,h1.2.1⟩
theorem level_lv (z L T:Int) (A:Option Addr) (n c:Nat) (l:List Int) (w:World) (hr:Row w A n l) (hz:1≤z∧z≤64) (hn:(n:Int)≤z) (h0:1≤l.length) (hb:Btw 0 16777216 l) (hL:1≤L∧L≤16777216) (hT:0≤T∧T≤1073741824) :
  Calls Tryz.prog 71 #[.agg #[.int .i64 z,.slice A n c],.int .i64 L,.int .i64 T] w fun e w'=>e=.returned (.tuple #[.int .i64 (lv l L T),.int .i64 0])∧Below w.heap.size w w':=by
 have hl:=hr.1
 obtain ⟨ok,_,_,h1⟩:=lv_facts h0 (by omega) hb hL hT
 rw [hl] at ok h1
 exact level_ok z L T _ _ _ _ _ A n c l w hr hz hn (by omega) hb hL hT rfl rfl ok rfl rfl h1
end Go.Proofs.YtnaebigoknfndaaGreatDoor

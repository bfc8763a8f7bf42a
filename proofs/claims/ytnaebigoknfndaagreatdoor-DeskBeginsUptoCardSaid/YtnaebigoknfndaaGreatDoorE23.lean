/- What the desk's two laws lean on: part 23 (contracts and plain laws; their conditions stand in each). -/
import Derived.Test.YtnaebigoknfndaaGreatDoorE01
import Derived.Test.YtnaebigoknfndaaGreatDoorE06
import Derived.Test.YtnaebigoknfndaaGreatDoorE17
import Derived.Test.YtnaebigoknfndaaGreatDoorE18
import Derived.Test.YtnaebigoknfndaaGreatDoorE22
set_option linter.unusedVariables false
set_option linter.unusedSimpArgs false
set_option maxRecDepth 100000
set_option maxHeartbeats 20000000
namespace Go.Proofs.YtnaebigoknfndaaGreatDoor
open Go.RowKit
def cant (n s X t:Int):Int:=if 0<n * t - s then n * X / (X+(n * t - s) * (n * t - s)) else n
theorem cant_bd {n s X t:Int} (hn:0≤n) (hX:0≤X):0≤cant n s X t∧cant n s X t≤n:=by
 unfold cant
 split
 ·rename_i h
  have dd:0<(n * t - s) * (n * t - s):=Int.mul_pos h h
  refine ⟨Int.ediv_nonneg (Int.mul_nonneg hn hX) (by omega),?_⟩
  have:n * X / (X+(n * t - s) * (n * t - s))<n+1:=by
   refine Int.ediv_lt_of_lt_mul (by omega) ?_
   have e:(n+1) * (X+(n * t - s) * (n * t - s))=n * X+n * ((n * t - s) * (n * t - s))+X+(n * t - s) * (n * t - s):=by grind
   have:=Int.mul_nonneg hn (Int.le_of_lt dd)
   omega
  omega
 ·exact ⟨hn,Int.le_refl _⟩
theorem cant_ok (n s q X t m:Int) (h:SumsOK n s q) (hX:n * q - s * s=X) (ht:0≤t∧t≤1073741824) (hm:cant n s X t=m) (w:World) :
  Calls Tryz.prog 67 #[.agg #[.int .i64 n,.int .i64 s,.int .i64 q],.int .i64 t] w fun e w'=>e=.returned (.tuple #[.int .i64 m,.int .i64 0])∧Below w.heap.size w w':=by
 obtain ⟨b1,b2,b3,b4,b5,b6,b7,b8,b9,b10⟩:=h.bd
 have Xb:0≤X∧X≤1152921504606846976:=by omega
 have mb:=cant_bd (n:=n) (s:=s) (X:=X) (t:=t) b1 Xb.1
 have nt:=mul_bd (a:=n) (b:=t) (A:=64) (B:=1073741824) (by omega) (by omega)
 have hchk:=fun w=>scheck_ok n s q h w
 have hspr:=fun w=>spread_ok n s q X h hX w
 have HC:=Lib.hid hchk
 have HS:=Lib.hid hspr
 have ht1:=ht.1
 have ht2:=ht.2
 have qa:=alloc_cells
 have qf:=alloc_frozens
 rw [hm] at mb
 unfold cant at hm
 by_cases hD:0<n * t - s
 ·rw [if_pos hD] at hm
  obtain ⟨D,hDD⟩:∃ D,n * t - s=D:=⟨_,rfl⟩
  rw [hDD] at hm hD
  have dd:=mul_bd (a:=D) (b:=D) (A:=68719476736) (B:=68719476736) (by omega) (by omega)
  have d0:0<D * D:=Int.mul_pos hD hD
  obtain ⟨Y,hY⟩:∃ Y,X+D * D=Y:=⟨_,rfl⟩
  rw [hY] at hm
  have uY:U128 Y:=by unfold U128;omega
  have nX:=mul_bd (a:=n) (b:=X) (A:=64) (B:=1152921504606846976) (by omega) (by omega)
  obtain ⟨Z,hZ⟩:∃ Z,n * X=Z:=⟨_,rfl⟩
  rw [hZ] at hm nX
  obtain ⟨r,hr⟩:∃ r,Z % Y=r:=⟨_,rfl⟩
  have un:U64 n:=by unfold U64;omega
  have uX:U64 X:=by unfold U64;omega
  have uD:U64 D:=by unfold U64;omega
  have uZ:U128 Z:=by unfold U128;omega
  have hm1:=fun w=>mul_any D D (D * D) w uD uD rfl
  have had:=fun w=>add_ok X (D * D) Y (Wd.lit uX) (Wd.mk (by unfold U128;omega)) hY uY w
  have hm2:=fun w=>mul_any n X Z w un uX hZ
  have hdv:=fun w=>div_ok Z Y m r (Wd.mk uZ) (Wd.mk uY) (by omega) hm hr w
  rw [show hi m=0 by unfold hi;omega,show lo m=m by unfold lo;omega] at hdv
  have M1:=Lib.hid hm1
  have AD:=Lib.hid had
  have M2:=Lib.hid hm2
  have DV:=Lib.hid hdv
  clear hchk hspr hm1 had hm2 hdv h hX ht hm hr hY hZ uY un uX uD uZ dd
  go_enter Tryz.func67,Tryz.ntmps67
  go_wp2_with fail
  refine (HC.out _).mono ?_
  rintro e w1 ⟨rfl,hb1⟩
  have z1:=hb1.size
  have c1:=Below.cells hb1
  have f1:=Below.frozens hb1
  try simp only [World.size_alloc,World.size_setCell,World.size_drew] at z1 c1 f1
  go_wp2_with fail
  refine (HS.out _).mono ?_
  rintro e w2 ⟨rfl,hb2⟩
  have z2:=hb2.size
  have c2:=Below.cells hb2
  have f2:=Below.frozens hb2
  try simp only [World.size_alloc,World.size_setCell,World.size_drew] at z2 c2 f2
  go_wp2_with fail
  refine (M1.out _).mono ?_
  rintro e w3 ⟨rfl,hb3⟩
  have z3:=hb3.size
  have c3:=Below.cells hb3
  have f3:=Below.frozens hb3
  try simp only [World.size_alloc,World.size_setCell,World.size_drew] at z3 c3 f3
  go_wp2_with fail
  refine (AD.out _).mono ?_
  rintro e w4 ⟨rfl,hb4⟩
  have z4:=hb4.size
  have c4:=Below.cells hb4
  have f4:=Below.frozens hb4
  try simp only [World.size_alloc,World.size_setCell,World.size_drew] at z4 c4 f4
  go_wp2_with fail
  have q0:w4.cell? ⟨w.heap.size,0,none⟩=some (.int .i64 n):=by simp [go_sem,↓IntWalk.iteOmega, *]
  have bel4:Below w.heap.size w w4:=(by repeat (first | (with_reducible exact Below.refl _ _) | (with_reducible refine bAl ?_ _) | (with_reducible refine bSc ?_ _) | (with_reducible refine Below.drew ?_) | (with_reducible refine bTm ?_ hb4) | (with_reducible refine bTm ?_ hb3) | (with_reducible refine bTm ?_ hb2) | (with_reducible refine bTm ?_ hb1)))
  have sz4:w.heap.size<w4.heap.size:=by omega
  have eX:IntKind.u64.wrap X=X:=by rw [IntKind.wrap_u64];omega
  have eN:IntKind.u64.wrap n=n:=by rw [IntKind.wrap_u64];omega
  clear c1 f1 z1 hb1 c2 f2 z2 hb2 c3 f3 z3 hb3 c4 f4 z4 hb4
  go_region_held3 (fun w'=>w'.cell? ⟨w.heap.size,0,none⟩=some (.int .i64 n)∧w'.cell? ⟨w4.heap.size,0,none⟩=some (.int .u64 (hi Y))∧w'.cell? ⟨w4.heap.size,1,none⟩=some (.int .u64 (lo Y))) (simp [go_sem,↓IntWalk.iteOmega, *])
   (first
     | (go_at_call 102;refine (M2.out _).mono ?_;rintro e w5 ⟨rfl,hb5⟩;have c5:=Below.cells hb5;have f5:=Below.frozens hb5;have z5:=hb5.size;try simp only [World.size_alloc,World.size_setCell,World.size_drew] at c5 f5 z5)
     | (go_at_call 44;refine (DV.out _).mono ?_;rintro e w6 ⟨rfl,hb6⟩;have c6:=Below.cells hb6;have f6:=Below.frozens hb6;have z6:=hb6.size;try simp only [World.size_alloc,World.size_setCell,World.size_drew] at c6 f6 z6))
  all_goals go_wp2_with fail
  all_goals go_ret2
  all_goals exact ⟨rfl,Below.trans bel4 (Below.mono (by repeat (first | (with_reducible exact Below.refl _ _) | (with_reducible refine bAl ?_ _) | (with_reducible refine bSc ?_ _) | (with_reducible refine Below.drew ?_) | (with_reducible refine bTm ?_ hb6) | (with_reducible refine bTm ?_ hb5))) bel4.size)⟩
 ·rw [if_neg hD] at hm
  subst hm
  clear hchk hspr h hX ht
  go_enter Tryz.func67,Tryz.ntmps67
  go_wp2_with fail
  refine (HC.out _).mono ?_
  rintro e w1 ⟨rfl,hb1⟩
  have z1:=hb1.size
  have c1:=Below.cells hb1
  have f1:=Below.frozens hb1
  try simp only [World.size_alloc,World.size_setCell,World.size_drew] at z1 c1 f1
  go_wp2_with fail
  go_ret2
  exact ⟨rfl,(by repeat (first | (with_reducible exact Below.refl _ _) | (with_reducible refine bAl ?_ _) | (with_reducible refine bSc ?_ _) | (with_reducible refine Below.drew ?_) | (with_reducible refine bTm ?_ hb1)))⟩
end Go.Proofs.YtnaebigoknfndaaGreatDoor
namespace Go.Proofs.YtnaebigoknfndaaGreatDoor
open Go Go.RowKit
def NumE (x e0:Int):Prop:=(-9223372036854775808≤x∧x≤9223372036854775807)∧(0≤e0∧e0≤11)
theorem btw_mem {l:List Int} (h:Btw 0 16777216 l) {k:Nat}:0≤l.getD k 0∧l.getD k 0≤16777216:=by
 rcases Nat.lt_or_ge k l.length with h1 | h1
 ·exact h.get h1
 ·rw [List.getD_eq_getElem?_getD,List.getElem?_eq_none h1];exact ⟨by decide,by decide⟩
theorem rank_any (l:List Int) (p q:Int) (hm:l.length≤9223372036854775807):∃ x e0,NumE x e0∧∀ w A c,InRow w A l.length c l →
  Calls Tryz.prog 65 #[.slice A l.length c,.int .i64 p,.int .i64 q] w fun e w'=>e=.returned (.tuple #[.int .i64 x,.int .i64 e0])∧Below w.heap.size w w':=by
 obtain ⟨n,hn⟩:∃ n,l.length=n:=⟨_,rfl⟩
 by_cases h0:LE l=0
 ·by_cases hg:q<1∨(¬ q<1∧1000<q)∨(¬ q<1∧¬ 1000<q∧p<0)∨(¬ q<1∧¬ 1000<q∧¬ p<0∧q<p)
  ·refine ⟨0,1,by unfold NumE;omega,fun w A c hr=>?_⟩
   rw [hn] at hr hm ⊢
   have HL:=Lib.hid (list_le A n c l w hr.1 hm)
   rw [h0] at HL
   clear h0 hr hn
   rcases hg with g1 | ⟨g1,g2⟩ | ⟨g1,g2,g3⟩ | ⟨g1,g2,g3,g4⟩
   all_goals
    go_enter Tryz.func65,Tryz.ntmps65
    go_wp2_with fail
    refine (HL.out).mono ?_
    rintro e w1 ⟨rfl,hb1⟩
    have z1:=hb1.size
    have c1:=Below.cells hb1
    have f1:=Below.frozens hb1
    try simp only [World.size_alloc,World.size_setCell,World.size_drew] at z1 c1 f1
    go_wp2_with fail
    go_wp2_with fail
    refine bodyPost_ret (v:=.tuple #[.int .i64 0,.int .i64 1]) (by simp [results,Tryz.results65,go_sem]) rfl ?_
    exact ⟨rfl,hb1⟩
  ·obtain ⟨g1,g2,g3,g4⟩:1≤q∧q≤1000∧0≤p∧p≤q:=by omega
   obtain ⟨h64,hb⟩:=LE_ok h0
   by_cases hz:n=0
   ·refine ⟨0,4,by unfold NumE;omega,fun w A c hr=>?_⟩
    rw [hn] at hr hm ⊢
    have HL:=Lib.hid (list_le A n c l w hr.1 hm)
    rw [h0] at HL
    subst hz
    clear h0 hr hn hg hb h64
    have n1:¬ q<1:=by omega
    have n2:¬ 1000<q:=by omega
    have n3:¬ p<0:=by omega
    have n4:¬ q<p:=by omega
    go_enter Tryz.func65,Tryz.ntmps65
    go_wp2_with fail
    refine (HL.out).mono ?_
    rintro e w1 ⟨rfl,hb1⟩
    have z1:=hb1.size
    have c1:=Below.cells hb1
    have f1:=Below.frozens hb1
    try simp only [World.size_alloc,World.size_setCell,World.size_drew] at z1 c1 f1
    go_wp2_with fail
    go_wp2_with fail
    refine bodyPost_ret (v:=.tuple #[.int .i64 0,.int .i64 4]) (by simp [results,Tryz.results65,go_sem]) rfl ?_
    exact ⟨rfl,hb1⟩
   ·have d1:(((n:Int) * p+q - 1) / q)≤n:=by
     have e1:(n:Int) * p≤n * q:=Int.mul_le_mul_of_nonneg_left g4 (by omega)
     have e2:((n:Int) * p+q - 1)<(n+1) * q:=by rw [Int.add_mul];omega
     have:=Int.ediv_lt_of_lt_mul (show 0<q by omega) e2
     omega
    obtain ⟨M,hM⟩:∃ M,max 1 (((n:Int) * p+q - 1) / q)=M:=⟨_,rfl⟩
    have m1:1≤M∧M≤n:=by omega
    have bx:0≤(srt l).getD (M - 1).toNat 0∧(srt l).getD (M - 1).toNat 0≤16777216:=btw_mem (fun x hx=>hb x ((srt_perm l).mem_iff.1 hx))
    refine ⟨(srt l).getD (M - 1).toNat 0,0,by unfold NumE;omega,fun w A c hr=>?_⟩
    rw [hn] at hr ⊢
    exact rank_ok A n c l p q _ (M - 1).toNat w hr.1 (by omega) (by omega) hb ⟨g1,g2⟩ ⟨g3,g4⟩ (by rw [hM];omega) (by omega) rfl
 ·have hbd:=LE_bd l
  refine ⟨0,LE l,by unfold NumE;omega,fun w A c hr=>?_⟩
  rw [hn] at hr hm ⊢
  have HL:=Lib.hid (list_le A n c l w hr.1 hm)
  obtain ⟨e0,he⟩:∃ e,LE l=e:=⟨_,rfl⟩
  rw [he] at HL h0 ⊢
  have hd:(e0 != 0)=true:=by simpa using h0
  clear h0 hr hn he hbd
  go_enter Tryz.func65,Tryz.ntmps65
  go_wp2_with fail
  refine (HL.out).mono ?_
  rintro e w1 ⟨rfl,hb1⟩
  have z1:=hb1.size
  have c1:=Below.cells hb1
  have f1:=Below.frozens hb1
  try simp only [World.size_alloc,World.size_setCell,World.size_drew] at z1 c1 f1
  go_wp2_with fail
  go_wp2_with fail
  refine bodyPost_ret (v:=.tuple #[.int .i64 0,.int .i64 e0]) (by simp [results,Tryz.results65,go_sem]) rfl ?_
  exact ⟨rfl,hb1⟩
end Go.Proofs.YtnaebigoknfndaaGreatDoor
namespace Go.Proofs.YtnaebigoknfndaaGreatDoor
open Go Go.RowKit
theorem lookE_bd (l:List Int) (a:Int):0≤lookE l a∧lookE l a≤4:=by
 unfold lookE
 split
 ·decide
 ·split
  ·decide
  ·split <;> decide
theorem lookE_ok {l:List Int} {a:Int} (h:lookE l a=0):LE l=0∧(1≤a∧a≤16777216)∧1≤l.length:=by
 unfold lookE at h
 split at h
 ·cases h
 ·split at h
  ·cases h
  ·split at h
   ·cases h
   ·rename_i h1 h2 h3
    exact ⟨by simpa using h1,by omega,by omega⟩
theorem of_any (l:List Int) (a T:Int) (hm:l.length≤9223372036854775807):∃ x e0,NumE x e0∧∀ w A c,InRow w A l.length c l →
  Calls Tryz.prog 71 #[.agg #[.int .i64 (max 1 (l.length:Int)),.slice A l.length c],.int .i64 a,.int .i64 T] w fun e w'=>e=.returned (.tuple #[.int .i64 x,.int .i64 e0])∧Below w.heap.size w w':=by
 obtain ⟨n,hn⟩:∃ n,l.length=n:=⟨_,rfl⟩
 by_cases h0:lookE l a=0
 ·obtain ⟨q0,q1,q2⟩:=lookE_ok h0
  obtain ⟨h64,hb⟩:=LE_ok q0
  by_cases hg:T<0∨(¬ T<0∧1073741824<T)
  ·refine ⟨0,1,by unfold NumE;omega,fun w A c hr=>?_⟩
   rw [hn] at hr hm ⊢
   have HL:=Lib.hid (fun w' (h:Row w' A n l)=>look_any A n c l a w' h hm)
   rw [h0] at HL
   have HR:=Lib.hid hr.1
   obtain ⟨z,hz⟩:∃ z,max 1 (n:Int)=z:=⟨_,rfl⟩
   rw [hz] at HL ⊢
   have qa:=alloc_cells
   have qf:=alloc_frozens
   have hb0:Below w.heap.size w (w.alloc (.cells #[.int .i64 z,.slice A n c] 103)):=(Below.refl _ _).alloc (Nat.le_refl _) _
   have HB0:=Lib.hid hb0
   have hR0:=HR.out.below hb0
   clear h0 hr hn hz hb0 q0 q1 q2 h64 hb
   rcases hg with g1 | ⟨g1,g2⟩
   all_goals
    go_enter Tryz.func71,Tryz.ntmps71
    go_wp2_with fail
    refine (HL.out _ hR0).mono ?_
    rintro e w1 ⟨rfl,hb1⟩
    have hbw:Below w.heap.size w w1:=HB0.out.trans (hb1.mono (by simp))
    go_wp2_with fail
    refine bodyPost_ret (v:=.tuple #[.int .i64 0,.int .i64 1]) (by simp [results,Tryz.results71,go_sem]) rfl ?_
    exact ⟨rfl,hbw⟩
  ·have bx:=lv_bd (l:=l) (L:=a) (T:=T) q2 h64 hb q1 ⟨by omega,by omega⟩
   refine ⟨lv l a T,0,by unfold NumE;omega,fun w A c hr=>?_⟩
   rw [hn] at hr ⊢
   exact level_lv _ a T A n c l w hr.1 ⟨by omega,by omega⟩ (by omega) q2 hb q1 ⟨by omega,by omega⟩
 ·have hbd:=lookE_bd l a
  refine ⟨0,lookE l a,by unfold NumE;omega,fun w A c hr=>?_⟩
  rw [hn] at hr hm ⊢
  have HL:=Lib.hid (fun w' (h:Row w' A n l)=>look_any A n c l a w' h hm)
  have HR:=Lib.hid hr.1
  obtain ⟨e0,he⟩:∃ e,lookE l a=e:=⟨_,rfl⟩
  rw [he] at HL h0 ⊢
  have hd:(e0 != 0)=true:=by simpa using h0
  obtain ⟨z,hz⟩:∃ z,max 1 (n:Int)=z:=⟨_,rfl⟩
  rw [hz] at HL ⊢
  have hb0:Below w.heap.size w (w.alloc (.cells #[.int .i64 z,.slice A n c] 103)):=(Below.refl _ _).alloc (Nat.le_refl _) _
  have HB0:=Lib.hid hb0
  have hR0:=HR.out.below hb0
  clear h0 hr hn hz hb0 he hbd
  go_enter Tryz.func71,Tryz.ntmps71
  go_wp2_with fail
  refine (HL.out _ hR0).mono ?_
  rintro e w1 ⟨rfl,hb1⟩
  have hbw:Below w.heap.size w w1:=HB0.out.trans (hb1.mono (by simp))
  go_wp2_with fail
  refine bodyPost_ret (v:=.tuple #[.int .i64 0,.int .i64 e0]) (by simp [results,Tryz.results71,go_sem]) rfl ?_
  exact ⟨rfl,hbw⟩
theorem thr_ex (f:Nat→Prop) (hf:∀ i j,i≤j→f i→f j):∀ M:Nat,∃ t,t≤M+1∧∀ T,T≤M→(f T↔t≤T)
 | 0=>by
   by_cases h:f 0
   ·exact ⟨0,by omega,fun T hT=>by obtain rfl:T=0:=(by omega);simp [h]⟩
   ·exact ⟨1,by omega,fun T hT=>by obtain rfl:T=0:=(by omega);simp [h]⟩
 | M+1=>by
   obtain ⟨t,h1,h2⟩:=thr_ex f hf M
   by_cases h:f (M+1)
   ·refine ⟨t,by omega,fun T hT=>?_⟩
    rcases Nat.lt_or_ge M T with c | c
    ·obtain rfl:T=M+1:=by omega
     exact ⟨fun _=>h1,fun _=>h⟩
    ·exact h2 T c
   ·refine ⟨M+2,by omega,fun T hT=>?_⟩
    exact ⟨fun c=>absurd (hf T (M+1) hT c) h,fun c=>by omega⟩
theorem asks_ex {l:List Int} {a th:Int} (q0:LE l=0) (q1:1≤a∧a≤16777216) (q2:1≤l.length):∃ t:Int,0≤t∧∀ A c,Asks (max 1 (l.length:Int)) a th t A l.length c l:=by
 obtain ⟨h64,hb⟩:=LE_ok q0
 obtain ⟨t,_,h2⟩:=thr_ex (fun T=>T≤1073741824→th≤lv l a (T:Int)) (fun i j hij hi hj=>Int.le_trans (hi (by omega)) (lv_mono q2 h64 hb q1 (by omega) (by omega) (by omega))) 1073741824
 refine ⟨t,by omega,fun A c T T0 T1=>⟨lv l a T,?_,fun w' h=>level_lv _ a T A _ c l w' h ⟨by omega,by omega⟩ (by omega) q2 hb q1 ⟨T0,T1⟩⟩⟩
 have e:((T.toNat:Nat):Int)=T:=Int.toNat_of_nonneg T0
 have:=h2 T.toNat (by omega)
 rw [e] at this
 constructor
 ·intro h;have:=this.1 (fun _=>h);omega
 ·intro h;exact this.2 (by omega) (by omega)
theorem when_any (l:List Int) (a H:Int) (hm:l.length≤9223372036854775807):∃ x e0,NumE x e0∧∀ w A c,InRow w A l.length c l →
  Calls Tryz.prog 74 #[.agg #[.int .i64 (max 1 (l.length:Int)),.slice A l.length c],.int .i64 a,.int .i64 H] w fun e w'=>e=.returned (.tuple #[.int .i64 x,.int .i64 e0])∧Below w.heap.size w w':=by
 by_cases h0:lookE l a=0
 ·obtain ⟨q0,q1,q2⟩:=lookE_ok h0
  obtain ⟨h64,hb⟩:=LE_ok q0
  by_cases hg:H<1∨(¬ H<1∧60<H)
  ·refine ⟨0,1,by unfold NumE;omega,fun w A c hr=>?_⟩
   obtain ⟨n,hn⟩:∃ n,l.length=n:=⟨_,rfl⟩
   rw [hn] at hr hm ⊢
   have HL:=Lib.hid (fun w' (h:Row w' A n l)=>look_any A n c l a w' h hm)
   rw [h0] at HL
   have HR:=Lib.hid hr.1
   obtain ⟨z,hz⟩:∃ z,max 1 (n:Int)=z:=⟨_,rfl⟩
   rw [hz] at HL ⊢
   have hb0:Below w.heap.size w (w.alloc (.cells #[.int .i64 z,.slice A n c] 103)):=(Below.refl _ _).alloc (Nat.le_refl _) _
   have HB0:=Lib.hid hb0
   have hR0:=HR.out.below hb0
   clear h0 hr hn hz hb0 q0 q1 q2 h64 hb
   rcases hg with g1 | ⟨g1,g2⟩
   all_goals
    go_enter Tryz.func74,Tryz.ntmps74
    go_wp2_with fail
    refine (HL.out _ hR0).mono ?_
    rintro e w1 ⟨rfl,hb1⟩
    have hbw:Below w.heap.size w w1:=HB0.out.trans (hb1.mono (by simp))
    go_wp2_with fail
    refine bodyPost_ret (v:=.tuple #[.int .i64 0,.int .i64 1]) (by simp [results,Tryz.results74,go_sem]) rfl ?_
    exact ⟨rfl,hbw⟩
  ·obtain ⟨t,t0,ha⟩:=asks_ex (th:=H) q0 q1 q2
   by_cases ht:t≤1073741824
   ·exact ⟨t,0,by unfold NumE;omega,fun w A c hr=>when_ok _ a H t A _ c l w hr.1 ⟨by omega,by omega⟩ (by omega) q2 hb q1 ⟨by omega,by omega⟩ (ha A c) ⟨t0,ht⟩⟩
   ·exact ⟨0,2,by unfold NumE;omega,fun w A c hr=>when_large _ a H t A _ c l w hr.1 ⟨by omega,by omega⟩ (by omega) q2 hb q1 ⟨by omega,by omega⟩ (ha A c) (by omega)⟩
 ·have hbd:=lookE_bd l a
  refine ⟨0,lookE l a,by unfold NumE;omega,fun w A c hr=>?_⟩
  obtain ⟨n,hn⟩:∃ n,l.length=n:=⟨_,rfl⟩
  rw [hn] at hr hm ⊢
  have HL:=Lib.hid (fun w' (h:Row w' A n l)=>look_any A n c l a w' h hm)
  have HR:=Lib.hid hr.1
  obtain ⟨e0,he⟩:∃ e,lookE l a=e:=⟨_,rfl⟩
  rw [he] at HL h0 ⊢
  have hd:(e0 != 0)=true:=by simpa using h0
  obtain ⟨z,hz⟩:∃ z,max 1 (n:Int)=z:=⟨_,rfl⟩
  rw [hz] at HL ⊢
  have hb0:Below w.heap.size w (w.alloc (.cells #[.int .i64 z,.slice A n c] 103)):=(Below.refl _ _).alloc (Nat.le_refl _) _
  have HB0:=Lib.hid hb0
  have hR0:=HR.out.below hb0
  clear h0 hr hn hz hb0 he hbd
  go_enter Tryz.func74,Tryz.ntmps74
  go_wp2_with fail
  refine (HL.out _ hR0).mono ?_
  rintro e w1 ⟨rfl,hb1⟩
  have hbw:Below w.heap.size w w1:=HB0.out.trans (hb1.mono (by simp))
  go_wp2_with fail
  refine bodyPost_ret (v:=.tuple #[.int .i64 0,.int .i64 e0]) (by simp [results,Tryz.results74,go_sem]) rfl ?_
  exact ⟨rfl,hbw⟩
end Go.Proofs.YtnaebigoknfndaaGreatDoor

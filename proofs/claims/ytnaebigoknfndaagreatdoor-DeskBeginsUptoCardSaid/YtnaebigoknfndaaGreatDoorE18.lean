/- What the desk's two laws lean on: part 18 (contracts and plain laws; their conditions stand in each). -/
import Derived.Test.YtnaebigoknfndaaGreatDoorE01
import Derived.Test.YtnaebigoknfndaaGreatDoorE09
import Derived.Deep.RegionHeld3
import Derived.Deep.DeepCutAuto
import Derived.Deep.RegionWith
set_option linter.unusedVariables false
set_option linter.unusedSimpArgs false
set_option maxRecDepth 100000
set_option maxHeartbeats 20000000
namespace Go.Proofs.YtnaebigoknfndaaGreatDoor
open Go.RowKit
theorem hi_small {a:Int} (ha:U128 a) (h:¬ 0<hi a):lo a=a∧hi a=0:=by unfold U128 hi lo at *;omega
theorem big_mul {a b:Int} (ha:U128 a) (hb:U128 b) (h:0<hi a) (h1:0<hi b):¬ U128 (a * b):=by
 have ea:18446744073709551616≤a:=by unfold U128 hi at *;omega
 have eb:18446744073709551616≤b:=by unfold U128 hi at *;omega
 have:=Int.mul_le_mul ea eb (by omega) (by omega)
 unfold U128;omega
theorem prod_halves (a b:Int) (hb:lo b=b):a * b=lo a * lo b+hi a * lo b * 18446744073709551616:=by
 rw [hb]
 have e:a=hi a * 18446744073709551616+lo a:=by unfold hi lo;omega
 conv=>lhs;rw [e]
 rw [Int.add_mul,Int.mul_right_comm,Int.add_comm]
theorem u64_mul_nonneg {x y:Int} (hx:U64 x) (hy:U64 y):U128 (x * y):=by
 have h1:=Int.mul_nonneg hx.1 hy.1
 have h2:=Int.mul_le_mul (show x≤18446744073709551615 by unfold U64 at hx;omega) (show y≤18446744073709551615 by unfold U64 at hy;omega) hy.1 (by omega)
 unfold U128;omega
theorem times_bigs (a b:Int) (ha:U128 a) (hb:U128 b) (h:0<hi a) (h1:0<hi b) (w:World) :
  Calls Tryz.prog 42 #[.agg #[.int .u64 (hi a),.int .u64 (lo a)],.agg #[.int .u64 (hi b),.int .u64 (lo b)]] w fun e w'=>
   e=.returned (.tuple #[.agg #[.int .u64 0,.int .u64 0],.int .i64 2])∧Below w.heap.size w w':=by
 clear ha hb
 go_enter Tryz.func42,Tryz.ntmps42
 go_wp2
 refine bodyPost_ret (v:=.tuple #[.agg #[.int .u64 0,.int .u64 0],.int .i64 2]) (by simp [results,Tryz.results42,go_sem]) rfl ?_
 exact ⟨rfl,(by repeat (first | (with_reducible exact Below.refl _ _) | (with_reducible refine bAl ?_ _) | (with_reducible refine bSc ?_ _) | (with_reducible refine Below.drew ?_) | (refine Below.trans ?_ (by assumption))))⟩
def Outcome (p q rh rl e:Int):Prop:=
 (0<hi q∧rh=0∧rl=0∧e=2) ∨
 (¬ 0<hi q∧∃ x,p+(lo q * 18446744073709551616+0)=x∧U128 x∧rh=hi x∧rl=lo x∧e=0) ∨
 (¬ 0<hi q∧¬ U128 (p+(lo q * 18446744073709551616+0))∧rh=0∧rl=0∧e=2)
theorem times_plain (a b p q rh rl er:Int) (ha:U128 a) (hb:U128 b) (h1:¬ 0<hi b) (hp:Hid (lo a * lo b=p)) (hq:Hid (hi a * lo b=q)) (ho:Outcome p q rh rl er) (w:World) :
  Calls Tryz.prog 42 #[.agg #[.int .u64 (hi a),.int .u64 (lo a)],.agg #[.int .u64 (hi b),.int .u64 (lo b)]] w fun e w'=>
   e=.returned (.tuple #[.agg #[.int .u64 rh,.int .u64 rl],.int .i64 er])∧Below w.heap.size w w':=by
 have up:U128 p:=hp.out ▸ u64_mul_nonneg (lo_u64 _) (lo_u64 _)
 have l1:=lo_u64 a
 have l2:=lo_u64 b
 have l3:=ha.hi
 have qa:=alloc_cells
 have qf:=alloc_frozens
 by_cases ca:0<hi a
 all_goals
  go_enter Tryz.func42,Tryz.ntmps42
  go_wp2_with fail
  go_cut [6,7] (fun s6 s7 wx=>∃ g h:Nat,s6=.pointer (some ⟨g,0,none⟩)∧s7=.pointer (some ⟨h,0,none⟩)∧wx.cell? ⟨g,0,none⟩=some (.int .u64 (hi p))∧wx.cell? ⟨g,1,none⟩=some (.int .u64 (lo p)) ∧
   wx.cell? ⟨h,0,none⟩=some (.int .u64 (hi q))∧wx.cell? ⟨h,1,none⟩=some (.int .u64 (lo q))∧Below (w.heap.size+3) (((w.alloc (.cells #[.int .u64 (hi a),.int .u64 (lo a)] 66)).alloc (.cells #[.int .u64 (hi b),.int .u64 (lo b)] 66)).alloc (.cells #[.int .u64 0,.int .u64 0] 66)) wx∧w.heap.size+3≤g∧w.heap.size+3≤h)
  case first=>
   go_region_held3 (fun w'=>w'.cell? ⟨w.heap.size,0,none⟩=some (.int .u64 (hi a))∧w'.cell? ⟨w.heap.size,1,none⟩=some (.int .u64 (lo a))∧w'.cell? ⟨w.heap.size+1,1,none⟩=some (.int .u64 (lo b))) (simp [go_sem,↓IntWalk.iteOmega, *])
    (first
      | (go_at_call_of 102 (Value.int IntKind.u64 (hi a));refine (mul_any (hi a) (lo b) q _ l3 l2 hq.out).mono ?_;rintro e w1 ⟨rfl,hb1⟩;have c1:=Below.cells hb1;have f1:=Below.frozens hb1;have z1:=hb1.size;try simp only [World.size_alloc,World.size_setCell,World.size_drew] at c1 f1 z1)
      | (go_at_call_of 102 (Value.int IntKind.u64 (lo a));refine (mul_any (lo a) (lo b) p _ l1 l2 hp.out).mono ?_;rintro e w2 ⟨rfl,hb2⟩;have c2:=Below.cells hb2;have f2:=Below.frozens hb2;have z2:=hb2.size;try simp only [World.size_alloc,World.size_setCell,World.size_drew] at c2 f2 z2))
   all_goals (go_wp2_with fail;go_meet)
   all_goals (refine ⟨_,_,rfl,rfl,?_,?_,?_,?_,?_,?_,?_⟩)
   all_goals first | (simp [go_sem,↓IntWalk.iteOmega, *];done) | omega | exact (by repeat (first | (with_reducible exact Below.refl _ _) | (with_reducible refine bAl ?_ _) | (with_reducible refine bSc ?_ _) | (with_reducible refine Below.drew ?_) | (with_reducible refine bTm ?_ hb1) | (with_reducible refine bTm ?_ hb2)))
  case rest=>
   obtain ⟨g,h,rfl,rfl,g0,g1,g2,g3,hb3,zg,zh⟩:=hcut
   have c3:=Below.cells hb3
   have f3:=Below.frozens hb3
   have z3:=hb3.size
   simp only [World.size_alloc] at z3
   rcases ho with ⟨hc,rfl,rfl,rfl⟩ | ⟨hc,x,hx,ux,rfl,rfl,rfl⟩ | ⟨hc,ux,rfl,rfl,rfl⟩
   ·go_wp2_with fail
    refine bodyPost_ret (v:=.tuple #[.agg #[.int .u64 0,.int .u64 0],.int .i64 2]) (by simp [results,Tryz.results42,go_sem,↓IntWalk.iteOmega, *]) rfl ?_
    exact ⟨rfl,(by repeat (first | (with_reducible exact Below.refl _ _) | (with_reducible refine bAl ?_ _) | (with_reducible refine bSc ?_ _) | (with_reducible refine Below.drew ?_) | (with_reducible refine bTm ?_ hb3)))⟩
   ·have Hx:Hid _:=hx
    clear hx
    go_wp2_with fail
    refine (add_ok p (lo q * 18446744073709551616+0) x (Wd.mk up) (Wd.lits (lo_u64 q) (by unfold U64;omega)) Hx.out ux _).mono ?_
    rintro e w4 ⟨rfl,hb4⟩
    have z4:=hb4.size
    have c4:=Below.cells hb4
    have f4:=Below.frozens hb4
    try simp only [World.size_alloc,World.size_setCell,World.size_drew] at z4 c4 f4
    go_wp2_with fail
    refine bodyPost_ret (v:=.tuple #[.agg #[.int .u64 (hi x),.int .u64 (lo x)],.int .i64 0]) (by simp [results,Tryz.results42,go_sem,↓IntWalk.iteOmega, *]) rfl ?_
    exact ⟨rfl,(by repeat (first | (with_reducible exact Below.refl _ _) | (with_reducible refine bAl ?_ _) | (with_reducible refine bSc ?_ _) | (with_reducible refine Below.drew ?_) | (with_reducible refine bTm ?_ hb4) | (with_reducible refine bTm ?_ hb3)))⟩
   ·go_wp2_with fail
    refine (add_large p (lo q * 18446744073709551616+0) (Wd.mk up) (Wd.lits (lo_u64 q) (by unfold U64;omega)) ux _).mono ?_
    rintro e w4 ⟨rfl,hb4⟩
    have z4:=hb4.size
    have c4:=Below.cells hb4
    have f4:=Below.frozens hb4
    try simp only [World.size_alloc,World.size_setCell,World.size_drew] at z4 c4 f4
    go_wp2_with fail
    refine bodyPost_ret (v:=.tuple #[.agg #[.int .u64 0,.int .u64 0],.int .i64 2]) (by simp [results,Tryz.results42,go_sem,↓IntWalk.iteOmega, *]) rfl ?_
    exact ⟨rfl,(by repeat (first | (with_reducible exact Below.refl _ _) | (with_reducible refine bAl ?_ _) | (with_reducible refine bSc ?_ _) | (with_reducible refine Below.drew ?_) | (with_reducible refine bTm ?_ hb4) | (with_reducible refine bTm ?_ hb3)))⟩
theorem times_swap (a b p q rh rl er:Int) (ha:U128 a) (hb:U128 b) (h1:0<hi b) (h0:¬ 0<hi a) (hp:Hid (lo b * lo a=p)) (hq:Hid (hi b * lo a=q)) (ho:Outcome p q rh rl er) (w:World) :
  Calls Tryz.prog 42 #[.agg #[.int .u64 (hi a),.int .u64 (lo a)],.agg #[.int .u64 (hi b),.int .u64 (lo b)]] w fun e w'=>
   e=.returned (.tuple #[.agg #[.int .u64 rh,.int .u64 rl],.int .i64 er])∧Below w.heap.size w w':=by
 have up:U128 p:=hp.out ▸ u64_mul_nonneg (lo_u64 _) (lo_u64 _)
 have l1:=lo_u64 b
 have l2:=lo_u64 a
 have l3:=hb.hi
 have qa:=alloc_cells
 have qf:=alloc_frozens
 have ca:=h1
 all_goals
  go_enter Tryz.func42,Tryz.ntmps42
  go_wp2_with fail
  go_cut [6,7] (fun s6 s7 wx=>∃ g h:Nat,s6=.pointer (some ⟨g,0,none⟩)∧s7=.pointer (some ⟨h,0,none⟩)∧wx.cell? ⟨g,0,none⟩=some (.int .u64 (hi p))∧wx.cell? ⟨g,1,none⟩=some (.int .u64 (lo p)) ∧
   wx.cell? ⟨h,0,none⟩=some (.int .u64 (hi q))∧wx.cell? ⟨h,1,none⟩=some (.int .u64 (lo q))∧Below (w.heap.size+3) (((w.alloc (.cells #[.int .u64 (hi b),.int .u64 (lo b)] 66)).alloc (.cells #[.int .u64 (hi a),.int .u64 (lo a)] 66)).alloc (.cells #[.int .u64 0,.int .u64 0] 66)) wx∧w.heap.size+3≤g∧w.heap.size+3≤h)
  case first=>
   go_region_held3 (fun w'=>w'.cell? ⟨w.heap.size,0,none⟩=some (.int .u64 (hi b))∧w'.cell? ⟨w.heap.size,1,none⟩=some (.int .u64 (lo b))∧w'.cell? ⟨w.heap.size+1,1,none⟩=some (.int .u64 (lo a))) (simp [go_sem,↓IntWalk.iteOmega, *])
    (first
      | (go_at_call_of 102 (Value.int IntKind.u64 (hi b));refine (mul_any (hi b) (lo a) q _ l3 l2 hq.out).mono ?_;rintro e w1 ⟨rfl,hb1⟩;have c1:=Below.cells hb1;have f1:=Below.frozens hb1;have z1:=hb1.size;try simp only [World.size_alloc,World.size_setCell,World.size_drew] at c1 f1 z1)
      | (go_at_call_of 102 (Value.int IntKind.u64 (lo b));refine (mul_any (lo b) (lo a) p _ l1 l2 hp.out).mono ?_;rintro e w2 ⟨rfl,hb2⟩;have c2:=Below.cells hb2;have f2:=Below.frozens hb2;have z2:=hb2.size;try simp only [World.size_alloc,World.size_setCell,World.size_drew] at c2 f2 z2))
   all_goals (go_wp2_with fail;go_meet)
   all_goals (refine ⟨_,_,rfl,rfl,?_,?_,?_,?_,?_,?_,?_⟩)
   all_goals first | (simp [go_sem,↓IntWalk.iteOmega, *];done) | omega | exact (by repeat (first | (with_reducible exact Below.refl _ _) | (with_reducible refine bAl ?_ _) | (with_reducible refine bSc ?_ _) | (with_reducible refine Below.drew ?_) | (with_reducible refine bTm ?_ hb1) | (with_reducible refine bTm ?_ hb2)))
  case rest=>
   obtain ⟨g,h,rfl,rfl,g0,g1,g2,g3,hb3,zg,zh⟩:=hcut
   have c3:=Below.cells hb3
   have f3:=Below.frozens hb3
   have z3:=hb3.size
   simp only [World.size_alloc] at z3
   rcases ho with ⟨hc,rfl,rfl,rfl⟩ | ⟨hc,x,hx,ux,rfl,rfl,rfl⟩ | ⟨hc,ux,rfl,rfl,rfl⟩
   ·go_wp2_with fail
    refine bodyPost_ret (v:=.tuple #[.agg #[.int .u64 0,.int .u64 0],.int .i64 2]) (by simp [results,Tryz.results42,go_sem,↓IntWalk.iteOmega, *]) rfl ?_
    exact ⟨rfl,(by repeat (first | (with_reducible exact Below.refl _ _) | (with_reducible refine bAl ?_ _) | (with_reducible refine bSc ?_ _) | (with_reducible refine Below.drew ?_) | (with_reducible refine bTm ?_ hb3)))⟩
   ·have Hx:Hid _:=hx
    clear hx
    go_wp2_with fail
    refine (add_ok p (lo q * 18446744073709551616+0) x (Wd.mk up) (Wd.lits (lo_u64 q) (by unfold U64;omega)) Hx.out ux _).mono ?_
    rintro e w4 ⟨rfl,hb4⟩
    have z4:=hb4.size
    have c4:=Below.cells hb4
    have f4:=Below.frozens hb4
    try simp only [World.size_alloc,World.size_setCell,World.size_drew] at z4 c4 f4
    go_wp2_with fail
    refine bodyPost_ret (v:=.tuple #[.agg #[.int .u64 (hi x),.int .u64 (lo x)],.int .i64 0]) (by simp [results,Tryz.results42,go_sem,↓IntWalk.iteOmega, *]) rfl ?_
    exact ⟨rfl,(by repeat (first | (with_reducible exact Below.refl _ _) | (with_reducible refine bAl ?_ _) | (with_reducible refine bSc ?_ _) | (with_reducible refine Below.drew ?_) | (with_reducible refine bTm ?_ hb4) | (with_reducible refine bTm ?_ hb3)))⟩
   ·go_wp2_with fail
    refine (add_large p (lo q * 18446744073709551616+0) (Wd.mk up) (Wd.lits (lo_u64 q) (by unfold U64;omega)) ux _).mono ?_
    rintro e w4 ⟨rfl,hb4⟩
    have z4:=hb4.size
    have c4:=Below.cells hb4
    have f4:=Below.frozens hb4
    try simp only [World.size_alloc,World.size_setCell,World.size_drew] at z4 c4 f4
    go_wp2_with fail
    refine bodyPost_ret (v:=.tuple #[.agg #[.int .u64 0,.int .u64 0],.int .i64 2]) (by simp [results,Tryz.results42,go_sem,↓IntWalk.iteOmega, *]) rfl ?_
    exact ⟨rfl,(by repeat (first | (with_reducible exact Below.refl _ _) | (with_reducible refine bAl ?_ _) | (with_reducible refine bSc ?_ _) | (with_reducible refine Below.drew ?_) | (with_reducible refine bTm ?_ hb4) | (with_reducible refine bTm ?_ hb3)))⟩
theorem times_ok (a b x:Int) {ah al bh bl:Int} (ha:Wd a ah al) (hb:Wd b bh bl) (hx:a * b=x) (h:U128 x) (w:World) :
  Calls Tryz.prog 42 #[.agg #[.int .u64 ah,.int .u64 al],.agg #[.int .u64 bh,.int .u64 bl]] w fun e w'=>
   e=.returned (.tuple #[.agg #[.int .u64 (hi x),.int .u64 (lo x)],.int .i64 0])∧Below w.heap.size w w':=by
 obtain ⟨ha,rfl,rfl⟩:=ha
 obtain ⟨hb,rfl,rfl⟩:=hb
 have key:∀ p q:Int,U128 p→0≤q→p+q * 18446744073709551616=x→¬ 0<hi q∧p+(lo q * 18446744073709551616+0)=x:=by
  intro p q up hq e;unfold U128 hi lo at *;omega
 by_cases cb:0<hi b
 ·have ca:¬ 0<hi a:=fun c=>big_mul ha hb c cb (hx ▸ h)
  have e:=prod_halves b a (hi_small ha ca).1
  rw [Int.mul_comm,hx] at e
  obtain ⟨k1,k2⟩:=key _ _ (u64_mul_nonneg (lo_u64 b) (lo_u64 a)) (Int.mul_nonneg hb.hi.1 (lo_u64 a).1) e.symm
  exact times_swap a b _ _ _ _ _ ha hb cb ca rfl rfl (.inr (.inl ⟨k1,x,k2,h,rfl,rfl,rfl⟩)) w
 ·have e:=prod_halves a b (hi_small hb cb).1
  rw [hx] at e
  obtain ⟨k1,k2⟩:=key _ _ (u64_mul_nonneg (lo_u64 a) (lo_u64 b)) (Int.mul_nonneg ha.hi.1 (lo_u64 b).1) e.symm
  exact times_plain a b _ _ _ _ _ ha hb cb rfl rfl (.inr (.inl ⟨k1,x,k2,h,rfl,rfl,rfl⟩)) w
theorem times_large (a b:Int) {ah al bh bl:Int} (ha:Wd a ah al) (hb:Wd b bh bl) (h:¬ U128 (a * b)) (w:World) :
  Calls Tryz.prog 42 #[.agg #[.int .u64 ah,.int .u64 al],.agg #[.int .u64 bh,.int .u64 bl]] w fun e w'=>
   e=.returned (.tuple #[.agg #[.int .u64 0,.int .u64 0],.int .i64 2])∧Below w.heap.size w w':=by
 obtain ⟨ha,rfl,rfl⟩:=ha
 obtain ⟨hb,rfl,rfl⟩:=hb
 by_cases cb:0<hi b
 ·by_cases ca:0<hi a
  ·exact times_bigs a b ha hb ca cb w
  ·have e:=prod_halves b a (hi_small ha ca).1
   rw [Int.mul_comm] at e
   by_cases c:0<hi (hi b * lo a)
   ·exact times_swap a b _ _ _ _ _ ha hb cb ca rfl rfl (.inl ⟨c,rfl,rfl,rfl⟩) w
   ·refine times_swap a b _ _ _ _ _ ha hb cb ca rfl rfl (.inr (.inr ⟨c,?_,rfl,rfl,rfl⟩)) w
    have e2:lo (hi b * lo a)=hi b * lo a:=by
     have:=Int.mul_nonneg hb.hi.1 (lo_u64 a).1
     unfold hi lo at *;omega
    rw [e2,Int.add_zero,← e];exact h
 ·have e:=prod_halves a b (hi_small hb cb).1
  by_cases c:0<hi (hi a * lo b)
  ·exact times_plain a b _ _ _ _ _ ha hb cb rfl rfl (.inl ⟨c,rfl,rfl,rfl⟩) w
  ·refine times_plain a b _ _ _ _ _ ha hb cb rfl rfl (.inr (.inr ⟨c,?_,rfl,rfl,rfl⟩)) w
   have e2:lo (hi a * lo b)=hi a * lo b:=by
    have:=Int.mul_nonneg ha.hi.1 (lo_u64 b).1
    unfold hi lo at *;omega
   rw [e2,Int.add_zero,← e];exact h
end Go.Proofs.YtnaebigoknfndaaGreatDoor

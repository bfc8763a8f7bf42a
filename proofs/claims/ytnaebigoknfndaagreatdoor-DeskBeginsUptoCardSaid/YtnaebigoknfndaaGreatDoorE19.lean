/- What the desk's two laws lean on: part 19 (contracts and plain laws; their conditions stand in each). -/
import Derived.Test.YtnaebigoknfndaaGreatDoorE01
import Derived.Test.YtnaebigoknfndaaGreatDoorE17
import Derived.Test.YtnaebigoknfndaaGreatDoorE18
import Derived.MapKept
import Derived.Test.YtnaebigoknfndaaGreatDoorE16
import Derived.Test.YtnaebigoknfndaaGreatDoorE05
set_option linter.unusedVariables false
set_option linter.unusedSimpArgs false
set_option maxRecDepth 100000
set_option maxHeartbeats 20000000
namespace Go.Proofs.YtnaebigoknfndaaGreatDoor
open Go Go.RowKit
theorem dsum_walk {ah al bh bl:Int} (X:Nat) (e0:Int) (uX:e0=0→U128 (X:Int)) (H:∀ w,Calls Tryz.prog 38 #[.agg #[.int .u64 ah,.int .u64 al],.agg #[.int .u64 bh,.int .u64 bl]] w fun e w'=>e=.returned (.tuple #[.agg #[.int .u64 (hi X),.int .u64 (lo X)],.int .i64 e0])∧Below w.heap.size w w') (w:World) :
  Calls Tryz.prog 37 #[.agg #[.int .u64 ah,.int .u64 al],.agg #[.int .u64 bh,.int .u64 bl]] w fun e w'=>e=(if e0=0 then Out.txt (grT [X]) else Out.err e0).e∧Below w.heap.size w w':=by
 have HC:=Lib.hid H
 have qa:=alloc_cells
 have qf:=alloc_frozens
 obtain ⟨xh,hxh⟩:∃ z,hi (X:Int)=z:=⟨_,rfl⟩
 obtain ⟨xl,hxl⟩:∃ z,lo (X:Int)=z:=⟨_,rfl⟩
 rw [hxh,hxl] at HC
 by_cases h0:e0=0
 ·subst h0
  have HT:=Lib.hid (fun (b:Nat) w' (h:GRow w' b 1 [X])=>great_told b 1 1 [X] w' h (by omega) (fun y hy=>by rw [List.mem_singleton.1 hy];exact uX rfl))
  have HR:=Lib.hid (fun b (w':World) (hb:b=w'.heap.size)=>(show GRow (w'.alloc (.cells #[.int .u64 xh,.int .u64 xl] 66)) b 1 [X] from by rw [hb,← hxh,← hxl];exact gRow_one w' _ X))
  rw [if_pos rfl]
  clear H uX hxh hxl
  go_enter Tryz.func37,Tryz.ntmps37
  go_wp2_with fail
  refine (HC.out _).mono ?_
  rintro e w1 ⟨rfl,hb1⟩
  have bw1:Below w.heap.size w w1:=(by repeat (first | (with_reducible exact Below.refl _ _) | (with_reducible refine bAl ?_ _) | (with_reducible refine bSc ?_ _) | (with_reducible refine Below.drew ?_) | (with_reducible refine bTm ?_ hb1)))
  have z1:=bw1.size
  clear hb1
  go_wp2_with fail
  refine (HT.out _ _ (HR.out _ _ (by simp))).mono ?_
  rintro e w3 ⟨rfl,hb3⟩
  have bw3:Below w.heap.size w w3:=((bw1.alloc z1 _).alloc (by simp;omega) _).trans (hb3.mono (by simp;omega))
  go_wp2_with fail
  refine bodyPost_ret (v:=.string (grT [X])) (by simp [results,Tryz.results37,go_sem]) rfl ?_
  exact ⟨rfl,bw3⟩
 ·have HT:=Lib.hid (fun v w'=>great_no v e0 w' h0)
  rw [if_neg h0]
  clear H uX hxh hxl
  go_enter Tryz.func37,Tryz.ntmps37
  go_wp2_with fail
  refine (HC.out _).mono ?_
  rintro e w1 ⟨rfl,hb1⟩
  have bw1:Below w.heap.size w w1:=(by repeat (first | (with_reducible exact Below.refl _ _) | (with_reducible refine bAl ?_ _) | (with_reducible refine bSc ?_ _) | (with_reducible refine Below.drew ?_) | (with_reducible refine bTm ?_ hb1)))
  have z1:=bw1.size
  clear hb1
  go_wp2_with fail
  refine (HT.out _ _).mono ?_
  rintro e w3 ⟨rfl,hb3⟩
  have bw3:Below w.heap.size w w3:=((bw1.alloc z1 _).alloc (by simp;omega) _).trans (hb3.mono (by simp;omega))
  exact ⟨rfl,rfl,bw3⟩
theorem dless_walk {ah al bh bl:Int} (X:Nat) (e0:Int) (uX:e0=0→U128 (X:Int)) (H:∀ w,Calls Tryz.prog 40 #[.agg #[.int .u64 ah,.int .u64 al],.agg #[.int .u64 bh,.int .u64 bl]] w fun e w'=>e=.returned (.tuple #[.agg #[.int .u64 (hi X),.int .u64 (lo X)],.int .i64 e0])∧Below w.heap.size w w') (w:World) :
  Calls Tryz.prog 39 #[.agg #[.int .u64 ah,.int .u64 al],.agg #[.int .u64 bh,.int .u64 bl]] w fun e w'=>e=(if e0=0 then Out.txt (grT [X]) else Out.err e0).e∧Below w.heap.size w w':=by
 have HC:=Lib.hid H
 have qa:=alloc_cells
 have qf:=alloc_frozens
 obtain ⟨xh,hxh⟩:∃ z,hi (X:Int)=z:=⟨_,rfl⟩
 obtain ⟨xl,hxl⟩:∃ z,lo (X:Int)=z:=⟨_,rfl⟩
 rw [hxh,hxl] at HC
 by_cases h0:e0=0
 ·subst h0
  have HT:=Lib.hid (fun (b:Nat) w' (h:GRow w' b 1 [X])=>great_told b 1 1 [X] w' h (by omega) (fun y hy=>by rw [List.mem_singleton.1 hy];exact uX rfl))
  have HR:=Lib.hid (fun b (w':World) (hb:b=w'.heap.size)=>(show GRow (w'.alloc (.cells #[.int .u64 xh,.int .u64 xl] 66)) b 1 [X] from by rw [hb,← hxh,← hxl];exact gRow_one w' _ X))
  rw [if_pos rfl]
  clear H uX hxh hxl
  go_enter Tryz.func39,Tryz.ntmps39
  go_wp2_with fail
  refine (HC.out _).mono ?_
  rintro e w1 ⟨rfl,hb1⟩
  have bw1:Below w.heap.size w w1:=(by repeat (first | (with_reducible exact Below.refl _ _) | (with_reducible refine bAl ?_ _) | (with_reducible refine bSc ?_ _) | (with_reducible refine Below.drew ?_) | (with_reducible refine bTm ?_ hb1)))
  have z1:=bw1.size
  clear hb1
  go_wp2_with fail
  refine (HT.out _ _ (HR.out _ _ (by simp))).mono ?_
  rintro e w3 ⟨rfl,hb3⟩
  have bw3:Below w.heap.size w w3:=((bw1.alloc z1 _).alloc (by simp;omega) _).trans (hb3.mono (by simp;omega))
  go_wp2_with fail
  refine bodyPost_ret (v:=.string (grT [X])) (by simp [results,Tryz.results39,go_sem]) rfl ?_
  exact ⟨rfl,bw3⟩
 ·have HT:=Lib.hid (fun v w'=>great_no v e0 w' h0)
  rw [if_neg h0]
  clear H uX hxh hxl
  go_enter Tryz.func39,Tryz.ntmps39
  go_wp2_with fail
  refine (HC.out _).mono ?_
  rintro e w1 ⟨rfl,hb1⟩
  have bw1:Below w.heap.size w w1:=(by repeat (first | (with_reducible exact Below.refl _ _) | (with_reducible refine bAl ?_ _) | (with_reducible refine bSc ?_ _) | (with_reducible refine Below.drew ?_) | (with_reducible refine bTm ?_ hb1)))
  have z1:=bw1.size
  clear hb1
  go_wp2_with fail
  refine (HT.out _ _).mono ?_
  rintro e w3 ⟨rfl,hb3⟩
  have bw3:Below w.heap.size w w3:=((bw1.alloc z1 _).alloc (by simp;omega) _).trans (hb3.mono (by simp;omega))
  exact ⟨rfl,rfl,bw3⟩
theorem dtimes_walk {ah al bh bl:Int} (X:Nat) (e0:Int) (uX:e0=0→U128 (X:Int)) (H:∀ w,Calls Tryz.prog 42 #[.agg #[.int .u64 ah,.int .u64 al],.agg #[.int .u64 bh,.int .u64 bl]] w fun e w'=>e=.returned (.tuple #[.agg #[.int .u64 (hi X),.int .u64 (lo X)],.int .i64 e0])∧Below w.heap.size w w') (w:World) :
  Calls Tryz.prog 41 #[.agg #[.int .u64 ah,.int .u64 al],.agg #[.int .u64 bh,.int .u64 bl]] w fun e w'=>e=(if e0=0 then Out.txt (grT [X]) else Out.err e0).e∧Below w.heap.size w w':=by
 have HC:=Lib.hid H
 have qa:=alloc_cells
 have qf:=alloc_frozens
 obtain ⟨xh,hxh⟩:∃ z,hi (X:Int)=z:=⟨_,rfl⟩
 obtain ⟨xl,hxl⟩:∃ z,lo (X:Int)=z:=⟨_,rfl⟩
 rw [hxh,hxl] at HC
 by_cases h0:e0=0
 ·subst h0
  have HT:=Lib.hid (fun (b:Nat) w' (h:GRow w' b 1 [X])=>great_told b 1 1 [X] w' h (by omega) (fun y hy=>by rw [List.mem_singleton.1 hy];exact uX rfl))
  have HR:=Lib.hid (fun b (w':World) (hb:b=w'.heap.size)=>(show GRow (w'.alloc (.cells #[.int .u64 xh,.int .u64 xl] 66)) b 1 [X] from by rw [hb,← hxh,← hxl];exact gRow_one w' _ X))
  rw [if_pos rfl]
  clear H uX hxh hxl
  go_enter Tryz.func41,Tryz.ntmps41
  go_wp2_with fail
  refine (HC.out _).mono ?_
  rintro e w1 ⟨rfl,hb1⟩
  have bw1:Below w.heap.size w w1:=(by repeat (first | (with_reducible exact Below.refl _ _) | (with_reducible refine bAl ?_ _) | (with_reducible refine bSc ?_ _) | (with_reducible refine Below.drew ?_) | (with_reducible refine bTm ?_ hb1)))
  have z1:=bw1.size
  clear hb1
  go_wp2_with fail
  refine (HT.out _ _ (HR.out _ _ (by simp))).mono ?_
  rintro e w3 ⟨rfl,hb3⟩
  have bw3:Below w.heap.size w w3:=((bw1.alloc z1 _).alloc (by simp;omega) _).trans (hb3.mono (by simp;omega))
  go_wp2_with fail
  refine bodyPost_ret (v:=.string (grT [X])) (by simp [results,Tryz.results41,go_sem]) rfl ?_
  exact ⟨rfl,bw3⟩
 ·have HT:=Lib.hid (fun v w'=>great_no v e0 w' h0)
  rw [if_neg h0]
  clear H uX hxh hxl
  go_enter Tryz.func41,Tryz.ntmps41
  go_wp2_with fail
  refine (HC.out _).mono ?_
  rintro e w1 ⟨rfl,hb1⟩
  have bw1:Below w.heap.size w w1:=(by repeat (first | (with_reducible exact Below.refl _ _) | (with_reducible refine bAl ?_ _) | (with_reducible refine bSc ?_ _) | (with_reducible refine Below.drew ?_) | (with_reducible refine bTm ?_ hb1)))
  have z1:=bw1.size
  clear hb1
  go_wp2_with fail
  refine (HT.out _ _).mono ?_
  rintro e w3 ⟨rfl,hb3⟩
  have bw3:Below w.heap.size w w3:=((bw1.alloc z1 _).alloc (by simp;omega) _).trans (hb3.mono (by simp;omega))
  exact ⟨rfl,rfl,bw3⟩
def WideC (f:FuncId) (a b:Nat):Prop:=∃ o,OutOK o∧∀ w,GOK w→Calls Tryz.prog f #[.agg #[.int .u64 (hi a),.int .u64 (lo a)],.agg #[.int .u64 (hi b),.int .u64 (lo b)]] w fun e w'=>e=o.e∧Below w.heap.size w w'
theorem outOK_if (X:Nat) (e0:Int) (h:0≤e0∧e0≤11) (hU:e0=0→U128 (X:Int)):OutOK (if e0=0 then Out.txt (grT [X]) else Out.err e0):=by
 split
 ·rename_i he
  refine ⟨grT_okT _,Nat.le_trans (grT_size [X] (fun x hx=>by rw [List.mem_singleton.1 hx];exact hU he)) (by simp)⟩
 ·exact ⟨by omega,by omega⟩
theorem dsum_ex {a b:Nat} (ha:U128 (a:Int)) (hb:U128 (b:Int)):WideC 37 a b:=by
 by_cases h:U128 ((a:Int)+b)
 ·exact ⟨_,outOK_if (a+b) 0 (by decide) (fun _=>by rw [Int.natCast_add];exact h),fun w _=>dsum_walk (a+b) 0 (fun _=>by rw [Int.natCast_add];exact h) (fun w=>add_ok (a:Int) b ((a+b:Nat):Int) (Wd.mk ha) (Wd.mk hb) (by rw [Int.natCast_add]) (by rw [Int.natCast_add];exact h) w) w⟩
 ·exact ⟨_,outOK_if 0 2 (by decide) (fun h=>by cases h),fun w _=>dsum_walk 0 2 (fun h=>by cases h) (fun w=>add_large (a:Int) b (Wd.mk ha) (Wd.mk hb) h w) w⟩
theorem dless_ex {a b:Nat} (ha:U128 (a:Int)) (hb:U128 (b:Int)):WideC 39 a b:=by
 by_cases h:U128 ((a:Int) - b)
 ·have hx:((a:Int) - b)=((a - b:Nat):Int):=by have:=h.1;omega
  exact ⟨_,outOK_if (a - b) 0 (by decide) (fun _=>hx ▸ h),fun w _=>dless_walk (a - b) 0 (fun _=>hx ▸ h) (fun w=>sub_ok (a:Int) b ((a - b:Nat):Int) (Wd.mk ha) (Wd.mk hb) hx (hx ▸ h) w) w⟩
 ·exact ⟨_,outOK_if 0 7 (by decide) (fun h=>by cases h),fun w _=>dless_walk 0 7 (fun h=>by cases h) (fun w=>sub_sign (a:Int) b (Wd.mk ha) (Wd.mk hb) h w) w⟩
theorem dtimes_ex {a b:Nat} (ha:U128 (a:Int)) (hb:U128 (b:Int)):WideC 41 a b:=by
 by_cases h:U128 ((a:Int) * b)
 ·exact ⟨_,outOK_if (a * b) 0 (by decide) (fun _=>by rw [Int.natCast_mul];exact h),fun w _=>dtimes_walk (a * b) 0 (fun _=>by rw [Int.natCast_mul];exact h) (fun w=>times_ok (a:Int) b ((a * b:Nat):Int) (Wd.mk ha) (Wd.mk hb) (by rw [Int.natCast_mul]) (by rw [Int.natCast_mul];exact h) w) w⟩
 ·exact ⟨_,outOK_if 0 2 (by decide) (fun h=>by cases h),fun w _=>dtimes_walk 0 2 (fun h=>by cases h) (fun w=>times_large (a:Int) b (Wd.mk ha) (Wd.mk hb) h w) w⟩
end Go.Proofs.YtnaebigoknfndaaGreatDoor
namespace Go.Proofs.YtnaebigoknfndaaGreatDoor
open Go Go.RowKit
theorem ddiv_walk {ah al bh bl:Int} (X Y:Nat) (e0:Int) (uX:e0=0→U128 (X:Int)∧U128 (Y:Int)) (H:∀ w,Calls Tryz.prog 44 #[.agg #[.int .u64 ah,.int .u64 al],.agg #[.int .u64 bh,.int .u64 bl]] w fun e w'=>e=.returned (.tuple #[.agg #[.int .u64 (hi X),.int .u64 (lo X)],.agg #[.int .u64 (hi Y),.int .u64 (lo Y)],.int .i64 e0])∧Below w.heap.size w w') (w:World) :
  Calls Tryz.prog 43 #[.agg #[.int .u64 ah,.int .u64 al],.agg #[.int .u64 bh,.int .u64 bl]] w fun e w'=>e=(if e0=0 then Out.txt (grT [X,Y]) else Out.err e0).e∧Below w.heap.size w w':=by
 have HC:=Lib.hid H
 have qa:=alloc_cells
 have qf:=alloc_frozens
 obtain ⟨xh,hxh⟩:∃ z,hi (X:Int)=z:=⟨_,rfl⟩
 obtain ⟨xl,hxl⟩:∃ z,lo (X:Int)=z:=⟨_,rfl⟩
 obtain ⟨yh,hyh⟩:∃ z,hi (Y:Int)=z:=⟨_,rfl⟩
 obtain ⟨yl,hyl⟩:∃ z,lo (Y:Int)=z:=⟨_,rfl⟩
 rw [hxh,hxl,hyh,hyl] at HC
 by_cases h0:e0=0
 ·subst h0
  have HT:=Lib.hid (fun (b:Nat) w' (h:GRow w' b 2 [X,Y])=>great_told b 2 2 [X,Y] w' h (by omega) (fun y hy=>by
   rcases List.mem_cons.1 hy with rfl | hy
   ·exact (uX rfl).1
   ·rw [List.mem_singleton.1 hy];exact (uX rfl).2))
  have HR:=Lib.hid (fun b (w':World) (hb:b=w'.heap.size)=>(show GRow (w'.alloc (.cells #[.int .u64 xh,.int .u64 xl,.int .u64 yh,.int .u64 yl] 66)) b 2 [X,Y] from by rw [hb,← hxh,← hxl,← hyh,← hyl];exact gRow_two w' _ X Y))
  rw [if_pos rfl]
  clear H uX hxh hxl hyh hyl
  go_enter Tryz.func43,Tryz.ntmps43
  go_wp2_with fail
  refine (HC.out _).mono ?_
  rintro e w1 ⟨rfl,hb1⟩
  have bw1:Below w.heap.size w w1:=(by repeat (first | (with_reducible exact Below.refl _ _) | (with_reducible refine bAl ?_ _) | (with_reducible refine bSc ?_ _) | (with_reducible refine Below.drew ?_) | (with_reducible refine bTm ?_ hb1)))
  have z1:=bw1.size
  clear hb1
  go_wp2_with fail
  refine (HT.out _ _ (HR.out _ _ (by simp))).mono ?_
  rintro e w3 ⟨rfl,hb3⟩
  have bw3:Below w.heap.size w w3:=(((bw1.alloc z1 _).alloc (by simp;omega) _).alloc (by simp;omega) _).trans (hb3.mono (by simp;omega))
  go_wp2_with fail
  refine bodyPost_ret (v:=.string (grT [X,Y])) (by simp [results,Tryz.results43,go_sem]) rfl ?_
  exact ⟨rfl,bw3⟩
 ·have HT:=Lib.hid (fun v w'=>great_no v e0 w' h0)
  rw [if_neg h0]
  clear H uX hxh hxl hyh hyl
  go_enter Tryz.func43,Tryz.ntmps43
  go_wp2_with fail
  refine (HC.out _).mono ?_
  rintro e w1 ⟨rfl,hb1⟩
  have bw1:Below w.heap.size w w1:=(by repeat (first | (with_reducible exact Below.refl _ _) | (with_reducible refine bAl ?_ _) | (with_reducible refine bSc ?_ _) | (with_reducible refine Below.drew ?_) | (with_reducible refine bTm ?_ hb1)))
  have z1:=bw1.size
  clear hb1
  go_wp2_with fail
  refine (HT.out _ _).mono ?_
  rintro e w3 ⟨rfl,hb3⟩
  have bw3:Below w.heap.size w w3:=(((bw1.alloc z1 _).alloc (by simp;omega) _).alloc (by simp;omega) _).trans (hb3.mono (by simp;omega))
  exact ⟨rfl,rfl,bw3⟩
theorem ddiv_ex {a b:Nat} (ha:U128 (a:Int)) (hb:U128 (b:Int)):WideC 43 a b:=by
 by_cases h:b=0
 ·subst h
  exact ⟨.err 6,⟨by omega,by omega⟩,fun w _=>(ddiv_walk 0 0 6 (fun h=>by cases h) (fun w=>div_none (a:Int) (Wd.mk ha) w) w)⟩
 ·have uq:U128 ((a / b:Nat):Int):=by
   unfold U128 at *
   have h1:=Nat.div_le_self a b
   generalize a / b=q at h1 ⊢
   omega
  have ur:U128 ((a % b:Nat):Int):=by
   unfold U128 at *
   have h1:=Nat.mod_le a b
   generalize a % b=q at h1 ⊢
   omega
  exact ⟨.txt (grT [a / b,a % b]),⟨grT_okT _,Nat.le_trans (grT_size [a / b,a % b] (fun x hx=>by
   rcases List.mem_cons.1 hx with rfl | hx
   ·exact uq
   ·rw [List.mem_singleton.1 hx];exact ur)) (by simp)⟩,fun w _=>(ddiv_walk (a / b) (a % b) 0 (fun _=>⟨uq,ur⟩) (fun w=>div_ok (a:Int) b ((a / b:Nat):Int) ((a % b:Nat):Int) (Wd.mk ha) (Wd.mk hb) (by omega) (by rw [Int.natCast_ediv]) (by rw [Int.natCast_emod]) w) w)⟩
theorem dhalve_ex {a b:Nat} (ha:U128 (a:Int)) (hb:U128 (b:Int)):WideC 45 a b:=by
 obtain ⟨k,e0,hk⟩:=halvR_ex ha hb
 have hbd:0≤k∧k≤127∧0≤e0∧e0≤11:=by rcases hk with h | h | h <;> omega
 have HC:=Lib.hid (fun w=>halv_any (a:Int) b k e0 (Wd.mk ha) (Wd.mk hb) hk w)
 have qa:=alloc_cells
 have qf:=alloc_frozens
 by_cases h0:e0=0
 ·subst h0
  refine ⟨.txt (toldT [k]),⟨toldT_okT _,Nat.le_trans (toldT_size [k] (fun x hx=>by rw [List.mem_singleton.1 hx];omega)) (by simp)⟩,fun w g=>?_⟩
  have HT:=Lib.hid (fun w' (h:Below w.heap.size w w')=>one_num k w' (g.below h g.low) ⟨by omega,by omega⟩)
  clear hk g
  go_enter Tryz.func45,Tryz.ntmps45
  go_wp2_with fail
  refine (HC.out _).mono ?_
  rintro e w1 ⟨rfl,hb1⟩
  have bw1:Below w.heap.size w w1:=(by repeat (first | (with_reducible exact Below.refl _ _) | (with_reducible refine bAl ?_ _) | (with_reducible refine bSc ?_ _) | (with_reducible refine Below.drew ?_) | (with_reducible refine bTm ?_ hb1)))
  clear hb1
  go_wp2_with fail
  refine (HT.out _ bw1).mono ?_
  rintro e w3 ⟨rfl,hb3⟩
  go_wp2_with fail
  refine bodyPost_ret (v:=.string (toldT [k])) (by simp [results,Tryz.results45,go_sem]) rfl ?_
  exact ⟨rfl,bw1.trans (hb3.mono bw1.size)⟩
 ·refine ⟨.err e0,⟨by omega,by omega⟩,fun w g=>?_⟩
  have HT:=Lib.hid (fun w'=>one_no k e0 w' h0)
  clear hk g
  go_enter Tryz.func45,Tryz.ntmps45
  go_wp2_with fail
  refine (HC.out _).mono ?_
  rintro e w1 ⟨rfl,hb1⟩
  have bw1:Below w.heap.size w w1:=(by repeat (first | (with_reducible exact Below.refl _ _) | (with_reducible refine bAl ?_ _) | (with_reducible refine bSc ?_ _) | (with_reducible refine Below.drew ?_) | (with_reducible refine bTm ?_ hb1)))
  clear hb1
  go_wp2_with fail
  refine (HT.out _).mono ?_
  rintro e w3 ⟨rfl,hb3⟩
  exact ⟨rfl,rfl,bw1.trans (hb3.mono bw1.size)⟩
end Go.Proofs.YtnaebigoknfndaaGreatDoor
namespace Go.Proofs.YtnaebigoknfndaaGreatDoor
open Go Go.RowKit Go.MapKept
abbrev wTy:TypeId:=83
theorem wTy_map:Tryz.prog.underlying wTy=some (.map 9 62):=by kernel_rfl
theorem wTy_zero (w:World):(zeroValue 62).run Tryz.prog w=.ok .nilFunc w:=Tryz.zeroValue62 w
theorem wIns {w:World} {b c:Nat} {es:Array MapEntry} (hb:w.heap[b]? = some (.map es c)) (k:ByteArray) (v:Value) (hf:Instr.findNow .string (.string k) es.toList 0=some none) :
  ∃ w',(Instr.mapUpdate wTy (.map (some b)) (.string k) v).run Tryz.prog w=.ok () w'∧w'.heap[b]? = some (.map (es.push { key:=.string k,val:=v,born:=c }) (c+1))∧w.grownBy w' (some b):=by
 refine ⟨{ w with heap:=w.heap.setIfInBounds b (.map (es.push { key:=.string k,val:=v,born:=c }) (c+1)) },?_,(heap_set hb).1,rfl,rfl,rfl,by simp,fun x _ hx=>(heap_set hb).2 x (fun e=>hx (by rw [e]))⟩
 simp [Instr.mapUpdate,run_underlying wTy_map,Go.MapKept.run_getObj_map hb,run_checkKey Tryz.underlying9 (show IsKey .string (.string k) from trivial),run_findKey Tryz.underlying9 hf,run_setObj_map _ hb,Result.andThen]
def pickV:Option (Nat×Value)→Value
 | some x=>x.2
 | none=>.nilFunc
theorem wLook {w:World} {b c:Nat} {es:Array MapEntry} (hb:w.heap[b]? = some (.map es c)) (k:ByteArray) {a:Option (Nat×Value)} (hf:Instr.findNow .string (.string k) es.toList 0=some a) :
  (Instr.lookup wTy (.map (some b)) (.string k) true).run Tryz.prog w=.ok (.tuple #[pickV a,.bool a.isSome]) w:=by
 cases a <;> simp [pickV,Instr.lookup,run_underlying wTy_map,Go.MapKept.run_getObj_map hb,run_checkKey Tryz.underlying9 (show IsKey .string (.string k) from trivial),run_findKey Tryz.underlying9 hf,wTy_zero,Result.andThen]
def w1B:ByteArray:=⟨#[115,117,109]⟩
def w2B:ByteArray:=⟨#[108,101,115,115]⟩
def w3B:ByteArray:=⟨#[116,105,109,101,115]⟩
def w4B:ByteArray:=⟨#[100,105,118]⟩
def w5B:ByteArray:=⟨#[104,97,108,118,101]⟩
def wideF (s:ByteArray):Option FuncId:=
 if (s==w1B)=true then some 37 else if (s==w2B)=true then some 39 else if (s==w3B)=true then some 41 else if (s==w4B)=true then some 43 else if (s==w5B)=true then some 45 else none
def wideV (s:ByteArray):Value:=match wideF s with | some f=>.func (.func f) #[] #[] | none=>.nilFunc
theorem wide_find (s:ByteArray) (es:Array MapEntry) (h:es.toList.map (fun e=>(e.key,e.val)) = [(.string w1B,.func (.func 37) #[] #[]),(.string w2B,.func (.func 39) #[] #[]),(.string w3B,.func (.func 41) #[] #[]),(.string w4B,.func (.func 43) #[] #[]),(.string w5B,.func (.func 45) #[] #[])]) :
  ∃ a,Instr.findNow .string (.string s) es.toList 0=some a∧pickV a=wideV s∧a.isSome=(wideF s).isSome:=by
 generalize es.toList=l at h
 obtain ⟨e1,l,rfl⟩:∃ x r,l=x :: r:=by cases l <;> simp_all
 obtain ⟨e2,l,rfl⟩:∃ x r,l=x :: r:=by cases l <;> simp_all
 obtain ⟨e3,l,rfl⟩:∃ x r,l=x :: r:=by cases l <;> simp_all
 obtain ⟨e4,l,rfl⟩:∃ x r,l=x :: r:=by cases l <;> simp_all
 obtain ⟨e5,l,rfl⟩:∃ x r,l=x :: r:=by cases l <;> simp_all
 simp only [List.map_cons,List.cons.injEq,Prod.mk.injEq,List.map_eq_nil_iff] at h
 obtain ⟨⟨k1,v1⟩,⟨k2,v2⟩,⟨k3,v3⟩,⟨k4,v4⟩,⟨k5,v5⟩,rfl⟩:=h
 unfold wideV wideF
 simp only [Instr.findNow,k1,k2,k3,k4,k5,Instr.sameNow]
 cases h1:s==w1B
 ·cases h2:s==w2B
  ·cases h3:s==w3B
   ·cases h4:s==w4B
    ·cases h5:s==w5B
     ·exact ⟨none,rfl,rfl,rfl⟩
     ·exact ⟨_,rfl,v5,rfl⟩
    ·exact ⟨_,rfl,v4,rfl⟩
   ·exact ⟨_,rfl,v3,rfl⟩
  ·exact ⟨_,rfl,v2,rfl⟩
 ·exact ⟨_,rfl,v1,rfl⟩
theorem wides_ok (s:ByteArray) (w:World) :
  Calls Tryz.prog 23 #[.string s] w fun e w'=>e=.returned (.tuple #[wideV s,.bool (wideF s).isSome])∧Below w.heap.size w w':=by
 have hmm:=@run_makeMap Tryz.prog
 have h0:(w.alloc (.map #[] 0)).heap[w.heap.size]? = some (.map #[] 0):=(heap_alloc w _).1
 have g0:w.grownBy (w.alloc (.map #[] 0)) (some w.heap.size):=grown_below ((Below.refl _ _).alloc (Nat.le_refl _) _)
 obtain ⟨x1,r1,h1,g1⟩:=wIns h0 w1B (.func (.func 37) #[] #[]) rfl
 obtain ⟨x2,r2,h2,g2⟩:=wIns h1 w2B (.func (.func 39) #[] #[]) rfl
 obtain ⟨x3,r3,h3,g3⟩:=wIns h2 w3B (.func (.func 41) #[] #[]) rfl
 obtain ⟨x4,r4,h4,g4⟩:=wIns h3 w4B (.func (.func 43) #[] #[]) rfl
 obtain ⟨x5,r5,h5,g5⟩:=wIns h4 w5B (.func (.func 45) #[] #[]) rfl
 obtain ⟨es5,c5,h5',hes⟩:∃ (es:Array MapEntry) (c:Nat),x5.heap[w.heap.size]? = some (.map es c)∧es.toList.map (fun e=>(e.key,e.val)) = [(.string w1B,.func (.func 37) #[] #[]),(.string w2B,.func (.func 39) #[] #[]),(.string w3B,.func (.func 41) #[] #[]),(.string w4B,.func (.func 43) #[] #[]),(.string w5B,.func (.func 45) #[] #[])]:=⟨_,_,h5,rfl⟩
 obtain ⟨a,hf,hv,hs⟩:=wide_find s es5 hes
 have r6:=wLook h5' s hf
 rw [hv,hs] at r6
 have hg:=grown_trans (grown_trans (grown_trans (grown_trans (grown_trans g0 g1) g2) g3) g4) g5
 have hb:Below w.heap.size w x5:=(Below.refl _ w).grown hg (Nat.le_refl _) (fun k hk=>by injection hk with hk;omega)
 have HB:=Lib.hid hb
 obtain ⟨W0,hW0⟩:∃ W0,w.alloc (.map #[] 0)=W0:=⟨_,rfl⟩
 have hmk:(Instr.makeMap wTy none).run Tryz.prog w=.ok (.map (some w.heap.size)) W0:=by rw [← hW0];apply run_makeMap
 rw [hW0] at r1
 obtain ⟨V,hV⟩:∃ V,wideV s=V:=⟨_,rfl⟩
 obtain ⟨O,hO⟩:∃ O,(wideF s).isSome=O:=⟨_,rfl⟩
 rw [hV,hO] at r6 ⊢
 unfold w1B wTy at r1
 unfold w2B wTy at r2
 unfold w3B wTy at r3
 unfold w4B wTy at r4
 unfold w5B wTy at r5
 unfold wTy at r6 hmk
 clear hmm h0 g0 h1 h2 h3 h4 h5 h5' hes g1 g2 g3 g4 g5 hf hv hs hg hb hW0 hV hO
 go_enter Tryz.func23,Tryz.ntmps23
 go_wp2_with fail
 refine bodyPost_ret (v:=.tuple #[V,.bool O]) (by simp [results,Tryz.results23,go_sem]) rfl ?_
 exact ⟨rfl,HB.out⟩
end Go.Proofs.YtnaebigoknfndaaGreatDoor
namespace Go.Proofs.YtnaebigoknfndaaGreatDoor
open Go Go.RowKit
def WSt (w:World) (b:Nat) (A:Option Addr) (n c:Nat) (L:List ByteArray) (k:Nat):Prop:=
 w.heap[b]? = some (.cells #[.slice A n c,.int .i64 (k:Int)] 61 (0,0))∧L.length=n∧k≤n∧n≤1048576∧10≤b ∧
 ∀ j,j<n→∃ g off,A=some ⟨g,off,none⟩∧g<b∧w.cell? ⟨g,off+j,none⟩=some (.string (L.getD j ⟨#[]⟩))∧(L.getD j ⟨#[]⟩).size≤1048576
variable {w w':World} {b n c k:Nat} {A:Option Addr} {L:List ByteArray}
theorem WSt.lt (h:WSt w b A n c L k):b<w.heap.size:=(Array.getElem?_eq_some_iff.1 h.1).1
theorem WSt.cells (h:WSt w b A n c L k):w.cell? ⟨b,0,none⟩=some (.slice A n c)∧w.cell? ⟨b,1,none⟩=some (.int .i64 (k:Int))∧∀ o,w.frozen? ⟨b,o,none⟩=false:=by
 have h1:=h.1
 exact ⟨by simp [World.cell?,h1],by simp [World.cell?,h1],fun o=>by simp [World.frozen?,h1]⟩
theorem WSt.below (h:WSt w b A n c L k) (hb:Below w.heap.size w w'):WSt w' b A n c L k:=by
 have hl:=h.lt
 obtain ⟨h1,h2,h3,h4,h5,h6⟩:=h
 refine ⟨(hb.block b hl).trans h1,h2,h3,h4,h5,fun j hj=>?_⟩
 obtain ⟨g,off,e,hg,hc,hs⟩:=h6 j hj
 exact ⟨g,off,e,hg,(hb.cell (p:=⟨g,_,none⟩) (show g<_ by omega)).trans hc,hs⟩
theorem WSt.step (h:WSt w b A n c L k) {k':Nat} (hk:k'≤n):WSt (w.setCell ⟨b,1,none⟩ (.int .i64 (k':Int))) b A n c L k':=by
 have hl:=h.lt
 obtain ⟨h1,h2,h3,h4,h5,h6⟩:=h
 refine ⟨by simp [World.setCell,Array.getElem?_modify,h1],h2,hk,h4,h5,fun j hj=>?_⟩
 obtain ⟨g,off,e,hg,hc,hs⟩:=h6 j hj
 refine ⟨g,off,e,hg,?_,hs⟩
 rw [World.cell?_setCell_other _ _ _ _ (by intro e;injection e with e;omega)]
 exact hc
theorem WSt.at (h:WSt w b A n c L k) {j:Nat} (hj:j<n):∃ g off,A=some ⟨g,off,none⟩∧g<b∧w.cell? ⟨g,off+j,none⟩=some (.string (L.getD j ⟨#[]⟩)):=by
 obtain ⟨g,off,e,hg,hc,hs⟩:=h.2.2.2.2.2 j hj
 exact ⟨g,off,e,hg,hc⟩
theorem WSt.size (h:WSt w b A n c L k) {j:Nat} (hj:j<n):(L.getD j ⟨#[]⟩).size≤1048576:=by
 obtain ⟨g,off,e,hg,hc,hs⟩:=h.2.2.2.2.2 j hj
 exact hs
def Got (b:Nat) (w w':World):Prop:=w.grownBy w' (some b)
theorem Got.below (h:Got b w w') (hb:b<w.heap.size):Below b w w':=(Below.refl b w).grown h (by omega) (fun k hk=>by injection hk with hk;omega)
theorem Got.of {w1:World} (h:Got b w w1) (hb:Below w1.heap.size w1 w'):Got b w w':=grown_trans h (grown_below hb)
theorem Got.refl (b:Nat) (w:World):Got b w w:=grown_below (Below.refl _ _)
theorem Got.cells (h:Got b w w') {x o:Nat} (hx:x<w.heap.size) (hb:x≠b):w'.cell? ⟨x,o,none⟩=w.cell? ⟨x,o,none⟩∧w'.frozen? ⟨x,o,none⟩=w.frozen? ⟨x,o,none⟩:=by
 have e:=h.block x hx (fun e=>by injection e with e;exact hb (by omega))
 exact ⟨World.cell?_of_block (a:=⟨x,o,none⟩) e,World.frozen?_of_block e⟩
theorem Got.ofB {w1:World} (h:Got b w w1) (hb:Below w.heap.size w1 w'):Got b w w':=
 ⟨hb.os.trans h.os,hb.tape.trans h.tape,hb.output.trans h.output,Nat.le_trans h.size hb.size,fun k hk hr=>(hb.block k hk).trans (h.block k hk hr)⟩
theorem WSt.ofB {B:Nat} (h:WSt w b A n c L k) (hb:Below B w w') (hB:b<B):WSt w' b A n c L k:=by
 obtain ⟨h1,h2,h3,h4,h5,h6⟩:=h
 refine ⟨(hb.block b hB).trans h1,h2,h3,h4,h5,fun j hj=>?_⟩
 obtain ⟨g,off,e,hg,hc,hs⟩:=h6 j hj
 exact ⟨g,off,e,hg,(hb.cell (p:=⟨g,_,none⟩) (show g<_ by omega)).trans hc,hs⟩
theorem wnext_ok (s:ByteArray) (h:WSt w b A n c L k) (hk:k<n) (hs:L.getD k ⟨#[]⟩=s) :
  Calls Tryz.prog 49 #[.pointer (some ⟨b,0,none⟩)] w fun e w'=>e=.returned (.string s)∧WSt w' b A n c L (k+1)∧Got b w w':=by
 obtain ⟨k0,k1,kf⟩:=h.cells
 have hl:=h.lt
 have hn:n≤1048576:=h.2.2.2.1
 have e1:((k:Int)==n)=false:=by simp;omega
 have e2:IntKind.i64.wrap ((k:Int)+1)=(k:Int)+1:=IntWalk.i64_in _ (by omega)
 have e3:IntKind.i64.wrap (k:Int)=(k:Int):=IntWalk.i64_in _ (by omega)
 have hd:Below w.heap.size w w.drew:=(Below.refl _ _).drew
 have hS:=(h.below hd).step (k':=k+1) (by omega)
 have HG:=Lib.hid (grown_trans (grown_below (row:=some b) hd) (grown_set w.drew b 1 (.int .i64 ((k+1:Nat):Int))))
 obtain ⟨g,off,hA,hg,hc⟩:=h.at hk
 rw [hs] at hc
 have gb:¬ g=b:=by omega
 have gb':¬ b=g:=by omega
 have lk:(k:Int)<n:=by omega
 have lk0:(0:Int)≤k:=by omega
 have HS:=Lib.hid hS
 subst hA
 clear h hs hS hd hn
 go_enter Tryz.func49,Tryz.ntmps49
 go_wp2_with fail
 go_region
 go_wp2_with fail
 go_region
 go_wp2_with fail
 refine bodyPost_ret (v:=.string s) (by simp [results,Tryz.results49,go_sem]) rfl ?_
 exact ⟨rfl,HS.out.below (Below.refl _ _).drew,Got.of HG.out (Below.refl _ _).drew⟩
theorem wnext_no (h:WSt w b A n c L n) :
  Calls Tryz.prog 49 #[.pointer (some ⟨b,0,none⟩)] w fun e w'=>e=Fault 11∧Got b w w':=by
 obtain ⟨k0,k1,kf⟩:=h.cells
 have hl:=h.lt
 have e1:((n:Int)==n)=true:=by simp
 have HB:=Lib.hid (fun w'=>bad_ok 11 w')
 clear h
 go_enter Tryz.func49,Tryz.ntmps49
 go_wp2_with fail
 go_region
 go_wp2_with fail
 refine (HB.out _).mono ?_
 rintro e w1 ⟨rfl,hb1⟩
 exact ⟨rfl,rfl,Got.of (grown_below (Below.refl _ _).drew) hb1⟩
theorem wend_ok (h:WSt w b A n c L n) :
  Calls Tryz.prog 25 #[.pointer (some ⟨b,0,none⟩)] w fun e w'=>e=.returned (.tuple #[])∧Below w.heap.size w w':=by
 obtain ⟨k0,k1,kf⟩:=h.cells
 have hl:=h.lt
 have e1:((n:Int) != n)=false:=by simp
 clear h
 go_enter Tryz.func25,Tryz.ntmps25
 go_wp2_with fail
 go_region
 go_wp2_with fail
 go_end0
 exact ⟨rfl,(Below.refl _ _).drew⟩
theorem wend_no (h:WSt w b A n c L k) (hk:k<n) :
  Calls Tryz.prog 25 #[.pointer (some ⟨b,0,none⟩)] w fun e w'=>e=Fault 11∧Below w.heap.size w w':=by
 obtain ⟨k0,k1,kf⟩:=h.cells
 have hl:=h.lt
 have e1:((k:Int) != n)=true:=by simp;omega
 have HB:=Lib.hid (fun w'=>bad_ok 11 w')
 clear h
 go_enter Tryz.func25,Tryz.ntmps25
 go_wp2_with fail
 go_region
 go_wp2_with fail
 refine (HB.out _).mono ?_
 rintro e w1 ⟨rfl,hb1⟩
 exact ⟨rfl,rfl,(Below.refl _ _).drew.trans hb1⟩
def pNum (L:List ByteArray) (k:Nat):Option Int:=if k<L.length then numW (L.getD k ⟨#[]⟩) else none
theorem wnum_ok (g:GOK w) (h:WSt w b A n c L k) {x:Int} (hx:pNum L k=some x) :
  Calls Tryz.prog 63 #[.pointer (some ⟨b,0,none⟩)] w fun e w'=>e=.returned (.int .i64 x)∧WSt w' b A n c L (k+1)∧Got b w w':=by
 have hL:=h.2.1
 have hk:k<n:=by rw [← hL];unfold pNum at hx;split at hx <;> simp_all
 have h10:=h.2.2.2.2.1
 unfold pNum at hx
 rw [if_pos (by omega)] at hx
 have HN:=Lib.hid (wnext_ok (L.getD k ⟨#[]⟩) h hk rfl)
 have HM:=Lib.hid (fun w' (hg:Got b w w')=>number_any (L.getD k ⟨#[]⟩) (h.size hk) w' (g.grown hg h10))
 rw [hx] at HM
 clear h g hx hL
 go_enter Tryz.func63,Tryz.ntmps63
 go_wp2_with fail
 refine HN.out.mono ?_
 rintro e w1 ⟨rfl,h1,hg1⟩
 go_wp2_with fail
 refine (HM.out _ hg1).mono ?_
 rintro e w2 ⟨rfl,hb2⟩
 go_wp2_with fail
 refine bodyPost_ret (v:=.int .i64 x) (by simp [results,Tryz.results63,go_sem]) rfl ?_
 exact ⟨rfl,h1.below hb2,Got.of hg1 hb2⟩
theorem wnum_no (g:GOK w) (h:WSt w b A n c L k) (hx:pNum L k=none) :
  Calls Tryz.prog 63 #[.pointer (some ⟨b,0,none⟩)] w fun e w'=>e=Fault 11∧Got b w w':=by
 have hL:=h.2.1
 have hkn:=h.2.2.1
 have h10:=h.2.2.2.2.1
 unfold pNum at hx
 by_cases hk:k<n
 ·rw [if_pos (by omega)] at hx
  have HN:=Lib.hid (wnext_ok (L.getD k ⟨#[]⟩) h hk rfl)
  have HM:=Lib.hid (fun w' (hg:Got b w w')=>number_any (L.getD k ⟨#[]⟩) (h.size hk) w' (g.grown hg h10))
  rw [hx] at HM
  clear h g hx hL
  go_enter Tryz.func63,Tryz.ntmps63
  go_wp2_with fail
  refine HN.out.mono ?_
  rintro e w1 ⟨rfl,h1,hg1⟩
  go_wp2_with fail
  refine (HM.out _ hg1).mono ?_
  rintro e w2 ⟨rfl,hb2⟩
  exact ⟨rfl,rfl,Got.of hg1 hb2⟩
 ·obtain rfl:k=n:=by omega
  have HN:=Lib.hid (wnext_no h)
  clear h g hx hL
  go_enter Tryz.func63,Tryz.ntmps63
  go_wp2_with fail
  refine HN.out.mono ?_
  rintro e w1 ⟨rfl,hg1⟩
  exact ⟨rfl,rfl,hg1⟩
end Go.Proofs.YtnaebigoknfndaaGreatDoor
namespace Go.Proofs.YtnaebigoknfndaaGreatDoor
open Go Go.RowKit
theorem pv_le_take {l:List Nat} (hd:Dig l) (k:Nat):pv (l.take k)≤pv l:=by
 have e:=pvFrom (l.drop k) (pv (l.take k))
 have h:pv l=(l.drop k).foldl (fun a b=>a * 10+(b - 48)) (pv (l.take k)):=by
  conv=>lhs;rw [← List.take_append_drop k l]
  simp only [pv,List.foldl_append]
 rw [h,e]
 have:1≤10 ^ (l.drop k).length:=Nat.one_le_pow _ _ (by omega)
 have:=Nat.mul_le_mul_left (pv (l.take k)) this
 omega
theorem pv_take_succ {l:List Nat} {k:Nat} (h:k<l.length):pv (l.take (k+1))=pv (l.take k) * 10+(l.getD k 0 - 48):=by
 have:l.take (k+1)=l.take k ++ [l.getD k 0]:=by rw [List.take_succ_eq_append_getElem h];simp [List.getD,h]
 rw [this,pv_snoc]
theorem parse_empty (s:ByteArray) (w:World) (h:s.size=0) :
  Calls Tryz.prog 48 #[.string s] w fun e w'=>e=.returned (.tuple #[.agg #[.int .u64 0,.int .u64 0],.int .i64 3])∧Below w.heap.size w w':=by
 have hne:s.toList = []:=List.eq_nil_of_length_eq_zero (by rw [str_len];exact h)
 go_enter Tryz.func48,Tryz.ntmps48
 go_wp2_with fail
 refine bodyPost_ret (v:=.tuple #[.agg #[.int .u64 0,.int .u64 0],.int .i64 3]) (by simp [results,Tryz.results48,go_sem,↓IntWalk.iteOmega, *]) rfl ?_
 exact ⟨rfl,(by repeat (first | (with_reducible exact Below.refl _ _) | (with_reducible refine bAl ?_ _) | (with_reducible refine bSc ?_ _) | (with_reducible refine Below.drew ?_) | (refine Below.trans ?_ (by assumption))))⟩
theorem parse_lead (s:ByteArray) (w:World) (h:1<s.size) (h0:(byts s).getD 0 0=48) :
  Calls Tryz.prog 48 #[.string s] w fun e w'=>e=.returned (.tuple #[.agg #[.int .u64 0,.int .u64 0],.int .i64 3])∧Below w.heap.size w w':=by
 have hne:=not_nil (s:=s) (by omega)
 have hne2:=not_empty (s:=s) (by omega)
 have hg:(1:Int)<s.size:=by omega
 obtain ⟨x,hx⟩:∃ x:UInt8,s[0]'(by omega)=x:=⟨_,rfl⟩
 have hX:x.toNat=48:=by rw [← hx,byte_at (by omega),h0]
 clear h0
 go_enter Tryz.func48,Tryz.ntmps48
 go_wp2_with fail
 refine bodyPost_ret (v:=.tuple #[.agg #[.int .u64 0,.int .u64 0],.int .i64 3]) (by simp [results,Tryz.results48,go_sem,↓IntWalk.iteOmega, *]) rfl ?_
 exact ⟨rfl,(by repeat (first | (with_reducible exact Below.refl _ _) | (with_reducible refine bAl ?_ _) | (with_reducible refine bSc ?_ _) | (with_reducible refine Below.drew ?_) | (refine Below.trans ?_ (by assumption))))⟩
theorem first_bad {l:List Nat} (h:¬ Dig l):∃ k0,k0<l.length∧¬ (48≤l.getD k0 0∧l.getD k0 0≤57)∧∀ j,j<k0→48≤l.getD j 0∧l.getD j 0≤57:=by
 have:∀ n,n≤l.length→(∀ j,j<n→48≤l.getD j 0∧l.getD j 0≤57)∨∃ k0,k0<l.length∧¬ (48≤l.getD k0 0∧l.getD k0 0≤57)∧∀ j,j<k0→48≤l.getD j 0∧l.getD j 0≤57:=by
  intro n
  induction n with
  | zero=>intro _;exact .inl (fun j hj=>absurd hj (by omega))
  | succ n ih=>
   intro hn
   rcases ih (by omega) with a | a
   ·by_cases c:48≤l.getD n 0∧l.getD n 0≤57
    ·left
     intro j hj
     rcases Nat.lt_or_ge j n with g | g
     ·exact a j g
     ·obtain rfl:j=n:=by omega
      exact c
    ·exact .inr ⟨n,by omega,c,a⟩
   ·exact .inr a
 rcases this l.length (Nat.le_refl _) with a | a
 ·exfalso
  refine h fun x hx=>?_
  obtain ⟨j,hj,rfl⟩:=List.getElem_of_mem hx
  have:=a j hj
  simpa [List.getD,hj] using this
 ·exact a
theorem parse_bad (s:ByteArray) (w:World) (hm:s.size≤9223372036854775807) (h1:1≤s.size) (hl:s.size=1∨(1<s.size∧(byts s).getD 0 0≠48)) (h:¬ Dig (byts s)) :
  Calls Tryz.prog 48 #[.string s] w fun e w'=>e=.returned (.tuple #[.agg #[.int .u64 0,.int .u64 0],.int .i64 3])∧Below w.heap.size w w':=by
 have hne:=not_nil h1
 have hne2:=not_empty h1
 obtain ⟨k0,k1,k2,k3⟩:=first_bad h
 rw [byts_len] at k1
 have K2:=Lib.hid k2
 have K3:=Lib.hid k3
 obtain ⟨x0,hx0⟩:∃ x:UInt8,s[0]'(by omega)=x:=⟨_,rfl⟩
 obtain ⟨X0,hX0⟩:∃ X,x0.toNat=X:=⟨_,rfl⟩
 have e0:(byts s).getD 0 0=X0:=by rw [← byte_at (by omega),hx0,hX0]
 have hcs:(¬ (1:Int)<s.size)∨((1:Int)<s.size∧¬ (X0:Int)=48):=by
  rcases hl with h | ⟨h,h'⟩
  ·exact .inl (by omega)
  ·exact .inr ⟨by omega,by rw [e0] at h';omega⟩
 clear h k2 k3 hl e0
 rcases hcs with g1 | ⟨g1,g2⟩
 all_goals
  go_enter Tryz.func48,Tryz.ntmps48
  go_wp2_with fail
  go_loop [24] (fun i=>∃ k:Nat,k≤k0∧i=.int .i64 k) (fun i=>s.size - (intOf i).toNat)
  case atStart=>exact ⟨0,Nat.zero_le _,rfl⟩
  case round=>
   obtain ⟨k,hk,rfl⟩:=hrel
   have hlt:k<s.size:=by omega
   obtain ⟨x,hx⟩:∃ x:UInt8,s[k]'hlt=x:=⟨_,rfl⟩
   obtain ⟨X,hX⟩:∃ X,x.toNat=X:=⟨_,rfl⟩
   have he:(byts s).getD k 0=X:=by rw [← byte_at hlt,hx,hX]
   by_cases hk0:k<k0
   ·have hb:=K3.out k hk0
    rw [he] at hb
    have hb1:¬ (X:Int)<48:=by omega
    have hb2:¬ (57:Int)<X:=by omega
    clear he
    go_wp2_with fail
    go_round
    case rel=>exact ⟨k+1,by omega,by go_num⟩
    case measure=>simp [intOf];omega
   ·obtain rfl:k0=k:=by omega
    have hb:=K2.out
    rw [he] at hb
    clear he
    by_cases c:X<48
    ·have hb1:(X:Int)<48:=by omega
     go_wp2_with fail
     refine bodyPost_ret (v:=.tuple #[.agg #[.int .u64 0,.int .u64 0],.int .i64 3]) (by simp [results,Tryz.results48,go_sem,↓IntWalk.iteOmega, *]) rfl ?_
     exact ⟨rfl,(by repeat (first | (with_reducible exact Below.refl _ _) | (with_reducible refine bAl ?_ _) | (with_reducible refine bSc ?_ _) | (with_reducible refine Below.drew ?_) | (refine Below.trans ?_ (by assumption))))⟩
    ·have hb1:¬ (X:Int)<48:=by omega
     have hb2:(57:Int)<X:=by omega
     go_wp2_with fail
     refine bodyPost_ret (v:=.tuple #[.agg #[.int .u64 0,.int .u64 0],.int .i64 3]) (by simp [results,Tryz.results48,go_sem,↓IntWalk.iteOmega, *]) rfl ?_
     exact ⟨rfl,(by repeat (first | (with_reducible exact Below.refl _ _) | (with_reducible refine bAl ?_ _) | (with_reducible refine bSc ?_ _) | (with_reducible refine Below.drew ?_) | (refine Below.trans ?_ (by assumption))))⟩
theorem parse_val (s:ByteArray) (V:Nat) (RV:Value) (w:World) (hm:s.size≤9223372036854775807) (h:Num (byts s)) (hv:pv (byts s)=V)
  (hRV:(U128 (V:Int)∧RV=.tuple #[.agg #[.int .u64 (hi V),.int .u64 (lo V)],.int .i64 0])∨(¬ U128 (V:Int)∧RV=.tuple #[.agg #[.int .u64 0,.int .u64 0],.int .i64 2])) :
  Calls Tryz.prog 48 #[.string s] w fun e w'=>e=.returned RV∧Below w.heap.size w w':=by
 obtain ⟨hd,hn0,hh⟩:=h
 have h1:1≤s.size:=by have:=List.length_pos_iff.2 hn0;rw [byts_len] at this;exact this
 have hne:=not_nil h1
 have hne2:=not_empty h1
 have K3:=Lib.hid (show ∀ j,j<s.size→48≤(byts s).getD j 0∧(byts s).getD j 0≤57 from fun j hj=>hd _ (by
  rw [List.getD_eq_getElem?_getD,List.getElem?_eq_getElem (by rw [byts_len];exact hj)]
  exact List.getElem_mem _))
 have KS:=Lib.hid (show ∀ k,k<s.size→pv ((byts s).take (k+1))=pv ((byts s).take k) * 10+((byts s).getD k 0 - 48) from fun k hk=>pv_take_succ (by rw [byts_len];exact hk))
 have KL:=Lib.hid (show ∀ k,pv ((byts s).take k)≤V from fun k=>hv ▸ pv_le_take hd k)
 have KE:=Lib.hid (show pv ((byts s).take s.size)=V by rw [List.take_of_length_le (by rw [byts_len];exact Nat.le_refl _),hv])
 obtain ⟨x0,hx0⟩:∃ x:UInt8,s[0]'(by omega)=x:=⟨_,rfl⟩
 obtain ⟨X0,hX0⟩:∃ X,x0.toNat=X:=⟨_,rfl⟩
 have e0:(byts s).getD 0 0=X0:=by rw [← byte_at (by omega),hx0,hX0]
 have hcs:(¬ (1:Int)<s.size)∨((1:Int)<s.size∧¬ (X0:Int)=48):=by
  by_cases c:1<s.size
  ·have:=hh (by rw [byts_len];exact c)
   exact .inr ⟨by omega,by rw [e0] at this;omega⟩
  ·exact .inl (by omega)
 have qa:=alloc_cells
 have qf:=alloc_frozens
 clear hd hn0 hh e0 hv
 rcases hcs with g1 | ⟨g1,g2⟩
 all_goals
  go_enter Tryz.func48,Tryz.ntmps48
  go_wp2_with fail
  go_loop [24] (fun i=>∃ k:Nat,k≤s.size∧i=.int .i64 k) (fun i=>s.size - (intOf i).toNat)
  case atStart=>exact ⟨0,Nat.zero_le _,rfl⟩
  case round=>
   obtain ⟨k,hk,rfl⟩:=hrel
   by_cases hlt:k<s.size
   ·obtain ⟨x,hx⟩:∃ x:UInt8,s[k]'hlt=x:=⟨_,rfl⟩
    obtain ⟨X,hX⟩:∃ X,x.toNat=X:=⟨_,rfl⟩
    have hb:=K3.out k hlt
    rw [← byte_at hlt,hx,hX] at hb
    have hb1:¬ (X:Int)<48:=by omega
    have hb2:¬ (57:Int)<X:=by omega
    go_wp2_with fail
    go_round
    case rel=>exact ⟨k+1,by omega,by go_num⟩
    case measure=>simp [intOf];omega
   ·obtain rfl:s.size=k:=by omega
    go_wp2_with fail
    go_loopw [41] (fun i wr=>∃ k:Nat,k≤s.size∧i=.int .i64 k∧U128 ((pv ((byts s).take k):Nat):Int) ∧
     wr.cell? ⟨w.heap.size+1,0,none⟩=some (.int .u64 (hi (pv ((byts s).take k):Nat)))∧wr.cell? ⟨w.heap.size+1,1,none⟩=some (.int .u64 (lo (pv ((byts s).take k):Nat)))∧(∀ o,wr.frozen? ⟨w.heap.size+1,o,none⟩=false) ∧
     wr.cell? ⟨w.heap.size,0,none⟩=some (.int .u64 0)∧wr.cell? ⟨w.heap.size,1,none⟩=some (.int .u64 0)∧(∀ o,wr.frozen? ⟨w.heap.size,o,none⟩=false)∧w.heap.size+2≤wr.heap.size∧Below w.heap.size w wr) (fun i _=>s.size - (intOf i).toNat)
    case atStart=>exact ⟨0,Nat.zero_le _,rfl,U128.zero,by simp [go_sem,pv,hi_zero],by simp [go_sem,pv,lo_zero],fun o=>by simp [go_sem],by simp [go_sem],by simp [go_sem],fun o=>by simp [go_sem],by simp,(by repeat (first | (with_reducible exact Below.refl _ _) | (with_reducible refine bAl ?_ _) | (with_reducible refine bSc ?_ _) | (with_reducible refine Below.drew ?_) | (refine Below.trans ?_ (by assumption))))⟩
    case round=>
     obtain ⟨k,hk,rfl,hU,ka,kb,kc,kd,ke,kf,hsz,bel⟩:=hrel
     by_cases hlt:k<s.size
     ·obtain ⟨x,hx⟩:∃ x:UInt8,s[k]'hlt=x:=⟨_,rfl⟩
      obtain ⟨X,hX⟩:∃ X,x.toNat=X:=⟨_,rfl⟩
      have hb:=K3.out k hlt
      have hs:=KS.out k hlt
      have hl:=KL.out (k+1)
      rw [← byte_at hlt,hx,hX] at hb hs
      obtain ⟨P,hP⟩:∃ P,pv ((byts s).take k)=P:=⟨_,rfl⟩
      rw [hP] at hU ka kb hs
      have n0:¬ V<P:=by have:=KL.out k;omega
      obtain ⟨d,hd⟩:∃ d,X - 48=d:=⟨_,rfl⟩
      rw [hd] at hs
      rw [hs] at hl
      have d9:d≤9:=by omega
      have s1:IntKind.u8.wrap ((X:Int) - 48)=d:=by simp only [IntKind.wrap,IntKind.signed,IntKind.bits];simp;omega
      have s2:IntKind.u64.wrap (d:Int)=d:=by simp only [IntKind.wrap,IntKind.signed,IntKind.bits];simp;omega
      have s4:IntKind.u8.wrap (d:Int)=d:=by simp only [IntKind.wrap,IntKind.signed,IntKind.bits];simp;omega
      obtain ⟨T,hT⟩:∃ T,(P:Int) * 10=T:=⟨_,rfl⟩
      have HS:=Lib.hid hs
      have k0:(0:Int)≤k:=by omega
      have k1:(k:Int)<s.size:=by omega
      by_cases ht:U128 T
      ·by_cases ha:U128 (T+d)
       ·have HA:=Lib.hid (fun w=>add_ok T d (T+d) (Wd.mk ht) (Wd.lit (l:=(d:Int)) (by unfold U64;omega)) rfl ha w)
        have HN:=Lib.hid (show T+(d:Int)=((P * 10+d:Nat):Int) by omega)
        have HH:=Lib.hid (⟨ha,bel⟩:_∧_)
        have HTm:=Lib.hid (fun w=>times_ok (P:Int) 10 T (Wd.mk hU) (Wd.lit (l:=10) (by unfold U64;omega)) hT ht w)
        clear hl hb hs hd hT ht ha hU hP bel hRV
        go_wp2_with fail
        refine (HTm.out _).mono ?_
        rintro e w1 ⟨rfl,hb1⟩
        have z1:=hb1.size
        have c1:=Below.cells hb1
        have f1:=Below.frozens hb1
        try simp only [World.size_alloc,World.size_setCell,World.size_drew] at z1 c1 f1
        go_wp2_with fail
        refine wp_region_quiet_then 8 #[true,true,true,true,true,true,true,true,false,false,false,false,false] (Ext _) (by kernel_rfl) (by kernel_rfl) (Ext.drawn _) ?_
        simp only [List.take_succ_cons,List.take_zero]
        repeat (first | go_big_quiet_skip | go_big_quiet_step (fail) | (refine BigFrame.wpQuiet_want rfl (fun K hK=>?_);apply Exists.intro;refine ⟨fun w2 h2=>?_,?_⟩;(next=>(have g1:=Below.cells h2.below;have g2:=Below.frozens h2.below;(try simp only [World.size_alloc,World.size_setCell] at g1 g2);first | (go_simp;(go_at_call 38;refine h2.calls (HA.out _))) | (simp [go_sem,↓IntWalk.iteOmega, *];done) | (simp [go_sem,↓IntWalk.iteOmega, *];rfl))));(go_simp;refine hK _ ?_;clear hK K))
        refine wpQuiet_nil ?_
        intro w5 h5
        have hb5:=h5.below
        clear h5
        change wpAny _ _ _ _ 5 _ _ _
        have z5:=hb5.size
        have c5:=Below.cells hb5
        have f5:=Below.frozens hb5
        try simp only [World.size_alloc,World.size_setCell,World.size_drew] at z5 c5 f5
        (refine wpAny_take (i:=8) (v:=?_) rfl (by kernel_rfl) (by kernel_rfl) (by kernel_rfl) (fun _ _ _ h=>h) (Or.inl ⟨by rfl,?_⟩) ?_;(rotate_left;(intro w;go_simp;try with_reducible rfl)))
        (refine wpAny_take (i:=9) (v:=?_) rfl (by kernel_rfl) (by kernel_rfl) (by kernel_rfl) (fun _ _ _ h=>h) (Or.inl ⟨by rfl,?_⟩) ?_;(rotate_left;(intro w;go_simp;try with_reducible rfl)))
        (refine wpAny_take (i:=10) (v:=?_) rfl (by kernel_rfl) (by kernel_rfl) (by kernel_rfl) (fun _ _ _ h=>h) (Or.inl ⟨by rfl,?_⟩) ?_;(rotate_left;(intro w;go_simp;try with_reducible rfl)))
        have g0:w5.cell? ⟨w.heap.size+1,0,none⟩=some (.int .u64 (hi (P:Int))):=by simp [go_sem,↓IntWalk.iteOmega, *]
        have g1:w5.cell? ⟨w.heap.size+1,1,none⟩=some (.int .u64 (lo (P:Int))):=by simp [go_sem,↓IntWalk.iteOmega, *]
        have g2:∀ o,w5.frozen? ⟨w.heap.size+1,o,none⟩=false:=by intro o;simp [go_sem,↓IntWalk.iteOmega, *]
        have g3:w5.cell? ⟨w.heap.size,0,none⟩=some (.int .u64 0):=by simp [go_sem,↓IntWalk.iteOmega, *]
        have g4:w5.cell? ⟨w.heap.size,1,none⟩=some (.int .u64 0):=by simp [go_sem,↓IntWalk.iteOmega, *]
        have g5:∀ o,w5.frozen? ⟨w.heap.size,o,none⟩=false:=by intro o;simp [go_sem,↓IntWalk.iteOmega, *]
        clear qa qf c1 f1 c5 f5 ka kb kc kd ke kf
        refine wpAny_ready (rs:=[11]) (by kernel_rfl) (by simp) ?_
        refine AllReady.cons rfl (fun K hK=>?_) AllReady.nil
        rw [if_pos (by rfl)]
        go_simp
        refine hK _ _ ?_
        clear hK K
        (refine wpAny_take (i:=12) (v:=?_) rfl (by kernel_rfl) (by kernel_rfl) (by kernel_rfl) (fun _ _ _ h=>h) (Or.inl ⟨by rfl,?_⟩) ?_;(rotate_left;(intro w;go_simp;try with_reducible rfl)))
        refine wpAny_done (by kernel_rfl) ?_ _
        go_wp2_with fail
        go_roundw
        case rel=>
         have hs:=HS.out
         have hn:=HN.out
         obtain ⟨ha,bel⟩:=HH.out
         refine ⟨k+1,by omega,by go_num,?_,?_,?_,?_,?_,?_,?_,?_,?_⟩
         ·rw [hs,← hn];exact ha
         ·rw [hs,← hn];clear hs hn;simp [go_sem,↓IntWalk.iteOmega, *]
         ·rw [hs,← hn];clear hs hn;simp [go_sem,↓IntWalk.iteOmega, *]
         ·intro o;clear hs hn;simp [go_sem,↓IntWalk.iteOmega, *]
         ·clear hs hn;simp [go_sem,↓IntWalk.iteOmega, *]
         ·clear hs hn;simp [go_sem,↓IntWalk.iteOmega, *]
         ·intro o;clear hs hn;simp [go_sem,↓IntWalk.iteOmega, *]
         ·simp only [World.size_setCell];omega
         ·exact (by repeat (first | (with_reducible exact Below.refl _ _) | (with_reducible refine bAl ?_ _) | (with_reducible refine bSc ?_ _) | (with_reducible refine Below.drew ?_) | (with_reducible refine bTm ?_ hb5) | (with_reducible refine bTm ?_ hb1) | (with_reducible exact bel)))
        case measure=>simp [intOf];omega
       ·have HA:=Lib.hid (fun w=>add_large T d (Wd.mk ht) (Wd.lit (l:=(d:Int)) (by unfold U64;omega)) ha w)
        have hVU:¬ U128 (V:Int):=by unfold U128 at *;omega
        have hR:=hRV.resolve_left (fun h=>hVU h.1)
        have HTm:=Lib.hid (fun w=>times_ok (P:Int) 10 T (Wd.mk hU) (Wd.lit (l:=10) (by unfold U64;omega)) hT ht w)
        have HR:=Lib.hid hR.2
        clear hl hb hs hd hT ht ha hU hP hRV hR hVU
        go_wp2_with fail
        refine (HTm.out _).mono ?_
        rintro e w1 ⟨rfl,hb1⟩
        have z1:=hb1.size
        have c1:=Below.cells hb1
        have f1:=Below.frozens hb1
        try simp only [World.size_alloc,World.size_setCell,World.size_drew] at z1 c1 f1
        go_wp2_with fail
        refine wp_region_quiet_then 8 #[true,true,true,true,true,true,true,true,false,false,false,false,false] (Ext _) (by kernel_rfl) (by kernel_rfl) (Ext.drawn _) ?_
        simp only [List.take_succ_cons,List.take_zero]
        repeat (first | go_big_quiet_skip | go_big_quiet_step (fail) | (refine BigFrame.wpQuiet_want rfl (fun K hK=>?_);apply Exists.intro;refine ⟨fun w2 h2=>?_,?_⟩;(next=>(have g1:=Below.cells h2.below;have g2:=Below.frozens h2.below;(try simp only [World.size_alloc,World.size_setCell] at g1 g2);first | (go_simp;(go_at_call 38;refine h2.calls (HA.out _))) | (simp [go_sem,↓IntWalk.iteOmega, *];done) | (simp [go_sem,↓IntWalk.iteOmega, *];rfl))));(go_simp;refine hK _ ?_;clear hK K))
        refine wpQuiet_nil ?_
        intro w5 h5
        have hb5:=h5.below
        clear h5
        change wpAny _ _ _ _ 5 _ _ _
        have z5:=hb5.size
        have c5:=Below.cells hb5
        have f5:=Below.frozens hb5
        try simp only [World.size_alloc,World.size_setCell,World.size_drew] at z5 c5 f5
        (refine wpAny_take (i:=8) (v:=?_) rfl (by kernel_rfl) (by kernel_rfl) (by kernel_rfl) (fun _ _ _ h=>h) (Or.inl ⟨by rfl,?_⟩) ?_;(rotate_left;(intro w;go_simp;try with_reducible rfl)))
        (refine wpAny_take (i:=9) (v:=?_) rfl (by kernel_rfl) (by kernel_rfl) (by kernel_rfl) (fun _ _ _ h=>h) (Or.inl ⟨by rfl,?_⟩) ?_;(rotate_left;(intro w;go_simp;try with_reducible rfl)))
        (refine wpAny_take (i:=10) (v:=?_) rfl (by kernel_rfl) (by kernel_rfl) (by kernel_rfl) (fun _ _ _ h=>h) (Or.inl ⟨by rfl,?_⟩) ?_;(rotate_left;(intro w;go_simp;try with_reducible rfl)))
        have g0:w5.cell? ⟨w.heap.size+1,0,none⟩=some (.int .u64 (hi (P:Int))):=by simp [go_sem,↓IntWalk.iteOmega, *]
        have g1:w5.cell? ⟨w.heap.size+1,1,none⟩=some (.int .u64 (lo (P:Int))):=by simp [go_sem,↓IntWalk.iteOmega, *]
        have g2:∀ o,w5.frozen? ⟨w.heap.size+1,o,none⟩=false:=by intro o;simp [go_sem,↓IntWalk.iteOmega, *]
        have g3:w5.cell? ⟨w.heap.size,0,none⟩=some (.int .u64 0):=by simp [go_sem,↓IntWalk.iteOmega, *]
        have g4:w5.cell? ⟨w.heap.size,1,none⟩=some (.int .u64 0):=by simp [go_sem,↓IntWalk.iteOmega, *]
        have g5:∀ o,w5.frozen? ⟨w.heap.size,o,none⟩=false:=by intro o;simp [go_sem,↓IntWalk.iteOmega, *]
        clear qa qf c1 f1 c5 f5 ka kb kc kd ke kf
        refine wpAny_ready (rs:=[11]) (by kernel_rfl) (by simp) ?_
        refine AllReady.cons rfl (fun K hK=>?_) AllReady.nil
        rw [if_pos (by rfl)]
        go_simp
        refine hK _ _ ?_
        clear hK K
        (refine wpAny_take (i:=12) (v:=?_) rfl (by kernel_rfl) (by kernel_rfl) (by kernel_rfl) (fun _ _ _ h=>h) (Or.inl ⟨by rfl,?_⟩) ?_;(rotate_left;(intro w;go_simp;try with_reducible rfl)))
        refine wpAny_done (by kernel_rfl) ?_ _
        go_wp2_with fail
        refine bodyPost_ret (v:=.tuple #[.agg #[.int .u64 0,.int .u64 0],.int .i64 2]) (by simp [results,Tryz.results48,go_sem,↓IntWalk.iteOmega, *]) rfl ?_
        exact ⟨by rw [HR.out],(by repeat (first | (with_reducible exact Below.refl _ _) | (with_reducible refine bAl ?_ _) | (with_reducible refine bSc ?_ _) | (with_reducible refine Below.drew ?_) | (with_reducible refine bTm ?_ hb5) | (with_reducible refine bTm ?_ hb1) | (with_reducible exact bel)))⟩
      ·have HTm:=Lib.hid (fun w=>times_large (P:Int) 10 (Wd.mk hU) (Wd.lit (l:=10) (by unfold U64;omega)) (by rw [hT];exact ht) w)
       have hVU:¬ U128 (V:Int):=by unfold U128 at *;omega
       have hR:=hRV.resolve_left (fun h=>hVU h.1)
       have HR:=Lib.hid hR.2
       clear hl hb hs hd hT ht hU hP hRV hR hVU
       go_wp2_with fail
       refine (HTm.out _).mono ?_
       rintro e w1 ⟨rfl,hb1⟩
       have z1:=hb1.size
       have c1:=Below.cells hb1
       have f1:=Below.frozens hb1
       try simp only [World.size_alloc,World.size_setCell,World.size_drew] at z1 c1 f1
       go_wp2_with fail
       refine bodyPost_ret (v:=.tuple #[.agg #[.int .u64 0,.int .u64 0],.int .i64 2]) (by simp [results,Tryz.results48,go_sem,↓IntWalk.iteOmega, *]) rfl ?_
       exact ⟨by rw [HR.out],(by repeat (first | (with_reducible exact Below.refl _ _) | (with_reducible refine bAl ?_ _) | (with_reducible refine bSc ?_ _) | (with_reducible refine Below.drew ?_) | (with_reducible refine bTm ?_ hb1) | (with_reducible exact bel)))⟩
     ·obtain rfl:s.size=k:=by omega
      rw [KE.out] at hU ka kb
      have hR:=hRV.resolve_right (fun h=>h.1 hU)
      have HR:=Lib.hid hR.2
      clear hRV hR hU
      go_wp2_with fail
      refine bodyPost_ret (v:=.tuple #[.agg #[.int .u64 (hi V),.int .u64 (lo V)],.int .i64 0]) (by simp [results,Tryz.results48,go_sem,↓IntWalk.iteOmega, *]) rfl ?_
      exact ⟨by rw [HR.out],(by repeat (first | (with_reducible exact Below.refl _ _) | (with_reducible refine bAl ?_ _) | (with_reducible refine bSc ?_ _) | (with_reducible refine Below.drew ?_) | (with_reducible exact bel)))⟩
end Go.Proofs.YtnaebigoknfndaaGreatDoor
namespace Go.Proofs.YtnaebigoknfndaaGreatDoor
open Go Go.RowKit
open Classical in
noncomputable def greatW (s:ByteArray):Option Nat:=if Num (byts s)∧U128 (pv (byts s):Int) then some (pv (byts s)) else none
noncomputable def pGreat (L:List ByteArray) (k:Nat):Option Nat:=if k<L.length then greatW (L.getD k ⟨#[]⟩) else none
theorem greatW_bd {s:ByteArray} {V:Nat} (h:greatW s=some V):U128 (V:Int):=by
 unfold greatW at h
 split at h
 ·injection h with h;subst h;rename_i h1;exact h1.2
 ·cases h
theorem parse_any (s:ByteArray) (hm:s.size≤1048576):∃ RV e0,(match greatW s with | some V=>RV=Value.agg #[.int .u64 (hi V),.int .u64 (lo V)]∧e0=0 | none=>RV=Value.agg #[.int .u64 0,.int .u64 0]∧e0≠0) ∧
  ∀ w,Calls Tryz.prog 48 #[.string s] w fun e w'=>e=.returned (.tuple #[RV,.int .i64 e0])∧Below w.heap.size w w':=by
 by_cases hN:Num (byts s)
 ·by_cases hU:U128 (pv (byts s):Int)
  ·have hg:greatW s=some (pv (byts s)):=by unfold greatW;rw [if_pos ⟨hN,hU⟩]
   rw [hg]
   exact ⟨_,0,⟨rfl,rfl⟩,fun w=>parse_val s _ _ w (by omega) hN rfl (.inl ⟨hU,rfl⟩)⟩
  ·have hg:greatW s=none:=by unfold greatW;rw [if_neg (fun h=>hU h.2)]
   rw [hg]
   exact ⟨_,2,⟨rfl,by decide⟩,fun w=>parse_val s _ _ w (by omega) hN rfl (.inr ⟨hU,rfl⟩)⟩
 ·have hg:greatW s=none:=by unfold greatW;rw [if_neg (fun h=>hN h.1)]
  rw [hg]
  refine ⟨_,3,⟨rfl,by decide⟩,fun w=>?_⟩
  by_cases h0:s.size=0
  ·exact parse_empty s w h0
  ·by_cases hl:1<s.size∧(byts s).getD 0 0=48
   ·exact parse_lead s w hl.1 hl.2
   ·refine parse_bad s w (by omega) (by omega) ?_ fun hd=>hN ⟨hd,?_,fun h1 h2=>hl ⟨by rw [← byts_len];exact h1,h2⟩⟩
    ·by_cases h1:s.size=1
     ·exact .inl h1
     ·exact .inr ⟨by omega,fun e=>hl ⟨by omega,e⟩⟩
    ·intro e
     have:=byts_len s
     rw [e] at this
     simp at this;omega
variable {w w':World} {b n c k:Nat} {A:Option Addr} {L:List ByteArray}
theorem wgreat_ok (h:WSt w b A n c L k) {V:Nat} (hx:pGreat L k=some V) :
  Calls Tryz.prog 24 #[.pointer (some ⟨b,0,none⟩)] w fun e w'=>e=.returned (.agg #[.int .u64 (hi V),.int .u64 (lo V)])∧WSt w' b A n c L (k+1)∧Got b w w':=by
 have hL:=h.2.1
 have hk:k<n:=by rw [← hL];unfold pGreat at hx;split at hx <;> simp_all
 have hl:=h.lt
 unfold pGreat at hx
 rw [if_pos (by omega)] at hx
 have HN:=Lib.hid (fun w' (h:WSt w' b A n c L k)=>wnext_ok (L.getD k ⟨#[]⟩) h hk rfl)
 obtain ⟨RV,e0,hv,hp⟩:=parse_any (L.getD k ⟨#[]⟩) (h.size hk)
 rw [hx] at hv
 obtain ⟨rfl,rfl⟩:=hv
 have HP:=Lib.hid hp
 have HW:=Lib.hid h
 have qa:=alloc_cells
 have qf:=alloc_frozens
 clear h hx hL hp
 go_enter Tryz.func24,Tryz.ntmps24
 have hb0:Below w.heap.size w (w.alloc (.cells #[.int .u64 0,.int .u64 0] 66)):=(Below.refl _ _).alloc (Nat.le_refl _) _
 go_wp2_with fail
 refine (HN.out _ (HW.out.below hb0)).mono ?_
 rintro e w1 ⟨rfl,h1,hg1⟩
 have k0:=(Got.cells hg1 (x:=w.heap.size) (o:=0) (by simp) (by omega))
 have k1:=(Got.cells hg1 (x:=w.heap.size) (o:=1) (by simp) (by omega))
 have z1:=hg1.size
 simp [qa,qf] at k0 k1 z1
 have HG1:=Lib.hid (grown_trans (grown_below (row:=some b) hb0) hg1)
 have H1:=Lib.hid h1
 clear hg1 h1 hb0
 go_wp2_with fail
 refine (HP.out _).mono ?_
 rintro e w2 ⟨rfl,hb2⟩
 have z2:=hb2.size
 have c2:=Below.cells hb2
 have f2:=Below.frozens hb2
 try simp only [World.size_alloc,World.size_setCell,World.size_drew] at z2 c2 f2
 go_wp2_with fail
 go_wp2_with fail
 have hB:Below w.heap.size w1 (((w2.alloc (.cells #[.int .u64 (hi V),.int .u64 (lo V)] 66)).setCell ⟨w.heap.size,0,none⟩ (.int .u64 (hi V))).setCell ⟨w.heap.size,1,none⟩ (.int .u64 (lo V))):=(by repeat (first | (with_reducible exact Below.refl _ _) | (with_reducible refine bAl ?_ _) | (with_reducible refine bSc ?_ _) | (with_reducible refine Below.drew ?_) | (with_reducible refine bTm ?_ hb2)))
 refine bodyPost_ret (v:=.agg #[.int .u64 (hi V),.int .u64 (lo V)]) (by simp [results,Tryz.results24,go_sem,↓IntWalk.iteOmega, *]) rfl ?_
 exact ⟨rfl,H1.out.ofB hB hl,Got.ofB HG1.out hB⟩
theorem wgreat_no (h:WSt w b A n c L k) (hx:pGreat L k=none) :
  Calls Tryz.prog 24 #[.pointer (some ⟨b,0,none⟩)] w fun e w'=>e=Fault 11∧Got b w w':=by
 have hL:=h.2.1
 have hkn:=h.2.2.1
 have hl:=h.lt
 unfold pGreat at hx
 have qa:=alloc_cells
 have qf:=alloc_frozens
 have hb0:Below w.heap.size w (w.alloc (.cells #[.int .u64 0,.int .u64 0] 66)):=(Below.refl _ _).alloc (Nat.le_refl _) _
 by_cases hk:k<n
 ·rw [if_pos (by omega)] at hx
  have HN:=Lib.hid (fun w' (h:WSt w' b A n c L k)=>wnext_ok (L.getD k ⟨#[]⟩) h hk rfl)
  obtain ⟨RV,e0,hv,hp⟩:=parse_any (L.getD k ⟨#[]⟩) (h.size hk)
  rw [hx] at hv
  obtain ⟨rfl,he0⟩:=hv
  have HP:=Lib.hid hp
  have HW:=Lib.hid h
  have HB:=Lib.hid (fun w'=>bad_ok 11 w')
  have hd:(e0 != 0)=true:=by simpa using he0
  clear h hx hL hp
  go_enter Tryz.func24,Tryz.ntmps24
  go_wp2_with fail
  refine (HN.out _ (HW.out.below hb0)).mono ?_
  rintro e w1 ⟨rfl,h1,hg1⟩
  have HG1:=Lib.hid (grown_trans (grown_below (row:=some b) hb0) hg1)
  clear hg1 h1 hb0
  go_wp2_with fail
  refine (HP.out _).mono ?_
  rintro e w2 ⟨rfl,hb2⟩
  have z2:=hb2.size
  have c2:=Below.cells hb2
  have f2:=Below.frozens hb2
  try simp only [World.size_alloc,World.size_setCell,World.size_drew] at z2 c2 f2
  go_wp2_with fail
  go_wp2_with fail
  refine (HB.out _).mono ?_
  rintro e w3 ⟨rfl,hb3⟩
  have hB:Below w1.heap.size w1 w3:=(hb2.alloc hb2.size _).trans (hb3.mono (by simp;omega))
  exact ⟨rfl,rfl,Got.of HG1.out hB⟩
 ·obtain rfl:k=n:=by omega
  have HN:=Lib.hid (wnext_no (h.below hb0))
  clear h hx hL
  go_enter Tryz.func24,Tryz.ntmps24
  go_wp2_with fail
  refine HN.out.mono ?_
  rintro e w1 ⟨rfl,hg1⟩
  exact ⟨rfl,rfl,grown_trans (grown_below hb0) hg1⟩
end Go.Proofs.YtnaebigoknfndaaGreatDoor

import Derived.Lib.Hide
import Derived.Test.YtnkeimpnnpndcaaW1
import Derived.Test.YtnkeimpnnpndcaaQT
namespace Go.Proofs.Ytnkeimpnnpndcaa
open Go.RowKit

set_option maxHeartbeats 400000 in
theorem wideGroup_walk (a b c : Int) (w : World) (ha : U128 a) (hb : U128 b) (hc : U128 c) :
    Calls Try.prog 3 #[.agg #[.int .u64 (hi a), .int .u64 (lo a)], .agg #[.int .u64 (hi b), .int .u64 (lo b)], .agg #[.int .u64 (hi c), .int .u64 (lo c)]] w fun e w' =>
      e = .returned (.bool true) ∧ Below w.heap.size w w' := by
  have k1 := Wd.mk ha
  have k2 := Wd.mk hb
  have k3 := Wd.mk hc
  have m1 := half_u128 ha
  have m2 := half_u128 hb
  have m3 := half_u128 hc
  have l1 := half_lt ha
  have l2 := half_lt hb
  have l3 := half_lt hc
  have ab : U128 (half a + half b) := by unfold U128 at *; omega
  have bc : U128 (half b + half c) := by unfold U128 at *; omega
  have abc : U128 (half a + half b + half c) := by unfold U128 at *; omega
  clear l1 l2 l3
  have qa := alloc_cells
  have qf := alloc_frozens
  go_enter Try.func3, Try.ntmps3
  go_wp2_with fail
  refine (add_ok 9223372036854775808 9223372036854775808 18446744073709551616 (Wd.lit (by unfold U64; omega)) (Wd.lit (by unfold U64; omega)) (by omega) (by unfold U128; omega) _).mono ?_
  rintro e w1 ⟨rfl, hb1⟩
  have z1 := hb1.size
  have c1 := Below.cells hb1
  have f1 := Below.frozens hb1
  simp only [World.size_alloc, World.size_setCell] at z1 c1 f1
  go_wp2_with fail
  refine wp_region_quiet_tail 6 (Ext _) (by kernel_rfl) (by kernel_rfl) (Ext.drawn _) ?_
  simp only [List.take_succ_cons, List.take_zero, List.drop_succ_cons, List.drop_zero]
  repeat (first | (refine BigFrame.wpQuiet_skip rfl ?_) | (refine BigFrame.wpQuiet_want rfl (fun K hK => ?_); apply Exists.intro; refine ⟨fun w2 h2 => ?_, ?_⟩; (next => (have g1 := Below.cells h2.below; have g2 := Below.frozens h2.below; simp only [World.size_alloc] at g1 g2; first | (go_simp; (go_at_call 19; refine h2.calls (half_any _ (by assumption) _))) | (simp [go_sem, ↓IntWalk.iteOmega, *]; done) | (simp [go_sem, ↓IntWalk.iteOmega, *]; rfl)))); (go_simp; refine hK _ ?_; clear hK K))
  refine wpQuiet_nil ?_
  intro w3 h3
  have hb3 := h3.below
  clear h3
  have z3 := hb3.size
  have c3 := Below.cells hb3
  have f3 := Below.frozens hb3
  simp only [World.size_alloc, World.size_setCell] at z3 c3 f3
  go_wp2_with fail
  refine (add_ok (half a) (half b) (half a + half b) (Wd.mk m1) (Wd.mk m2) rfl ab _).mono ?_
  rintro e w4 ⟨rfl, hb4⟩
  have z4 := hb4.size
  have c4 := Below.cells hb4
  have f4 := Below.frozens hb4
  simp only [World.size_alloc, World.size_setCell] at z4 c4 f4
  go_wp2_with fail
  refine (add_ok (half b) (half a) (half a + half b) (Wd.mk m2) (Wd.mk m1) (by omega) ab _).mono ?_
  rintro e w5 ⟨rfl, hb5⟩
  have z5 := hb5.size
  have c5 := Below.cells hb5
  have f5 := Below.frozens hb5
  simp only [World.size_alloc, World.size_setCell] at z5 c5 f5
  go_wp2_with fail
  refine (add_ok (half a + half b) (half c) (half a + half b + half c) (Wd.mk ab) (Wd.mk m3) rfl abc _).mono ?_
  rintro e w6 ⟨rfl, hb6⟩
  have z6 := hb6.size
  have c6 := Below.cells hb6
  have f6 := Below.frozens hb6
  simp only [World.size_alloc, World.size_setCell] at z6 c6 f6
  go_wp2_with fail
  refine (add_ok (half b) (half c) (half b + half c) (Wd.mk m2) (Wd.mk m3) rfl bc _).mono ?_
  rintro e w7 ⟨rfl, hb7⟩
  have z7 := hb7.size
  have c7 := Below.cells hb7
  have f7 := Below.frozens hb7
  simp only [World.size_alloc, World.size_setCell] at z7 c7 f7
  go_wp2_with fail
  refine (add_ok (half a) (half b + half c) (half a + half b + half c) (Wd.mk m1) (Wd.mk bc) (by omega) abc _).mono ?_
  rintro e w8 ⟨rfl, hb8⟩
  have z8 := hb8.size
  have c8 := Below.cells hb8
  have f8 := Below.frozens hb8
  simp only [World.size_alloc, World.size_setCell] at z8 c8 f8
  go_wp2_with fail
  refine (sub_ok (half a + half b) (half b) (half a) (Wd.mk ab) (Wd.mk m2) (by omega) m1 _).mono ?_
  rintro e w9 ⟨rfl, hb9⟩
  have z9 := hb9.size
  have c9 := Below.cells hb9
  have f9 := Below.frozens hb9
  simp only [World.size_alloc, World.size_setCell] at z9 c9 f9
  go_wp2_with fail
  refine (add_ok (half a) 0 (half a) (Wd.mk m1) Wd.zero (by omega) m1 _).mono ?_
  rintro e w10 ⟨rfl, hb10⟩
  have z10 := hb10.size
  have c10 := Below.cells hb10
  have f10 := Below.frozens hb10
  simp only [World.size_alloc, World.size_setCell] at z10 c10 f10
  go_wp2_with fail
  refine wp_loop_rounds 8 ?_
  iterate 8 (rw [rounds_succ]; go_wp2_with fail)
  go_ret
  exact ⟨rfl, (by repeat (first | (with_reducible exact Below.refl _ _) | ((with_reducible refine Below.alloc ?_ ?_ _); rotate_left; (next => ((try dsimp only); (try simp only [World.size_alloc, World.size_setCell, World.size_drew]); omega))) | ((with_reducible refine Below.setCell ?_ ?_ _); rotate_left; (next => ((try dsimp only); (try simp only [World.size_alloc, World.size_setCell, World.size_drew]); omega))) | (with_reducible refine Below.drew ?_) | ((with_reducible refine Below.trans ?_ (Below.mono hb10 ?_)); rotate_left; (next => ((try dsimp only); (try simp only [World.size_alloc, World.size_setCell, World.size_drew]); omega))) | ((with_reducible refine Below.trans ?_ (Below.mono hb9 ?_)); rotate_left; (next => ((try dsimp only); (try simp only [World.size_alloc, World.size_setCell, World.size_drew]); omega))) | ((with_reducible refine Below.trans ?_ (Below.mono hb8 ?_)); rotate_left; (next => ((try dsimp only); (try simp only [World.size_alloc, World.size_setCell, World.size_drew]); omega))) | ((with_reducible refine Below.trans ?_ (Below.mono hb7 ?_)); rotate_left; (next => ((try dsimp only); (try simp only [World.size_alloc, World.size_setCell, World.size_drew]); omega))) | ((with_reducible refine Below.trans ?_ (Below.mono hb6 ?_)); rotate_left; (next => ((try dsimp only); (try simp only [World.size_alloc, World.size_setCell, World.size_drew]); omega))) | ((with_reducible refine Below.trans ?_ (Below.mono hb5 ?_)); rotate_left; (next => ((try dsimp only); (try simp only [World.size_alloc, World.size_setCell, World.size_drew]); omega))) | ((with_reducible refine Below.trans ?_ (Below.mono hb4 ?_)); rotate_left; (next => ((try dsimp only); (try simp only [World.size_alloc, World.size_setCell, World.size_drew]); omega))) | ((with_reducible refine Below.trans ?_ (Below.mono hb3 ?_)); rotate_left; (next => ((try dsimp only); (try simp only [World.size_alloc, World.size_setCell, World.size_drew]); omega))) | ((with_reducible refine Below.trans ?_ (Below.mono hb1 ?_)); rotate_left; (next => ((try dsimp only); (try simp only [World.size_alloc, World.size_setCell, World.size_drew]); omega)))))⟩
end Go.Proofs.Ytnkeimpnnpndcaa

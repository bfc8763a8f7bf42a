import Derived.Test.YtbmnekehgjcfkaaRoot
import Derived.Test.YtbmnekehgjcfkaaW3
set_option linter.unusedSimpArgs false
set_option linter.unusedVariables false
namespace Go.Proofs.Ytbmnekehgjcfkaa
open Go.RowKit

set_option maxRecDepth 100000 in
set_option maxHeartbeats 8000000 in
theorem rootParts_walk (a b : Int) (w : World) (ha : (Lit.int .u64 a).wf = true) (hb : (Lit.int .u64 b).wf = true) :
    Calls Try.prog 17 #[.int .u64 a, .int .u64 b] w fun e w' =>
      e = .returned (.bool true) ∧ Below w.heap.size w w' := by
  have ua := u64_wf ha
  have ub := u64_wf hb
  obtain ⟨x, hx⟩ := isRoot_ex a ua.1
  obtain ⟨y, hy⟩ := isRoot_ex b ub.1
  have uab := u64_mul_nonneg ua ub
  obtain ⟨p, hp⟩ := isRoot_ex (a * b) uab.1
  have us : U128 (a + b) := by unfold U64 U128 at *; omega
  obtain ⟨z, hz⟩ := isRoot_ex (a + b) us.1
  have uf : U128 (a * 4) := by unfold U64 U128 at *; omega
  obtain ⟨f, hf⟩ := isRoot_ex (a * 4) uf.1
  obtain ⟨x0, x1, x2⟩ := hx
  obtain ⟨y0, y1, y2⟩ := hy
  obtain ⟨p0, p1, p2⟩ := hp
  obtain ⟨z0, z1, z2⟩ := hz
  obtain ⟨f0, f1, f2⟩ := hf
  have xb : x < 4294967296 := sq_lt_of (by omega) (by unfold U64 at ua; omega)
  have yb : y < 4294967296 := sq_lt_of (by omega) (by unfold U64 at ub; omega)
  have xy := mul_bd (a := x) (b := y) (A := 4294967295) (B := 4294967295) (by omega) (by omega)
  have c1 : x * y ≤ p := by
    have e1 : x * y * (x * y) = x * x * (y * y) := by grind
    have e2 : x * x * (y * y) ≤ a * b := Int.mul_le_mul x1 y1 (Int.mul_nonneg y0 y0) ua.1
    have : x * y < p + 1 := sq_lt_of (by omega) (by omega)
    omega
  have c2 : z ≤ x + y + 1 := by
    have e1 : (x + y + 2) * (x + y + 2) = (x + 1) * (x + 1) + (y + 1) * (y + 1) + 2 * ((x + 1) * (y + 1)) := by grind
    have e2 : 0 ≤ (x + 1) * (y + 1) := Int.mul_nonneg (by omega) (by omega)
    have : z < x + y + 2 := sq_lt_of (by omega) (by omega)
    omega
  have c3 : x ≤ z := by have : x < z + 1 := sq_lt_of (by omega) (by have := ub.1; omega); omega
  have c4 : y ≤ z := by have : y < z + 1 := sq_lt_of (by omega) (by have := ua.1; omega); omega
  have c5 : f = 2 * x ∨ f = 2 * x + 1 := by
    have e1 : (2 * x) * (2 * x) = x * x * 4 := by grind
    have e2 : (2 * x + 2) * (2 * x + 2) = (x + 1) * (x + 1) * 4 := by grind
    have : f < 2 * x + 2 := sq_lt_of (by omega) (by omega)
    have : 2 * x < f + 1 := sq_lt_of (by omega) (by omega)
    omega
  have N6 := Lib.hid (fun w => num_any 6 w (by omega) (by omega))
  have N24 := Lib.hid (fun w => num_any 24 w (by omega) (by omega))
  have R6 := Lib.hid (fun w => root_ok 6 2 (Wd.lit (by unfold U64; omega)) (by unfold IsRoot; omega) w)
  have R24 := Lib.hid (fun w => root_ok 24 4 (Wd.lit (by unfold U64; omega)) (by unfold IsRoot; omega) w)
  have RA := Lib.hid (fun w => root_ok a x (Wd.lit ua) ⟨x0, x1, x2⟩ w)
  have RB := Lib.hid (fun w => root_ok b y (Wd.lit ub) ⟨y0, y1, y2⟩ w)
  have MAB := Lib.hid (fun w => mul_any a b (a * b) w ua ub rfl)
  have RP := Lib.hid (fun w => root_ok (a * b) p (Wd.mk uab) ⟨p0, p1, p2⟩ w)
  have AD := Lib.hid (fun w => add_ok a b (a + b) (Wd.lit ua) (Wd.lit ub) rfl us w)
  have RZ := Lib.hid (fun w => root_ok (a + b) z (Wd.mk us) ⟨z0, z1, z2⟩ w)
  have M4 := Lib.hid (fun w => mul_any a 4 (a * 4) w ua (by unfold U64; omega) rfl)
  have RF := Lib.hid (fun w => root_ok (a * 4) f (Wd.mk uf) ⟨f0, f1, f2⟩ w)
  have zb : z ≤ 8589934592 := by omega
  have fb : f ≤ 8589934592 := by omega
  obtain ⟨m, hm, hmz⟩ : ∃ m, max x y = m ∧ m ≤ z := ⟨_, rfl, by omega⟩
  have d1 : decide (x * y ≤ p) = true := by simpa using c1
  have d2 : decide (z ≤ x + y + 1) = true := by simpa using c2
  have d3 : decide (m ≤ z) = true := by simpa using hmz
  have qa := alloc_cells
  have qf := alloc_frozens
  clear x1 x2 y1 y2 p1 p2 z1 z2 f1 f2 uab us uf ua ub ha hb
  rcases c5 with rfl | rfl
  all_goals
    go_enter Try.func17, Try.ntmps17
    go_wp2_with fail
    refine (N6.out _).mono ?_
    rintro e w1 ⟨rfl, hb1⟩
    have z1 := hb1.size
    have c1 := Below.cells hb1
    have f1 := Below.frozens hb1
    try simp only [World.size_alloc, World.size_setCell, World.size_drew] at z1 c1 f1
    go_wp2_with fail
    refine (R6.out _).mono ?_
    rintro e w2 ⟨rfl, hb2⟩
    have z2 := hb2.size
    have c2 := Below.cells hb2
    have f2 := Below.frozens hb2
    try simp only [World.size_alloc, World.size_setCell, World.size_drew] at z2 c2 f2
    go_wp2_with fail
    refine (N24.out _).mono ?_
    rintro e w3 ⟨rfl, hb3⟩
    have z3 := hb3.size
    have c3 := Below.cells hb3
    have f3 := Below.frozens hb3
    try simp only [World.size_alloc, World.size_setCell, World.size_drew] at z3 c3 f3
    go_wp2_with fail
    refine (R24.out _).mono ?_
    rintro e w4 ⟨rfl, hb4⟩
    have z4 := hb4.size
    have c4 := Below.cells hb4
    have f4 := Below.frozens hb4
    try simp only [World.size_alloc, World.size_setCell, World.size_drew] at z4 c4 f4
    go_wp2_with fail
    refine (RA.out _).mono ?_
    rintro e w5 ⟨rfl, hb5⟩
    have z5 := hb5.size
    have c5 := Below.cells hb5
    have f5 := Below.frozens hb5
    try simp only [World.size_alloc, World.size_setCell, World.size_drew] at z5 c5 f5
    go_wp2_with fail
    refine (RB.out _).mono ?_
    rintro e w6 ⟨rfl, hb6⟩
    have z6 := hb6.size
    have c6 := Below.cells hb6
    have f6 := Below.frozens hb6
    try simp only [World.size_alloc, World.size_setCell, World.size_drew] at z6 c6 f6
    go_wp2_with fail
    refine (MAB.out _).mono ?_
    rintro e w7 ⟨rfl, hb7⟩
    have z7 := hb7.size
    have c7 := Below.cells hb7
    have f7 := Below.frozens hb7
    try simp only [World.size_alloc, World.size_setCell, World.size_drew] at z7 c7 f7
    go_wp2_with fail
    refine (RP.out _).mono ?_
    rintro e w8 ⟨rfl, hb8⟩
    have z8 := hb8.size
    have c8 := Below.cells hb8
    have f8 := Below.frozens hb8
    try simp only [World.size_alloc, World.size_setCell, World.size_drew] at z8 c8 f8
    go_wp2_with fail
    refine (AD.out _).mono ?_
    rintro e w9 ⟨rfl, hb9⟩
    have z9 := hb9.size
    have c9 := Below.cells hb9
    have f9 := Below.frozens hb9
    try simp only [World.size_alloc, World.size_setCell, World.size_drew] at z9 c9 f9
    go_wp2_with fail
    refine (RZ.out _).mono ?_
    rintro e w10 ⟨rfl, hb10⟩
    have z10 := hb10.size
    have c10 := Below.cells hb10
    have f10 := Below.frozens hb10
    try simp only [World.size_alloc, World.size_setCell, World.size_drew] at z10 c10 f10
    go_wp2_with fail
    refine (M4.out _).mono ?_
    rintro e w11 ⟨rfl, hb11⟩
    have z11 := hb11.size
    have c11 := Below.cells hb11
    have f11 := Below.frozens hb11
    try simp only [World.size_alloc, World.size_setCell, World.size_drew] at z11 c11 f11
    go_wp2_with fail
    refine (RF.out _).mono ?_
    rintro e w12 ⟨rfl, hb12⟩
    have z12 := hb12.size
    have c12 := Below.cells hb12
    have f12 := Below.frozens hb12
    try simp only [World.size_alloc, World.size_setCell, World.size_drew] at z12 c12 f12
    go_wp2_with fail
    go_ret
    exact ⟨rfl, (by repeat (first | (with_reducible exact Below.refl _ _) | ((with_reducible refine Below.alloc ?_ ?_ _); rotate_left; (next => ((try dsimp only); (try simp only [World.size_alloc, World.size_setCell, World.size_drew]); omega))) | ((with_reducible refine Below.setCell ?_ ?_ _); rotate_left; (next => ((try dsimp only); (try simp only [World.size_alloc, World.size_setCell, World.size_drew]); omega))) | (with_reducible refine Below.drew ?_) | ((with_reducible refine Below.trans ?_ (Below.mono hb12 ?_)); rotate_left; (next => ((try dsimp only); (try simp only [World.size_alloc, World.size_setCell, World.size_drew]); omega))) | ((with_reducible refine Below.trans ?_ (Below.mono hb11 ?_)); rotate_left; (next => ((try dsimp only); (try simp only [World.size_alloc, World.size_setCell, World.size_drew]); omega))) | ((with_reducible refine Below.trans ?_ (Below.mono hb10 ?_)); rotate_left; (next => ((try dsimp only); (try simp only [World.size_alloc, World.size_setCell, World.size_drew]); omega))) | ((with_reducible refine Below.trans ?_ (Below.mono hb9 ?_)); rotate_left; (next => ((try dsimp only); (try simp only [World.size_alloc, World.size_setCell, World.size_drew]); omega))) | ((with_reducible refine Below.trans ?_ (Below.mono hb8 ?_)); rotate_left; (next => ((try dsimp only); (try simp only [World.size_alloc, World.size_setCell, World.size_drew]); omega))) | ((with_reducible refine Below.trans ?_ (Below.mono hb7 ?_)); rotate_left; (next => ((try dsimp only); (try simp only [World.size_alloc, World.size_setCell, World.size_drew]); omega))) | ((with_reducible refine Below.trans ?_ (Below.mono hb6 ?_)); rotate_left; (next => ((try dsimp only); (try simp only [World.size_alloc, World.size_setCell, World.size_drew]); omega))) | ((with_reducible refine Below.trans ?_ (Below.mono hb5 ?_)); rotate_left; (next => ((try dsimp only); (try simp only [World.size_alloc, World.size_setCell, World.size_drew]); omega))) | ((with_reducible refine Below.trans ?_ (Below.mono hb4 ?_)); rotate_left; (next => ((try dsimp only); (try simp only [World.size_alloc, World.size_setCell, World.size_drew]); omega))) | ((with_reducible refine Below.trans ?_ (Below.mono hb3 ?_)); rotate_left; (next => ((try dsimp only); (try simp only [World.size_alloc, World.size_setCell, World.size_drew]); omega))) | ((with_reducible refine Below.trans ?_ (Below.mono hb2 ?_)); rotate_left; (next => ((try dsimp only); (try simp only [World.size_alloc, World.size_setCell, World.size_drew]); omega))) | ((with_reducible refine Below.trans ?_ (Below.mono hb1 ?_)); rotate_left; (next => ((try dsimp only); (try simp only [World.size_alloc, World.size_setCell, World.size_drew]); omega)))))⟩
end Go.Proofs.Ytbmnekehgjcfkaa

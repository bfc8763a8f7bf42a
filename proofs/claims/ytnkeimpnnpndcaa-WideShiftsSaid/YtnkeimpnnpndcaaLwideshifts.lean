import Derived.Test.YtnkeimpnnpndcaaW4
import Derived.Test.YtnkeimpnnpndcaaW3
set_option linter.unusedSimpArgs false
set_option linter.unusedVariables false
namespace Go.Proofs.Ytnkeimpnnpndcaa
open Go.RowKit

set_option maxRecDepth 100000 in
set_option maxHeartbeats 32000000 in
theorem wideShifts_walk (a n m : Int) (w : World) (ha : U128 a) (wn : (Lit.int .i64 n).wf = true) (wm : (Lit.int .i64 m).wf = true) :
    Calls Try.prog 9 #[.agg #[.int .u64 (hi a), .int .u64 (lo a)], .int .i64 n, .int .i64 m] w fun e w' =>
      e = .returned (.bool true) ∧ Below w.heap.size w w' := by
  have ka := Wd.mk ha
  have qa := alloc_cells
  have qf := alloc_frozens
  have b1 := within_bd n (n := 64) (by omega)
  have b2 := within_bd m (n := 64) (by omega)
  clear wn wm
  obtain ⟨N, hN⟩ : ∃ x, within n 64 = x := ⟨_, rfl⟩
  rw [hN] at b1
  have HN := Lib.hid hN
  clear hN
  obtain ⟨M, hM⟩ : ∃ x, within m 64 = x := ⟨_, rfl⟩
  rw [hM] at b2
  have HM := Lib.hid hM
  clear hM
  have p1 := p2 N.toNat
  have p64 : (2 : Int) ^ N.toNat < 18446744073709551616 := by
    have h := pow_lt_pow (show N.toNat < 64 by omega)
    have e : (2 : Int) ^ 64 = 18446744073709551616 := rfl
    omega
  obtain ⟨p, hp⟩ : ∃ p, (2 : Int) ^ N.toNat = p := ⟨_, rfl⟩
  have up : U128 p := by unfold U128; omega
  obtain ⟨x, hx⟩ : ∃ x, a * p = x := ⟨_, rfl⟩
  obtain ⟨y, hy⟩ : ∃ y, a / 2 ^ N.toNat = y := ⟨_, rfl⟩
  obtain ⟨z, hz⟩ : ∃ z, y / 2 ^ M.toNat = z := ⟨_, rfl⟩
  have uy : U128 y := by
    have h1 := Int.ediv_nonneg ha.1 (show (0 : Int) ≤ 2 ^ N.toNat by omega)
    have h2 := Int.ediv_le_self (2 ^ N.toNat) ha.1
    unfold U128 at *; omega
  have hz' : a / 2 ^ (N + M).toNat = z := by
    rw [show (N + M).toNat = N.toNat + M.toNat from by omega, Int.pow_add, ← Int.ediv_ediv_of_nonneg (by omega), hy, hz]
  have r1 : ∀ w', _ := fun w' => shr_any 55340232221128654848 65 (Wd.lits (h := 3) (l := 0) (by unfold U64; omega) (by unfold U64; omega)) w' (by omega) (by omega)
  rw [show (55340232221128654848 : Int) / 2 ^ (65 : Int).toNat = 1 from by decide] at r1
  have r2 : ∀ w', _ := fun w' => shr_any a N ka w' (by omega) (by omega)
  rw [hy] at r2
  have r3 : ∀ w', _ := fun w' => shr_any y M (Wd.mk uy) w' (by omega) (by omega)
  rw [hz] at r3
  have r4 : ∀ w', _ := fun w' => shr_any a (N + M) ka w' (by omega) (by omega)
  rw [hz'] at r4
  have s1 : ∀ w', _ := fun w' => shl_ok 1 N p (Wd.lit (by unfold U64; omega)) w' (by omega) (by omega) (by rw [hp]; omega) up
  have ln : ∀ w', _ := fun w' => len_any a ka w'
  have lb := blen_bd ha
  have fits : 0 < a → (U128 x ↔ blen a + N ≤ 128) := fun h => by rw [← hx, ← hp]; exact shift_fits ha h (by omega)
  obtain ⟨L, hL⟩ : ∃ v, blen a = v := ⟨_, rfl⟩
  rw [hL] at ln lb fits
  have nz : 0 < a → ¬ hi a = 0 ∨ hi a = 0 ∧ ¬ lo a = 0 := fun h => nz_of ka h
  have eNM : IntKind.i64.wrap (N + M) = N + M := IntWalk.i64_in _ (by omega)
  have eLN : IntKind.i64.wrap (L + N) = L + N := IntWalk.i64_in _ (by omega)
  have h1 : hi 1 = 0 := by decide
  have l1 : lo 1 = 1 := by decide
  by_cases ux : U128 x
  · have t1 : ∀ w', _ := fun w' => times_ok a p x ka (Wd.mk up) hx ux w'
    have s2 : ∀ w', _ := fun w' => shl_ok a N x ka w' (by omega) (by omega) (by rw [hp]; exact hx) ux
    have r5 : ∀ w', _ := fun w' => shr_any x N (Wd.mk ux) w' (by omega) (by omega)
    rw [show x / 2 ^ N.toNat = a from by rw [← hx, hp]; exact Int.mul_ediv_cancel _ (by omega)] at r5
    have R1 := Lib.hid r1
    have S1 := Lib.hid s1
    have R3 := Lib.hid r3
    clear r1 s1 r3 hy hz hz' hp hx hL p1 p64 up uy
    by_cases pos : 0 < a
    · have nz := nz pos
      have fit := (fits pos).1 ux
      clear fits ka
      generalize hi a = ah at r2 r4 ln t1 s2 r5 nz ⊢
      generalize lo a = al at r2 r4 ln t1 s2 r5 nz ⊢
      rcases nz with nz | ⟨rfl, nz⟩
      all_goals
        have R2 := Lib.hid r2
        have R4 := Lib.hid r4
        have Ln := Lib.hid ln
        have T1 := Lib.hid t1
        have S2 := Lib.hid s2
        have R5 := Lib.hid r5
        clear r2 r4 ln t1 s2 r5
        go_enter Try.func9, Try.ntmps9
        go_wp2_with fail
        refine (R1.out _).mono ?_
        rintro e w1 ⟨rfl, hb1⟩
        have z1 := hb1.size
        have c1 := Below.cells hb1
        have f1 := Below.frozens hb1
        try simp only [World.size_alloc, World.size_setCell, World.size_drew] at z1 c1 f1
        go_wp2_with fail
        refine (within_any n 64 N _ (by omega) (by omega) HN.out).mono ?_
        rintro e w' ⟨rfl, rfl⟩
        go_wp2_with fail
        refine (within_any m 64 M _ (by omega) (by omega) HM.out).mono ?_
        rintro e w' ⟨rfl, rfl⟩
        go_wp2_with fail
        refine (S2.out _).mono ?_
        rintro e w2 ⟨rfl, hb2⟩
        have z2 := hb2.size
        have c2 := Below.cells hb2
        have f2 := Below.frozens hb2
        try simp only [World.size_alloc, World.size_setCell, World.size_drew] at z2 c2 f2
        go_wp2_with fail
        refine (num_any 1 _ (by omega) (by omega)).mono ?_
        rintro e w3 ⟨rfl, hb3⟩
        have z3 := hb3.size
        have c3 := Below.cells hb3
        have f3 := Below.frozens hb3
        try simp only [World.size_alloc, World.size_setCell, World.size_drew] at z3 c3 f3
        go_wp2_with fail
        refine (S1.out _).mono ?_
        rintro e w4 ⟨rfl, hb4⟩
        have z4 := hb4.size
        have c4 := Below.cells hb4
        have f4 := Below.frozens hb4
        try simp only [World.size_alloc, World.size_setCell, World.size_drew] at z4 c4 f4
        go_wp2_with fail
        refine (T1.out _).mono ?_
        rintro e w5 ⟨rfl, hb5⟩
        have z5 := hb5.size
        have c5 := Below.cells hb5
        have f5 := Below.frozens hb5
        try simp only [World.size_alloc, World.size_setCell, World.size_drew] at z5 c5 f5
        go_wp2_with fail
        refine (Ln.out _).mono ?_
        rintro e w6 ⟨rfl, hb6⟩
        have z6 := hb6.size
        have c6 := Below.cells hb6
        have f6 := Below.frozens hb6
        try simp only [World.size_alloc, World.size_setCell, World.size_drew] at z6 c6 f6
        go_wp2_with fail
        refine (R5.out _).mono ?_
        rintro e w7 ⟨rfl, hb7⟩
        have z7 := hb7.size
        have c7 := Below.cells hb7
        have f7 := Below.frozens hb7
        try simp only [World.size_alloc, World.size_setCell, World.size_drew] at z7 c7 f7
        go_wp2_with fail
        refine (R2.out _).mono ?_
        rintro e w8 ⟨rfl, hb8⟩
        have z8 := hb8.size
        have c8 := Below.cells hb8
        have f8 := Below.frozens hb8
        try simp only [World.size_alloc, World.size_setCell, World.size_drew] at z8 c8 f8
        go_wp2_with fail
        refine (R3.out _).mono ?_
        rintro e w9 ⟨rfl, hb9⟩
        have z9 := hb9.size
        have c9 := Below.cells hb9
        have f9 := Below.frozens hb9
        try simp only [World.size_alloc, World.size_setCell, World.size_drew] at z9 c9 f9
        go_wp2_with fail
        refine (R4.out _).mono ?_
        rintro e w10 ⟨rfl, hb10⟩
        have z10 := hb10.size
        have c10 := Below.cells hb10
        have f10 := Below.frozens hb10
        try simp only [World.size_alloc, World.size_setCell, World.size_drew] at z10 c10 f10
        go_wp2_with fail
        go_ret
        exact ⟨rfl, (by repeat (first | (with_reducible exact Below.refl _ _) | ((with_reducible refine Below.alloc ?_ ?_ _); rotate_left; (next => ((try dsimp only); (try simp only [World.size_alloc, World.size_setCell, World.size_drew]); omega))) | ((with_reducible refine Below.setCell ?_ ?_ _); rotate_left; (next => ((try dsimp only); (try simp only [World.size_alloc, World.size_setCell, World.size_drew]); omega))) | (with_reducible refine Below.drew ?_) | ((with_reducible refine Below.trans ?_ (Below.mono hb10 ?_)); rotate_left; (next => ((try dsimp only); (try simp only [World.size_alloc, World.size_setCell, World.size_drew]); omega))) | ((with_reducible refine Below.trans ?_ (Below.mono hb9 ?_)); rotate_left; (next => ((try dsimp only); (try simp only [World.size_alloc, World.size_setCell, World.size_drew]); omega))) | ((with_reducible refine Below.trans ?_ (Below.mono hb8 ?_)); rotate_left; (next => ((try dsimp only); (try simp only [World.size_alloc, World.size_setCell, World.size_drew]); omega))) | ((with_reducible refine Below.trans ?_ (Below.mono hb7 ?_)); rotate_left; (next => ((try dsimp only); (try simp only [World.size_alloc, World.size_setCell, World.size_drew]); omega))) | ((with_reducible refine Below.trans ?_ (Below.mono hb6 ?_)); rotate_left; (next => ((try dsimp only); (try simp only [World.size_alloc, World.size_setCell, World.size_drew]); omega))) | ((with_reducible refine Below.trans ?_ (Below.mono hb5 ?_)); rotate_left; (next => ((try dsimp only); (try simp only [World.size_alloc, World.size_setCell, World.size_drew]); omega))) | ((with_reducible refine Below.trans ?_ (Below.mono hb4 ?_)); rotate_left; (next => ((try dsimp only); (try simp only [World.size_alloc, World.size_setCell, World.size_drew]); omega))) | ((with_reducible refine Below.trans ?_ (Below.mono hb3 ?_)); rotate_left; (next => ((try dsimp only); (try simp only [World.size_alloc, World.size_setCell, World.size_drew]); omega))) | ((with_reducible refine Below.trans ?_ (Below.mono hb2 ?_)); rotate_left; (next => ((try dsimp only); (try simp only [World.size_alloc, World.size_setCell, World.size_drew]); omega))) | ((with_reducible refine Below.trans ?_ (Below.mono hb1 ?_)); rotate_left; (next => ((try dsimp only); (try simp only [World.size_alloc, World.size_setCell, World.size_drew]); omega)))))⟩
    · have e0 : hi a = 0 := by unfold hi; have := ha.1; omega
      have e1 : lo a = 0 := by unfold lo; have := ha.1; omega
      clear fits ka nz
      rw [e0, e1] at r2 r4 t1 s2 r5 ⊢
      have R2 := Lib.hid r2
      have R4 := Lib.hid r4
      have T1 := Lib.hid t1
      have S2 := Lib.hid s2
      have R5 := Lib.hid r5
      clear r2 r4 ln t1 s2 r5 e0 e1
      go_enter Try.func9, Try.ntmps9
      go_wp2_with fail
      refine (R1.out _).mono ?_
      rintro e w1 ⟨rfl, hb1⟩
      have z1 := hb1.size
      have c1 := Below.cells hb1
      have f1 := Below.frozens hb1
      try simp only [World.size_alloc, World.size_setCell, World.size_drew] at z1 c1 f1
      go_wp2_with fail
      refine (within_any n 64 N _ (by omega) (by omega) HN.out).mono ?_
      rintro e w' ⟨rfl, rfl⟩
      go_wp2_with fail
      refine (within_any m 64 M _ (by omega) (by omega) HM.out).mono ?_
      rintro e w' ⟨rfl, rfl⟩
      go_wp2_with fail
      refine (S2.out _).mono ?_
      rintro e w2 ⟨rfl, hb2⟩
      have z2 := hb2.size
      have c2 := Below.cells hb2
      have f2 := Below.frozens hb2
      try simp only [World.size_alloc, World.size_setCell, World.size_drew] at z2 c2 f2
      go_wp2_with fail
      refine (num_any 1 _ (by omega) (by omega)).mono ?_
      rintro e w3 ⟨rfl, hb3⟩
      have z3 := hb3.size
      have c3 := Below.cells hb3
      have f3 := Below.frozens hb3
      try simp only [World.size_alloc, World.size_setCell, World.size_drew] at z3 c3 f3
      go_wp2_with fail
      refine (S1.out _).mono ?_
      rintro e w4 ⟨rfl, hb4⟩
      have z4 := hb4.size
      have c4 := Below.cells hb4
      have f4 := Below.frozens hb4
      try simp only [World.size_alloc, World.size_setCell, World.size_drew] at z4 c4 f4
      go_wp2_with fail
      refine (T1.out _).mono ?_
      rintro e w5 ⟨rfl, hb5⟩
      have z5 := hb5.size
      have c5 := Below.cells hb5
      have f5 := Below.frozens hb5
      try simp only [World.size_alloc, World.size_setCell, World.size_drew] at z5 c5 f5
      go_wp2_with fail
      refine (R5.out _).mono ?_
      rintro e w7 ⟨rfl, hb7⟩
      have z7 := hb7.size
      have c7 := Below.cells hb7
      have f7 := Below.frozens hb7
      try simp only [World.size_alloc, World.size_setCell, World.size_drew] at z7 c7 f7
      go_wp2_with fail
      refine (R2.out _).mono ?_
      rintro e w8 ⟨rfl, hb8⟩
      have z8 := hb8.size
      have c8 := Below.cells hb8
      have f8 := Below.frozens hb8
      try simp only [World.size_alloc, World.size_setCell, World.size_drew] at z8 c8 f8
      go_wp2_with fail
      refine (R3.out _).mono ?_
      rintro e w9 ⟨rfl, hb9⟩
      have z9 := hb9.size
      have c9 := Below.cells hb9
      have f9 := Below.frozens hb9
      try simp only [World.size_alloc, World.size_setCell, World.size_drew] at z9 c9 f9
      go_wp2_with fail
      refine (R4.out _).mono ?_
      rintro e w10 ⟨rfl, hb10⟩
      have z10 := hb10.size
      have c10 := Below.cells hb10
      have f10 := Below.frozens hb10
      try simp only [World.size_alloc, World.size_setCell, World.size_drew] at z10 c10 f10
      go_wp2_with fail
      go_ret
      exact ⟨rfl, (by repeat (first | (with_reducible exact Below.refl _ _) | ((with_reducible refine Below.alloc ?_ ?_ _); rotate_left; (next => ((try dsimp only); (try simp only [World.size_alloc, World.size_setCell, World.size_drew]); omega))) | ((with_reducible refine Below.setCell ?_ ?_ _); rotate_left; (next => ((try dsimp only); (try simp only [World.size_alloc, World.size_setCell, World.size_drew]); omega))) | (with_reducible refine Below.drew ?_) | ((with_reducible refine Below.trans ?_ (Below.mono hb10 ?_)); rotate_left; (next => ((try dsimp only); (try simp only [World.size_alloc, World.size_setCell, World.size_drew]); omega))) | ((with_reducible refine Below.trans ?_ (Below.mono hb9 ?_)); rotate_left; (next => ((try dsimp only); (try simp only [World.size_alloc, World.size_setCell, World.size_drew]); omega))) | ((with_reducible refine Below.trans ?_ (Below.mono hb8 ?_)); rotate_left; (next => ((try dsimp only); (try simp only [World.size_alloc, World.size_setCell, World.size_drew]); omega))) | ((with_reducible refine Below.trans ?_ (Below.mono hb7 ?_)); rotate_left; (next => ((try dsimp only); (try simp only [World.size_alloc, World.size_setCell, World.size_drew]); omega))) | ((with_reducible refine Below.trans ?_ (Below.mono hb5 ?_)); rotate_left; (next => ((try dsimp only); (try simp only [World.size_alloc, World.size_setCell, World.size_drew]); omega))) | ((with_reducible refine Below.trans ?_ (Below.mono hb4 ?_)); rotate_left; (next => ((try dsimp only); (try simp only [World.size_alloc, World.size_setCell, World.size_drew]); omega))) | ((with_reducible refine Below.trans ?_ (Below.mono hb3 ?_)); rotate_left; (next => ((try dsimp only); (try simp only [World.size_alloc, World.size_setCell, World.size_drew]); omega))) | ((with_reducible refine Below.trans ?_ (Below.mono hb2 ?_)); rotate_left; (next => ((try dsimp only); (try simp only [World.size_alloc, World.size_setCell, World.size_drew]); omega))) | ((with_reducible refine Below.trans ?_ (Below.mono hb1 ?_)); rotate_left; (next => ((try dsimp only); (try simp only [World.size_alloc, World.size_setCell, World.size_drew]); omega)))))⟩
  · have pos : 0 < a := by
      by_cases c : 0 < a
      · exact c
      · exact absurd (by rw [← hx, show a = 0 from by have := ha.1; omega, Int.zero_mul]; exact U128.zero) ux
    have t1 : ∀ w', _ := fun w' => times_large a p ka (Wd.mk up) (by rw [hx]; exact ux) w'
    have s2 : ∀ w', _ := fun w' => shl_large a N ka w' (by omega) (by omega) (by rw [hp, hx]; exact ux)
    have fit : ¬ L + N ≤ 128 := fun c => ux ((fits pos).2 c)
    have nz := nz pos
    have R1 := Lib.hid r1
    have S1 := Lib.hid s1
    have R3 := Lib.hid r3
    clear r1 s1 r3 hy hz hz' hp hx hL p1 p64 up uy fits ka
    generalize hi a = ah at r2 r4 ln t1 s2 nz ⊢
    generalize lo a = al at r2 r4 ln t1 s2 nz ⊢
    rcases nz with nz | ⟨rfl, nz⟩
    all_goals
      have R2 := Lib.hid r2
      have R4 := Lib.hid r4
      have Ln := Lib.hid ln
      have T1 := Lib.hid t1
      have S2 := Lib.hid s2
      clear r2 r4 ln t1 s2
      go_enter Try.func9, Try.ntmps9
      go_wp2_with fail
      refine (R1.out _).mono ?_
      rintro e w1 ⟨rfl, hb1⟩
      have z1 := hb1.size
      have c1 := Below.cells hb1
      have f1 := Below.frozens hb1
      try simp only [World.size_alloc, World.size_setCell, World.size_drew] at z1 c1 f1
      go_wp2_with fail
      refine (within_any n 64 N _ (by omega) (by omega) HN.out).mono ?_
      rintro e w' ⟨rfl, rfl⟩
      go_wp2_with fail
      refine (within_any m 64 M _ (by omega) (by omega) HM.out).mono ?_
      rintro e w' ⟨rfl, rfl⟩
      go_wp2_with fail
      refine (S2.out _).mono ?_
      rintro e w2 ⟨rfl, hb2⟩
      have z2 := hb2.size
      have c2 := Below.cells hb2
      have f2 := Below.frozens hb2
      try simp only [World.size_alloc, World.size_setCell, World.size_drew] at z2 c2 f2
      go_wp2_with fail
      refine (num_any 1 _ (by omega) (by omega)).mono ?_
      rintro e w3 ⟨rfl, hb3⟩
      have z3 := hb3.size
      have c3 := Below.cells hb3
      have f3 := Below.frozens hb3
      try simp only [World.size_alloc, World.size_setCell, World.size_drew] at z3 c3 f3
      go_wp2_with fail
      refine (S1.out _).mono ?_
      rintro e w4 ⟨rfl, hb4⟩
      have z4 := hb4.size
      have c4 := Below.cells hb4
      have f4 := Below.frozens hb4
      try simp only [World.size_alloc, World.size_setCell, World.size_drew] at z4 c4 f4
      go_wp2_with fail
      refine (T1.out _).mono ?_
      rintro e w5 ⟨rfl, hb5⟩
      have z5 := hb5.size
      have c5 := Below.cells hb5
      have f5 := Below.frozens hb5
      try simp only [World.size_alloc, World.size_setCell, World.size_drew] at z5 c5 f5
      go_wp2_with fail
      refine (Ln.out _).mono ?_
      rintro e w6 ⟨rfl, hb6⟩
      have z6 := hb6.size
      have c6 := Below.cells hb6
      have f6 := Below.frozens hb6
      try simp only [World.size_alloc, World.size_setCell, World.size_drew] at z6 c6 f6
      go_wp2_with fail
      refine (R2.out _).mono ?_
      rintro e w8 ⟨rfl, hb8⟩
      have z8 := hb8.size
      have c8 := Below.cells hb8
      have f8 := Below.frozens hb8
      try simp only [World.size_alloc, World.size_setCell, World.size_drew] at z8 c8 f8
      go_wp2_with fail
      refine (R3.out _).mono ?_
      rintro e w9 ⟨rfl, hb9⟩
      have z9 := hb9.size
      have c9 := Below.cells hb9
      have f9 := Below.frozens hb9
      try simp only [World.size_alloc, World.size_setCell, World.size_drew] at z9 c9 f9
      go_wp2_with fail
      refine (R4.out _).mono ?_
      rintro e w10 ⟨rfl, hb10⟩
      have z10 := hb10.size
      have c10 := Below.cells hb10
      have f10 := Below.frozens hb10
      try simp only [World.size_alloc, World.size_setCell, World.size_drew] at z10 c10 f10
      go_wp2_with fail
      go_ret
      exact ⟨rfl, (by repeat (first | (with_reducible exact Below.refl _ _) | ((with_reducible refine Below.alloc ?_ ?_ _); rotate_left; (next => ((try dsimp only); (try simp only [World.size_alloc, World.size_setCell, World.size_drew]); omega))) | ((with_reducible refine Below.setCell ?_ ?_ _); rotate_left; (next => ((try dsimp only); (try simp only [World.size_alloc, World.size_setCell, World.size_drew]); omega))) | (with_reducible refine Below.drew ?_) | ((with_reducible refine Below.trans ?_ (Below.mono hb10 ?_)); rotate_left; (next => ((try dsimp only); (try simp only [World.size_alloc, World.size_setCell, World.size_drew]); omega))) | ((with_reducible refine Below.trans ?_ (Below.mono hb9 ?_)); rotate_left; (next => ((try dsimp only); (try simp only [World.size_alloc, World.size_setCell, World.size_drew]); omega))) | ((with_reducible refine Below.trans ?_ (Below.mono hb8 ?_)); rotate_left; (next => ((try dsimp only); (try simp only [World.size_alloc, World.size_setCell, World.size_drew]); omega))) | ((with_reducible refine Below.trans ?_ (Below.mono hb6 ?_)); rotate_left; (next => ((try dsimp only); (try simp only [World.size_alloc, World.size_setCell, World.size_drew]); omega))) | ((with_reducible refine Below.trans ?_ (Below.mono hb5 ?_)); rotate_left; (next => ((try dsimp only); (try simp only [World.size_alloc, World.size_setCell, World.size_drew]); omega))) | ((with_reducible refine Below.trans ?_ (Below.mono hb4 ?_)); rotate_left; (next => ((try dsimp only); (try simp only [World.size_alloc, World.size_setCell, World.size_drew]); omega))) | ((with_reducible refine Below.trans ?_ (Below.mono hb3 ?_)); rotate_left; (next => ((try dsimp only); (try simp only [World.size_alloc, World.size_setCell, World.size_drew]); omega))) | ((with_reducible refine Below.trans ?_ (Below.mono hb2 ?_)); rotate_left; (next => ((try dsimp only); (try simp only [World.size_alloc, World.size_setCell, World.size_drew]); omega))) | ((with_reducible refine Below.trans ?_ (Below.mono hb1 ?_)); rotate_left; (next => ((try dsimp only); (try simp only [World.size_alloc, World.size_setCell, World.size_drew]); omega)))))⟩
end Go.Proofs.Ytnkeimpnnpndcaa

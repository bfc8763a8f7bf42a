import Derived.Test.YtlnagfmaiabhaaaDt
import Derived.Test.YtlnagfmaiabhaaaW5
import Derived.Test.YtlnagfmaiabhaaaPl
set_option linter.unusedSimpArgs false
set_option linter.unusedVariables false
namespace Go.Proofs.Ytlnagfmaiabhaaa
open Go Go.RowKit
theorem cmp_le (a b : Int) {ah al bh bl : Int} (ha : Wd a ah al) (hb : Wd b bh bl) (h : a ≤ b) : ∃ z : Int, z ≤ 0 ∧ ∀ w, Calls Try.prog 15 #[.agg #[.int .u64 ah, .int .u64 al], .agg #[.int .u64 bh, .int .u64 bl]] w fun e w' => e = .returned (.int .i64 z) ∧ Below w.heap.size w w' := by
  rcases Int.lt_or_eq_of_le h with c | c
  · exact ⟨-1, by omega, fun w => cmp_lt a b ha hb c w⟩
  · subst c; exact ⟨0, by omega, fun w => cmp_eq a ha hb w⟩
theorem txt_ten : mkB (txt 10) = ⟨#[49, 48]⟩ := by rw [txt_ge (by omega), txt_lt (by omega)]; rfl
theorem txt_zero : mkB (txt 0) = ⟨#[48]⟩ := by rw [txt_lt (by omega)]; rfl
theorem ten_pow {k : Nat} (h : k ≤ 38) : U128 ((10 : Int) ^ k) ∧ (10 : Int) ^ k = ((10 ^ k : Nat) : Int) := by
  have h1 : 10 ^ k ≤ 10 ^ 38 := Nat.pow_le_pow_right (by omega) h
  have h2 : ((10 ^ k : Nat) : Int) = (10 : Int) ^ k := by simp
  rw [← h2]
  obtain ⟨T, hT⟩ : ∃ T, 10 ^ k = T := ⟨_, rfl⟩
  rw [hT] at h1 ⊢
  unfold U128
  omega

set_option maxRecDepth 100000 in
set_option maxHeartbeats 8000000 in
theorem decLong_walk (a : Int) (w : World) (ha : U128 a) :
    Calls Try.prog 11 #[.agg #[.int .u64 (hi a), .int .u64 (lo a)]] w fun e w' =>
      e = .returned (.bool true) ∧ Below w.heap.size w w' := by
  obtain ⟨N, rfl⟩ := Int.eq_ofNat_of_zero_le ha.nonneg
  have t0 : ∀ w, Calls Try.prog 29 #[.agg #[.int .u64 0, .int .u64 0]] w fun e w' => e = .returned (.string ⟨#[48]⟩) ∧ Below w.heap.size w w' := fun w => by rw [← txt_zero]; exact text_ok 0 Wd.zero w
  have t1 : ∀ w, Calls Try.prog 29 #[.agg #[.int .u64 0, .int .u64 10]] w fun e w' => e = .returned (.string ⟨#[49, 48]⟩) ∧ Below w.heap.size w w' := fun w => by rw [← txt_ten]; exact text_ok 10 (Wd.lit (l := 10) (by unfold U64; omega)) w
  obtain ⟨s, hs⟩ : ∃ s, mkB (txt N) = s := ⟨_, rfl⟩
  have t2 : ∀ w, _ := fun w => text_ok N (Wd.mk ha) w
  rw [hs] at t2
  obtain ⟨k, hk⟩ : ∃ k, s.size = k + 1 := ⟨s.size - 1, by rw [← hs, mkB_size]; have := List.length_pos_iff.2 (txt_ne N); omega⟩
  have hkl : (txt N).length = k + 1 := by rw [← hk, ← hs, mkB_size]
  have hk39 : k ≤ 38 := by have := txt_len39 (n := N) (by unfold U128 at ha; omega); omega
  have hbd := txt_bd N
  rw [hkl, Nat.add_sub_cancel] at hbd
  have hsz : (s.size : Int) = (k : Int) + 1 := by omega
  have HSz := Lib.hid hk
  have T0 := Lib.hid t0
  have T1 := Lib.hid t1
  have T2 := Lib.hid t2
  have qa := alloc_cells
  have qf := alloc_frozens
  by_cases hN0 : N = 0
  · have hk0 : k = 0 := by
      subst hN0
      rw [txt_lt (by omega)] at hkl
      simpa using hkl
    have e1 : hi ((N : Nat) : Int) = 0 := by subst hN0; exact hi_zero
    have e2 : lo ((N : Nat) : Int) = 0 := by subst hN0; exact lo_zero
    rw [e1, e2] at T2
    rw [e1, e2]
    subst hk0
    clear t0 t1 t2 hbd hkl hs hk ha e1 e2
    go_enter Try.func11, Try.ntmps11
    go_wp2_with fail
    refine (T0.out _).mono ?_
    rintro e w1 ⟨rfl, hb1⟩
    have z1 := hb1.size
    have c1 := Below.cells hb1
    have f1 := Below.frozens hb1
    try simp only [World.size_alloc, World.size_setCell, World.size_drew] at z1 c1 f1
    go_wp2_with fail
    refine (num_any 10 _ (by omega) (by omega)).mono ?_
    rintro e w2 ⟨rfl, hb2⟩
    have z2 := hb2.size
    have c2 := Below.cells hb2
    have f2 := Below.frozens hb2
    try simp only [World.size_alloc, World.size_setCell, World.size_drew] at z2 c2 f2
    go_wp2_with fail
    refine (T1.out _).mono ?_
    rintro e w3 ⟨rfl, hb3⟩
    have z3 := hb3.size
    have c3 := Below.cells hb3
    have f3 := Below.frozens hb3
    try simp only [World.size_alloc, World.size_setCell, World.size_drew] at z3 c3 f3
    go_wp2_with fail
    refine (T2.out _).mono ?_
    rintro e w4 ⟨rfl, hb4⟩
    have z4 := hb4.size
    have c4 := Below.cells hb4
    have f4 := Below.frozens hb4
    try simp only [World.size_alloc, World.size_setCell, World.size_drew] at z4 c4 f4
    go_wp2_with fail
    go_ret
    exact ⟨rfl, (by repeat (first | (with_reducible exact Below.refl _ _) | ((with_reducible refine Below.alloc ?_ ?_ _); rotate_left; (next => ((try dsimp only); (try simp only [World.size_alloc, World.size_setCell, World.size_drew]); omega))) | ((with_reducible refine Below.setCell ?_ ?_ _); rotate_left; (next => ((try dsimp only); (try simp only [World.size_alloc, World.size_setCell, World.size_drew]); omega))) | (with_reducible refine Below.drew ?_) | ((with_reducible refine Below.trans ?_ (Below.mono hb4 ?_)); rotate_left; (next => ((try dsimp only); (try simp only [World.size_alloc, World.size_setCell, World.size_drew]); omega))) | ((with_reducible refine Below.trans ?_ (Below.mono hb3 ?_)); rotate_left; (next => ((try dsimp only); (try simp only [World.size_alloc, World.size_setCell, World.size_drew]); omega))) | ((with_reducible refine Below.trans ?_ (Below.mono hb2 ?_)); rotate_left; (next => ((try dsimp only); (try simp only [World.size_alloc, World.size_setCell, World.size_drew]); omega))) | ((with_reducible refine Below.trans ?_ (Below.mono hb1 ?_)); rotate_left; (next => ((try dsimp only); (try simp only [World.size_alloc, World.size_setCell, World.size_drew]); omega)))))⟩
  · obtain ⟨z, z0, hz⟩ := cmp_le (10 ^ k) N (Wd.mk (ten_pow hk39).1) (Wd.mk ha) (by rw [(ten_pow hk39).2]; have := hbd.2 (by omega); omega)
    have p1 : ∀ w, _ := fun w => power_ok 10 k (10 ^ k) (Wd.lit (l := 10) (by unfold U64; omega)) (by omega) (by omega) rfl (fun i hi => (ten_pow (show i ≤ 38 by omega)).1) w
    have P1 := Lib.hid p1
    have Z := Lib.hid hz
    obtain ⟨X, hX⟩ : ∃ X, hi ((N : Nat) : Int) = X := ⟨_, rfl⟩
    obtain ⟨Y, hY⟩ : ∃ Y, lo ((N : Nat) : Int) = Y := ⟨_, rfl⟩
    have hne : (¬ X = 0) ∨ (X = 0 ∧ ¬ Y = 0) := by
      by_cases c : X = 0
      · exact .inr ⟨c, fun c2 => hN0 (zero_halves (hX.trans c) (hY.trans c2))⟩
      · exact .inl c
    have wk : Wd (N : Int) X Y := ⟨ha, hX.symm, hY.symm⟩
    obtain ⟨K, hK⟩ : ∃ K : Int, (10 : Int) ^ k = K := ⟨_, rfl⟩
    rw [hX, hY] at T2 Z
    rw [hK] at Z P1
    rw [hX, hY]
    have kw1 : IntKind.i64.wrap ((k : Int) + 1 - 1) = k := by rw [show (k : Int) + 1 - 1 = k by omega]; exact IntWalk.i64_in _ (by omega)
    have kw2 : (k : Int) + 1 - 1 = k := by omega
    have kne : ¬ ((k : Int) + 1 = 1 ∧ False) := by simp
    by_cases h38 : k = 38
    · have e38 : (10 : Int) ^ 38 = 100000000000000000000000000000000000000 := by decide
      have p2 : ∀ w, _ := fun w => power_large 10 ((k : Int) + 1) 38 (Wd.lit (l := 10) (by unfold U64; omega)) (by omega) (by omega) (fun i hi => (ten_pow hi).1) (by rw [e38]; unfold U128; omega) w
      have P2 := Lib.hid p2
      clear t0 t1 t2 hbd hkl hs hk ha p1 p2 hz hX hY hK wk hN0 e38 h38
      rcases hne with n1 | ⟨rfl, n2⟩
      all_goals
        go_enter Try.func11, Try.ntmps11
        go_wp2_with fail
        refine (T0.out _).mono ?_
        rintro e w1 ⟨rfl, hb1⟩
        have z1 := hb1.size
        have c1 := Below.cells hb1
        have f1 := Below.frozens hb1
        try simp only [World.size_alloc, World.size_setCell, World.size_drew] at z1 c1 f1
        go_wp2_with fail
        refine (num_any 10 _ (by omega) (by omega)).mono ?_
        rintro e w2 ⟨rfl, hb2⟩
        have z2 := hb2.size
        have c2 := Below.cells hb2
        have f2 := Below.frozens hb2
        try simp only [World.size_alloc, World.size_setCell, World.size_drew] at z2 c2 f2
        go_wp2_with fail
        refine (T1.out _).mono ?_
        rintro e w3 ⟨rfl, hb3⟩
        have z3 := hb3.size
        have c3 := Below.cells hb3
        have f3 := Below.frozens hb3
        try simp only [World.size_alloc, World.size_setCell, World.size_drew] at z3 c3 f3
        go_wp2_with fail
        refine (T2.out _).mono ?_
        rintro e w4 ⟨rfl, hb4⟩
        have z4 := hb4.size
        have c4 := Below.cells hb4
        have f4 := Below.frozens hb4
        try simp only [World.size_alloc, World.size_setCell, World.size_drew] at z4 c4 f4
        go_wp2_with fail
        refine (num_any 10 _ (by omega) (by omega)).mono ?_
        rintro e w5 ⟨rfl, hb5⟩
        have z5 := hb5.size
        have c5 := Below.cells hb5
        have f5 := Below.frozens hb5
        try simp only [World.size_alloc, World.size_setCell, World.size_drew] at z5 c5 f5
        go_wp2_with fail
        refine (P1.out _).mono ?_
        rintro e w6 ⟨rfl, hb6⟩
        have z6 := hb6.size
        have c6 := Below.cells hb6
        have f6 := Below.frozens hb6
        try simp only [World.size_alloc, World.size_setCell, World.size_drew] at z6 c6 f6
        go_wp2_with fail
        refine (num_any 10 _ (by omega) (by omega)).mono ?_
        rintro e w7 ⟨rfl, hb7⟩
        have z7 := hb7.size
        have c7 := Below.cells hb7
        have f7 := Below.frozens hb7
        try simp only [World.size_alloc, World.size_setCell, World.size_drew] at z7 c7 f7
        go_wp2_with fail
        refine (P2.out _).mono ?_
        rintro e w8 ⟨rfl, hb8⟩
        have z8 := hb8.size
        have c8 := Below.cells hb8
        have f8 := Below.frozens hb8
        try simp only [World.size_alloc, World.size_setCell, World.size_drew] at z8 c8 f8
        go_wp2_with fail
        refine (Z.out _).mono ?_
        rintro e w9 ⟨rfl, hb9⟩
        have z9 := hb9.size
        have c9 := Below.cells hb9
        have f9 := Below.frozens hb9
        try simp only [World.size_alloc, World.size_setCell, World.size_drew] at z9 c9 f9
        go_wp2_with fail
        go_ret
        exact ⟨rfl, (by repeat (first | (with_reducible exact Below.refl _ _) | ((with_reducible refine Below.alloc ?_ ?_ _); rotate_left; (next => ((try dsimp only); (try simp only [World.size_alloc, World.size_setCell, World.size_drew]); omega))) | ((with_reducible refine Below.setCell ?_ ?_ _); rotate_left; (next => ((try dsimp only); (try simp only [World.size_alloc, World.size_setCell, World.size_drew]); omega))) | (with_reducible refine Below.drew ?_) | ((with_reducible refine Below.trans ?_ (Below.mono hb9 ?_)); rotate_left; (next => ((try dsimp only); (try simp only [World.size_alloc, World.size_setCell, World.size_drew]); omega))) | ((with_reducible refine Below.trans ?_ (Below.mono hb8 ?_)); rotate_left; (next => ((try dsimp only); (try simp only [World.size_alloc, World.size_setCell, World.size_drew]); omega))) | ((with_reducible refine Below.trans ?_ (Below.mono hb7 ?_)); rotate_left; (next => ((try dsimp only); (try simp only [World.size_alloc, World.size_setCell, World.size_drew]); omega))) | ((with_reducible refine Below.trans ?_ (Below.mono hb6 ?_)); rotate_left; (next => ((try dsimp only); (try simp only [World.size_alloc, World.size_setCell, World.size_drew]); omega))) | ((with_reducible refine Below.trans ?_ (Below.mono hb5 ?_)); rotate_left; (next => ((try dsimp only); (try simp only [World.size_alloc, World.size_setCell, World.size_drew]); omega))) | ((with_reducible refine Below.trans ?_ (Below.mono hb4 ?_)); rotate_left; (next => ((try dsimp only); (try simp only [World.size_alloc, World.size_setCell, World.size_drew]); omega))) | ((with_reducible refine Below.trans ?_ (Below.mono hb3 ?_)); rotate_left; (next => ((try dsimp only); (try simp only [World.size_alloc, World.size_setCell, World.size_drew]); omega))) | ((with_reducible refine Below.trans ?_ (Below.mono hb2 ?_)); rotate_left; (next => ((try dsimp only); (try simp only [World.size_alloc, World.size_setCell, World.size_drew]); omega))) | ((with_reducible refine Below.trans ?_ (Below.mono hb1 ?_)); rotate_left; (next => ((try dsimp only); (try simp only [World.size_alloc, World.size_setCell, World.size_drew]); omega)))))⟩
    · have p2 : ∀ w, _ := fun w => power_ok 10 ((k : Int) + 1) (10 ^ (k + 1)) (Wd.lit (l := 10) (by unfold U64; omega)) (by omega) (by omega) rfl (fun i hi => (ten_pow (show i ≤ 38 by omega)).1) w
      have c2 : ∀ w, _ := fun w => cmp_lt (N : Int) (10 ^ (k + 1)) wk (Wd.mk (ten_pow (show k + 1 ≤ 38 by omega)).1) (by rw [(ten_pow (show k + 1 ≤ 38 by omega)).2]; have := hbd.1; omega) w
      obtain ⟨L, hL⟩ : ∃ K : Int, (10 : Int) ^ (k + 1) = K := ⟨_, rfl⟩
      rw [hL] at p2 c2
      have P2 := Lib.hid p2
      have C2 := Lib.hid c2
      clear t0 t1 t2 hbd hkl hs hk ha p1 p2 c2 hz hX hY hK hL wk hN0
      rcases hne with n1 | ⟨rfl, n2⟩
      all_goals
        go_enter Try.func11, Try.ntmps11
        go_wp2_with fail
        refine (T0.out _).mono ?_
        rintro e w1 ⟨rfl, hb1⟩
        have z1 := hb1.size
        have c1 := Below.cells hb1
        have f1 := Below.frozens hb1
        try simp only [World.size_alloc, World.size_setCell, World.size_drew] at z1 c1 f1
        go_wp2_with fail
        refine (num_any 10 _ (by omega) (by omega)).mono ?_
        rintro e w2 ⟨rfl, hb2⟩
        have z2 := hb2.size
        have c2 := Below.cells hb2
        have f2 := Below.frozens hb2
        try simp only [World.size_alloc, World.size_setCell, World.size_drew] at z2 c2 f2
        go_wp2_with fail
        refine (T1.out _).mono ?_
        rintro e w3 ⟨rfl, hb3⟩
        have z3 := hb3.size
        have c3 := Below.cells hb3
        have f3 := Below.frozens hb3
        try simp only [World.size_alloc, World.size_setCell, World.size_drew] at z3 c3 f3
        go_wp2_with fail
        refine (T2.out _).mono ?_
        rintro e w4 ⟨rfl, hb4⟩
        have z4 := hb4.size
        have c4 := Below.cells hb4
        have f4 := Below.frozens hb4
        try simp only [World.size_alloc, World.size_setCell, World.size_drew] at z4 c4 f4
        go_wp2_with fail
        refine (num_any 10 _ (by omega) (by omega)).mono ?_
        rintro e w5 ⟨rfl, hb5⟩
        have z5 := hb5.size
        have c5 := Below.cells hb5
        have f5 := Below.frozens hb5
        try simp only [World.size_alloc, World.size_setCell, World.size_drew] at z5 c5 f5
        go_wp2_with fail
        refine (P1.out _).mono ?_
        rintro e w6 ⟨rfl, hb6⟩
        have z6 := hb6.size
        have c6 := Below.cells hb6
        have f6 := Below.frozens hb6
        try simp only [World.size_alloc, World.size_setCell, World.size_drew] at z6 c6 f6
        go_wp2_with fail
        refine (num_any 10 _ (by omega) (by omega)).mono ?_
        rintro e w7 ⟨rfl, hb7⟩
        have z7 := hb7.size
        have c7 := Below.cells hb7
        have f7 := Below.frozens hb7
        try simp only [World.size_alloc, World.size_setCell, World.size_drew] at z7 c7 f7
        go_wp2_with fail
        refine (P2.out _).mono ?_
        rintro e w8 ⟨rfl, hb8⟩
        have z8 := hb8.size
        have c8 := Below.cells hb8
        have f8 := Below.frozens hb8
        try simp only [World.size_alloc, World.size_setCell, World.size_drew] at z8 c8 f8
        go_wp2_with fail
        refine (Z.out _).mono ?_
        rintro e w9 ⟨rfl, hb9⟩
        have z9 := hb9.size
        have c9 := Below.cells hb9
        have f9 := Below.frozens hb9
        try simp only [World.size_alloc, World.size_setCell, World.size_drew] at z9 c9 f9
        go_wp2_with fail
        refine (C2.out _).mono ?_
        rintro e w10 ⟨rfl, hb10⟩
        have z10 := hb10.size
        have c10 := Below.cells hb10
        have f10 := Below.frozens hb10
        try simp only [World.size_alloc, World.size_setCell, World.size_drew] at z10 c10 f10
        go_wp2_with fail
        go_ret
        exact ⟨rfl, (by repeat (first | (with_reducible exact Below.refl _ _) | ((with_reducible refine Below.alloc ?_ ?_ _); rotate_left; (next => ((try dsimp only); (try simp only [World.size_alloc, World.size_setCell, World.size_drew]); omega))) | ((with_reducible refine Below.setCell ?_ ?_ _); rotate_left; (next => ((try dsimp only); (try simp only [World.size_alloc, World.size_setCell, World.size_drew]); omega))) | (with_reducible refine Below.drew ?_) | ((with_reducible refine Below.trans ?_ (Below.mono hb10 ?_)); rotate_left; (next => ((try dsimp only); (try simp only [World.size_alloc, World.size_setCell, World.size_drew]); omega))) | ((with_reducible refine Below.trans ?_ (Below.mono hb9 ?_)); rotate_left; (next => ((try dsimp only); (try simp only [World.size_alloc, World.size_setCell, World.size_drew]); omega))) | ((with_reducible refine Below.trans ?_ (Below.mono hb8 ?_)); rotate_left; (next => ((try dsimp only); (try simp only [World.size_alloc, World.size_setCell, World.size_drew]); omega))) | ((with_reducible refine Below.trans ?_ (Below.mono hb7 ?_)); rotate_left; (next => ((try dsimp only); (try simp only [World.size_alloc, World.size_setCell, World.size_drew]); omega))) | ((with_reducible refine Below.trans ?_ (Below.mono hb6 ?_)); rotate_left; (next => ((try dsimp only); (try simp only [World.size_alloc, World.size_setCell, World.size_drew]); omega))) | ((with_reducible refine Below.trans ?_ (Below.mono hb5 ?_)); rotate_left; (next => ((try dsimp only); (try simp only [World.size_alloc, World.size_setCell, World.size_drew]); omega))) | ((with_reducible refine Below.trans ?_ (Below.mono hb4 ?_)); rotate_left; (next => ((try dsimp only); (try simp only [World.size_alloc, World.size_setCell, World.size_drew]); omega))) | ((with_reducible refine Below.trans ?_ (Below.mono hb3 ?_)); rotate_left; (next => ((try dsimp only); (try simp only [World.size_alloc, World.size_setCell, World.size_drew]); omega))) | ((with_reducible refine Below.trans ?_ (Below.mono hb2 ?_)); rotate_left; (next => ((try dsimp only); (try simp only [World.size_alloc, World.size_setCell, World.size_drew]); omega))) | ((with_reducible refine Below.trans ?_ (Below.mono hb1 ?_)); rotate_left; (next => ((try dsimp only); (try simp only [World.size_alloc, World.size_setCell, World.size_drew]); omega)))))⟩
end Go.Proofs.Ytlnagfmaiabhaaa


/-
  The walks of tail.Chebyshev and tail.Cantelli.
-/
import Derived.Test.YtlnagfmaiabhaaaCn
import Derived.Test.YtlnagfmaiabhaaaDiv
import Derived.Test.YtlnagfmaiabhaaaW3
set_option linter.unusedSimpArgs false
set_option linter.unusedVariables false
namespace Go.Proofs.Ytlnagfmaiabhaaa
open Go.RowKit

/-- Cantelli's bound. -/
def cant (n s X t : Int) : Int := if 0 < n * t - s then n * X / (X + (n * t - s) * (n * t - s)) else n
/-- Chebyshev's bound. -/
def cheb (n X d : Int) : Int := if X / (n * (d * d)) < n then X / (n * (d * d)) else n

theorem cheb_bd {n X d : Int} (hn : 1 ≤ n) (hX : 0 ≤ X) (hd : 1 ≤ d) : 0 ≤ X / (n * (d * d)) ∧ X / (n * (d * d)) ≤ X ∧ 1 ≤ n * (d * d) := by
  have e1 : 1 * 1 ≤ d * d := Int.mul_le_mul hd hd (by omega) (by omega)
  have e2 : 1 * 1 ≤ n * (d * d) := Int.mul_le_mul hn e1 (by omega) (by omega)
  exact ⟨Int.ediv_nonneg hX (by omega), Int.ediv_le_self _ hX, by omega⟩
theorem cant_bd {n s X t : Int} (hn : 0 ≤ n) (hX : 0 ≤ X) : 0 ≤ cant n s X t ∧ cant n s X t ≤ n := by
  unfold cant
  split
  · rename_i h
    have dd : 0 < (n * t - s) * (n * t - s) := Int.mul_pos h h
    refine ⟨Int.ediv_nonneg (Int.mul_nonneg hn hX) (by omega), ?_⟩
    have : n * X / (X + (n * t - s) * (n * t - s)) < n + 1 := by
      refine Int.ediv_lt_of_lt_mul (by omega) ?_
      have e : (n + 1) * (X + (n * t - s) * (n * t - s)) = n * X + n * ((n * t - s) * (n * t - s)) + X + (n * t - s) * (n * t - s) := by grind
      have := Int.mul_nonneg hn (Int.le_of_lt dd)
      omega
    omega
  · exact ⟨hn, Int.le_refl _⟩

set_option maxRecDepth 100000 in
set_option maxHeartbeats 4000000 in
theorem cant_ok (n s q X t m : Int) (h : SumsOK n s q) (hX : n * q - s * s = X) (ht : 0 ≤ t ∧ t ≤ 1073741824) (hm : cant n s X t = m) (w : World) :
    Calls Try.prog 58 #[.agg #[.int .i64 n, .int .i64 s, .int .i64 q], .int .i64 t] w fun e w' => e = .returned (.tuple #[.int .i64 m, .int .i64 0]) ∧ Below w.heap.size w w' := by
  obtain ⟨b1, b2, b3, b4, b5, b6, b7, b8, b9, b10⟩ := h.bd
  have Xb : 0 ≤ X ∧ X ≤ 1152921504606846976 := by omega
  have mb := cant_bd (n := n) (s := s) (X := X) (t := t) b1 Xb.1
  have nt := mul_bd (a := n) (b := t) (A := 64) (B := 1073741824) (by omega) (by omega)
  have hchk := fun w => scheck_ok n s q h w
  have hspr := fun w => spread_ok n s q X h hX w
  have HC := Lib.hid hchk
  have HS := Lib.hid hspr
  have ht1 := ht.1
  have ht2 := ht.2
  have qa := alloc_cells
  have qf := alloc_frozens
  rw [hm] at mb
  unfold cant at hm
  by_cases hD : 0 < n * t - s
  · rw [if_pos hD] at hm
    obtain ⟨D, hDD⟩ : ∃ D, n * t - s = D := ⟨_, rfl⟩
    rw [hDD] at hm hD
    have dd := mul_bd (a := D) (b := D) (A := 68719476736) (B := 68719476736) (by omega) (by omega)
    have d0 : 0 < D * D := Int.mul_pos hD hD
    obtain ⟨Y, hY⟩ : ∃ Y, X + D * D = Y := ⟨_, rfl⟩
    rw [hY] at hm
    have uY : U128 Y := by unfold U128; omega
    have nX := mul_bd (a := n) (b := X) (A := 64) (B := 1152921504606846976) (by omega) (by omega)
    obtain ⟨Z, hZ⟩ : ∃ Z, n * X = Z := ⟨_, rfl⟩
    rw [hZ] at hm nX
    obtain ⟨r, hr⟩ : ∃ r, Z % Y = r := ⟨_, rfl⟩
    have un : U64 n := by unfold U64; omega
    have uX : U64 X := by unfold U64; omega
    have uD : U64 D := by unfold U64; omega
    have uZ : U128 Z := by unfold U128; omega
    have hm1 := fun w => mul_any D D (D * D) w uD uD rfl
    have had := fun w => add_ok X (D * D) Y (Wd.lit uX) (Wd.mk (by unfold U128; omega)) hY uY w
    have hm2 := fun w => mul_any n X Z w un uX hZ
    have hdv := fun w => div_ok Z Y m r (Wd.mk uZ) (Wd.mk uY) (by omega) hm hr w
    rw [show hi m = 0 by unfold hi; omega, show lo m = m by unfold lo; omega] at hdv
    have M1 := Lib.hid hm1
    have AD := Lib.hid had
    have M2 := Lib.hid hm2
    have DV := Lib.hid hdv
    clear hchk hspr hm1 had hm2 hdv h hX ht hm hr hY hZ uY un uX uD uZ dd
    go_enter Try.func58, Try.ntmps58
    go_wp2_with fail
    refine (HC.out _).mono ?_
    rintro e w1 ⟨rfl, hb1⟩
    have z1 := hb1.size
    have c1 := Below.cells hb1
    have f1 := Below.frozens hb1
    try simp only [World.size_alloc, World.size_setCell, World.size_drew] at z1 c1 f1
    go_wp2_with fail
    refine (HS.out _).mono ?_
    rintro e w2 ⟨rfl, hb2⟩
    have z2 := hb2.size
    have c2 := Below.cells hb2
    have f2 := Below.frozens hb2
    try simp only [World.size_alloc, World.size_setCell, World.size_drew] at z2 c2 f2
    go_wp2_with fail
    refine (M1.out _).mono ?_
    rintro e w3 ⟨rfl, hb3⟩
    have z3 := hb3.size
    have c3 := Below.cells hb3
    have f3 := Below.frozens hb3
    try simp only [World.size_alloc, World.size_setCell, World.size_drew] at z3 c3 f3
    go_wp2_with fail
    refine (AD.out _).mono ?_
    rintro e w4 ⟨rfl, hb4⟩
    have z4 := hb4.size
    have c4 := Below.cells hb4
    have f4 := Below.frozens hb4
    try simp only [World.size_alloc, World.size_setCell, World.size_drew] at z4 c4 f4
    go_wp2_with fail
    have q0 : w4.cell? ⟨w.heap.size, 0, none⟩ = some (.int .i64 n) := by simp [go_sem, ↓IntWalk.iteOmega, *]
    have bel4 : Below w.heap.size w w4 := (by repeat (first | (with_reducible exact Below.refl _ _) | ((with_reducible refine Below.alloc ?_ ?_ _); rotate_left; (next => ((try dsimp only); (try simp only [World.size_alloc, World.size_setCell, World.size_drew]); omega))) | ((with_reducible refine Below.setCell ?_ ?_ _); rotate_left; (next => ((try dsimp only); (try simp only [World.size_alloc, World.size_setCell, World.size_drew]); omega))) | (with_reducible refine Below.drew ?_) | ((with_reducible refine Below.trans ?_ (Below.mono hb4 ?_)); rotate_left; (next => ((try dsimp only); (try simp only [World.size_alloc, World.size_setCell, World.size_drew]); omega))) | ((with_reducible refine Below.trans ?_ (Below.mono hb3 ?_)); rotate_left; (next => ((try dsimp only); (try simp only [World.size_alloc, World.size_setCell, World.size_drew]); omega))) | ((with_reducible refine Below.trans ?_ (Below.mono hb2 ?_)); rotate_left; (next => ((try dsimp only); (try simp only [World.size_alloc, World.size_setCell, World.size_drew]); omega))) | ((with_reducible refine Below.trans ?_ (Below.mono hb1 ?_)); rotate_left; (next => ((try dsimp only); (try simp only [World.size_alloc, World.size_setCell, World.size_drew]); omega)))))
    have sz4 : w.heap.size < w4.heap.size := by omega
    have eX : IntKind.u64.wrap X = X := by rw [IntKind.wrap_u64]; omega
    have eN : IntKind.u64.wrap n = n := by rw [IntKind.wrap_u64]; omega
    clear c1 f1 z1 hb1 c2 f2 z2 hb2 c3 f3 z3 hb3 c4 f4 z4 hb4
    go_region_held3 (fun w' => w'.cell? ⟨w.heap.size, 0, none⟩ = some (.int .i64 n) ∧ w'.cell? ⟨w4.heap.size, 0, none⟩ = some (.int .u64 (hi Y)) ∧ w'.cell? ⟨w4.heap.size, 1, none⟩ = some (.int .u64 (lo Y))) (simp [go_sem, ↓IntWalk.iteOmega, *])
      (first
        | (go_at_call 68; refine (M2.out _).mono ?_; rintro e w5 ⟨rfl, hb5⟩; have c5 := Below.cells hb5; have f5 := Below.frozens hb5; have z5 := hb5.size; try simp only [World.size_alloc, World.size_setCell, World.size_drew] at c5 f5 z5)
        | (go_at_call 66; refine (DV.out _).mono ?_; rintro e w6 ⟨rfl, hb6⟩; have c6 := Below.cells hb6; have f6 := Below.frozens hb6; have z6 := hb6.size; try simp only [World.size_alloc, World.size_setCell, World.size_drew] at c6 f6 z6))
    all_goals go_wp2_with fail
    all_goals go_ret2
    all_goals exact ⟨rfl, Below.trans bel4 (Below.mono (by repeat (first | (with_reducible exact Below.refl _ _) | ((with_reducible refine Below.alloc ?_ ?_ _); rotate_left; (next => ((try dsimp only); (try simp only [World.size_alloc, World.size_setCell, World.size_drew]); omega))) | ((with_reducible refine Below.setCell ?_ ?_ _); rotate_left; (next => ((try dsimp only); (try simp only [World.size_alloc, World.size_setCell, World.size_drew]); omega))) | (with_reducible refine Below.drew ?_) | ((with_reducible refine Below.trans ?_ (Below.mono hb6 ?_)); rotate_left; (next => ((try dsimp only); (try simp only [World.size_alloc, World.size_setCell, World.size_drew]); omega))) | ((with_reducible refine Below.trans ?_ (Below.mono hb5 ?_)); rotate_left; (next => ((try dsimp only); (try simp only [World.size_alloc, World.size_setCell, World.size_drew]); omega))))) bel4.size)⟩
  · rw [if_neg hD] at hm
    subst hm
    clear hchk hspr h hX ht
    go_enter Try.func58, Try.ntmps58
    go_wp2_with fail
    refine (HC.out _).mono ?_
    rintro e w1 ⟨rfl, hb1⟩
    have z1 := hb1.size
    have c1 := Below.cells hb1
    have f1 := Below.frozens hb1
    try simp only [World.size_alloc, World.size_setCell, World.size_drew] at z1 c1 f1
    go_wp2_with fail
    go_ret2
    exact ⟨rfl, (by repeat (first | (with_reducible exact Below.refl _ _) | ((with_reducible refine Below.alloc ?_ ?_ _); rotate_left; (next => ((try dsimp only); (try simp only [World.size_alloc, World.size_setCell, World.size_drew]); omega))) | ((with_reducible refine Below.setCell ?_ ?_ _); rotate_left; (next => ((try dsimp only); (try simp only [World.size_alloc, World.size_setCell, World.size_drew]); omega))) | (with_reducible refine Below.drew ?_) | ((with_reducible refine Below.trans ?_ (Below.mono hb1 ?_)); rotate_left; (next => ((try dsimp only); (try simp only [World.size_alloc, World.size_setCell, World.size_drew]); omega)))))⟩

theorem cant_anti {n s X t u : Int} (hn : 0 ≤ n) (hX : 0 ≤ X) (h : t ≤ u) : cant n s X u ≤ cant n s X t := by
  have hm : n * t ≤ n * u := Int.mul_le_mul_of_nonneg_left h hn
  by_cases c : 0 < n * t - s
  · have dd : 0 < (n * t - s) * (n * t - s) := Int.mul_pos c c
    have de : (n * t - s) * (n * t - s) ≤ (n * u - s) * (n * u - s) := Int.mul_le_mul (by omega) (by omega) (by omega) (by omega)
    unfold cant
    rw [if_pos c, if_pos (by omega)]
    exact quo_anti (Int.mul_nonneg hn hX) (by omega) (by omega)
  · have := (cant_bd (n := n) (s := s) (X := X) (t := u) hn hX).2
    unfold cant at this ⊢
    rw [if_neg c]; exact this
theorem cant_cnt {l : List Int} {n t S X : Int} (hn : (l.length : Int) = n) (hS : sumI l = S) (hX : spr l = X) : cnt t l ≤ cant n S X t := by
  have x0 : 0 ≤ X := hX ▸ spr_nonneg l
  unfold cant
  split
  · rename_i h
    have dd : 0 < (n * t - S) * (n * t - S) := Int.mul_pos h h
    exact (Int.le_ediv_iff_mul_le (by omega)).2 (cantelli hn hS hX rfl h)
  · have := (cnt_bd t l).2; omega
theorem cheb_cnt {l : List Int} {n d S X : Int} (hn : (l.length : Int) = n) (h1 : 1 ≤ n) (hd : 1 ≤ d) (hS : sumI l = S) (hX : spr l = X) : fcnt n S d l ≤ cheb n X d := by
  have x0 : 0 ≤ X := hX ▸ spr_nonneg l
  have cb := cheb_bd h1 x0 hd
  have a : fcnt n S d l ≤ X / (n * (d * d)) := (Int.le_ediv_iff_mul_le (by omega)).2 (chebyshev hn h1 hd hS hX)
  have b := (fcnt_bd n S d l).2
  unfold cheb; split <;> omega
/-- Cantelli's bound is no more than Chebyshev's. -/
theorem cant_cheb {n s X t d : Int} (h1 : 1 ≤ n) (hX : 0 ≤ X) (hd : 1 ≤ d) (ht : n * d ≤ n * t - s) : cant n s X t ≤ cheb n X d := by
  have a := cant_bd (n := n) (s := s) (X := X) (t := t) (by omega) hX
  have e1 : 1 * 1 ≤ n * d := Int.mul_le_mul h1 hd (by omega) (by omega)
  have cb := cheb_bd h1 hX hd
  have b : cant n s X t ≤ X / (n * (d * d)) := by
    have de : n * d * (n * d) ≤ (n * t - s) * (n * t - s) := Int.mul_le_mul ht ht (by omega) (by omega)
    have dp : 0 < (n * t - s) * (n * t - s) := Int.mul_pos (by omega) (by omega)
    unfold cant
    rw [if_pos (by omega)]
    rw [Int.le_ediv_iff_mul_le (by omega)]
    obtain ⟨k, hk⟩ : ∃ k, n * X / (X + (n * t - s) * (n * t - s)) = k := ⟨_, rfl⟩
    have k0 : 0 ≤ k := by rw [← hk]; exact Int.ediv_nonneg (Int.mul_nonneg (by omega) hX) (by omega)
    have km : k * (X + (n * t - s) * (n * t - s)) ≤ n * X := by rw [← hk]; exact Int.ediv_mul_le _ (by omega)
    rw [hk]
    have k1 : k * (n * d * (n * d)) ≤ k * ((n * t - s) * (n * t - s)) := Int.mul_le_mul_of_nonneg_left de k0
    have k2 : 0 ≤ k * X := Int.mul_nonneg k0 hX
    rw [Int.mul_add] at km
    have k3 : k * (n * (d * d)) * n ≤ X * n := by
      have : k * (n * (d * d)) * n = k * (n * d * (n * d)) := by grind
      rw [this, Int.mul_comm X n]; omega
    exact Int.le_of_mul_le_mul_right k3 (by omega)
  unfold cheb; split <;> omega
end Go.Proofs.Ytlnagfmaiabhaaa

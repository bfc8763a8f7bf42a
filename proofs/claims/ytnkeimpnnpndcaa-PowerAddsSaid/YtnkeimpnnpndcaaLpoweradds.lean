import Derived.Test.YtnkeimpnnpndcaaW5
set_option linter.unusedSimpArgs false
set_option linter.unusedVariables false
namespace Go.Proofs.Ytnkeimpnnpndcaa
open Go.RowKit

theorem u128_pow {a : Int} (c k : Nat) (h0 : 0 ≤ a) (h1 : a ≤ c) (hc : 1 ≤ c) (hk : c ^ k < 340282366920938463463374607431768211456) {i : Nat} (hi : i ≤ k) : U128 (a ^ i) := by
  obtain ⟨A, rfl⟩ := Int.eq_ofNat_of_zero_le h0
  have h : A ^ i ≤ c ^ k := Nat.le_trans (Nat.pow_le_pow_left (by omega) i) (Nat.pow_le_pow_right hc hi)
  rw [← Int.natCast_pow]
  unfold U128
  omega

set_option maxRecDepth 100000 in
set_option maxHeartbeats 8000000 in
theorem powerAdds_walk (a b m n : Int) (w : World) (ha : U128 a) (hb : U128 b) (wm : (Lit.int .i64 m).wf = true) (wn : (Lit.int .i64 n).wf = true) :
    Calls Try.prog 8 #[.agg #[.int .u64 (hi a), .int .u64 (lo a)], .agg #[.int .u64 (hi b), .int .u64 (lo b)], .int .i64 m, .int .i64 n] w fun e w' =>
      e = .returned (.bool true) ∧ Below w.heap.size w w' := by
  have qa := alloc_cells
  have qf := alloc_frozens
  have b1 := within_bd m (n := 8) (by omega)
  have b2 := within_bd n (n := 8) (by omega)
  have la := lo_u64 a
  have lb := lo_u64 b
  unfold U64 at la lb
  have ba : 0 ≤ lo a / 1152921504606846976 ∧ lo a / 1152921504606846976 < 16 := by omega
  have bb : 0 ≤ lo b / 1152921504606846976 ∧ lo b / 1152921504606846976 < 16 := by omega
  clear wn wm
  obtain ⟨M, hM⟩ : ∃ x, within m 8 = x := ⟨_, rfl⟩
  rw [hM] at b1
  have HM := Lib.hid hM
  clear hM
  obtain ⟨N, hN⟩ : ∃ x, within n 8 = x := ⟨_, rfl⟩
  rw [hN] at b2
  have HN := Lib.hid hN
  clear hN
  obtain ⟨x, hx⟩ : ∃ x, lo a / 1152921504606846976 = x := ⟨_, rfl⟩
  rw [hx] at ba
  have Hx := Lib.hid hx
  clear hx
  obtain ⟨y, hy⟩ : ∃ x, lo b / 1152921504606846976 = x := ⟨_, rfl⟩
  rw [hy] at bb
  have Hy := Lib.hid hy
  clear hy
  have hax := la.1
  have hbx := lb.1
  have pxy : 0 ≤ x * y ∧ x * y ≤ 225 := ⟨Int.mul_nonneg ba.1 bb.1, Int.mul_le_mul (show x ≤ 15 by omega) (show y ≤ 15 by omega) bb.1 (by omega)⟩
  have kx : Wd x 0 x := Wd.lit (by unfold U64; omega)
  have ky : Wd y 0 y := Wd.lit (by unfold U64; omega)
  have uxy : U128 (x * y) := by unfold U128; omega
  have k10 : Wd 10 0 10 := Wd.lit (by unfold U64; omega)
  have ux : ∀ i : Nat, i ≤ 14 → U128 (x ^ i) := fun i hi => u128_pow 15 14 ba.1 (by omega) (by omega) (by decide) hi
  have uy : ∀ i : Nat, i ≤ 14 → U128 (y ^ i) := fun i hi => u128_pow 15 14 bb.1 (by omega) (by omega) (by decide) hi
  have uz : ∀ i : Nat, i ≤ 7 → U128 ((x * y) ^ i) := fun i hi => u128_pow 225 7 pxy.1 (by omega) (by omega) (by decide) hi
  have u10 : ∀ i : Nat, i ≤ 38 → U128 ((10 : Int) ^ i) := fun i hi => u128_pow 10 38 (by omega) (by omega) (by omega) (by decide) hi
  have f0 : ∀ w', _ := fun w' => power_ok 10 38 100000000000000000000000000000000000000 k10 (by omega) (by omega) (by decide) (fun i hi => u10 i (by omega)) w'
  rw [show hi 100000000000000000000000000000000000000 = 5421010862427522170 from by decide, show lo 100000000000000000000000000000000000000 = 687399551400673280 from by decide] at f0
  have f1 : ∀ w', _ := fun w' => power_ok x M _ kx (by omega) (by omega) rfl (fun i hi => ux i (by omega)) w'
  have f2 : ∀ w', _ := fun w' => power_ok x N _ kx (by omega) (by omega) rfl (fun i hi => ux i (by omega)) w'
  have f3 : ∀ w', _ := fun w' => power_ok x (M + N) _ kx (by omega) (by omega) rfl (fun i hi => ux i (by omega)) w'
  have f5 : ∀ w', _ := fun w' => power_ok y M _ ky (by omega) (by omega) rfl (fun i hi => uy i (by omega)) w'
  have f7 : ∀ w', _ := fun w' => power_ok (x * y) M _ (Wd.mk uxy) (by omega) (by omega) rfl (fun i hi => uz i (by omega)) w'
  have e3 : x ^ M.toNat * x ^ N.toNat = x ^ (M + N).toNat := by rw [← Int.pow_add, show (M + N).toNat = M.toNat + N.toNat from by omega]
  have e7 : x ^ M.toNat * y ^ M.toNat = (x * y) ^ M.toNat := Int.mul_pow.symm
  have f4 : ∀ w', _ := fun w' => times_ok _ _ _ (Wd.mk (ux M.toNat (by omega))) (Wd.mk (ux N.toNat (by omega))) e3 (ux _ (by omega)) w'
  have f6 : ∀ w', _ := fun w' => times_ok x y (x * y) kx ky rfl uxy w'
  have f8 : ∀ w', _ := fun w' => times_ok _ _ _ (Wd.mk (ux M.toNat (by omega))) (Wd.mk (uy M.toNat (by omega))) e7 (uz _ (by omega)) w'
  have eMN : IntKind.i64.wrap (M + N) = M + N := IntWalk.i64_in _ (by omega)
  have F0 := Lib.hid f0
  have F1 := Lib.hid f1
  have F2 := Lib.hid f2
  have F3 := Lib.hid f3
  have F4 := Lib.hid f4
  have F5 := Lib.hid f5
  have F6 := Lib.hid f6
  have F7 := Lib.hid f7
  have F8 := Lib.hid f8
  clear f0 f1 f2 f3 f4 f5 f6 f7 f8 e3 e7 ux uy uz u10 la lb ha hb
  go_enter Try.func8, Try.ntmps8
  go_wp2_with fail
  refine (num_any 10 _ (by omega) (by omega)).mono ?_
  rintro e w1 ⟨rfl, hb1⟩
  have z1 := hb1.size
  have c1 := Below.cells hb1
  have f1 := Below.frozens hb1
  try simp only [World.size_alloc, World.size_setCell, World.size_drew] at z1 c1 f1
  go_wp2_with fail
  refine (F0.out _).mono ?_
  rintro e w2 ⟨rfl, hb2⟩
  have z2 := hb2.size
  have c2 := Below.cells hb2
  have f2 := Below.frozens hb2
  try simp only [World.size_alloc, World.size_setCell, World.size_drew] at z2 c2 f2
  go_wp2_with fail
  have g0 : w2.cell? ⟨w.heap.size, 0, none⟩ = some (.int .u64 (hi a)) := by simp [go_sem, ↓IntWalk.iteOmega, *]
  have g1 : w2.cell? ⟨w.heap.size, 1, none⟩ = some (.int .u64 (lo a)) := by simp [go_sem, ↓IntWalk.iteOmega, *]
  have g2 : w2.cell? ⟨w.heap.size + 1, 0, none⟩ = some (.int .u64 (hi b)) := by simp [go_sem, ↓IntWalk.iteOmega, *]
  have g3 : w2.cell? ⟨w.heap.size + 1, 1, none⟩ = some (.int .u64 (lo b)) := by simp [go_sem, ↓IntWalk.iteOmega, *]
  have g4 : w2.frozen? ⟨w.heap.size, 0, none⟩ = false := by simp [go_sem, ↓IntWalk.iteOmega, *]
  have g5 : w2.frozen? ⟨w.heap.size, 1, none⟩ = false := by simp [go_sem, ↓IntWalk.iteOmega, *]
  have g6 : w2.frozen? ⟨w.heap.size + 1, 0, none⟩ = false := by simp [go_sem, ↓IntWalk.iteOmega, *]
  have g7 : w2.frozen? ⟨w.heap.size + 1, 1, none⟩ = false := by simp [go_sem, ↓IntWalk.iteOmega, *]
  go_region
  all_goals (rw [Hx.out, Hy.out]; go_wp2_with fail)
  refine (within_any m 8 M _ (by omega) (by omega) HM.out).mono ?_
  rintro e w' ⟨rfl, rfl⟩
  go_wp2_with fail
  refine (within_any n 8 N _ (by omega) (by omega) HN.out).mono ?_
  rintro e w' ⟨rfl, rfl⟩
  go_wp2_with fail
  refine (F1.out _).mono ?_
  rintro e w3 ⟨rfl, hb3⟩
  have z3 := hb3.size
  have c3 := Below.cells hb3
  have f3 := Below.frozens hb3
  try simp only [World.size_alloc, World.size_setCell, World.size_drew] at z3 c3 f3
  go_wp2_with fail
  refine (F2.out _).mono ?_
  rintro e w4 ⟨rfl, hb4⟩
  have z4 := hb4.size
  have c4 := Below.cells hb4
  have f4 := Below.frozens hb4
  try simp only [World.size_alloc, World.size_setCell, World.size_drew] at z4 c4 f4
  go_wp2_with fail
  refine (F3.out _).mono ?_
  rintro e w5 ⟨rfl, hb5⟩
  have z5 := hb5.size
  have c5 := Below.cells hb5
  have f5 := Below.frozens hb5
  try simp only [World.size_alloc, World.size_setCell, World.size_drew] at z5 c5 f5
  go_wp2_with fail
  refine (F4.out _).mono ?_
  rintro e w6 ⟨rfl, hb6⟩
  have z6 := hb6.size
  have c6 := Below.cells hb6
  have f6 := Below.frozens hb6
  try simp only [World.size_alloc, World.size_setCell, World.size_drew] at z6 c6 f6
  go_wp2_with fail
  refine (F5.out _).mono ?_
  rintro e w7 ⟨rfl, hb7⟩
  have z7 := hb7.size
  have c7 := Below.cells hb7
  have f7 := Below.frozens hb7
  try simp only [World.size_alloc, World.size_setCell, World.size_drew] at z7 c7 f7
  go_wp2_with fail
  refine (F6.out _).mono ?_
  rintro e w8 ⟨rfl, hb8⟩
  have z8 := hb8.size
  have c8 := Below.cells hb8
  have f8 := Below.frozens hb8
  try simp only [World.size_alloc, World.size_setCell, World.size_drew] at z8 c8 f8
  go_wp2_with fail
  refine (F7.out _).mono ?_
  rintro e w9 ⟨rfl, hb9⟩
  have z9 := hb9.size
  have c9 := Below.cells hb9
  have f9 := Below.frozens hb9
  try simp only [World.size_alloc, World.size_setCell, World.size_drew] at z9 c9 f9
  go_wp2_with fail
  refine (F8.out _).mono ?_
  rintro e w10 ⟨rfl, hb10⟩
  have z10 := hb10.size
  have c10 := Below.cells hb10
  have f10 := Below.frozens hb10
  try simp only [World.size_alloc, World.size_setCell, World.size_drew] at z10 c10 f10
  go_wp2_with fail
  refine wp_loop_rounds 9 ?_
  iterate 9 (rw [rounds_succ]; go_wp2_with fail)
  go_ret
  exact ⟨rfl, (by repeat (first | (with_reducible exact Below.refl _ _) | ((with_reducible refine Below.alloc ?_ ?_ _); rotate_left; (next => ((try dsimp only); (try simp only [World.size_alloc, World.size_setCell, World.size_drew]); omega))) | ((with_reducible refine Below.setCell ?_ ?_ _); rotate_left; (next => ((try dsimp only); (try simp only [World.size_alloc, World.size_setCell, World.size_drew]); omega))) | (with_reducible refine Below.drew ?_) | ((with_reducible refine Below.trans ?_ (Below.mono hb10 ?_)); rotate_left; (next => ((try dsimp only); (try simp only [World.size_alloc, World.size_setCell, World.size_drew]); omega))) | ((with_reducible refine Below.trans ?_ (Below.mono hb9 ?_)); rotate_left; (next => ((try dsimp only); (try simp only [World.size_alloc, World.size_setCell, World.size_drew]); omega))) | ((with_reducible refine Below.trans ?_ (Below.mono hb8 ?_)); rotate_left; (next => ((try dsimp only); (try simp only [World.size_alloc, World.size_setCell, World.size_drew]); omega))) | ((with_reducible refine Below.trans ?_ (Below.mono hb7 ?_)); rotate_left; (next => ((try dsimp only); (try simp only [World.size_alloc, World.size_setCell, World.size_drew]); omega))) | ((with_reducible refine Below.trans ?_ (Below.mono hb6 ?_)); rotate_left; (next => ((try dsimp only); (try simp only [World.size_alloc, World.size_setCell, World.size_drew]); omega))) | ((with_reducible refine Below.trans ?_ (Below.mono hb5 ?_)); rotate_left; (next => ((try dsimp only); (try simp only [World.size_alloc, World.size_setCell, World.size_drew]); omega))) | ((with_reducible refine Below.trans ?_ (Below.mono hb4 ?_)); rotate_left; (next => ((try dsimp only); (try simp only [World.size_alloc, World.size_setCell, World.size_drew]); omega))) | ((with_reducible refine Below.trans ?_ (Below.mono hb3 ?_)); rotate_left; (next => ((try dsimp only); (try simp only [World.size_alloc, World.size_setCell, World.size_drew]); omega))) | ((with_reducible refine Below.trans ?_ (Below.mono hb2 ?_)); rotate_left; (next => ((try dsimp only); (try simp only [World.size_alloc, World.size_setCell, World.size_drew]); omega))) | ((with_reducible refine Below.trans ?_ (Below.mono hb1 ?_)); rotate_left; (next => ((try dsimp only); (try simp only [World.size_alloc, World.size_setCell, World.size_drew]); omega)))))⟩
end Go.Proofs.Ytnkeimpnnpndcaa
